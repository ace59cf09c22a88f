/- frac.reduced. frac.take. number.mul. number.zero, inverse, minus, sign, whole. number.add. number.give. number.floor. frac.Canon, Of, Sign, Neg, Size, Cmp, Sub. frac.Of, Sign, Neg. -/
import Derived.Test.YtaahbabdbopphaaDoorFA
import Derived.Deep.RegionHeld3
import Derived.Test.YtaahbabdbopphaaDoorMA
namespace Go.Proofs.YtaahbabdbopphaaDoor
open Go.RowKit Mx
set_option maxRecDepth 100000

/-- Hands back a number in lowest terms. -/
def NumPost (q : Rat) (w : World) (e : Ending) (w' : World) : Prop :=
  ∃ A n c A' n' c', e = .returned (.agg #[.bool (rneg q), .slice A n c, .slice A' n' c']) ∧ Sl w' A n c (dig (rn q)) ∧ Sl w' A' n' c' (dig (rd q)) ∧ Below w.heap.size w w'

/-- A block of three cells that the call has just made, seen from a later world. -/
theorem blk3 {w wx : World} {a b c : Value} {T : TypeId} (hb : Below (w.alloc (.cells #[a, b, c] T)).heap.size (w.alloc (.cells #[a, b, c] T)) wx) :
    wx.cell? ⟨w.heap.size, 0, none⟩ = some a ∧ wx.cell? ⟨w.heap.size, 1, none⟩ = some b ∧ wx.cell? ⟨w.heap.size, 2, none⟩ = some c ∧
    (∀ k, wx.frozen? ⟨w.heap.size, k, none⟩ = false) ∧ w.heap.size < wx.heap.size := by
  have hB := heap_alloc_new w (.cells #[a, b, c] T)
  have hlt : w.heap.size < (w.alloc (.cells #[a, b, c] T)).heap.size := by simp
  refine ⟨?_, ?_, ?_, fun k => ?_, Nat.lt_of_lt_of_le hlt hb.size⟩
  · exact (hb.cell (p := ⟨w.heap.size, 0, none⟩) hlt).trans (cell_of_row _ _ 0 _ T (0, 0) hB)
  · exact (hb.cell (p := ⟨w.heap.size, 1, none⟩) hlt).trans (cell_of_row _ _ 1 _ T (0, 0) hB)
  · exact (hb.cell (p := ⟨w.heap.size, 2, none⟩) hlt).trans (cell_of_row _ _ 2 _ T (0, 0) hB)
  · exact (hb.frozen (p := ⟨w.heap.size, k, none⟩) hlt).trans (frozen_of_row _ _ k _ T hB)

/-- A store into a cell that holds no digit. -/
theorem Sl.set_ {w : World} {A : Option Addr} {n c : Nat} {xs : List Nat} (h : Sl w A n c xs) {p : Addr} {v : Value} (hv : w.cell? p = some v) (hne : ∀ x, v ≠ .int .u32 x) (u : Value) : Sl (w.setCell p u) A n c xs := by
  refine ⟨h.len, h.cap, fun i hi => ?_⟩
  obtain ⟨ad, hA, hc⟩ := h.rd i hi
  refine ⟨ad, hA, ?_⟩
  rw [World.cell?_setCell_other w p (ad.add i) u ?_]
  · exact hc
  · intro e
    have e : p = ad.add i := by first | exact e | exact e.symm
    rw [e, hc] at hv
    injection hv with hv
    exact hne _ hv.symm
/-- The three cells of a struct in block g are written. -/
def put3 (w : World) (g : Nat) (a b c : Value) : World := ((w.setCell ⟨g, 0, none⟩ a).setCell ⟨g, 1, none⟩ b).setCell ⟨g, 2, none⟩ c
def NotDigit (v : Value) : Prop := ∀ x, v ≠ .int .u32 x
theorem notDigit_bool (b : Bool) : NotDigit (.bool b) := fun x h => by cases h
theorem notDigit_slice (A : Option Addr) (n c : Nat) : NotDigit (.slice A n c) := fun x h => by cases h
theorem notDigit_i64 (x : Int) : NotDigit (.int .i64 x) := fun x h => by cases h
theorem Sl.put3 {w : World} {A : Option Addr} {n c : Nat} {xs : List Nat} (h : Sl w A n c xs) {g : Nat} {x y z : Value} (k0 : w.cell? ⟨g, 0, none⟩ = some x) (k1 : w.cell? ⟨g, 1, none⟩ = some y) (k2 : w.cell? ⟨g, 2, none⟩ = some z)
    (d0 : NotDigit x) (d1 : NotDigit y) (d2 : NotDigit z) (a b cc : Value) : Sl (put3 w g a b cc) A n c xs := by
  have k1' : (w.setCell ⟨g, 0, none⟩ a).cell? ⟨g, 1, none⟩ = some y := by rw [World.cell?_setCell_other _ _ _ _ (by intro e; injection e with _ e; omega)]; exact k1
  have k2' : ((w.setCell ⟨g, 0, none⟩ a).setCell ⟨g, 1, none⟩ b).cell? ⟨g, 2, none⟩ = some z := by
    rw [World.cell?_setCell_other _ _ _ _ (by intro e; injection e with _ e; omega), World.cell?_setCell_other _ _ _ _ (by intro e; injection e with _ e; omega)]; exact k2
  exact ((h.set_ k0 d0 a).set_ k1' d1 b).set_ k2' d2 cc
theorem below_put3 {w wx : World} (h : Below w.heap.size w wx) {g : Nat} (hg : w.heap.size ≤ g) (a b c : Value) : Below w.heap.size w (put3 wx g a b c) := ((h.setCell hg a).setCell hg b).setCell hg c
theorem below_of_alloc {w wx : World} {o : Obj} (h : Below (w.alloc o).heap.size (w.alloc o) wx) : Below w.heap.size w wx := bthen (below_alloc (Below.refl _ w) o) h

set_option maxHeartbeats 1000000 in
theorem reduced_any (neg : Bool) (A1 A2 : Option Addr) (n1 n2 c1 c2 a b : Nat) (w : World) (h1 : Sl w A1 n1 c1 (dig a)) (h2 : Sl w A2 n2 c2 (dig b)) (hl1 : n1 ≤ 10000000) (hl2 : n2 ≤ 10000000) (hb0 : b ≠ 0) :
    Calls Tryd.prog 88 #[.bool neg, .slice A1 n1 c1, .slice A2 n2 c2] w (NumPost (mkRat (sg neg a) b) w) := by
  have hg0 : a.gcd b ≠ 0 := by have := Nat.gcd_pos_of_pos_right a (show 0 < b by omega); omega
  have hgle : a.gcd b ≤ b := Nat.le_of_dvd (by omega) (Nat.gcd_dvd_right a b)
  go_enter Tryd.func88, Tryd.ntmps88
  go_wp2_with fail
  refine (gcd_any A1 A2 n1 n2 c1 c2 a b _ (h1.alloc _) (h2.alloc _) hl1 hl2).mono ?_
  rintro e w1 ⟨A3, n3, c3, rfl, h3, hb1⟩
  have hn3 : n3 ≤ 10000000 := by rw [← h3.len]; exact Nat.le_trans (len_mono hgle) (by rw [h2.len]; exact hl2)
  have h1' := (h1.alloc _).below hb1
  have h2' := (h2.alloc _).below hb1
  go_wp2_with fail
  refine (div_any A1 A3 n1 n3 c1 c3 a _ _ h1' h3 hl1 hn3 hg0).mono ?_
  rintro e w2 ⟨A4, n4, c4, A5, n5, c5, rfl, h4, _, hb2⟩
  go_wp2_with fail
  refine (div_any A2 A3 n2 n3 c2 c3 b _ _ (h2'.below hb2) (h3.below hb2) hl2 hn3 hg0).mono ?_
  rintro e w3 ⟨A6, n6, c6, A7, n7, c7, rfl, h6, _, hb3⟩
  have hbw := bthen (bthen hb1 hb2) hb3
  obtain ⟨k0, k1, k2, kf, kl⟩ := blk3 hbw
  have f0 := kf 0
  have f1 := kf 1
  have f2 := kf 2
  have h4' := h4.below hb3
  clear kf
  have hpos : 0 < n4 ↔ 0 < a / a.gcd b := by rw [← h4.len, len_dig_pos]; exact Nat.pos_iff_ne_zero.symm
  have HP := Lib.hid hpos
  clear hpos
  have hfin : ∀ bb : Bool, bb = (neg && decide (0 < a / a.gcd b)) → ∀ wz : World, Sl wz A4 n4 c4 (dig (a / a.gcd b)) → Sl wz A6 n6 c6 (dig (b / a.gcd b)) → Below w.heap.size w wz →
      NumPost (mkRat (sg neg a) b) w (.returned (.agg #[.bool bb, .slice A4 n4 c4, .slice A6 n6 c6])) wz := fun bb hbb wz g4 g6 gb => by
    refine ⟨A4, n4, c4, A6, n6, c6, ?_, ?_, ?_, gb⟩
    · rw [rneg_mk' _ _ _ hb0, hbb]
    · rw [rn_mk _ _ _ hb0]; exact g4
    · rw [rd_mk _ _ _ hb0]; exact g6
  have HF := Lib.hid hfin
  clear hfin
  have hbz := below_of_alloc hbw
  have g4 := h4'.put3 k0 k1 k2 (notDigit_bool _) (notDigit_slice _ _ _) (notDigit_slice _ _ _)
  have g6 := h6.put3 k0 k1 k2 (notDigit_bool _) (notDigit_slice _ _ _) (notDigit_slice _ _ _)
  have gb := fun x y z => below_put3 hbz (Nat.le_refl _) x y z
  have G := Lib.hid (And.intro g4 (And.intro g6 gb))
  clear g4 g6 gb h4 h6 h4' h1 h2 h1' h2' h3 hb1 hb2 hb3 hbw hbz
  cases neg with
  | false =>
    go_wp2_with fail
    exact bodyPost_ret (v := .agg #[.bool false, .slice A4 n4 c4, .slice A6 n6 c6]) (by simp [results, Tryd.results88, go_sem, k0, k1, k2]) rfl (HF.out false rfl _ (G.out.1 _ _ _) (G.out.2.1 _ _ _) (G.out.2.2 _ _ _))
  | true =>
    by_cases h0 : 0 < n4
    · have hd : decide (0 < a / a.gcd b) = true := decide_eq_true (HP.out.1 h0)
      have HD := Lib.hid hd
      clear hd
      go_wp2_with fail
      exact bodyPost_ret (v := .agg #[.bool true, .slice A4 n4 c4, .slice A6 n6 c6]) (by simp [results, Tryd.results88, go_sem, k0, k1, k2]) rfl (HF.out true (by rw [HD.out]; rfl) _ (G.out.1 _ _ _) (G.out.2.1 _ _ _) (G.out.2.2 _ _ _))
    · have hd : decide (0 < a / a.gcd b) = false := decide_eq_false (fun h => h0 (HP.out.2 h))
      have HD := Lib.hid hd
      have hd0 : decide ((0 : Int) < (n4 : Int)) = false := decide_eq_false (by omega)
      clear hd
      go_wp2_with fail
      exact bodyPost_ret (v := .agg #[.bool false, .slice A4 n4 c4, .slice A6 n6 c6]) (by simp [results, Tryd.results88, go_sem, k0, k1, k2]) rfl (HF.out false (by rw [HD.out]; rfl) _ (G.out.1 _ _ _) (G.out.2.1 _ _ _) (G.out.2.2 _ _ _))
end Go.Proofs.YtaahbabdbopphaaDoor
namespace Go.Proofs.YtaahbabdbopphaaDoor
open Go.RowKit Mx
set_option maxRecDepth 100000

/-- A block of three cells. -/
structure Bk (w : World) (g : Nat) (a b c : Value) : Prop where
  c0 : w.cell? ⟨g, 0, none⟩ = some a
  c1 : w.cell? ⟨g, 1, none⟩ = some b
  c2 : w.cell? ⟨g, 2, none⟩ = some c
  fz : ∀ k, w.frozen? ⟨g, k, none⟩ = false
  lt : g < w.heap.size
theorem Bk.new (w : World) (a b c : Value) (T : TypeId) : Bk (w.alloc (.cells #[a, b, c] T)) w.heap.size a b c := by
  obtain ⟨k0, k1, k2, kf, kl⟩ := blk3 (T := T) (a := a) (b := b) (c := c) (Below.refl _ _)
  exact ⟨k0, k1, k2, kf, kl⟩
theorem Bk.below {w wx : World} {g : Nat} {a b c : Value} (h : Bk w g a b c) (hb : Below w.heap.size w wx) : Bk wx g a b c :=
  ⟨cell_below hb h.c0, cell_below hb h.c1, cell_below hb h.c2, fun k => (hb.frozen (p := ⟨g, k, none⟩) h.lt).trans (h.fz k), Nat.lt_of_lt_of_le h.lt hb.size⟩
theorem Bk.alloc {w : World} {g : Nat} {a b c : Value} (h : Bk w g a b c) (o : Obj) : Bk (w.alloc o) g a b c := h.below (below_alloc (Below.refl _ w) o)
theorem Bk.drew {w : World} {g : Nat} {a b c : Value} (h : Bk w g a b c) : Bk w.drew g a b c := ⟨h.c0, h.c1, h.c2, h.fz, h.lt⟩

set_option maxHeartbeats 2000000 in
theorem take_one (neg : Bool) (A1 A2 : Option Addr) (n1 n2 c1 c2 : Nat) (xs ys : List Nat) (w : World) (h1 : Sl w A1 n1 c1 xs) (h2 : Sl w A2 n2 c2 ys) (d1 : Ds xs) (d2 : Ds ys) (hl1 : n1 ≤ 10000000) (hl2 : n2 ≤ 10000000) (h0 : val ys = 0) :
    Calls Tryd.prog 70 #[.agg #[.bool neg, .slice A1 n1 c1, .slice A2 n2 c2]] w (NumPost (fv neg (val xs) (val ys)) w) := by
  have hbx := (Bk.new w (.bool neg) (.slice A1 n1 c1) (.slice A2 n2 c2) 24).alloc (.cells #[.bool false, .slice none 0 0, .slice none 0 0] 66)
  have hbr := Bk.new (w.alloc (.cells #[.bool neg, .slice A1 n1 c1, .slice A2 n2 c2] 24)) (.bool false) (.slice none 0 0) (.slice none 0 0) 66
  have hbw : Below w.heap.size w ((w.alloc (.cells #[.bool neg, .slice A1 n1 c1, .slice A2 n2 c2] 24)).alloc (.cells #[.bool false, .slice none 0 0, .slice none 0 0] 66)) := below_alloc (below_alloc (Below.refl _ w) _) _
  rw [show (w.alloc (.cells #[.bool neg, .slice A1 n1 c1, .slice A2 n2 c2] 24)).heap.size = w.heap.size + 1 from by simp] at hbr
  have HQ : Hid (fv neg (val xs) (val ys) = mkRat (sg neg (val xs)) 1) := Lib.hid (by rw [fv_low, h0]; rfl)
  go_enter Tryd.func70, Tryd.ntmps70
  go_wp2_with fail
  refine (trimmed_any A2 c2 ys _ n2 (h2.below hbw) d2 (by omega)).mono ?_
  rintro e w1 hp
  obtain ⟨A3, n3, c3, rfl, h3, ⟨hb1, _⟩⟩ := hp.nat
  have hn3 : n3 = 0 := by rw [← h3.len, h0, dig_zero]; rfl
  have b1 := hbx.below hb1
  have r1 := hbr.below hb1
  have hb1 := bthen hbw hb1
  clear h3 hbx hbr hbw
  subst hn3
  go_wp2_with fail
  refine (small_any _ _ (by omega) (by omega)).mono ?_
  rintro e w2 ⟨A4, n4, c4, rfl, h4, ⟨hb2, _⟩⟩
  have b2 := b1.below hb2
  have r2 := r1.below hb2
  have hb2 := bthen hb1 hb2
  have q0 := b2.c0
  have q1 := b2.c1
  clear hb1 b1 r1
  have h1' := (h1.below hb2).drew
  have b2' := b2.drew
  have r2' := r2.drew
  have h4' := h4.drew
  have hb2' := below_drew hb2
  clear h1 h2 h4 b2 r2 hb2 hp
  go_wp2_with fail
  go_region_held3 (fun w' => w'.cell? ⟨w.heap.size, 0, none⟩ = some (.bool neg) ∧ w'.cell? ⟨w.heap.size, 1, none⟩ = some (.slice A1 n1 c1))
    (first | exact ⟨b2'.c0, b2'.c1⟩ | exact ⟨b3.c0, b3.c1⟩ | exact ⟨b4.c0, b4.c1⟩ | go_keep)
    (first
      | (go_at_call 108
         refine (trimmed_any A1 c1 xs _ n1 h1' d1 (by omega)).mono ?_
         rintro e w3 hp3
         obtain ⟨A5, n5, c5, rfl, h5, ⟨hb3, _⟩⟩ := hp3.nat
         have b3 := b2'.below hb3
         have r3 := r2'.below hb3
         have h43 := h4'.below hb3
         have hn5 : n5 ≤ 10000000 := by rw [← h5.len]; exact Nat.le_trans (len_val d1) (by rw [h1'.len]; exact hl1)
         have hn4 : n4 ≤ 1 := by rw [← h43.len]; exact len_small (by decide)
         have hb3' := bthen hb2' hb3)
      | (go_at_call 88
         refine (reduced_any neg A5 A4 n5 n4 c5 c4 (val xs) 1 _ h5 h43 hn5 (by omega) (by omega)).mono ?_
         rintro e w4 ⟨A6, n6, c6, A7, n7, c7, rfl, h6, h7, hb4⟩
         have b4 := b3.below hb4
         have r4 := r3.below hb4
         have g6 := h6.put3 r4.c0 r4.c1 r4.c2 (notDigit_bool _) (notDigit_slice _ _ _) (notDigit_slice _ _ _)
         have g7 := h7.put3 r4.c0 r4.c1 r4.c2 (notDigit_bool _) (notDigit_slice _ _ _) (notDigit_slice _ _ _)
         have gb := fun x y z => below_put3 (bthen hb3' hb4) (g := w.heap.size + 1) (by omega) x y z
         have G := Lib.hid (And.intro g6 (And.intro g7 gb))
         have u0 := r4.c0
         have u1 := r4.c1
         have u2 := r4.c2
         have v0 := r4.fz 0
         have v1 := r4.fz 1
         have v2 := r4.fz 2
         clear g6 g7 gb h6 h7 hb4))
  go_wp2_with fail
  exact bodyPost_ret (v := .agg #[.bool (rneg (mkRat (sg neg (val xs)) 1)), .slice A6 n6 c6, .slice A7 n7 c7]) (by simp [results, Tryd.results70, go_sem, u0, u1, u2]) rfl
    ⟨A6, n6, c6, A7, n7, c7, by rw [HQ.out], by rw [HQ.out]; exact G.out.1 _ _ _, by rw [HQ.out]; exact G.out.2.1 _ _ _, G.out.2.2 _ _ _⟩
set_option maxHeartbeats 2000000 in
theorem take_two (neg : Bool) (A1 A2 : Option Addr) (n1 n2 c1 c2 : Nat) (xs ys : List Nat) (w : World) (h1 : Sl w A1 n1 c1 xs) (h2 : Sl w A2 n2 c2 ys) (d1 : Ds xs) (d2 : Ds ys) (hl1 : n1 ≤ 10000000) (hl2 : n2 ≤ 10000000) (h0 : val ys ≠ 0) :
    Calls Tryd.prog 70 #[.agg #[.bool neg, .slice A1 n1 c1, .slice A2 n2 c2]] w (NumPost (fv neg (val xs) (val ys)) w) := by
  have hbx := (Bk.new w (.bool neg) (.slice A1 n1 c1) (.slice A2 n2 c2) 24).alloc (.cells #[.bool false, .slice none 0 0, .slice none 0 0] 66)
  have hbr := Bk.new (w.alloc (.cells #[.bool neg, .slice A1 n1 c1, .slice A2 n2 c2] 24)) (.bool false) (.slice none 0 0) (.slice none 0 0) 66
  have hbw : Below w.heap.size w ((w.alloc (.cells #[.bool neg, .slice A1 n1 c1, .slice A2 n2 c2] 24)).alloc (.cells #[.bool false, .slice none 0 0, .slice none 0 0] 66)) := below_alloc (below_alloc (Below.refl _ w) _) _
  rw [show (w.alloc (.cells #[.bool neg, .slice A1 n1 c1, .slice A2 n2 c2] 24)).heap.size = w.heap.size + 1 from by simp] at hbr
  have HQ : Hid (fv neg (val xs) (val ys) = mkRat (sg neg (val xs)) (val ys)) := Lib.hid (by rw [fv_low, low_of h0])
  go_enter Tryd.func70, Tryd.ntmps70
  go_wp2_with fail
  refine (trimmed_any A2 c2 ys _ n2 (h2.below hbw) d2 (by omega)).mono ?_
  rintro e w1 hp
  obtain ⟨A3, n3, c3, rfl, h3, ⟨hb1, _⟩⟩ := hp.nat
  have hn3 : 0 < n3 := by rw [← h3.len]; exact len_dig_pos.2 h0
  have hn3' : n3 ≤ 10000000 := by rw [← h3.len]; exact Nat.le_trans (len_val d2) (by rw [h2.len]; exact hl2)
  have hd3 : ((n3 : Int) == 0) = false := beq_eq_false_iff_ne.2 (by omega)
  have b1 := hbx.below hb1
  have r1 := hbr.below hb1
  have hb1 := bthen hbw hb1
  have q0 := b1.c0
  have q1 := b1.c1
  have h1' := (h1.below hb1).drew
  have b2' := b1.drew
  have r2' := r1.drew
  have h4' := h3.drew
  have hb2' := below_drew hb1
  clear h1 h2 h3 b1 r1 hb1 hp hbx hbr hbw
  go_wp2_with fail
  go_region_held3 (fun w' => w'.cell? ⟨w.heap.size, 0, none⟩ = some (.bool neg) ∧ w'.cell? ⟨w.heap.size, 1, none⟩ = some (.slice A1 n1 c1))
    (first | exact ⟨b2'.c0, b2'.c1⟩ | exact ⟨b3.c0, b3.c1⟩ | exact ⟨b4.c0, b4.c1⟩ | go_keep)
    (first
      | (go_at_call 108
         refine (trimmed_any A1 c1 xs _ n1 h1' d1 (by omega)).mono ?_
         rintro e w3 hp3
         obtain ⟨A5, n5, c5, rfl, h5, ⟨hb3, _⟩⟩ := hp3.nat
         have b3 := b2'.below hb3
         have r3 := r2'.below hb3
         have h43 := h4'.below hb3
         have hn5 : n5 ≤ 10000000 := by rw [← h5.len]; exact Nat.le_trans (len_val d1) (by rw [h1'.len]; exact hl1)
         have hb3' := bthen hb2' hb3)
      | (go_at_call 88
         refine (reduced_any neg A5 A3 n5 n3 c5 c3 (val xs) (val ys) _ h5 h43 hn5 hn3' h0).mono ?_
         rintro e w4 ⟨A6, n6, c6, A7, n7, c7, rfl, h6, h7, hb4⟩
         have b4 := b3.below hb4
         have r4 := r3.below hb4
         have g6 := h6.put3 r4.c0 r4.c1 r4.c2 (notDigit_bool _) (notDigit_slice _ _ _) (notDigit_slice _ _ _)
         have g7 := h7.put3 r4.c0 r4.c1 r4.c2 (notDigit_bool _) (notDigit_slice _ _ _) (notDigit_slice _ _ _)
         have gb := fun x y z => below_put3 (bthen hb3' hb4) (g := w.heap.size + 1) (by omega) x y z
         have G := Lib.hid (And.intro g6 (And.intro g7 gb))
         have u0 := r4.c0
         have u1 := r4.c1
         have u2 := r4.c2
         have v0 := r4.fz 0
         have v1 := r4.fz 1
         have v2 := r4.fz 2
         clear g6 g7 gb h6 h7 hb4))
  go_wp2_with fail
  exact bodyPost_ret (v := .agg #[.bool (rneg (mkRat (sg neg (val xs)) (val ys))), .slice A6 n6 c6, .slice A7 n7 c7]) (by simp [results, Tryd.results70, go_sem, u0, u1, u2]) rfl
    ⟨A6, n6, c6, A7, n7, c7, by rw [HQ.out], by rw [HQ.out]; exact G.out.1 _ _ _, by rw [HQ.out]; exact G.out.2.1 _ _ _, G.out.2.2 _ _ _⟩

theorem take_any (neg : Bool) (A1 A2 : Option Addr) (n1 n2 c1 c2 : Nat) (xs ys : List Nat) (w : World) (h1 : Sl w A1 n1 c1 xs) (h2 : Sl w A2 n2 c2 ys) (d1 : Ds xs) (d2 : Ds ys) (hl1 : n1 ≤ 10000000) (hl2 : n2 ≤ 10000000) :
    Calls Tryd.prog 70 #[.agg #[.bool neg, .slice A1 n1 c1, .slice A2 n2 c2]] w (NumPost (fv neg (val xs) (val ys)) w) := by
  by_cases h : val ys = 0
  · exact take_one neg A1 A2 n1 n2 c1 c2 xs ys w h1 h2 d1 d2 hl1 hl2 h
  · exact take_two neg A1 A2 n1 n2 c1 c2 xs ys w h1 h2 d1 d2 hl1 hl2 h
end Go.Proofs.YtaahbabdbopphaaDoor
namespace Go.Proofs.YtaahbabdbopphaaDoor
open Go.RowKit Mx
set_option maxRecDepth 100000

/-- A sign and two slices that are the parts of a rational number. -/
structure Nm (w : World) (sb : Bool) (A1 : Option Addr) (n1 c1 : Nat) (A2 : Option Addr) (n2 c2 : Nat) (q : Rat) : Prop where
  neg : sb = rneg q
  num : Sl w A1 n1 c1 (dig (rn q))
  den : Sl w A2 n2 c2 (dig (rd q))
def NmPost (q : Rat) (w : World) (e : Ending) (w' : World) : Prop :=
  ∃ sb A n c A' n' c', e = .returned (.agg #[.bool sb, .slice A n c, .slice A' n' c']) ∧ Nm w' sb A n c A' n' c' q ∧ Below w.heap.size w w'
theorem NumPost.nm {q : Rat} {w w' : World} {e : Ending} (h : NumPost q w e w') : NmPost q w e w' := by
  obtain ⟨A, n, c, A', n', c', he, h1, h2, hb⟩ := h
  exact ⟨_, A, n, c, A', n', c', he, ⟨rfl, h1, h2⟩, hb⟩
theorem Nm.below {w w' : World} {sb : Bool} {A1 : Option Addr} {n1 c1 : Nat} {A2 : Option Addr} {n2 c2 : Nat} {q : Rat} (h : Nm w sb A1 n1 c1 A2 n2 c2 q) (hb : Below w.heap.size w w') : Nm w' sb A1 n1 c1 A2 n2 c2 q :=
  ⟨h.neg, h.num.below hb, h.den.below hb⟩
theorem Nm.drew {w : World} {sb : Bool} {A1 : Option Addr} {n1 c1 : Nat} {A2 : Option Addr} {n2 c2 : Nat} {q : Rat} (h : Nm w sb A1 n1 c1 A2 n2 c2 q) : Nm w.drew sb A1 n1 c1 A2 n2 c2 q := ⟨h.neg, h.num.drew, h.den.drew⟩
theorem Nm.put3 {w : World} {sb : Bool} {A1 : Option Addr} {n1 c1 : Nat} {A2 : Option Addr} {n2 c2 : Nat} {q : Rat} (h : Nm w sb A1 n1 c1 A2 n2 c2 q) {g : Nat} {x : Bool} {A B : Option Addr} {n m c d : Nat}
    (k : Bk w g (.bool x) (.slice A n c) (.slice B m d)) (u v z : Value) : Nm (put3 w g u v z) sb A1 n1 c1 A2 n2 c2 q :=
  ⟨h.neg, h.num.put3 k.c0 k.c1 k.c2 (notDigit_bool _) (notDigit_slice _ _ _) (notDigit_slice _ _ _) u v z, h.den.put3 k.c0 k.c1 k.c2 (notDigit_bool _) (notDigit_slice _ _ _) (notDigit_slice _ _ _) u v z⟩
/-- How a number reads that a function hands back through a block of its own. -/
theorem Nm.ret {w w1 : World} {sb : Bool} {A1 : Option Addr} {n1 c1 : Nat} {A2 : Option Addr} {n2 c2 : Nat} {q r : Rat} (h : Nm w1 sb A1 n1 c1 A2 n2 c2 r) (hq : r = q) {g : Nat} {x : Bool} {A B : Option Addr} {n m c d : Nat}
    (k : Bk w1 g (.bool x) (.slice A n c) (.slice B m d)) (hg : w.heap.size ≤ g) (hb : Below w.heap.size w w1) :
    NmPost q w (.returned (.agg #[.bool sb, .slice A1 n1 c1, .slice A2 n2 c2])) (YtaahbabdbopphaaDoor.put3 w1 g (.bool sb) (.slice A1 n1 c1) (.slice A2 n2 c2)) := by
  subst hq
  exact ⟨sb, A1, n1, c1, A2, n2, c2, rfl, h.put3 k _ _ _, below_put3 hb hg _ _ _⟩

theorem Bk.put {w : World} {g g' : Nat} {a b c : Value} (h : Bk w g a b c) (hne : g ≠ g') (x y z : Value) : Bk (put3 w g' x y z) g a b c := by
  have far : ∀ (W : World) (i k : Nat) (u : Value), (W.setCell ⟨g', i, none⟩ u).cell? ⟨g, k, none⟩ = W.cell? ⟨g, k, none⟩ := fun W i k u =>
    World.cell?_setCell_other W _ _ _ (by intro e; injection e with e; omega)
  refine ⟨?_, ?_, ?_, fun k => ?_, ?_⟩
  · unfold put3; rw [far, far, far]; exact h.c0
  · unfold put3; rw [far, far, far]; exact h.c1
  · unfold put3; rw [far, far, far]; exact h.c2
  · have hb : Below (g + 1) w (put3 w g' x y z) ∨ g' < g := by
      rcases Nat.lt_or_ge g g' with h1 | h1
      · exact .inl ((((Below.refl _ _).setCell (by show g + 1 ≤ g'; omega) _).setCell (by show g + 1 ≤ g'; omega) _).setCell (by show g + 1 ≤ g'; omega) _)
      · exact .inr (by omega)
    have hf : ∀ (W : World) (i : Nat) (u : Value), (W.setCell ⟨g', i, none⟩ u).frozen? ⟨g, k, none⟩ = W.frozen? ⟨g, k, none⟩ := fun W i u => by
      unfold World.frozen?
      rw [Below.heap_setCell W ⟨g', i, none⟩ u g hne]
    unfold put3; rw [hf, hf, hf]; exact h.fz k
  · simp [put3, World.setCell]; exact h.lt
theorem boxes2 (w : World) (a b c d e f : Value) (T U : TypeId) : ∃ u, Hid (u = (w.alloc (.cells #[a, b, c] T)).alloc (.cells #[d, e, f] U)) ∧ Bk u w.heap.size a b c ∧ Bk u (w.heap.size + 1) d e f ∧ Below w.heap.size w u := by
  refine ⟨_, rfl, (Bk.new w a b c T).alloc _, ?_, below_alloc (below_alloc (Below.refl _ w) _) _⟩
  have := Bk.new (w.alloc (.cells #[a, b, c] T)) d e f U
  rwa [show (w.alloc (.cells #[a, b, c] T)).heap.size = w.heap.size + 1 from by simp] at this
theorem boxes3 (w : World) (a b c d e f x y z : Value) (T U V : TypeId) : ∃ u, Hid (u = ((w.alloc (.cells #[a, b, c] T)).alloc (.cells #[d, e, f] U)).alloc (.cells #[x, y, z] V)) ∧
    Bk u w.heap.size a b c ∧ Bk u (w.heap.size + 1) d e f ∧ Bk u (w.heap.size + 1 + 1) x y z ∧ Below w.heap.size w u := by
  obtain ⟨u, hu, h1, h2, hb⟩ := boxes2 w a b c d e f T U
  have hu := hu.out
  subst hu
  refine ⟨_, rfl, h1.alloc _, h2.alloc _, ?_, below_alloc hb _⟩
  have := Bk.new ((w.alloc (.cells #[a, b, c] T)).alloc (.cells #[d, e, f] U)) x y z V
  rwa [show ((w.alloc (.cells #[a, b, c] T)).alloc (.cells #[d, e, f] U)).heap.size = w.heap.size + 1 + 1 from by simp] at this

set_option maxHeartbeats 2000000 in
theorem nmul_any (s1 s2 : Bool) (A1 A2 A3 A4 : Option Addr) (n1 n2 n3 n4 c1 c2 c3 c4 : Nat) (p q : Rat) (w : World) (h1 : Nm w s1 A1 n1 c1 A2 n2 c2 p) (h2 : Nm w s2 A3 n3 c3 A4 n4 c4 q)
    (l1 : n1 ≤ 1000000) (l2 : n2 ≤ 1000000) (l3 : n3 ≤ 1000000) (l4 : n4 ≤ 1000000) :
    Calls Tryd.prog 78 #[.agg #[.bool s1, .slice A1 n1 c1, .slice A2 n2 c2], .agg #[.bool s2, .slice A3 n3 c3, .slice A4 n4 c4]] w (NmPost (p * q) w) := by
  have HQ : Hid (mkRat (sg (s1 != s2) (rn p * rn q)) (rd p * rd q) = p * q) := Lib.hid (by rw [h1.neg, h2.neg]; exact mul_is p q)
  have hd0 : rd p * rd q ≠ 0 := Nat.mul_ne_zero (rd_ne p) (rd_ne q)
  obtain ⟨u, HU, x1, x2, x3, xb⟩ := boxes3 w (.bool s1) (.slice A1 n1 c1) (.slice A2 n2 c2) (.bool s2) (.slice A3 n3 c3) (.slice A4 n4 c4) (.bool false) (.slice none 0 0) (.slice none 0 0) 66 66 66
  have m1 := (h1.below xb).drew
  have m2 := (h2.below xb).drew
  have y1 := x1.drew
  have y2 := x2.drew
  have y3 := x3.drew
  have yb := below_drew xb
  have q0 := x1.c0
  have q1 := x1.c1
  have q2 := x1.c2
  have r0 := x2.c0
  have r1 := x2.c1
  have r2 := x2.c2
  clear h1 h2 x1 x2 x3 xb
  go_enter Tryd.func78, Tryd.ntmps78
  go_wp2_with fail
  rw [← HU.out]
  go_region_held3 (fun w' => w'.cell? ⟨w.heap.size, 0, none⟩ = some (.bool s1) ∧ w'.cell? ⟨w.heap.size, 1, none⟩ = some (.slice A1 n1 c1) ∧ w'.cell? ⟨w.heap.size, 2, none⟩ = some (.slice A2 n2 c2) ∧
      w'.cell? ⟨w.heap.size + 1, 0, none⟩ = some (.bool s2) ∧ w'.cell? ⟨w.heap.size + 1, 1, none⟩ = some (.slice A3 n3 c3) ∧ w'.cell? ⟨w.heap.size + 1, 2, none⟩ = some (.slice A4 n4 c4))
    (first | exact ⟨q0, q1, q2, r0, r1, r2⟩ | exact ⟨y1.c0, y1.c1, y1.c2, y2.c0, y2.c1, y2.c2⟩ | exact ⟨a1.c0, a1.c1, a1.c2, a2.c0, a2.c1, a2.c2⟩ | exact ⟨b1.c0, b1.c1, b1.c2, b2.c0, b2.c1, b2.c2⟩ | exact ⟨d1.c0, d1.c1, d1.c2, d2.c0, d2.c1, d2.c2⟩ | exact ⟨f1.c0, f1.c1, f1.c2, f2.c0, f2.c1, f2.c2⟩ | go_keep)
    (first
      | (go_at_call 89
         refine (mul_any A1 A3 n1 n3 c1 c3 (rn p) (rn q) _ m1.num m2.num (by omega) (by omega)).mono ?_
         rintro e w3 ⟨A5, n5, c5, rfl, h5, ⟨hb3, _⟩⟩
         have hn5 : n5 ≤ 2000000 := by rw [← h5.len]; have := len_mul (rn p) (rn q); rw [m1.num.len, m2.num.len] at this; omega
         have a1 := y1.below hb3
         have a2 := y2.below hb3
         have a3 := y3.below hb3
         have m3 := m1.below hb3
         have m4 := m2.below hb3
         have ab := bthen yb hb3
         clear m1 m2)
      | (go_at_call 89
         refine (mul_any A2 A4 n2 n4 c2 c4 (rd p) (rd q) _ m3.den m4.den (by omega) (by omega)).mono ?_
         rintro e w4 ⟨A6, n6, c6, rfl, h6, ⟨hb4, _⟩⟩
         have hn6 : n6 ≤ 2000000 := by rw [← h6.len]; have := len_mul (rd p) (rd q); rw [m3.den.len, m4.den.len] at this; omega
         have b1 := a1.below hb4
         have b2 := a2.below hb4
         have b3 := a3.below hb4
         have h7 := h5.below hb4
         have bb := bthen ab hb4)
      | (go_at_call 88
         refine (reduced_any _ A5 A6 n5 n6 c5 c6 (rn p * rn q) (rd p * rd q) _ h7 h6 (by omega) (by omega) hd0).mono ?_
         rintro e w5 hp
         obtain ⟨s7, A7, n7, c7, A8, n8, c8, rfl, h8, hb5⟩ := hp.nm
         have d1 := b1.below hb5
         have d2 := b2.below hb5
         have d3 := b3.below hb5
         have db := bthen bb hb5
         have G := Lib.hid (h8.ret HQ.out d3 (by omega) db)
         have f1 := d1.put (g' := w.heap.size + 1 + 1) (by omega) (.bool s7) (.slice A7 n7 c7) (.slice A8 n8 c8)
         have f2 := d2.put (g' := w.heap.size + 1 + 1) (by omega) (.bool s7) (.slice A7 n7 c7) (.slice A8 n8 c8)
         have t0 := d3.c0
         have t1 := d3.c1
         have t2 := d3.c2
         have v0 := d3.fz 0
         have v1 := d3.fz 1
         have v2 := d3.fz 2))
  go_wp2_with fail
  exact bodyPost_ret (v := .agg #[.bool s7, .slice A7 n7 c7, .slice A8 n8 c8]) (by simp [results, Tryd.results78, go_sem, t0, t1, t2]) rfl G.out
end Go.Proofs.YtaahbabdbopphaaDoor
namespace Go.Proofs.YtaahbabdbopphaaDoor
open Go.RowKit Mx
set_option maxRecDepth 100000

/-- Hands back a bool, or a number; nothing that was there has turned. -/
def ValPost (v : Value) (w : World) (e : Ending) (w' : World) : Prop := e = .returned v ∧ Below w.heap.size w w'

set_option maxHeartbeats 1000000 in
theorem nzero_yes (s1 : Bool) (A1 A2 : Option Addr) (n1 n2 c1 c2 : Nat) (q : Rat) (w : World) (h : Nm w s1 A1 n1 c1 A2 n2 c2 q) (h0 : rn q = 0) :
    Calls Tryd.prog 71 #[.agg #[.bool s1, .slice A1 n1 c1, .slice A2 n2 c2]] w (ValPost (.bool true) w) := by
  have hn : n1 = 0 := by rw [← h.num.len, h0, dig_zero]; rfl
  subst hn
  go_enter Tryd.func71, Tryd.ntmps71
  go_wp2_with fail
  go_ret
  exact ⟨rfl, below_alloc (Below.refl _ w) _⟩
set_option maxHeartbeats 1000000 in
theorem nzero_no (s1 : Bool) (A1 A2 : Option Addr) (n1 n2 c1 c2 : Nat) (q : Rat) (w : World) (h : Nm w s1 A1 n1 c1 A2 n2 c2 q) (h0 : rn q ≠ 0) (l1 : n1 ≤ 10000000) :
    Calls Tryd.prog 71 #[.agg #[.bool s1, .slice A1 n1 c1, .slice A2 n2 c2]] w (ValPost (.bool false) w) := by
  have hn : 0 < n1 := by rw [← h.num.len]; exact len_dig_pos.2 h0
  have hn' : ((n1 : Int) == 0) = false := beq_eq_false_iff_ne.2 (by omega)
  go_enter Tryd.func71, Tryd.ntmps71
  go_wp2_with fail
  go_ret
  exact ⟨rfl, below_alloc (Below.refl _ w) _⟩
set_option maxHeartbeats 1000000 in
theorem nsign_any (s1 : Bool) (A1 A2 : Option Addr) (n1 n2 c1 c2 : Nat) (q : Rat) (w : World) (h : Nm w s1 A1 n1 c1 A2 n2 c2 q) (l1 : n1 ≤ 10000000) :
    Calls Tryd.prog 104 #[.agg #[.bool s1, .slice A1 n1 c1, .slice A2 n2 c2]] w (ValPost (.int .i64 (sgn q)) w) := by
  have hb0 : Below w.heap.size w (w.alloc (.cells #[.bool s1, .slice A1 n1 c1, .slice A2 n2 c2] 66)) := below_alloc (Below.refl _ w) _
  have hB := Bk.new w (.bool s1) (.slice A1 n1 c1) (.slice A2 n2 c2) 66
  have h' := h.below hb0
  by_cases h0 : rn q = 0
  · have HS : Hid (sgn q = 0) := Lib.hid (by rw [sgn_is, if_pos h0])
    go_enter Tryd.func104, Tryd.ntmps104
    go_wp2_with fail
    refine (nzero_yes s1 A1 A2 n1 n2 c1 c2 q _ h' h0).mono ?_
    rintro e w1 ⟨rfl, hb1⟩
    go_wp2_with fail
    go_ret
    exact ⟨by rw [HS.out]; rfl, bthen hb0 hb1⟩
  · cases s1 with
    | false =>
      have HS : Hid (sgn q = 1) := Lib.hid (by rw [sgn_is, if_neg h0, if_neg (by rw [← h.neg]; simp)])
      go_enter Tryd.func104, Tryd.ntmps104
      go_wp2_with fail
      refine (nzero_no _ A1 A2 n1 n2 c1 c2 q _ h' h0 l1).mono ?_
      rintro e w1 ⟨rfl, hb1⟩
      have k0 := (hB.below hb1).c0
      go_wp2_with fail
      go_ret
      exact ⟨by rw [HS.out]; rfl, bthen hb0 hb1⟩
    | true =>
      have HS : Hid (sgn q = -1) := Lib.hid (by rw [sgn_is, if_neg h0, if_pos (by rw [← h.neg])])
      go_enter Tryd.func104, Tryd.ntmps104
      go_wp2_with fail
      refine (nzero_no _ A1 A2 n1 n2 c1 c2 q _ h' h0 l1).mono ?_
      rintro e w1 ⟨rfl, hb1⟩
      have k0 := (hB.below hb1).c0
      go_wp2_with fail
      go_ret
      exact ⟨by rw [HS.out]; rfl, bthen hb0 hb1⟩
theorem Nm.ret0 {w w1 : World} {sb : Bool} {A1 : Option Addr} {n1 c1 : Nat} {A2 : Option Addr} {n2 c2 : Nat} {q : Rat} (h : Nm w sb A1 n1 c1 A2 n2 c2 q) (hb : Below w.heap.size w w1) :
    NmPost q w (.returned (.agg #[.bool sb, .slice A1 n1 c1, .slice A2 n2 c2])) w1 := ⟨sb, A1, n1, c1, A2, n2, c2, rfl, h.below hb, hb⟩
theorem below_alloc2 (w : World) (o o' : Obj) : Below w.heap.size w ((w.alloc o).alloc o') := below_alloc (below_alloc (Below.refl _ w) o) o'
set_option maxHeartbeats 1000000 in
theorem ninverse_any (s1 : Bool) (A1 A2 : Option Addr) (n1 n2 c1 c2 : Nat) (q : Rat) (w : World) (h : Nm w s1 A1 n1 c1 A2 n2 c2 q) (h0 : rn q ≠ 0) :
    Calls Tryd.prog 72 #[.agg #[.bool s1, .slice A1 n1 c1, .slice A2 n2 c2]] w (NmPost q⁻¹ w) := by
  have hi := inv_parts h0
  have H := Lib.hid (show Nm w s1 A2 n2 c2 A1 n1 c1 q⁻¹ from ⟨by rw [hi.1]; exact h.neg, by rw [hi.2.1]; exact h.den, by rw [hi.2.2]; exact h.num⟩)
  clear h hi
  go_enter Tryd.func72, Tryd.ntmps72
  go_wp2_with fail
  exact bodyPost_ret (v := .agg #[.bool s1, .slice A2 n2 c2, .slice A1 n1 c1]) (by simp [results, Tryd.results72, go_sem]) rfl (H.out.ret0 (below_alloc2 _ _ _))
set_option maxHeartbeats 1000000 in
theorem nminus_any (s1 : Bool) (A1 A2 : Option Addr) (n1 n2 c1 c2 : Nat) (q : Rat) (w : World) (h : Nm w s1 A1 n1 c1 A2 n2 c2 q) (l1 : n1 ≤ 10000000) :
    Calls Tryd.prog 105 #[.agg #[.bool s1, .slice A1 n1 c1, .slice A2 n2 c2]] w (NmPost (-q) w) := by
  have hi := neg_parts q
  have hpos : 0 < n1 ↔ 0 < rn q := by rw [← h.num.len, len_dig_pos]; exact Nat.pos_iff_ne_zero.symm
  have H := Lib.hid (show ∀ b, b = (!s1 && decide (0 < n1)) → Nm w b A1 n1 c1 A2 n2 c2 (-q) from fun b hb =>
    ⟨by rw [hi.1, hb, ← h.neg]; simp only [hpos], by rw [hi.2.1]; exact h.num, by rw [hi.2.2]; exact h.den⟩)
  clear h hi hpos
  cases s1 with
  | true =>
    go_enter Tryd.func105, Tryd.ntmps105
    go_wp2_with fail
    exact bodyPost_ret (v := .agg #[.bool false, .slice A1 n1 c1, .slice A2 n2 c2]) (by simp [results, Tryd.results105, go_sem]) rfl ((H.out false (by simp)).ret0 (below_alloc2 _ _ _))
  | false =>
    by_cases hn : 0 < n1
    · go_enter Tryd.func105, Tryd.ntmps105
      go_wp2_with fail
      exact bodyPost_ret (v := .agg #[.bool true, .slice A1 n1 c1, .slice A2 n2 c2]) (by simp [results, Tryd.results105, go_sem]) rfl ((H.out true (by simp [hn])).ret0 (below_alloc2 _ _ _))
    · have hd0 : decide ((0 : Int) < (n1 : Int)) = false := decide_eq_false (by omega)
      go_enter Tryd.func105, Tryd.ntmps105
      go_wp2_with fail
      exact bodyPost_ret (v := .agg #[.bool false, .slice A1 n1 c1, .slice A2 n2 c2]) (by simp [results, Tryd.results105, go_sem]) rfl ((H.out false (by simp [hn])).ret0 (below_alloc2 _ _ _))
set_option maxHeartbeats 1000000 in
theorem whole_any (n : Int) (w : World) (h0 : -9223372036854775808 ≤ n) (h1 : n ≤ 9223372036854775807) :
    Calls Tryd.prog 79 #[.int .i64 n] w (NmPost (n : Rat) w) := by
  have hN : ∀ (wx : World) (b : Bool) (A : Option Addr) (m c : Nat) (B : Option Addr) (k d a : Nat), Sl wx A m c (dig a) → Sl wx B k d (dig 1) → b = decide (n < 0) → a = n.natAbs → Nm wx b A m c B k d (n : Rat) := fun wx b A m c B k d a g1 g2 g3 g4 =>
    ⟨by unfold rneg; rw [Rat.num_intCast]; exact g3, by unfold rn; rw [Rat.num_intCast, ← g4]; exact g1, by unfold rd; rw [Rat.den_intCast]; exact g2⟩
  have HN := Lib.hid hN
  clear hN
  obtain ⟨o, ho⟩ : ∃ o : Obj, o = .cells #[.bool false, .slice none 0 0, .slice none 0 0] 66 := ⟨_, rfl⟩
  have hb0 : Below w.heap.size w (w.alloc o) := below_alloc (Below.refl _ w) _
  have hB := Bk.new w (.bool false) (.slice none 0 0) (.slice none 0 0) 66
  rw [← ho] at hB
  subst ho
  by_cases hn : n < 0
  · go_enter Tryd.func79, Tryd.ntmps79
    go_wp2_with fail
    refine (small_any _ _ (by omega) (by omega)).mono ?_
    rintro e w1 ⟨A1, n1, c1, rfl, g1, ⟨b1, _⟩⟩
    have B1 := hB.below b1
    go_wp2_with fail
    refine (small_any _ _ (by omega) (by omega)).mono ?_
    rintro e w2 ⟨A2, n2, c2, rfl, g2, ⟨b2, _⟩⟩
    have B2 := B1.below b2
    have hm := HN.out w2 true A1 n1 c1 A2 n2 c2 _ (g1.below b2) g2 (by simp [hn]) (by omega)
    have G := Lib.hid (hm.ret rfl B2 (Nat.le_refl _) (bthen (bthen hb0 b1) b2))
    have t0 := B2.c0
    have t1 := B2.c1
    have t2 := B2.c2
    have v0 := B2.fz 0
    have v1 := B2.fz 1
    have v2 := B2.fz 2
    clear hm g1 g2 b1 b2 B1 B2 hB hb0
    go_wp2_with fail
    exact bodyPost_ret (v := .agg #[.bool true, .slice A1 n1 c1, .slice A2 n2 c2]) (by simp [results, Tryd.results79, go_sem, t0, t1, t2]) rfl G.out
  · go_enter Tryd.func79, Tryd.ntmps79
    go_wp2_with fail
    refine (small_any _ _ (by omega) (by omega)).mono ?_
    rintro e w1 ⟨A1, n1, c1, rfl, g1, ⟨b1, _⟩⟩
    have B1 := hB.below b1
    go_wp2_with fail
    refine (small_any _ _ (by omega) (by omega)).mono ?_
    rintro e w2 ⟨A2, n2, c2, rfl, g2, ⟨b2, _⟩⟩
    have B2 := B1.below b2
    have hm := HN.out w2 false A1 n1 c1 A2 n2 c2 _ (g1.below b2) g2 (by simp [hn]) (by omega)
    have G := Lib.hid (hm.ret rfl B2 (Nat.le_refl _) (bthen (bthen hb0 b1) b2))
    have t0 := B2.c0
    have t1 := B2.c1
    have t2 := B2.c2
    have v0 := B2.fz 0
    have v1 := B2.fz 1
    have v2 := B2.fz 2
    clear hm g1 g2 b1 b2 B1 B2 hB hb0
    go_wp2_with fail
    exact bodyPost_ret (v := .agg #[.bool false, .slice A1 n1 c1, .slice A2 n2 c2]) (by simp [results, Tryd.results79, go_sem, t0, t1, t2]) rfl G.out
end Go.Proofs.YtaahbabdbopphaaDoor
namespace Go.Proofs.YtaahbabdbopphaaDoor
open Go.RowKit Mx
set_option maxRecDepth 100000

set_option maxHeartbeats 4000000 in
theorem nadd_same (s1 : Bool) (A1 A2 A3 A4 : Option Addr) (n1 n2 n3 n4 c1 c2 c3 c4 : Nat) (p q : Rat) (w : World) (h1 : Nm w s1 A1 n1 c1 A2 n2 c2 p) (h2 : Nm w s1 A3 n3 c3 A4 n4 c4 q)
    (l1 : n1 ≤ 1000000) (l2 : n2 ≤ 1000000) (l3 : n3 ≤ 1000000) (l4 : n4 ≤ 1000000)  :
    Calls Tryd.prog 96 #[.agg #[.bool s1, .slice A1 n1 c1, .slice A2 n2 c2], .agg #[.bool s1, .slice A3 n3 c3, .slice A4 n4 c4]] w (NmPost (p + q) w) := by
  have hq : mkRat (sg s1 (rn p * rd q + rn q * rd p)) (rd p * rd q) = p + q := by have := add_same p q (by rw [← h1.neg, ← h2.neg]); rwa [← h1.neg] at this
  have HQ := Lib.hid hq
  clear hq
  have hd0 : rd p * rd q ≠ 0 := Nat.mul_ne_zero (rd_ne p) (rd_ne q)
  obtain ⟨u, HU, x1, x2, x3, xb⟩ := boxes3 w (.bool s1) (.slice A1 n1 c1) (.slice A2 n2 c2) (.bool s1) (.slice A3 n3 c3) (.slice A4 n4 c4) (.bool false) (.slice none 0 0) (.slice none 0 0) 66 66 66
  have m1 := (h1.below xb).drew
  have m2 := (h2.below xb).drew
  have y1 := x1.drew
  have y2 := x2.drew
  have y3 := x3.drew
  have yb := below_drew xb
  have q0 := x1.c0
  have q1 := x1.c1
  have q2 := x1.c2
  have r0 := x2.c0
  have r1 := x2.c1
  have r2 := x2.c2
  clear h1 h2 x1 x2 x3 xb
  go_enter Tryd.func96, Tryd.ntmps96
  go_wp2_with fail
  rw [← HU.out]
  go_region_held3 (fun w' => w'.cell? ⟨w.heap.size, 0, none⟩ = some (.bool s1) ∧ w'.cell? ⟨w.heap.size, 1, none⟩ = some (.slice A1 n1 c1) ∧ w'.cell? ⟨w.heap.size, 2, none⟩ = some (.slice A2 n2 c2) ∧
      w'.cell? ⟨w.heap.size + 1, 0, none⟩ = some (.bool s1) ∧ w'.cell? ⟨w.heap.size + 1, 1, none⟩ = some (.slice A3 n3 c3) ∧ w'.cell? ⟨w.heap.size + 1, 2, none⟩ = some (.slice A4 n4 c4))
    (first | exact ⟨q0, q1, q2, r0, r1, r2⟩ | exact ⟨y1.c0, y1.c1, y1.c2, y2.c0, y2.c1, y2.c2⟩ | exact ⟨a1.c0, a1.c1, a1.c2, a2.c0, a2.c1, a2.c2⟩ | exact ⟨b1.c0, b1.c1, b1.c2, b2.c0, b2.c1, b2.c2⟩ | exact ⟨d1.c0, d1.c1, d1.c2, d2.c0, d2.c1, d2.c2⟩ | go_keep)
    (first
      | (go_at_call 89
         refine (mul_any A1 A4 n1 n4 c1 c4 (rn p) (rd q) _ m1.num m2.den (by omega) (by omega)).mono ?_
         rintro e w3 ⟨A5, n5, c5, rfl, h5, ⟨hb3, _⟩⟩
         have hn5 : n5 ≤ 2000000 := by rw [← h5.len]; have := len_mul (rn p) (rd q); rw [m1.num.len, m2.den.len] at this; omega
         have a1 := y1.below hb3
         have a2 := y2.below hb3
         have a3 := y3.below hb3
         have m3 := m1.below hb3
         have m4 := m2.below hb3
         have ab := bthen yb hb3
         clear m1 m2)
      | (go_at_call 89
         refine (mul_any A3 A2 n3 n2 c3 c2 (rn q) (rd p) _ m4.num m3.den (by omega) (by omega)).mono ?_
         rintro e w4 ⟨A6, n6, c6, rfl, h6, ⟨hb4, _⟩⟩
         have hn6 : n6 ≤ 2000000 := by rw [← h6.len]; have := len_mul (rn q) (rd p); rw [m4.num.len, m3.den.len] at this; omega
         have b1 := a1.below hb4
         have b2 := a2.below hb4
         have b3 := a3.below hb4
         have m5 := m3.below hb4
         have m6 := m4.below hb4
         have g5 := h5.below hb4
         have bb := bthen ab hb4
         clear m3 m4)
      | (go_at_call 89
         refine (mul_any A2 A4 n2 n4 c2 c4 (rd p) (rd q) _ m5.den m6.den (by omega) (by omega)).mono ?_
         rintro e w5 ⟨A7, n7, c7, rfl, h7, ⟨hb5, _⟩⟩
         have hn7 : n7 ≤ 2000000 := by rw [← h7.len]; have := len_mul (rd p) (rd q); rw [m5.den.len, m6.den.len] at this; omega
         have d1 := b1.below hb5
         have d2 := b2.below hb5
         have d3 := b3.below hb5
         have f5 := g5.below hb5
         have f6 := h6.below hb5
         have db := bthen bb hb5
         have t0 := d1.c0
         have t1 := d2.c0
         clear m5 m6 h5 h6 g5))
  clear hb3 hb4 hb5 a1 a2 a3 b1 b2 b3 y1 y2 y3 q0 q1 q2 r0 r1 r2 yb ab bb
  go_wp2_with fail
  have ee : (s1 == s1) = true := by simp
  have i1 := d1.drew
  have i2 := d2.drew
  have i3 := d3.drew
  have i5 := f5.drew
  have i6 := f6.drew
  have i7 := h7.drew
  have ib := below_drew db
  have E1 := d1
  have E2 := d2
  go_region_held3 (fun w' => w'.cell? ⟨w.heap.size, 0, none⟩ = some (.bool s1) ∧ w'.cell? ⟨w.heap.size, 1, none⟩ = some (.slice A1 n1 c1) ∧ w'.cell? ⟨w.heap.size, 2, none⟩ = some (.slice A2 n2 c2) ∧
      w'.cell? ⟨w.heap.size + 1, 0, none⟩ = some (.bool s1) ∧ w'.cell? ⟨w.heap.size + 1, 1, none⟩ = some (.slice A3 n3 c3) ∧ w'.cell? ⟨w.heap.size + 1, 2, none⟩ = some (.slice A4 n4 c4))
    (first | exact ⟨E1.c0, E1.c1, E1.c2, E2.c0, E2.c1, E2.c2⟩ | exact ⟨i1.c0, i1.c1, i1.c2, i2.c0, i2.c1, i2.c2⟩ | exact ⟨j1.c0, j1.c1, j1.c2, j2.c0, j2.c1, j2.c2⟩ | exact ⟨k1.c0, k1.c1, k1.c2, k2.c0, k2.c1, k2.c2⟩ | exact ⟨o1.c0, o1.c1, o1.c2, o2.c0, o2.c1, o2.c2⟩ | go_keep)
    (first
      | (go_at_call 90
         refine (add_any A5 A6 n5 n6 c5 c6 _ _ _ i5 i6 (by omega) (by omega)).mono ?_
         rintro e w7 ⟨A8, n8, c8, rfl, h8, ⟨hb7, _⟩⟩
         have hn8 : n8 ≤ 10000000 := by rw [← h8.len]; have := len_add (rn p * rd q) (rn q * rd p); rw [i5.len, i6.len] at this; omega
         have j1 := i1.below hb7
         have j2 := i2.below hb7
         have j3 := i3.below hb7
         have l7 := i7.below hb7
         have jb := bthen ib hb7)
      | (go_at_call 88
         refine (reduced_any _ A8 A7 n8 n7 c8 c7 (rn p * rd q + rn q * rd p) (rd p * rd q) _ h8 l7 hn8 (by omega) hd0).mono ?_
         rintro e w8 hp
         obtain ⟨s9, A9, n9, c9, A10, n10, c10, rfl, h9, hb8⟩ := hp.nm
         have k1 := j1.below hb8
         have k2 := j2.below hb8
         have k3 := j3.below hb8
         have kb := bthen jb hb8
         have G := Lib.hid (h9.ret HQ.out k3 (by omega) kb)
         have o1 := k1.put (g' := w.heap.size + 1 + 1) (by omega) (.bool s9) (.slice A9 n9 c9) (.slice A10 n10 c10)
         have o2 := k2.put (g' := w.heap.size + 1 + 1) (by omega) (.bool s9) (.slice A9 n9 c9) (.slice A10 n10 c10)
         have t0 := k3.c0
         have t1 := k3.c1
         have t2 := k3.c2
         have v0 := k3.fz 0
         have v1 := k3.fz 1
         have v2 := k3.fz 2))
  go_wp2_with fail
  exact bodyPost_ret (v := .agg #[.bool s9, .slice A9 n9 c9, .slice A10 n10 c10]) (by simp [results, Tryd.results96, go_sem, t0, t1, t2]) rfl G.out

set_option maxHeartbeats 4000000 in
theorem nadd_less (s1 : Bool) (A1 A2 A3 A4 : Option Addr) (n1 n2 n3 n4 c1 c2 c3 c4 : Nat) (p q : Rat) (w : World) (h1 : Nm w s1 A1 n1 c1 A2 n2 c2 p) (h2 : Nm w (!s1) A3 n3 c3 A4 n4 c4 q)
    (l1 : n1 ≤ 1000000) (l2 : n2 ≤ 1000000) (l3 : n3 ≤ 1000000) (l4 : n4 ≤ 1000000) (hlt : rn p * rd q < rn q * rd p) :
    Calls Tryd.prog 96 #[.agg #[.bool s1, .slice A1 n1 c1, .slice A2 n2 c2], .agg #[.bool (!s1), .slice A3 n3 c3, .slice A4 n4 c4]] w (NmPost (p + q) w) := by
  have hq : mkRat (sg (!s1) (rn q * rd p - rn p * rd q)) (rd p * rd q) = p + q := by have := add_less p q (by rw [← h1.neg, ← h2.neg]; cases s1 <;> simp) hlt; rwa [← h2.neg] at this
  have HQ := Lib.hid hq
  clear hq
  have hd0 : rd p * rd q ≠ 0 := Nat.mul_ne_zero (rd_ne p) (rd_ne q)
  obtain ⟨u, HU, x1, x2, x3, xb⟩ := boxes3 w (.bool s1) (.slice A1 n1 c1) (.slice A2 n2 c2) (.bool (!s1)) (.slice A3 n3 c3) (.slice A4 n4 c4) (.bool false) (.slice none 0 0) (.slice none 0 0) 66 66 66
  have m1 := (h1.below xb).drew
  have m2 := (h2.below xb).drew
  have y1 := x1.drew
  have y2 := x2.drew
  have y3 := x3.drew
  have yb := below_drew xb
  have q0 := x1.c0
  have q1 := x1.c1
  have q2 := x1.c2
  have r0 := x2.c0
  have r1 := x2.c1
  have r2 := x2.c2
  clear h1 h2 x1 x2 x3 xb
  go_enter Tryd.func96, Tryd.ntmps96
  go_wp2_with fail
  rw [← HU.out]
  go_region_held3 (fun w' => w'.cell? ⟨w.heap.size, 0, none⟩ = some (.bool s1) ∧ w'.cell? ⟨w.heap.size, 1, none⟩ = some (.slice A1 n1 c1) ∧ w'.cell? ⟨w.heap.size, 2, none⟩ = some (.slice A2 n2 c2) ∧
      w'.cell? ⟨w.heap.size + 1, 0, none⟩ = some (.bool (!s1)) ∧ w'.cell? ⟨w.heap.size + 1, 1, none⟩ = some (.slice A3 n3 c3) ∧ w'.cell? ⟨w.heap.size + 1, 2, none⟩ = some (.slice A4 n4 c4))
    (first | exact ⟨q0, q1, q2, r0, r1, r2⟩ | exact ⟨y1.c0, y1.c1, y1.c2, y2.c0, y2.c1, y2.c2⟩ | exact ⟨a1.c0, a1.c1, a1.c2, a2.c0, a2.c1, a2.c2⟩ | exact ⟨b1.c0, b1.c1, b1.c2, b2.c0, b2.c1, b2.c2⟩ | exact ⟨d1.c0, d1.c1, d1.c2, d2.c0, d2.c1, d2.c2⟩ | go_keep)
    (first
      | (go_at_call 89
         refine (mul_any A1 A4 n1 n4 c1 c4 (rn p) (rd q) _ m1.num m2.den (by omega) (by omega)).mono ?_
         rintro e w3 ⟨A5, n5, c5, rfl, h5, ⟨hb3, _⟩⟩
         have hn5 : n5 ≤ 2000000 := by rw [← h5.len]; have := len_mul (rn p) (rd q); rw [m1.num.len, m2.den.len] at this; omega
         have a1 := y1.below hb3
         have a2 := y2.below hb3
         have a3 := y3.below hb3
         have m3 := m1.below hb3
         have m4 := m2.below hb3
         have ab := bthen yb hb3
         clear m1 m2)
      | (go_at_call 89
         refine (mul_any A3 A2 n3 n2 c3 c2 (rn q) (rd p) _ m4.num m3.den (by omega) (by omega)).mono ?_
         rintro e w4 ⟨A6, n6, c6, rfl, h6, ⟨hb4, _⟩⟩
         have hn6 : n6 ≤ 2000000 := by rw [← h6.len]; have := len_mul (rn q) (rd p); rw [m4.num.len, m3.den.len] at this; omega
         have b1 := a1.below hb4
         have b2 := a2.below hb4
         have b3 := a3.below hb4
         have m5 := m3.below hb4
         have m6 := m4.below hb4
         have g5 := h5.below hb4
         have bb := bthen ab hb4
         clear m3 m4)
      | (go_at_call 89
         refine (mul_any A2 A4 n2 n4 c2 c4 (rd p) (rd q) _ m5.den m6.den (by omega) (by omega)).mono ?_
         rintro e w5 ⟨A7, n7, c7, rfl, h7, ⟨hb5, _⟩⟩
         have hn7 : n7 ≤ 2000000 := by rw [← h7.len]; have := len_mul (rd p) (rd q); rw [m5.den.len, m6.den.len] at this; omega
         have d1 := b1.below hb5
         have d2 := b2.below hb5
         have d3 := b3.below hb5
         have f5 := g5.below hb5
         have f6 := h6.below hb5
         have db := bthen bb hb5
         have t0 := d1.c0
         have t1 := d2.c0
         clear m5 m6 h5 h6 g5))
  clear hb3 hb4 hb5 a1 a2 a3 b1 b2 b3 y1 y2 y3 q0 q1 q2 r0 r1 r2 yb ab bb
  go_wp2_with fail
  have i_ := trivial
  refine (compare_lt A5 A6 n5 n6 c5 c6 _ _ _ f5 f6 (by omega) (by omega) hlt).mono ?_
  rintro e w6 ⟨rfl, m6, rfl⟩
  have E1 := d1.below (below_draws w5 m6)
  have E2 := d2.below (below_draws w5 m6)
  have E3 := d3.below (below_draws w5 m6)
  have i1 := E1.drew
  have i2 := E2.drew
  have i3 := E3.drew
  have i5 := (f5.drewN m6).drew
  have i6 := (f6.drewN m6).drew
  have i7 := (h7.drewN m6).drew
  have ib := below_drew (bthen db (below_draws w5 m6))
  have t0 := E1.c0
  have t1 := E2.c0
  have t2 := E1.c1
  have t3 := E1.c2
  have t4 := E2.c1
  have t5 := E2.c2
  go_wp2_with fail
  go_region_held3 (fun w' => w'.cell? ⟨w.heap.size, 0, none⟩ = some (.bool s1) ∧ w'.cell? ⟨w.heap.size, 1, none⟩ = some (.slice A1 n1 c1) ∧ w'.cell? ⟨w.heap.size, 2, none⟩ = some (.slice A2 n2 c2) ∧
      w'.cell? ⟨w.heap.size + 1, 0, none⟩ = some (.bool (!s1)) ∧ w'.cell? ⟨w.heap.size + 1, 1, none⟩ = some (.slice A3 n3 c3) ∧ w'.cell? ⟨w.heap.size + 1, 2, none⟩ = some (.slice A4 n4 c4))
    (first | exact ⟨E1.c0, E1.c1, E1.c2, E2.c0, E2.c1, E2.c2⟩ | exact ⟨i1.c0, i1.c1, i1.c2, i2.c0, i2.c1, i2.c2⟩ | exact ⟨j1.c0, j1.c1, j1.c2, j2.c0, j2.c1, j2.c2⟩ | exact ⟨k1.c0, k1.c1, k1.c2, k2.c0, k2.c1, k2.c2⟩ | exact ⟨o1.c0, o1.c1, o1.c2, o2.c0, o2.c1, o2.c2⟩ | go_keep)
    (first
      | (go_at_call 122
         refine (sub_any A6 A5 n6 n5 c6 c5 _ _ _ i6 i5 (by omega) (by omega) (by omega)).mono ?_
         rintro e w7 ⟨A8, n8, c8, rfl, h8, ⟨hb7, _⟩⟩
         have hn8 : n8 ≤ 10000000 := by rw [← h8.len]; exact Nat.le_trans (len_mono (Nat.sub_le _ _)) (by rw [i6.len]; omega)
         have j1 := i1.below hb7
         have j2 := i2.below hb7
         have j3 := i3.below hb7
         have l7 := i7.below hb7
         have jb := bthen ib hb7)
      | (go_at_call 88
         refine (reduced_any _ A8 A7 n8 n7 c8 c7 (rn q * rd p - rn p * rd q) (rd p * rd q) _ h8 l7 hn8 (by omega) hd0).mono ?_
         rintro e w8 hp
         obtain ⟨s9, A9, n9, c9, A10, n10, c10, rfl, h9, hb8⟩ := hp.nm
         have k1 := j1.below hb8
         have k2 := j2.below hb8
         have k3 := j3.below hb8
         have kb := bthen jb hb8
         have G := Lib.hid (h9.ret HQ.out k3 (by omega) kb)
         have o1 := k1.put (g' := w.heap.size + 1 + 1) (by omega) (.bool s9) (.slice A9 n9 c9) (.slice A10 n10 c10)
         have o2 := k2.put (g' := w.heap.size + 1 + 1) (by omega) (.bool s9) (.slice A9 n9 c9) (.slice A10 n10 c10)
         have t0 := k3.c0
         have t1 := k3.c1
         have t2 := k3.c2
         have v0 := k3.fz 0
         have v1 := k3.fz 1
         have v2 := k3.fz 2))
  go_wp2_with fail
  exact bodyPost_ret (v := .agg #[.bool s9, .slice A9 n9 c9, .slice A10 n10 c10]) (by simp [results, Tryd.results96, go_sem, t0, t1, t2]) rfl G.out

set_option maxHeartbeats 4000000 in
theorem nadd_more (s1 : Bool) (A1 A2 A3 A4 : Option Addr) (n1 n2 n3 n4 c1 c2 c3 c4 : Nat) (p q : Rat) (w : World) (h1 : Nm w s1 A1 n1 c1 A2 n2 c2 p) (h2 : Nm w (!s1) A3 n3 c3 A4 n4 c4 q)
    (l1 : n1 ≤ 1000000) (l2 : n2 ≤ 1000000) (l3 : n3 ≤ 1000000) (l4 : n4 ≤ 1000000) (hlt : ¬ rn p * rd q < rn q * rd p) :
    Calls Tryd.prog 96 #[.agg #[.bool s1, .slice A1 n1 c1, .slice A2 n2 c2], .agg #[.bool (!s1), .slice A3 n3 c3, .slice A4 n4 c4]] w (NmPost (p + q) w) := by
  have hq : mkRat (sg s1 (rn p * rd q - rn q * rd p)) (rd p * rd q) = p + q := by have := add_more p q (by rw [← h1.neg, ← h2.neg]; cases s1 <;> simp) hlt; rwa [← h1.neg] at this
  have HQ := Lib.hid hq
  clear hq
  have hd0 : rd p * rd q ≠ 0 := Nat.mul_ne_zero (rd_ne p) (rd_ne q)
  obtain ⟨u, HU, x1, x2, x3, xb⟩ := boxes3 w (.bool s1) (.slice A1 n1 c1) (.slice A2 n2 c2) (.bool (!s1)) (.slice A3 n3 c3) (.slice A4 n4 c4) (.bool false) (.slice none 0 0) (.slice none 0 0) 66 66 66
  have m1 := (h1.below xb).drew
  have m2 := (h2.below xb).drew
  have y1 := x1.drew
  have y2 := x2.drew
  have y3 := x3.drew
  have yb := below_drew xb
  have q0 := x1.c0
  have q1 := x1.c1
  have q2 := x1.c2
  have r0 := x2.c0
  have r1 := x2.c1
  have r2 := x2.c2
  clear h1 h2 x1 x2 x3 xb
  go_enter Tryd.func96, Tryd.ntmps96
  go_wp2_with fail
  rw [← HU.out]
  go_region_held3 (fun w' => w'.cell? ⟨w.heap.size, 0, none⟩ = some (.bool s1) ∧ w'.cell? ⟨w.heap.size, 1, none⟩ = some (.slice A1 n1 c1) ∧ w'.cell? ⟨w.heap.size, 2, none⟩ = some (.slice A2 n2 c2) ∧
      w'.cell? ⟨w.heap.size + 1, 0, none⟩ = some (.bool (!s1)) ∧ w'.cell? ⟨w.heap.size + 1, 1, none⟩ = some (.slice A3 n3 c3) ∧ w'.cell? ⟨w.heap.size + 1, 2, none⟩ = some (.slice A4 n4 c4))
    (first | exact ⟨q0, q1, q2, r0, r1, r2⟩ | exact ⟨y1.c0, y1.c1, y1.c2, y2.c0, y2.c1, y2.c2⟩ | exact ⟨a1.c0, a1.c1, a1.c2, a2.c0, a2.c1, a2.c2⟩ | exact ⟨b1.c0, b1.c1, b1.c2, b2.c0, b2.c1, b2.c2⟩ | exact ⟨d1.c0, d1.c1, d1.c2, d2.c0, d2.c1, d2.c2⟩ | go_keep)
    (first
      | (go_at_call 89
         refine (mul_any A1 A4 n1 n4 c1 c4 (rn p) (rd q) _ m1.num m2.den (by omega) (by omega)).mono ?_
         rintro e w3 ⟨A5, n5, c5, rfl, h5, ⟨hb3, _⟩⟩
         have hn5 : n5 ≤ 2000000 := by rw [← h5.len]; have := len_mul (rn p) (rd q); rw [m1.num.len, m2.den.len] at this; omega
         have a1 := y1.below hb3
         have a2 := y2.below hb3
         have a3 := y3.below hb3
         have m3 := m1.below hb3
         have m4 := m2.below hb3
         have ab := bthen yb hb3
         clear m1 m2)
      | (go_at_call 89
         refine (mul_any A3 A2 n3 n2 c3 c2 (rn q) (rd p) _ m4.num m3.den (by omega) (by omega)).mono ?_
         rintro e w4 ⟨A6, n6, c6, rfl, h6, ⟨hb4, _⟩⟩
         have hn6 : n6 ≤ 2000000 := by rw [← h6.len]; have := len_mul (rn q) (rd p); rw [m4.num.len, m3.den.len] at this; omega
         have b1 := a1.below hb4
         have b2 := a2.below hb4
         have b3 := a3.below hb4
         have m5 := m3.below hb4
         have m6 := m4.below hb4
         have g5 := h5.below hb4
         have bb := bthen ab hb4
         clear m3 m4)
      | (go_at_call 89
         refine (mul_any A2 A4 n2 n4 c2 c4 (rd p) (rd q) _ m5.den m6.den (by omega) (by omega)).mono ?_
         rintro e w5 ⟨A7, n7, c7, rfl, h7, ⟨hb5, _⟩⟩
         have hn7 : n7 ≤ 2000000 := by rw [← h7.len]; have := len_mul (rd p) (rd q); rw [m5.den.len, m6.den.len] at this; omega
         have d1 := b1.below hb5
         have d2 := b2.below hb5
         have d3 := b3.below hb5
         have f5 := g5.below hb5
         have f6 := h6.below hb5
         have db := bthen bb hb5
         have t0 := d1.c0
         have t1 := d2.c0
         clear m5 m6 h5 h6 g5))
  clear hb3 hb4 hb5 a1 a2 a3 b1 b2 b3 y1 y2 y3 q0 q1 q2 r0 r1 r2 yb ab bb
  go_wp2_with fail
  have i_ := trivial
  refine (compare_ge A5 A6 n5 n6 c5 c6 _ _ _ f5 f6 (by omega) (by omega) (by omega)).mono ?_
  rintro e w6 ⟨r6, rfl, hr6, m6, rfl⟩
  have E1 := d1.below (below_draws w5 m6)
  have E2 := d2.below (below_draws w5 m6)
  have E3 := d3.below (below_draws w5 m6)
  have i1 := E1.drew
  have i2 := E2.drew
  have i3 := E3.drew
  have i5 := (f5.drewN m6).drew
  have i6 := (f6.drewN m6).drew
  have i7 := (h7.drewN m6).drew
  have ib := below_drew (bthen db (below_draws w5 m6))
  have t0 := E1.c0
  have t1 := E2.c0
  have t2 := E1.c1
  have t3 := E1.c2
  have t4 := E2.c1
  have t5 := E2.c2
  go_wp2_with fail
  go_region_held3 (fun w' => w'.cell? ⟨w.heap.size, 0, none⟩ = some (.bool s1) ∧ w'.cell? ⟨w.heap.size, 1, none⟩ = some (.slice A1 n1 c1) ∧ w'.cell? ⟨w.heap.size, 2, none⟩ = some (.slice A2 n2 c2) ∧
      w'.cell? ⟨w.heap.size + 1, 0, none⟩ = some (.bool (!s1)) ∧ w'.cell? ⟨w.heap.size + 1, 1, none⟩ = some (.slice A3 n3 c3) ∧ w'.cell? ⟨w.heap.size + 1, 2, none⟩ = some (.slice A4 n4 c4))
    (first | exact ⟨E1.c0, E1.c1, E1.c2, E2.c0, E2.c1, E2.c2⟩ | exact ⟨i1.c0, i1.c1, i1.c2, i2.c0, i2.c1, i2.c2⟩ | exact ⟨j1.c0, j1.c1, j1.c2, j2.c0, j2.c1, j2.c2⟩ | exact ⟨k1.c0, k1.c1, k1.c2, k2.c0, k2.c1, k2.c2⟩ | exact ⟨o1.c0, o1.c1, o1.c2, o2.c0, o2.c1, o2.c2⟩ | go_keep)
    (first
      | (go_at_call 122
         refine (sub_any A5 A6 n5 n6 c5 c6 _ _ _ i5 i6 (by omega) (by omega) (by omega)).mono ?_
         rintro e w7 ⟨A8, n8, c8, rfl, h8, ⟨hb7, _⟩⟩
         have hn8 : n8 ≤ 10000000 := by rw [← h8.len]; exact Nat.le_trans (len_mono (Nat.sub_le _ _)) (by rw [i5.len]; omega)
         have j1 := i1.below hb7
         have j2 := i2.below hb7
         have j3 := i3.below hb7
         have l7 := i7.below hb7
         have jb := bthen ib hb7)
      | (go_at_call 88
         refine (reduced_any _ A8 A7 n8 n7 c8 c7 (rn p * rd q - rn q * rd p) (rd p * rd q) _ h8 l7 hn8 (by omega) hd0).mono ?_
         rintro e w8 hp
         obtain ⟨s9, A9, n9, c9, A10, n10, c10, rfl, h9, hb8⟩ := hp.nm
         have k1 := j1.below hb8
         have k2 := j2.below hb8
         have k3 := j3.below hb8
         have kb := bthen jb hb8
         have G := Lib.hid (h9.ret HQ.out k3 (by omega) kb)
         have o1 := k1.put (g' := w.heap.size + 1 + 1) (by omega) (.bool s9) (.slice A9 n9 c9) (.slice A10 n10 c10)
         have o2 := k2.put (g' := w.heap.size + 1 + 1) (by omega) (.bool s9) (.slice A9 n9 c9) (.slice A10 n10 c10)
         have t0 := k3.c0
         have t1 := k3.c1
         have t2 := k3.c2
         have v0 := k3.fz 0
         have v1 := k3.fz 1
         have v2 := k3.fz 2))
  go_wp2_with fail
  exact bodyPost_ret (v := .agg #[.bool s9, .slice A9 n9 c9, .slice A10 n10 c10]) (by simp [results, Tryd.results96, go_sem, t0, t1, t2]) rfl G.out
theorem nadd_any (s1 s2 : Bool) (A1 A2 A3 A4 : Option Addr) (n1 n2 n3 n4 c1 c2 c3 c4 : Nat) (p q : Rat) (w : World) (h1 : Nm w s1 A1 n1 c1 A2 n2 c2 p) (h2 : Nm w s2 A3 n3 c3 A4 n4 c4 q)
    (l1 : n1 ≤ 1000000) (l2 : n2 ≤ 1000000) (l3 : n3 ≤ 1000000) (l4 : n4 ≤ 1000000) :
    Calls Tryd.prog 96 #[.agg #[.bool s1, .slice A1 n1 c1, .slice A2 n2 c2], .agg #[.bool s2, .slice A3 n3 c3, .slice A4 n4 c4]] w (NmPost (p + q) w) := by
  by_cases hs : s1 = s2
  · subst hs; exact nadd_same s1 A1 A2 A3 A4 n1 n2 n3 n4 c1 c2 c3 c4 p q w h1 h2 l1 l2 l3 l4
  · obtain rfl : s2 = !s1 := by cases s1 <;> cases s2 <;> simp at hs ⊢
    by_cases hlt : rn p * rd q < rn q * rd p
    · exact nadd_less s1 A1 A2 A3 A4 n1 n2 n3 n4 c1 c2 c3 c4 p q w h1 h2 l1 l2 l3 l4 hlt
    · exact nadd_more s1 A1 A2 A3 A4 n1 n2 n3 n4 c1 c2 c3 c4 p q w h1 h2 l1 l2 l3 l4 hlt
end Go.Proofs.YtaahbabdbopphaaDoor
namespace Go.Proofs.YtaahbabdbopphaaDoor
open Go.RowKit Mx
set_option maxRecDepth 100000

/-- A sign and two slices that are the canonical Frac of a rational number. -/
structure Fr (w : World) (sb : Bool) (A1 : Option Addr) (n1 c1 : Nat) (A2 : Option Addr) (n2 c2 : Nat) (q : Rat) : Prop where
  neg : sb = rneg q
  num : Sl w A1 n1 c1 (dig (rn q))
  den : Sl w A2 n2 c2 (dig (rD q))
/-- The slice is a row of its own in new memory. -/
def Own (w w' : World) (A : Option Addr) (n c : Nat) (xs : List Nat) : Prop := w'.ownsRow w.heap.size 57 1 (.slice A n c) n (u32s xs)
def FrPost (q : Rat) (w : World) (e : Ending) (w' : World) : Prop :=
  ∃ sb A n c A' n' c', e = .returned (.agg #[.bool sb, .slice A n c, .slice A' n' c']) ∧ Fr w' sb A n c A' n' c' q ∧ Own w w' A n c (dig (rn q)) ∧ Own w w' A' n' c' (dig (rD q)) ∧ Below w.heap.size w w'
theorem own_later {base : Nat} {w w' : World} {A : Option Addr} {n c : Nat} {xs : List Value} (h : w.ownsRow base 57 1 (.slice A n c) n xs) (hb : Below w.heap.size w w') : w'.ownsRow base 57 1 (.slice A n c) n xs := by
  obtain ⟨hl, hv⟩ := h
  refine ⟨hl, ?_⟩
  rcases hv with h1 | ⟨g', cap, cur, h1, h2, h3, h4, h5, h6, h7⟩
  · exact .inl h1
  · refine .inr ⟨g', cap, cur, h1, h2, ?_, h4, h5, h6, h7⟩
    have hg : g' < w.heap.size := by
      rcases Nat.lt_or_ge g' w.heap.size with h8 | h8
      · exact h8
      · rw [Array.getElem?_eq_none h8] at h3; cases h3
    rw [hb.block g' hg]; exact h3
theorem own_base {base base' : Nat} {w : World} {A : Option Addr} {n c : Nat} {xs : List Value} (h : w.ownsRow base 57 1 (.slice A n c) n xs) (hb : base' ≤ base) : w.ownsRow base' 57 1 (.slice A n c) n xs := by
  obtain ⟨hl, hv⟩ := h
  refine ⟨hl, ?_⟩
  rcases hv with h1 | ⟨g', cap, cur, h1, h2, h3⟩
  · exact .inl h1
  · exact .inr ⟨g', cap, cur, h1, Nat.le_trans hb h2, h3⟩
theorem Own.later {w w1 w2 : World} {A : Option Addr} {n c : Nat} {xs : List Nat} (h : Own w w1 A n c xs) (hb : Below w1.heap.size w1 w2) : Own w w2 A n c xs := own_later h hb
theorem Own.base {w w0 w1 : World} {A : Option Addr} {n c : Nat} {xs : List Nat} (h : Own w0 w1 A n c xs) (hb : w.heap.size ≤ w0.heap.size) : Own w w1 A n c xs := own_base h hb
theorem Fr.below {w w' : World} {sb : Bool} {A1 : Option Addr} {n1 c1 : Nat} {A2 : Option Addr} {n2 c2 : Nat} {q : Rat} (h : Fr w sb A1 n1 c1 A2 n2 c2 q) (hb : Below w.heap.size w w') : Fr w' sb A1 n1 c1 A2 n2 c2 q :=
  ⟨h.neg, h.num.below hb, h.den.below hb⟩
theorem FrPost.of_below {q : Rat} {w w1 w2 : World} {e : Ending} (hb : Below w.heap.size w w1) (h : FrPost q w1 e w2) : FrPost q w e w2 := by
  obtain ⟨sb, A, n, c, A', n', c', he, hf, h1, h2, hb2⟩ := h
  exact ⟨sb, A, n, c, A', n', c', he, hf, h1.base hb.size, h2.base hb.size, bthen hb hb2⟩

theorem own_setCell {base g k : Nat} {w : World} {A : Option Addr} {n c : Nat} {xs : List Value} (h : w.ownsRow base 57 1 (.slice A n c) n xs) (hg : ∀ ad, A = some ad → ad.block ≠ g) (u : Value) : (w.setCell ⟨g, k, none⟩ u).ownsRow base 57 1 (.slice A n c) n xs := by
  obtain ⟨hl, hv⟩ := h
  refine ⟨hl, ?_⟩
  rcases hv with h1 | ⟨g', cap, cur, h1, h2, h3, h4, h5, h6, h7⟩
  · exact .inl h1
  · refine .inr ⟨g', cap, cur, h1, h2, ?_, h4, h5, h6, h7⟩
    have hne : g' ≠ g := by
      injection h1 with h1
      exact hg _ h1
    rw [Below.heap_setCell w ⟨g, k, none⟩ u g' hne]; exact h3
theorem own_put3 {base g : Nat} {w : World} {A : Option Addr} {n c : Nat} {xs : List Value} (h : w.ownsRow base 57 1 (.slice A n c) n xs) (hg : ∀ ad, A = some ad → ad.block ≠ g) (x y z : Value) : (put3 w g x y z).ownsRow base 57 1 (.slice A n c) n xs :=
  own_setCell (own_setCell (own_setCell h hg x) hg y) hg z
theorem own_range {base : Nat} {w : World} {A : Option Addr} {n c : Nat} {xs : List Value} (h : w.ownsRow base 57 1 (.slice A n c) n xs) : ∀ ad, A = some ad → base ≤ ad.block ∧ ad.block < w.heap.size := by
  intro ad hA
  rcases h.2 with ⟨h1, _⟩ | ⟨g', cap, cur, h1, h2, h3, _⟩
  · injection h1 with h1; rw [h1] at hA; cases hA
  · injection h1 with h1
    rw [h1] at hA
    injection hA with hA
    subst hA
    refine ⟨h2, ?_⟩
    rcases Nat.lt_or_ge g' w.heap.size with h8 | h8
    · exact h8
    · rw [Array.getElem?_eq_none h8] at h3; cases h3
theorem Bk.self {w : World} {g : Nat} {a b c : Value} (h : Bk w g a b c) (x y z : Value) : Bk (put3 w g x y z) g x y z := by
  have e0 : ∀ (W : World) (v u : Value), W.cell? ⟨g, 0, none⟩ = some v → (W.setCell ⟨g, 0, none⟩ u).cell? ⟨g, 0, none⟩ = some u := fun W v u hv => World.cell?_setCell_same W _ u (by rw [hv])
  have e1 : ∀ (W : World) (v u : Value), W.cell? ⟨g, 1, none⟩ = some v → (W.setCell ⟨g, 1, none⟩ u).cell? ⟨g, 1, none⟩ = some u := fun W v u hv => World.cell?_setCell_same W _ u (by rw [hv])
  have e2 : ∀ (W : World) (v u : Value), W.cell? ⟨g, 2, none⟩ = some v → (W.setCell ⟨g, 2, none⟩ u).cell? ⟨g, 2, none⟩ = some u := fun W v u hv => World.cell?_setCell_same W _ u (by rw [hv])
  have far : ∀ (W : World) (i k : Nat) (u : Value), i ≠ k → (W.setCell ⟨g, i, none⟩ u).cell? ⟨g, k, none⟩ = W.cell? ⟨g, k, none⟩ := fun W i k u hik =>
    World.cell?_setCell_other W _ _ _ (by intro e; injection e with _ e; omega)
  refine ⟨?_, ?_, ?_, fun k => ?_, ?_⟩
  · unfold put3; rw [far _ _ _ _ (by omega), far _ _ _ _ (by omega)]; exact e0 _ _ _ h.c0
  · unfold put3; rw [far _ _ _ _ (by omega)]; exact e1 _ b _ (by rw [far _ _ _ _ (by omega)]; exact h.c1)
  · unfold put3; exact e2 _ c _ (by rw [far _ _ _ _ (by omega), far _ _ _ _ (by omega)]; exact h.c2)
  · unfold put3; simp [go_sem]; exact h.fz k
  · simp [put3, World.setCell]; exact h.lt

theorem one_lt {q : Rat} (h : rd q ≠ 1) : 1 < rd q := by have := rd_pos q; omega
set_option maxHeartbeats 4000000 in
theorem give_one (s1 : Bool) (A1 A2 : Option Addr) (n1 n2 c1 c2 : Nat) (q : Rat) (w : World) (h : Nm w s1 A1 n1 c1 A2 n2 c2 q) (l1 : n1 ≤ 10000000) (l2 : n2 ≤ 10000000) (hd : rd q ≠ 1) :
    Calls Tryd.prog 74 #[.agg #[.bool s1, .slice A1 n1 c1, .slice A2 n2 c2]] w (FrPost q w) := by
  obtain ⟨u, HU, x1, x2, xb⟩ := boxes2 w (.bool s1) (.slice A1 n1 c1) (.slice A2 n2 c2) (.bool false) (.slice none 0 0) (.slice none 0 0) 66 24
  have m1 := (h.below xb).drew
  have y1 := x1.drew
  have y2 := x2.drew
  have yb := below_drew xb
  have q0 := x1.c0
  have q1 := x1.c1
  have q2 := x1.c2
  obtain ⟨v, HV⟩ : ∃ v, Hid (v = u.alloc (.cells #[.bool false, .slice none 0 0, .slice none 0 0] 24)) := ⟨_, rfl⟩
  have ub : Below u.heap.size u v := by rw [HV.out]; exact below_alloc (Below.refl _ _) _
  have us : v.heap.size = u.heap.size + 1 := by rw [HV.out]; simp
  have z1 := (x1.below ub).drew
  have z2 := (x2.below ub).drew
  have z3 : Bk v.drew u.heap.size (.bool false) (.slice none 0 0) (.slice none 0 0) := by rw [HV.out]; exact (Bk.new u _ _ _ 24).drew
  have m0 := ((h.below xb).below ub).drew
  have zb := below_drew (bthen xb ub)
  have hul : w.heap.size + 1 < u.heap.size := x2.lt
  have hd1 := one_lt hd
  have us' := Lib.hid us
  clear h us
  go_enter Tryd.func74, Tryd.ntmps74
  go_wp2_with fail
  rw [← HU.out]
  go_region_held3 (fun w' => w'.cell? ⟨w.heap.size, 0, none⟩ = some (.bool s1) ∧ w'.cell? ⟨w.heap.size, 1, none⟩ = some (.slice A1 n1 c1))
    (first | (with_reducible exact ⟨q0, q1⟩) | (with_reducible exact ⟨y1.c0, y1.c1⟩) | (with_reducible exact ⟨a1.c0, a1.c1⟩) | (with_reducible exact ⟨(a1.alloc _).c0, (a1.alloc _).c1⟩) | (with_reducible exact ⟨(x1.alloc _).c0, (x1.alloc _).c1⟩) | (with_reducible exact ⟨(x1.alloc _).drew.c0, (x1.alloc _).drew.c1⟩) | (with_reducible exact f1) | go_keep)
    (first
      | (go_at_call 114
         (with_reducible refine (cloneN_any A1 c1 _ u.drew n1 m1.num (by omega)).mono ?_)
         rintro e w3 ⟨A3, n3, c3, rfl, o3, hn3, hb3⟩
         have a1 := y1.below hb3
         have a2 := y2.below hb3
         have m2 := m1.below hb3
         have ab := bthen yb hb3)
      | (go_at_call 114
         rw [← HV.out]
         (with_reducible refine (cloneN_any A1 c1 _ v.drew n1 m0.num (by omega)).mono ?_)
         rintro e w3 ⟨A3, n3, c3, rfl, o3, hn3, hb3⟩
         have a1 := z1.below hb3
         have a2 := z2.below hb3
         have a3 := z3.below hb3
         have m2 := m0.below hb3
         have ab := bthen zb hb3
         have g1 := a1.put (g' := u.heap.size) (by omega) (.bool s1) (.slice A3 n3 c3) (.slice none 0 0)
         have f1 : (((w3.setCell ⟨u.heap.size, 0, none⟩ (.bool s1)).setCell ⟨u.heap.size, 1, none⟩ (.slice A3 n3 c3)).setCell ⟨u.heap.size, 2, none⟩ (.slice none 0 0)).cell? ⟨w.heap.size, 0, none⟩ = some (.bool s1) ∧
             (((w3.setCell ⟨u.heap.size, 0, none⟩ (.bool s1)).setCell ⟨u.heap.size, 1, none⟩ (.slice A3 n3 c3)).setCell ⟨u.heap.size, 2, none⟩ (.slice none 0 0)).cell? ⟨w.heap.size, 1, none⟩ = some (.slice A1 n1 c1) := ⟨g1.c0, g1.c1⟩
         have t0 := a3.c0
         have t1 := a3.c1
         have t2 := a3.c2
         have v0 := a3.fz 0
         have v1 := a3.fz 1
         have v2 := a3.fz 2))
  · obtain ⟨W, HW⟩ : ∃ W, Hid (W = w3.alloc (.cells #[.bool s1, .slice A3 n3 c3, .slice none 0 0] 24)) := ⟨_, rfl⟩
    have wb : Below w3.heap.size w3 W := by rw [HW.out]; exact below_alloc (Below.refl _ _) _
    have B1 := a1.below wb
    have B2 := a2.below wb
    have B3 : Bk W w3.heap.size (.bool s1) (.slice A3 n3 c3) (.slice none 0 0) := by rw [HW.out]; exact Bk.new w3 _ _ _ 24
    have BM := m2.below wb
    have BB := bthen ab wb
    have O3 := own_later o3 wb
    have hF0 : w.heap.size + 1 < w3.heap.size := a2.lt
    have BN : ∀ ad, A3 = some ad → ad.block ≠ w3.heap.size ∧ ad.block ≠ w.heap.size + 1 ∧ True := fun ad h => by
      have h1 := own_range o3 ad h
      have h2 : u.drew.heap.size = u.heap.size := rfl
      exact ⟨by omega, by omega, trivial⟩
    clear wb
    have C1 := B1.drew
    have C2 := B2.drew
    have C3 := B3.drew
    have C4 := BM.drew
    have CB := below_drew BB
    have k0 := B1.c2
    have CO := own_later O3 (below_drew (Below.refl _ W))
    have CN := Lib.hid BN
    clear m1 y1 y2 yb q0 q1 q2 z1 z2 z3 m0 zb a1 a2 m2 ab B1 B2 B3 BM BB O3 BN o3
    go_wp2_with fail
    rw [← HW.out]
    go_region_held3 (fun w' => w'.cell? ⟨w.heap.size, 2, none⟩ = some (.slice A2 n2 c2))
      (first | (with_reducible exact k0) | (with_reducible exact C1.c2) | (with_reducible exact D1.c2) | (with_reducible exact E1.c2) | go_keep)
      (first
        | (go_at_call 86
           (with_reducible refine (small_any _ _ (by omega) (by omega)).mono ?_)
           rintro e w5 ⟨A5, n5, c5, rfl, h5, ⟨hb5, _⟩⟩
           have h5 : Sl w5 A5 n5 c5 (dig 1) := h5
           have hn5 : n5 ≤ 1 := by rw [← h5.len]; exact len_small (by decide)
           have D1 := C1.below hb5
           have D2 := C2.below hb5
           have D3 := C3.below hb5
           have D4 := C4.below hb5
           have DO := own_later CO hb5
           have DB := bthen CB hb5)
        | (go_at_call 85
           (with_reducible refine (compare_gt A2 A5 n2 n5 c2 c5 (rd q) 1 _ D4.den h5 (by omega) (by omega) (by omega)).mono ?_)
           rintro e w6 ⟨rfl, m6, rfl⟩
           have hb6 := below_draws w5 m6
           have E1 := D1.below hb6
           have E2 := D2.below hb6
           have E3 := D3.below hb6
           have E4 := D4.below hb6
           have EO := own_later DO hb6
           have EB := bthen DB hb6
           have p0 := E1.c2
           have p1 := E3.c0
           have p2 := E3.c1
           have p3 := E3.c2
           have p4 := E2.c0
           have p5 := E2.c1
           have p6 := E2.c2
           have p7 := E2.fz 0
           have p8 := E2.fz 1
           have p9 := E2.fz 2))
    clear C1 C2 C3 C4 CO CB D1 D2 D3 D4 DO DB k0
    go_wp2_with fail
    (with_reducible refine (cloneN_any A2 c2 _ _ n2 E4.den (by omega)).mono ?_)
    rintro e w7 ⟨A7, n7, c7, rfl, o7, hn7, hb7⟩
    have R7 := own_range o7
    have G1 := E1.below hb7
    have G2 := E2.below hb7
    have G3 := E3.below hb7
    have GO := own_later EO hb7
    have GB := bthen EB hb7
    have hF7 := hb7.size
    have hEF := E3.lt
    have r1 := G3.c0
    have r2 := G3.c1
    have r3 := G3.c2
    have r4 := G2.c0
    have r5 := G2.c1
    have r6 := G2.c2
    have r7 := G2.fz 0
    have r8 := G2.fz 1
    have r9 := G2.fz 2
    have r10 := G3.fz 2
    have s7 := Lib.hid (own_setCell (k := 2) o7 (g := w3.heap.size) (fun ad h => by have := R7 ad h; omega) (.slice A7 n7 c7))
    have s3 := Lib.hid (own_setCell (k := 2) GO (g := w3.heap.size) (fun ad h => (CN.out ad h).1) (.slice A7 n7 c7))
    have sb := Lib.hid (GB.setCell (p := ⟨w3.heap.size, 2, none⟩) (by show w.heap.size ≤ w3.heap.size; omega) (.slice A7 n7 c7))
    have HRD : Hid (rD q = rd q) := Lib.hid (by unfold rD rd at *; rw [if_neg hd])
    have hBB := EB.size
    have T7 : Hid (∀ x y z, (put3 (w7.setCell ⟨w3.heap.size, 2, none⟩ (.slice A7 n7 c7)) (w.heap.size + 1) x y z).ownsRow w.heap.size 57 1 (.slice A7 n7 c7) n7 (u32s (dig (rd q)))) := Lib.hid (fun x y z => own_base (own_put3 s7.out (fun ad h => by have := R7 ad h; omega) x y z) hBB)
    have T3 : Hid (∀ x y z, (put3 (w7.setCell ⟨w3.heap.size, 2, none⟩ (.slice A7 n7 c7)) (w.heap.size + 1) x y z).ownsRow w.heap.size 57 1 (.slice A3 n3 c3) n3 (u32s (dig (rn q)))) := Lib.hid (fun x y z => own_base (own_put3 s3.out (fun ad h => (CN.out ad h).2.1) x y z) (by have h2 : u.drew.heap.size = u.heap.size := rfl; omega))
    have TB : Hid (∀ x y z, Below w.heap.size w (put3 (w7.setCell ⟨w3.heap.size, 2, none⟩ (.slice A7 n7 c7)) (w.heap.size + 1) x y z)) := Lib.hid (fun x y z => below_put3 sb.out (by omega) x y z)
    have HN := Lib.hid E4.neg
    clear G1 G2 G3 GO GB R7 E1 E2 E3 E4 EO EB p0 p1 p2 p3 p4 p5 p6 p7 p8 p9 hb7 o7 hF7 hEF
    go_wp2_with fail
    exact bodyPost_ret (v := .agg #[.bool s1, .slice A3 n3 c3, .slice A7 n7 c7]) (by simp [results, Tryd.results74, go_sem, r4, r5, r6]) rfl
      ⟨s1, A3, n3, c3, A7, n7, c7, rfl, ⟨HN.out, Sl.of_own (T3.out _ _ _), by rw [HRD.out]; exact Sl.of_own (T7.out _ _ _)⟩, T3.out _ _ _, by rw [HRD.out]; exact T7.out _ _ _, TB.out _ _ _⟩
  · obtain ⟨W, HW⟩ : ∃ W, Hid (W = ((w3.setCell ⟨u.heap.size, 0, none⟩ (.bool s1)).setCell ⟨u.heap.size, 1, none⟩ (.slice A3 n3 c3)).setCell ⟨u.heap.size, 2, none⟩ (.slice none 0 0)) := ⟨_, rfl⟩
    have HW2 : W = put3 w3 u.heap.size (.bool s1) (.slice A3 n3 c3) (.slice none 0 0) := HW.out
    have B1 : Bk W w.heap.size (.bool s1) (.slice A1 n1 c1) (.slice A2 n2 c2) := by rw [HW2]; exact a1.put (by omega) _ _ _
    have B2 : Bk W (w.heap.size + 1) (.bool false) (.slice none 0 0) (.slice none 0 0) := by rw [HW2]; exact a2.put (by omega) _ _ _
    have B3 : Bk W u.heap.size (.bool s1) (.slice A3 n3 c3) (.slice none 0 0) := by rw [HW2]; exact a3.self _ _ _
    have BM : Nm W s1 A1 n1 c1 A2 n2 c2 q := by rw [HW2]; exact m2.put3 a3 _ _ _
    have BB : Below w.heap.size w W := by rw [HW2]; exact below_put3 ab (by omega) _ _ _
    have h9 : v.drew.heap.size = u.heap.size + 1 := us'.out
    have BN : ∀ ad, A3 = some ad → ad.block ≠ u.heap.size ∧ ad.block ≠ w.heap.size + 1 ∧ True := fun ad h => by
      have h1 := own_range o3 ad h
      exact ⟨by omega, by omega, trivial⟩
    have O3 : W.ownsRow v.drew.heap.size 57 1 (.slice A3 n3 c3) n3 (u32s (dig (rn q))) := by rw [HW2]; exact own_put3 o3 (fun ad h => (BN ad h).1) _ _ _
    clear HW2 h9 a3 g1 f1 t0 t1 t2 v0 v1 v2
    have C1 := B1.drew
    have C2 := B2.drew
    have C3 := B3.drew
    have C4 := BM.drew
    have CB := below_drew BB
    have k0 := B1.c2
    have CO := own_later O3 (below_drew (Below.refl _ W))
    have CN := Lib.hid BN
    clear m1 y1 y2 yb q0 q1 q2 z1 z2 z3 m0 zb a1 a2 m2 ab B1 B2 B3 BM BB O3 BN o3
    go_wp2_with fail
    rw [← HW.out]
    go_region_held3 (fun w' => w'.cell? ⟨w.heap.size, 2, none⟩ = some (.slice A2 n2 c2))
      (first | (with_reducible exact k0) | (with_reducible exact C1.c2) | (with_reducible exact D1.c2) | (with_reducible exact E1.c2) | go_keep)
      (first
        | (go_at_call 86
           (with_reducible refine (small_any _ _ (by omega) (by omega)).mono ?_)
           rintro e w5 ⟨A5, n5, c5, rfl, h5, ⟨hb5, _⟩⟩
           have h5 : Sl w5 A5 n5 c5 (dig 1) := h5
           have hn5 : n5 ≤ 1 := by rw [← h5.len]; exact len_small (by decide)
           have D1 := C1.below hb5
           have D2 := C2.below hb5
           have D3 := C3.below hb5
           have D4 := C4.below hb5
           have DO := own_later CO hb5
           have DB := bthen CB hb5)
        | (go_at_call 85
           (with_reducible refine (compare_gt A2 A5 n2 n5 c2 c5 (rd q) 1 _ D4.den h5 (by omega) (by omega) (by omega)).mono ?_)
           rintro e w6 ⟨rfl, m6, rfl⟩
           have hb6 := below_draws w5 m6
           have E1 := D1.below hb6
           have E2 := D2.below hb6
           have E3 := D3.below hb6
           have E4 := D4.below hb6
           have EO := own_later DO hb6
           have EB := bthen DB hb6
           have p0 := E1.c2
           have p1 := E3.c0
           have p2 := E3.c1
           have p3 := E3.c2
           have p4 := E2.c0
           have p5 := E2.c1
           have p6 := E2.c2
           have p7 := E2.fz 0
           have p8 := E2.fz 1
           have p9 := E2.fz 2))
    clear C1 C2 C3 C4 CO CB D1 D2 D3 D4 DO DB k0
    go_wp2_with fail
    (with_reducible refine (cloneN_any A2 c2 _ _ n2 E4.den (by omega)).mono ?_)
    rintro e w7 ⟨A7, n7, c7, rfl, o7, hn7, hb7⟩
    have R7 := own_range o7
    have G1 := E1.below hb7
    have G2 := E2.below hb7
    have G3 := E3.below hb7
    have GO := own_later EO hb7
    have GB := bthen EB hb7
    have hF7 := hb7.size
    have hEF := E3.lt
    have r1 := G3.c0
    have r2 := G3.c1
    have r3 := G3.c2
    have r4 := G2.c0
    have r5 := G2.c1
    have r6 := G2.c2
    have r7 := G2.fz 0
    have r8 := G2.fz 1
    have r9 := G2.fz 2
    have r10 := G3.fz 2
    have s7 := Lib.hid (own_setCell (k := 2) o7 (g := u.heap.size) (fun ad h => by have := R7 ad h; omega) (.slice A7 n7 c7))
    have s3 := Lib.hid (own_setCell (k := 2) GO (g := u.heap.size) (fun ad h => (CN.out ad h).1) (.slice A7 n7 c7))
    have sb := Lib.hid (GB.setCell (p := ⟨u.heap.size, 2, none⟩) (by show w.heap.size ≤ u.heap.size; omega) (.slice A7 n7 c7))
    have HRD : Hid (rD q = rd q) := Lib.hid (by unfold rD rd at *; rw [if_neg hd])
    have hBB := EB.size
    have T7 : Hid (∀ x y z, (put3 (w7.setCell ⟨u.heap.size, 2, none⟩ (.slice A7 n7 c7)) (w.heap.size + 1) x y z).ownsRow w.heap.size 57 1 (.slice A7 n7 c7) n7 (u32s (dig (rd q)))) := Lib.hid (fun x y z => own_base (own_put3 s7.out (fun ad h => by have := R7 ad h; omega) x y z) hBB)
    have T3 : Hid (∀ x y z, (put3 (w7.setCell ⟨u.heap.size, 2, none⟩ (.slice A7 n7 c7)) (w.heap.size + 1) x y z).ownsRow w.heap.size 57 1 (.slice A3 n3 c3) n3 (u32s (dig (rn q)))) := Lib.hid (fun x y z => own_base (own_put3 s3.out (fun ad h => (CN.out ad h).2.1) x y z) (by have h2 : v.drew.heap.size = u.heap.size + 1 := us'.out; omega))
    have TB : Hid (∀ x y z, Below w.heap.size w (put3 (w7.setCell ⟨u.heap.size, 2, none⟩ (.slice A7 n7 c7)) (w.heap.size + 1) x y z)) := Lib.hid (fun x y z => below_put3 sb.out (by omega) x y z)
    have HN := Lib.hid E4.neg
    clear G1 G2 G3 GO GB R7 E1 E2 E3 E4 EO EB p0 p1 p2 p3 p4 p5 p6 p7 p8 p9 hb7 o7 hF7 hEF
    go_wp2_with fail
    exact bodyPost_ret (v := .agg #[.bool s1, .slice A3 n3 c3, .slice A7 n7 c7]) (by simp [results, Tryd.results74, go_sem, r4, r5, r6]) rfl
      ⟨s1, A3, n3, c3, A7, n7, c7, rfl, ⟨HN.out, Sl.of_own (T3.out _ _ _), by rw [HRD.out]; exact Sl.of_own (T7.out _ _ _)⟩, T3.out _ _ _, by rw [HRD.out]; exact T7.out _ _ _, TB.out _ _ _⟩
set_option maxHeartbeats 4000000 in
theorem give_two (s1 : Bool) (A1 A2 : Option Addr) (n1 n2 c1 c2 : Nat) (q : Rat) (w : World) (h : Nm w s1 A1 n1 c1 A2 n2 c2 q) (l1 : n1 ≤ 10000000) (l2 : n2 ≤ 10000000) (hd : rd q = 1) :
    Calls Tryd.prog 74 #[.agg #[.bool s1, .slice A1 n1 c1, .slice A2 n2 c2]] w (FrPost q w) := by
  obtain ⟨u, HU, x1, x2, xb⟩ := boxes2 w (.bool s1) (.slice A1 n1 c1) (.slice A2 n2 c2) (.bool false) (.slice none 0 0) (.slice none 0 0) 66 24
  have m1 := (h.below xb).drew
  have y1 := x1.drew
  have y2 := x2.drew
  have yb := below_drew xb
  have q0 := x1.c0
  have q1 := x1.c1
  have q2 := x1.c2
  obtain ⟨v, HV⟩ : ∃ v, Hid (v = u.alloc (.cells #[.bool false, .slice none 0 0, .slice none 0 0] 24)) := ⟨_, rfl⟩
  have ub : Below u.heap.size u v := by rw [HV.out]; exact below_alloc (Below.refl _ _) _
  have us : v.heap.size = u.heap.size + 1 := by rw [HV.out]; simp
  have z1 := (x1.below ub).drew
  have z2 := (x2.below ub).drew
  have z3 : Bk v.drew u.heap.size (.bool false) (.slice none 0 0) (.slice none 0 0) := by rw [HV.out]; exact (Bk.new u _ _ _ 24).drew
  have m0 := ((h.below xb).below ub).drew
  have zb := below_drew (bthen xb ub)
  have hul : w.heap.size + 1 < u.heap.size := x2.lt
  have HDQ := Lib.hid hd
  have us' := Lib.hid us
  clear h us
  go_enter Tryd.func74, Tryd.ntmps74
  go_wp2_with fail
  rw [← HU.out]
  go_region_held3 (fun w' => w'.cell? ⟨w.heap.size, 0, none⟩ = some (.bool s1) ∧ w'.cell? ⟨w.heap.size, 1, none⟩ = some (.slice A1 n1 c1))
    (first | (with_reducible exact ⟨q0, q1⟩) | (with_reducible exact ⟨y1.c0, y1.c1⟩) | (with_reducible exact ⟨a1.c0, a1.c1⟩) | (with_reducible exact ⟨(a1.alloc _).c0, (a1.alloc _).c1⟩) | (with_reducible exact ⟨(x1.alloc _).c0, (x1.alloc _).c1⟩) | (with_reducible exact ⟨(x1.alloc _).drew.c0, (x1.alloc _).drew.c1⟩) | (with_reducible exact f1) | go_keep)
    (first
      | (go_at_call 114
         (with_reducible refine (cloneN_any A1 c1 _ u.drew n1 m1.num (by omega)).mono ?_)
         rintro e w3 ⟨A3, n3, c3, rfl, o3, hn3, hb3⟩
         have a1 := y1.below hb3
         have a2 := y2.below hb3
         have m2 := m1.below hb3
         have ab := bthen yb hb3)
      | (go_at_call 114
         rw [← HV.out]
         (with_reducible refine (cloneN_any A1 c1 _ v.drew n1 m0.num (by omega)).mono ?_)
         rintro e w3 ⟨A3, n3, c3, rfl, o3, hn3, hb3⟩
         have a1 := z1.below hb3
         have a2 := z2.below hb3
         have a3 := z3.below hb3
         have m2 := m0.below hb3
         have ab := bthen zb hb3
         have g1 := a1.put (g' := u.heap.size) (by omega) (.bool s1) (.slice A3 n3 c3) (.slice none 0 0)
         have f1 : (((w3.setCell ⟨u.heap.size, 0, none⟩ (.bool s1)).setCell ⟨u.heap.size, 1, none⟩ (.slice A3 n3 c3)).setCell ⟨u.heap.size, 2, none⟩ (.slice none 0 0)).cell? ⟨w.heap.size, 0, none⟩ = some (.bool s1) ∧
             (((w3.setCell ⟨u.heap.size, 0, none⟩ (.bool s1)).setCell ⟨u.heap.size, 1, none⟩ (.slice A3 n3 c3)).setCell ⟨u.heap.size, 2, none⟩ (.slice none 0 0)).cell? ⟨w.heap.size, 1, none⟩ = some (.slice A1 n1 c1) := ⟨g1.c0, g1.c1⟩
         have t0 := a3.c0
         have t1 := a3.c1
         have t2 := a3.c2
         have v0 := a3.fz 0
         have v1 := a3.fz 1
         have v2 := a3.fz 2))
  · obtain ⟨W, HW⟩ : ∃ W, Hid (W = w3.alloc (.cells #[.bool s1, .slice A3 n3 c3, .slice none 0 0] 24)) := ⟨_, rfl⟩
    have wb : Below w3.heap.size w3 W := by rw [HW.out]; exact below_alloc (Below.refl _ _) _
    have B1 := a1.below wb
    have B2 := a2.below wb
    have B3 : Bk W w3.heap.size (.bool s1) (.slice A3 n3 c3) (.slice none 0 0) := by rw [HW.out]; exact Bk.new w3 _ _ _ 24
    have BM := m2.below wb
    have BB := bthen ab wb
    have O3 := own_later o3 wb
    have hF0 : w.heap.size + 1 < w3.heap.size := a2.lt
    have BN : ∀ ad, A3 = some ad → ad.block ≠ w3.heap.size ∧ ad.block ≠ w.heap.size + 1 ∧ True := fun ad h => by
      have h1 := own_range o3 ad h
      have h2 : u.drew.heap.size = u.heap.size := rfl
      exact ⟨by omega, by omega, trivial⟩
    clear wb
    have C1 := B1.drew
    have C2 := B2.drew
    have C3 := B3.drew
    have C4 := BM.drew
    have CB := below_drew BB
    have k0 := B1.c2
    have CO := own_later O3 (below_drew (Below.refl _ W))
    have CN := Lib.hid BN
    clear m1 y1 y2 yb q0 q1 q2 z1 z2 z3 m0 zb a1 a2 m2 ab B1 B2 B3 BM BB O3 BN o3
    go_wp2_with fail
    rw [← HW.out]
    go_region_held3 (fun w' => w'.cell? ⟨w.heap.size, 2, none⟩ = some (.slice A2 n2 c2))
      (first | (with_reducible exact k0) | (with_reducible exact C1.c2) | (with_reducible exact D1.c2) | (with_reducible exact E1.c2) | go_keep)
      (first
        | (go_at_call 86
           (with_reducible refine (small_any _ _ (by omega) (by omega)).mono ?_)
           rintro e w5 ⟨A5, n5, c5, rfl, h5, ⟨hb5, _⟩⟩
           have h5 : Sl w5 A5 n5 c5 (dig 1) := h5
           have hn5 : n5 ≤ 1 := by rw [← h5.len]; exact len_small (by decide)
           have D1 := C1.below hb5
           have D2 := C2.below hb5
           have D3 := C3.below hb5
           have D4 := C4.below hb5
           have DO := own_later CO hb5
           have DB := bthen CB hb5)
        | (go_at_call 85
           (with_reducible refine (compare_eq A2 A5 n2 n5 c2 c5 (rd q) 1 _ D4.den h5 (by omega) (by omega) (by omega)).mono ?_)
           rintro e w6 ⟨rfl, m6, rfl⟩
           have hb6 := below_draws w5 m6
           have E1 := D1.below hb6
           have E2 := D2.below hb6
           have E3 := D3.below hb6
           have E4 := D4.below hb6
           have EO := own_later DO hb6
           have EB := bthen DB hb6
           have p0 := E1.c2
           have p1 := E3.c0
           have p2 := E3.c1
           have p3 := E3.c2
           have p4 := E2.c0
           have p5 := E2.c1
           have p6 := E2.c2
           have p7 := E2.fz 0
           have p8 := E2.fz 1
           have p9 := E2.fz 2))
    clear C1 C2 C3 C4 CO CB D1 D2 D3 D4 DO DB k0
    go_wp2_with fail
    have HRD : Hid (rD q = 0) := Lib.hid (by unfold rD rd at *; rw [if_pos hd])
    have T3 : Hid (∀ x y z, (put3 (w5.drewN m6) (w.heap.size + 1) x y z).ownsRow w.heap.size 57 1 (.slice A3 n3 c3) n3 (u32s (dig (rn q)))) := Lib.hid (fun x y z => own_base (own_put3 EO (fun ad h => (CN.out ad h).2.1) x y z) (by have h2 : u.drew.heap.size = u.heap.size := rfl; omega))
    have TB : Hid (∀ x y z, Below w.heap.size w (put3 (w5.drewN m6) (w.heap.size + 1) x y z)) := Lib.hid (fun x y z => below_put3 EB (by omega) x y z)
    exact bodyPost_ret (v := .agg #[.bool s1, .slice A3 n3 c3, .slice none 0 0]) (by simp [results, Tryd.results74, go_sem, p4, p5, p6]) rfl
      ⟨s1, A3, n3, c3, none, 0, 0, rfl, ⟨E4.neg, Sl.of_own (T3.out _ _ _), by rw [HRD.out, dig_zero]; exact ⟨rfl, Nat.le_refl _, Rd.nil_ _ _⟩⟩, T3.out _ _ _, by rw [HRD.out, dig_zero]; exact World.ownsRow_nil _ _ _ _, TB.out _ _ _⟩
  · obtain ⟨W, HW⟩ : ∃ W, Hid (W = ((w3.setCell ⟨u.heap.size, 0, none⟩ (.bool s1)).setCell ⟨u.heap.size, 1, none⟩ (.slice A3 n3 c3)).setCell ⟨u.heap.size, 2, none⟩ (.slice none 0 0)) := ⟨_, rfl⟩
    have HW2 : W = put3 w3 u.heap.size (.bool s1) (.slice A3 n3 c3) (.slice none 0 0) := HW.out
    have B1 : Bk W w.heap.size (.bool s1) (.slice A1 n1 c1) (.slice A2 n2 c2) := by rw [HW2]; exact a1.put (by omega) _ _ _
    have B2 : Bk W (w.heap.size + 1) (.bool false) (.slice none 0 0) (.slice none 0 0) := by rw [HW2]; exact a2.put (by omega) _ _ _
    have B3 : Bk W u.heap.size (.bool s1) (.slice A3 n3 c3) (.slice none 0 0) := by rw [HW2]; exact a3.self _ _ _
    have BM : Nm W s1 A1 n1 c1 A2 n2 c2 q := by rw [HW2]; exact m2.put3 a3 _ _ _
    have BB : Below w.heap.size w W := by rw [HW2]; exact below_put3 ab (by omega) _ _ _
    have h9 : v.drew.heap.size = u.heap.size + 1 := us'.out
    have BN : ∀ ad, A3 = some ad → ad.block ≠ u.heap.size ∧ ad.block ≠ w.heap.size + 1 ∧ True := fun ad h => by
      have h1 := own_range o3 ad h
      exact ⟨by omega, by omega, trivial⟩
    have O3 : W.ownsRow v.drew.heap.size 57 1 (.slice A3 n3 c3) n3 (u32s (dig (rn q))) := by rw [HW2]; exact own_put3 o3 (fun ad h => (BN ad h).1) _ _ _
    clear HW2 h9 a3 g1 f1 t0 t1 t2 v0 v1 v2
    have C1 := B1.drew
    have C2 := B2.drew
    have C3 := B3.drew
    have C4 := BM.drew
    have CB := below_drew BB
    have k0 := B1.c2
    have CO := own_later O3 (below_drew (Below.refl _ W))
    have CN := Lib.hid BN
    clear m1 y1 y2 yb q0 q1 q2 z1 z2 z3 m0 zb a1 a2 m2 ab B1 B2 B3 BM BB O3 BN o3
    go_wp2_with fail
    rw [← HW.out]
    go_region_held3 (fun w' => w'.cell? ⟨w.heap.size, 2, none⟩ = some (.slice A2 n2 c2))
      (first | (with_reducible exact k0) | (with_reducible exact C1.c2) | (with_reducible exact D1.c2) | (with_reducible exact E1.c2) | go_keep)
      (first
        | (go_at_call 86
           (with_reducible refine (small_any _ _ (by omega) (by omega)).mono ?_)
           rintro e w5 ⟨A5, n5, c5, rfl, h5, ⟨hb5, _⟩⟩
           have h5 : Sl w5 A5 n5 c5 (dig 1) := h5
           have hn5 : n5 ≤ 1 := by rw [← h5.len]; exact len_small (by decide)
           have D1 := C1.below hb5
           have D2 := C2.below hb5
           have D3 := C3.below hb5
           have D4 := C4.below hb5
           have DO := own_later CO hb5
           have DB := bthen CB hb5)
        | (go_at_call 85
           (with_reducible refine (compare_eq A2 A5 n2 n5 c2 c5 (rd q) 1 _ D4.den h5 (by omega) (by omega) (by omega)).mono ?_)
           rintro e w6 ⟨rfl, m6, rfl⟩
           have hb6 := below_draws w5 m6
           have E1 := D1.below hb6
           have E2 := D2.below hb6
           have E3 := D3.below hb6
           have E4 := D4.below hb6
           have EO := own_later DO hb6
           have EB := bthen DB hb6
           have p0 := E1.c2
           have p1 := E3.c0
           have p2 := E3.c1
           have p3 := E3.c2
           have p4 := E2.c0
           have p5 := E2.c1
           have p6 := E2.c2
           have p7 := E2.fz 0
           have p8 := E2.fz 1
           have p9 := E2.fz 2))
    clear C1 C2 C3 C4 CO CB D1 D2 D3 D4 DO DB k0
    go_wp2_with fail
    have HRD : Hid (rD q = 0) := Lib.hid (by unfold rD rd at *; rw [if_pos hd])
    have T3 : Hid (∀ x y z, (put3 (w5.drewN m6) (w.heap.size + 1) x y z).ownsRow w.heap.size 57 1 (.slice A3 n3 c3) n3 (u32s (dig (rn q)))) := Lib.hid (fun x y z => own_base (own_put3 EO (fun ad h => (CN.out ad h).2.1) x y z) (by have h2 : v.drew.heap.size = u.heap.size + 1 := us'.out; omega))
    have TB : Hid (∀ x y z, Below w.heap.size w (put3 (w5.drewN m6) (w.heap.size + 1) x y z)) := Lib.hid (fun x y z => below_put3 EB (by omega) x y z)
    exact bodyPost_ret (v := .agg #[.bool s1, .slice A3 n3 c3, .slice none 0 0]) (by simp [results, Tryd.results74, go_sem, p4, p5, p6]) rfl
      ⟨s1, A3, n3, c3, none, 0, 0, rfl, ⟨E4.neg, Sl.of_own (T3.out _ _ _), by rw [HRD.out, dig_zero]; exact ⟨rfl, Nat.le_refl _, Rd.nil_ _ _⟩⟩, T3.out _ _ _, by rw [HRD.out, dig_zero]; exact World.ownsRow_nil _ _ _ _, TB.out _ _ _⟩
end Go.Proofs.YtaahbabdbopphaaDoor
namespace Go.Proofs.YtaahbabdbopphaaDoor
open Go.RowKit Mx
set_option maxRecDepth 100000

set_option maxHeartbeats 1000000 in
theorem nfloor_any (s1 : Bool) (A1 A2 : Option Addr) (n1 n2 c1 c2 : Nat) (q : Rat) (w : World) (h : Nm w s1 A1 n1 c1 A2 n2 c2 q) (l1 : n1 ≤ 10000000) (l2 : n2 ≤ 10000000) :
    Calls Tryd.prog 80 #[.agg #[.bool s1, .slice A1 n1 c1, .slice A2 n2 c2]] w (NmPost ((q.floor : Int) : Rat) w) := by
  obtain ⟨u, HU, x1, x2, xb⟩ := boxes2 w (.bool s1) (.slice A1 n1 c1) (.slice A2 n2 c2) (.bool false) (.slice none 0 0) (.slice none 0 0) 66 66
  have m := h.below xb
  have hp := floor_parts q
  have HN : Hid (∀ (wx : World) (b : Bool) (A : Option Addr) (n c : Nat) (B : Option Addr) (k d : Nat), Sl wx A n c (dig (flo q)) → Sl wx B k d (dig 1) → b = (s1 && decide (0 < flo q)) → Nm wx b A n c B k d ((q.floor : Int) : Rat)) := Lib.hid (fun wx b A n c B k d g1 g2 g3 =>
    ⟨by rw [hp.1, ← h.neg]; exact g3, by rw [hp.2.1]; exact g1, by rw [hp.2.2]; exact g2⟩)
  have hne := h.neg
  have HNE := Lib.hid hne
  clear hp h hne
  have q0 := x1.c0
  have q1 := x1.c1
  have q2 := x1.c2
  go_enter Tryd.func80, Tryd.ntmps80
  go_wp2_with fail
  rw [← HU.out]
  refine (div_any A1 A2 n1 n2 c1 c2 (rn q) (rd q) _ m.num m.den l1 l2 (rd_ne q)).mono ?_
  rintro e w1 ⟨A3, n3, c3, A4, n4, c4, rfl, h3, h4, b1⟩
  have hn3 : n3 ≤ 10000000 := by rw [← h3.len]; exact Nat.le_trans (len_mono (Nat.div_le_self _ _)) (by rw [m.num.len]; exact l1)
  have hn4 : n4 ≤ 10000000 := by rw [← h4.len]; exact Nat.le_trans (len_mono (Nat.mod_le _ _)) (by rw [m.num.len]; exact l1)
  have y1 := x1.below b1
  have y2 := x2.below b1
  have yb := bthen xb b1
  have hr : 0 < n4 ↔ rn q % rd q ≠ 0 := by rw [← h4.len, len_dig_pos]
  have hl3 : (dig (rn q / rd q)).length = n3 := h3.len
  have HR := Lib.hid hr
  have HL3 := Lib.hid hl3
  clear hr hl3 x1 x2 xb b1 q0 q1 q2 m
  have q0 := y1.c0
  cases s1 with
  | false =>
    have HF : Hid (flo q = rn q / rd q) := Lib.hid (by unfold flo; rw [← HNE.out]; simp)
    have h3' : Sl w1 A3 n3 c3 (dig (flo q)) := by rw [HF.out]; exact h3
    go_wp2_with fail
    refine (small_any _ _ (by omega) (by omega)).mono ?_
    rintro e w5 ⟨A5, n5, c5, rfl, h5, ⟨b5, _⟩⟩
    have h5 : Sl w5 A5 n5 c5 (dig 1) := h5
    have Y2 := y2.below b5
    have NN := HN.out w5 _ _ _ _ _ _ _ (h3'.below b5) h5 (show false = (false && decide (0 < flo q)) from rfl)
    have G := Lib.hid (NN.ret rfl Y2 (by omega) (bthen yb b5))
    have t0 := Y2.c0
    have t1 := Y2.c1
    have t2 := Y2.c2
    have v0 := Y2.fz 0
    have v1 := Y2.fz 1
    have v2 := Y2.fz 2
    clear NN
    go_wp2_with fail
    exact bodyPost_ret (v := .agg #[.bool false, .slice A3 n3 c3, .slice A5 n5 c5]) (by simp [results, Tryd.results80, go_sem, t0, t1, t2]) rfl G.out
  | true =>
    have HP := Lib.hid (flo_pos (q := q) HNE.out.symm)
    by_cases h0 : 0 < n4
    · have HF : Hid (flo q = rn q / rd q + 1) := Lib.hid (by unfold flo; rw [← HNE.out, if_pos ⟨rfl, HR.out.1 h0⟩])
      go_wp2_with fail
      refine (small_any _ _ (by omega) (by omega)).mono ?_
      rintro e w2 ⟨A6, n6, c6, rfl, h6, ⟨b6, _⟩⟩
      have h6 : Sl w2 A6 n6 c6 (dig 1) := h6
      have hn6 : n6 ≤ 1 := by rw [← h6.len]; exact len_small (by decide)
      have h36 := h3.below b6
      go_wp2_with fail
      refine (add_any A3 A6 n3 n6 c3 c6 _ 1 _ h36 h6 (by omega) (by omega)).mono ?_
      rintro e w3 ⟨A7, n7, c7, rfl, h7, ⟨b7, _⟩⟩
      have h7' : Sl w3 A7 n7 c7 (dig (flo q)) := by rw [HF.out]; exact h7
      have hn7 : 0 < n7 := by rw [← h7'.len]; exact len_dig_pos.2 (by have := HP.out; omega)
      have hn7' : n7 ≤ 10000002 := by rw [← h7.len]; have := len_add (rn q / rd q) 1; rw [HL3.out, show (dig 1).length = n6 from h6.len] at this; omega
      have z1 := (y1.below b6).below b7
      have z2 := (y2.below b6).below b7
      have zb := bthen (bthen yb b6) b7
      have q0 := z1.c0
      clear y1 y2 yb b6 b7 h36 h6 h7
      go_wp2_with fail
      refine (small_any _ _ (by omega) (by omega)).mono ?_
      rintro e w5 ⟨A5, n5, c5, rfl, h5, ⟨b5, _⟩⟩
      have h5 : Sl w5 A5 n5 c5 (dig 1) := h5
      have Y2 := z2.below b5
      have NN := HN.out w5 _ _ _ _ _ _ _ (h7'.below b5) h5 (show true = (true && decide (0 < flo q)) by rw [decide_eq_true HP.out]; rfl)
      have G := Lib.hid (NN.ret rfl Y2 (by omega) (bthen zb b5))
      have t0 := Y2.c0
      have t1 := Y2.c1
      have t2 := Y2.c2
      have v0 := Y2.fz 0
      have v1 := Y2.fz 1
      have v2 := Y2.fz 2
      clear NN
      go_wp2_with fail
      exact bodyPost_ret (v := .agg #[.bool true, .slice A7 n7 c7, .slice A5 n5 c5]) (by simp [results, Tryd.results80, go_sem, t0, t1, t2]) rfl G.out
    · have HF : Hid (flo q = rn q / rd q) := Lib.hid (by unfold flo; rw [if_neg (fun hh => h0 (HR.out.2 hh.2))]; rfl)
      have hd0 : decide ((0 : Int) < (n4 : Int)) = false := decide_eq_false (by omega)
      have h3' : Sl w1 A3 n3 c3 (dig (flo q)) := by rw [HF.out]; exact h3
      have hn3' : 0 < n3 := by rw [← h3'.len]; exact len_dig_pos.2 (by have := HP.out; omega)
      go_wp2_with fail
      refine (small_any _ _ (by omega) (by omega)).mono ?_
      rintro e w5 ⟨A5, n5, c5, rfl, h5, ⟨b5, _⟩⟩
      have h5 : Sl w5 A5 n5 c5 (dig 1) := h5
      have Y2 := y2.below b5
      have NN := HN.out w5 _ _ _ _ _ _ _ (h3'.below b5) h5 (show true = (true && decide (0 < flo q)) by rw [decide_eq_true HP.out]; rfl)
      have G := Lib.hid (NN.ret rfl Y2 (by omega) (bthen yb b5))
      have t0 := Y2.c0
      have t1 := Y2.c1
      have t2 := Y2.c2
      have v0 := Y2.fz 0
      have v1 := Y2.fz 1
      have v2 := Y2.fz 2
      clear NN
      go_wp2_with fail
      exact bodyPost_ret (v := .agg #[.bool true, .slice A3 n3 c3, .slice A5 n5 c5]) (by simp [results, Tryd.results80, go_sem, t0, t1, t2]) rfl G.out
end Go.Proofs.YtaahbabdbopphaaDoor
namespace Go.Proofs.YtaahbabdbopphaaDoor
open Go.RowKit Mx
set_option maxRecDepth 100000

/-- A sign and two slices of digits, of whatever form, whose value is q. -/
def Rf (w : World) (sb : Bool) (A1 : Option Addr) (n1 c1 : Nat) (A2 : Option Addr) (n2 c2 : Nat) (q : Rat) : Prop :=
  ∃ xs ys, Sl w A1 n1 c1 xs ∧ Sl w A2 n2 c2 ys ∧ Ds xs ∧ Ds ys ∧ q = fv sb (val xs) (val ys)
theorem Rf.below {w w' : World} {sb : Bool} {A1 : Option Addr} {n1 c1 : Nat} {A2 : Option Addr} {n2 c2 : Nat} {q : Rat} (h : Rf w sb A1 n1 c1 A2 n2 c2 q) (hb : Below w.heap.size w w') : Rf w' sb A1 n1 c1 A2 n2 c2 q := by
  obtain ⟨xs, ys, h1, h2, h3⟩ := h
  exact ⟨xs, ys, h1.below hb, h2.below hb, h3⟩
theorem Rf.drew {w : World} {sb : Bool} {A1 : Option Addr} {n1 c1 : Nat} {A2 : Option Addr} {n2 c2 : Nat} {q : Rat} (h : Rf w sb A1 n1 c1 A2 n2 c2 q) : Rf w.drew sb A1 n1 c1 A2 n2 c2 q := h.below (below_drew (Below.refl _ w))
theorem Fr.rf {w : World} {sb : Bool} {A1 : Option Addr} {n1 c1 : Nat} {A2 : Option Addr} {n2 c2 : Nat} {q : Rat} (h : Fr w sb A1 n1 c1 A2 n2 c2 q) : Rf w sb A1 n1 c1 A2 n2 c2 q :=
  ⟨_, _, h.num, h.den, ds_dig _, ds_dig _, by rw [val_dig, val_dig, h.neg, fv_canon]⟩
theorem Rf.len {w : World} {sb : Bool} {A1 : Option Addr} {n1 c1 : Nat} {A2 : Option Addr} {n2 c2 : Nat} {q : Rat} (h : Rf w sb A1 n1 c1 A2 n2 c2 q) : ln q ≤ n1 ∧ ld q ≤ n2 + 1 := by
  obtain ⟨xs, ys, h1, h2, d1, d2, rfl⟩ := h
  have e := fv_len sb (val xs) (val ys)
  have e1 := len_val d1
  have e2 := len_val d2
  have e3 := len_low (val ys)
  rw [h1.len] at e1
  rw [h2.len] at e2
  omega
theorem Nm.lens {w : World} {sb : Bool} {A1 : Option Addr} {n1 c1 : Nat} {A2 : Option Addr} {n2 c2 : Nat} {q : Rat} (h : Nm w sb A1 n1 c1 A2 n2 c2 q) : n1 = ln q ∧ n2 = ld q := ⟨h.num.len.symm, h.den.len.symm⟩
theorem takes_any (sb : Bool) (A1 A2 : Option Addr) (n1 n2 c1 c2 : Nat) (q : Rat) (w : World) (h : Rf w sb A1 n1 c1 A2 n2 c2 q) (hl1 : n1 ≤ 1000000) (hl2 : n2 ≤ 1000000) :
    Calls Tryd.prog 70 #[.agg #[.bool sb, .slice A1 n1 c1, .slice A2 n2 c2]] w (NmPost q w) := by
  obtain ⟨xs, ys, h1, h2, d1, d2, rfl⟩ := h
  exact (take_any sb A1 A2 n1 n2 c1 c2 xs ys w h1 h2 d1 d2 (by omega) (by omega)).mono fun e w' hp => hp.nm
theorem gives_any (s1 : Bool) (A1 A2 : Option Addr) (n1 n2 c1 c2 : Nat) (q : Rat) (w : World) (h : Nm w s1 A1 n1 c1 A2 n2 c2 q) (l1 : n1 ≤ 10000000) (l2 : n2 ≤ 10000000) :
    Calls Tryd.prog 74 #[.agg #[.bool s1, .slice A1 n1 c1, .slice A2 n2 c2]] w (FrPost q w) := by
  by_cases hd : rd q = 1
  · exact give_two s1 A1 A2 n1 n2 c1 c2 q w h l1 l2 hd
  · exact give_one s1 A1 A2 n1 n2 c1 c2 q w h l1 l2 hd
theorem Own.put3 {w w1 : World} {A : Option Addr} {n c : Nat} {xs : List Nat} (h : Own w w1 A n c xs) {g : Nat} (hg : ∀ ad, A = some ad → ad.block ≠ g) (x y z : Value) : Own w (put3 w1 g x y z) A n c xs := own_put3 h hg x y z
/-- How a Frac reads that a function hands back through a block of its own, made before the Frac's rows. -/
theorem Fr.ret {w w0 w1 : World} {sb : Bool} {A1 : Option Addr} {n1 c1 : Nat} {A2 : Option Addr} {n2 c2 : Nat} {q : Rat} (h : Fr w1 sb A1 n1 c1 A2 n2 c2 q) (o1 : Own w0 w1 A1 n1 c1 (dig (rn q))) (o2 : Own w0 w1 A2 n2 c2 (dig (rD q)))
    {g : Nat} (hg : w.heap.size ≤ g) (hg' : g < w0.heap.size) (hb : Below w.heap.size w w1) :
    FrPost q w (.returned (.agg #[.bool sb, .slice A1 n1 c1, .slice A2 n2 c2])) (YtaahbabdbopphaaDoor.put3 w1 g (.bool sb) (.slice A1 n1 c1) (.slice A2 n2 c2)) := by
  have p1 := o1.put3 (g := g) (fun ad hA => by have := own_range o1 ad hA; omega) (.bool sb) (.slice A1 n1 c1) (.slice A2 n2 c2)
  have p2 := o2.put3 (g := g) (fun ad hA => by have := own_range o2 ad hA; omega) (.bool sb) (.slice A1 n1 c1) (.slice A2 n2 c2)
  exact ⟨sb, A1, n1, c1, A2, n2, c2, rfl, ⟨h.neg, Sl.of_own p1, Sl.of_own p2⟩, p1.base (by omega), p2.base (by omega), below_put3 hb hg _ _ _⟩
theorem boxes1 (w : World) (a b c : Value) (T : TypeId) : ∃ u, Hid (u = w.alloc (.cells #[a, b, c] T)) ∧ Bk u w.heap.size a b c ∧ Below w.heap.size w u :=
  ⟨_, rfl, Bk.new w a b c T, below_alloc (Below.refl _ w) _⟩

set_option maxHeartbeats 1000000 in
theorem Canon_any (sb : Bool) (A1 A2 : Option Addr) (n1 n2 c1 c2 : Nat) (q : Rat) (w : World) (h : Rf w sb A1 n1 c1 A2 n2 c2 q) (hl1 : n1 ≤ 1000000) (hl2 : n2 ≤ 1000000) :
    Calls Tryd.prog 59 #[.agg #[.bool sb, .slice A1 n1 c1, .slice A2 n2 c2]] w (FrPost q w) := by
  have hlen := h.len
  obtain ⟨u, HU, x1, x2, xb⟩ := boxes2 w (.bool sb) (.slice A1 n1 c1) (.slice A2 n2 c2) (.bool false) (.slice none 0 0) (.slice none 0 0) 24 24
  have h := h.below xb
  have q0 := x1.c0
  have q1 := x1.c1
  have q2 := x1.c2
  go_enter Tryd.func59, Tryd.ntmps59
  go_wp2_with fail
  rw [← HU.out]
  refine (takes_any sb A1 A2 n1 n2 c1 c2 q _ h hl1 hl2).mono ?_
  rintro e w1 ⟨s3, A3, n3, c3, A4, n4, c4, rfl, m3, b3⟩
  have hn3 : n3 ≤ 1000000 := by have := m3.lens; omega
  have hn4 : n4 ≤ 1000001 := by have := m3.lens; omega
  have y2 := x2.below b3
  have yb := bthen xb b3
  go_wp2_with fail
  refine (gives_any s3 A3 A4 n3 n4 c3 c4 q _ m3 (by omega) (by omega)).mono ?_
  rintro e w2 ⟨s5, A5, n5, c5, A6, n6, c6, rfl, f5, o5, o6, b5⟩
  have z2 := y2.below b5
  have zb := bthen yb b5
  have G := Lib.hid (f5.ret o5 o6 (by omega) y2.lt zb)
  have t0 := z2.c0
  have t1 := z2.c1
  have t2 := z2.c2
  have v0 := z2.fz 0
  have v1 := z2.fz 1
  have v2 := z2.fz 2
  clear h x1 x2 xb b3 b5 f5 o5 o6 z2 zb y2 yb
  go_wp2_with fail
  exact bodyPost_ret (v := .agg #[.bool s5, .slice A5 n5 c5, .slice A6 n6 c6]) (by simp [results, Tryd.results59, go_sem, t0, t1, t2]) rfl G.out
end Go.Proofs.YtaahbabdbopphaaDoor
namespace Go.Proofs.YtaahbabdbopphaaDoor
open Go.RowKit Mx
set_option maxRecDepth 100000

set_option maxHeartbeats 1000000 in
theorem Of_any (n : Int) (w : World) (h0 : -9223372036854775808 ≤ n) (h1 : n ≤ 9223372036854775807) :
    Calls Tryd.prog 60 #[.int .i64 n] w (FrPost (n : Rat) w) := by
  have hl := ln_i64 h0 h1
  have hd := (ln_int n).2
  obtain ⟨u, HU, x2, xb⟩ := boxes1 w (.bool false) (.slice none 0 0) (.slice none 0 0) 24
  have HL := Lib.hid (And.intro hl hd)
  clear hl hd
  go_enter Tryd.func60, Tryd.ntmps60
  go_wp2_with fail
  rw [← HU.out]
  refine (whole_any n _ h0 h1).mono ?_
  rintro e w1 ⟨s3, A3, n3, c3, A4, n4, c4, rfl, m3, b3⟩
  have hn3 : n3 ≤ 2 := by have := m3.lens; have := HL.out; omega
  have hn4 : n4 ≤ 1 := by have := m3.lens; have := HL.out; omega
  have y2 := x2.below b3
  have yb := bthen xb b3
  go_wp2_with fail
  refine (gives_any s3 A3 A4 n3 n4 c3 c4 _ _ m3 (by omega) (by omega)).mono ?_
  rintro e w2 ⟨s5, A5, n5, c5, A6, n6, c6, rfl, f5, o5, o6, b5⟩
  have z2 := y2.below b5
  have zb := bthen yb b5
  have G := Lib.hid (f5.ret o5 o6 (Nat.le_refl _) y2.lt zb)
  have t0 := z2.c0
  have t1 := z2.c1
  have t2 := z2.c2
  have v0 := z2.fz 0
  have v1 := z2.fz 1
  have v2 := z2.fz 2
  clear x2 xb b3 b5 f5 o5 o6 z2 zb y2 yb
  go_wp2_with fail
  exact bodyPost_ret (v := .agg #[.bool s5, .slice A5 n5 c5, .slice A6 n6 c6]) (by simp [results, Tryd.results60, go_sem, t0, t1, t2]) rfl G.out

set_option maxHeartbeats 1000000 in
theorem Sign_any (s1 : Bool) (A1 A2 : Option Addr) (n1 n2 c1 c2 : Nat) (q : Rat) (w : World) (h : Rf w s1 A1 n1 c1 A2 n2 c2 q) (hl1 : n1 ≤ 1000000) (hl2 : n2 ≤ 1000000) :
    Calls Tryd.prog 50 #[.agg #[.bool s1, .slice A1 n1 c1, .slice A2 n2 c2]] w (ValPost (.int .i64 (sgn q)) w) := by
  have hlen := h.len
  obtain ⟨u, HU, x1, xb⟩ := boxes1 w (.bool s1) (.slice A1 n1 c1) (.slice A2 n2 c2) 24
  have h := h.below xb
  have q0 := x1.c0
  have q1 := x1.c1
  have q2 := x1.c2
  go_enter Tryd.func50, Tryd.ntmps50
  go_wp2_with fail
  rw [← HU.out]
  refine (takes_any s1 A1 A2 n1 n2 c1 c2 q _ h hl1 hl2).mono ?_
  rintro e w1 ⟨s3, A3, n3, c3, A4, n4, c4, rfl, m3, b3⟩
  have hn3 : n3 ≤ 1000000 := by have := m3.lens; omega
  have yb := bthen xb b3
  go_wp2_with fail
  refine (nsign_any s3 A3 A4 n3 n4 c3 c4 q _ m3 (by omega)).mono ?_
  rintro e w2 ⟨rfl, b5⟩
  have zb := bthen yb b5
  go_wp2_with fail
  go_ret
  exact ⟨rfl, zb⟩

set_option maxHeartbeats 1000000 in
theorem Neg_any (s1 : Bool) (A1 A2 : Option Addr) (n1 n2 c1 c2 : Nat) (q : Rat) (w : World) (h : Rf w s1 A1 n1 c1 A2 n2 c2 q) (hl1 : n1 ≤ 1000000) (hl2 : n2 ≤ 1000000) :
    Calls Tryd.prog 55 #[.agg #[.bool s1, .slice A1 n1 c1, .slice A2 n2 c2]] w (FrPost (-q) w) := by
  have hlen := h.len
  obtain ⟨u, HU, x1, x2, xb⟩ := boxes2 w (.bool s1) (.slice A1 n1 c1) (.slice A2 n2 c2) (.bool false) (.slice none 0 0) (.slice none 0 0) 24 24
  have h := h.below xb
  have HL := Lib.hid (ln_neg q)
  have q0 := x1.c0
  have q1 := x1.c1
  have q2 := x1.c2
  go_enter Tryd.func55, Tryd.ntmps55
  go_wp2_with fail
  rw [← HU.out]
  refine (takes_any s1 A1 A2 n1 n2 c1 c2 q _ h hl1 hl2).mono ?_
  rintro e w1 ⟨s3, A3, n3, c3, A4, n4, c4, rfl, m3, b3⟩
  have hn3 : n3 ≤ 1000000 := by have := m3.lens; omega
  have hn4 : n4 ≤ 1000001 := by have := m3.lens; omega
  have y2 := x2.below b3
  have yb := bthen xb b3
  go_wp2_with fail
  refine (nminus_any s3 A3 A4 n3 n4 c3 c4 q _ m3 (by omega)).mono ?_
  rintro e w2 ⟨s7, A7, n7, c7, A8, n8, c8, rfl, m7, b7⟩
  have hn7 : n7 ≤ 1000000 := by have := m7.lens; have := HL.out; omega
  have hn8 : n8 ≤ 1000001 := by have := m7.lens; have := HL.out; omega
  have y2 := y2.below b7
  have yb := bthen yb b7
  go_wp2_with fail
  refine (gives_any s7 A7 A8 n7 n8 c7 c8 _ _ m7 (by omega) (by omega)).mono ?_
  rintro e w3 ⟨s5, A5, n5, c5, A6, n6, c6, rfl, f5, o5, o6, b5⟩
  have z2 := y2.below b5
  have zb := bthen yb b5
  have G := Lib.hid (f5.ret o5 o6 (by omega) y2.lt zb)
  have t0 := z2.c0
  have t1 := z2.c1
  have t2 := z2.c2
  have v0 := z2.fz 0
  have v1 := z2.fz 1
  have v2 := z2.fz 2
  clear h x1 x2 xb b3 b5 f5 o5 o6 z2 zb y2 yb
  go_wp2_with fail
  exact bodyPost_ret (v := .agg #[.bool s5, .slice A5 n5 c5, .slice A6 n6 c6]) (by simp [results, Tryd.results55, go_sem, t0, t1, t2]) rfl G.out

set_option maxHeartbeats 2000000 in
theorem Sub_any (s1 s2 : Bool) (A1 A2 A3 A4 : Option Addr) (n1 n2 n3 n4 c1 c2 c3 c4 : Nat) (p q : Rat) (w : World) (h1 : Rf w s1 A1 n1 c1 A2 n2 c2 p) (h2 : Rf w s2 A3 n3 c3 A4 n4 c4 q)
    (l1 : n1 ≤ 100000) (l2 : n2 ≤ 100000) (l3 : n3 ≤ 100000) (l4 : n4 ≤ 100000) :
    Calls Tryd.prog 54 #[.agg #[.bool s1, .slice A1 n1 c1, .slice A2 n2 c2], .agg #[.bool s2, .slice A3 n3 c3, .slice A4 n4 c4]] w (FrPost (p - q) w) := by
  have e1 := h1.len
  have e2 := h2.len
  have HL := Lib.hid (ln_neg q)
  have HA := Lib.hid (ln_add p (-q))
  have HS : Hid (p - q = p + -q) := Lib.hid (Rat.sub_eq_add_neg p q)
  obtain ⟨u, HU, x1, x2, x3, xb⟩ := boxes3 w (.bool s1) (.slice A1 n1 c1) (.slice A2 n2 c2) (.bool s2) (.slice A3 n3 c3) (.slice A4 n4 c4) (.bool false) (.slice none 0 0) (.slice none 0 0) 24 24 24
  have m1 := (h1.below xb).drew
  have m2 := (h2.below xb).drew
  have y1 := x1.drew
  have y2 := x2.drew
  have y3 := x3.drew
  have yb := below_drew xb
  have q0 := x1.c0
  have q1 := x1.c1
  have q2 := x1.c2
  have r0 := x2.c0
  have r1 := x2.c1
  have r2 := x2.c2
  clear h1 h2
  go_enter Tryd.func54, Tryd.ntmps54
  go_wp2_with fail
  rw [← HU.out]
  go_region_held3 (fun w' => w'.cell? ⟨w.heap.size, 0, none⟩ = some (.bool s1) ∧ w'.cell? ⟨w.heap.size, 1, none⟩ = some (.slice A1 n1 c1) ∧ w'.cell? ⟨w.heap.size, 2, none⟩ = some (.slice A2 n2 c2) ∧
      w'.cell? ⟨w.heap.size + 1, 0, none⟩ = some (.bool s2) ∧ w'.cell? ⟨w.heap.size + 1, 1, none⟩ = some (.slice A3 n3 c3) ∧ w'.cell? ⟨w.heap.size + 1, 2, none⟩ = some (.slice A4 n4 c4))
    (first | (with_reducible exact ⟨q0, q1, q2, r0, r1, r2⟩) | (with_reducible exact ⟨y1.c0, y1.c1, y1.c2, y2.c0, y2.c1, y2.c2⟩) | (with_reducible exact ⟨a1.c0, a1.c1, a1.c2, a2.c0, a2.c1, a2.c2⟩) | (with_reducible exact ⟨b1.c0, b1.c1, b1.c2, b2.c0, b2.c1, b2.c2⟩) | (with_reducible exact ⟨d1.c0, d1.c1, d1.c2, d2.c0, d2.c1, d2.c2⟩) | (with_reducible exact ⟨f1.c0, f1.c1, f1.c2, f2.c0, f2.c1, f2.c2⟩) | (with_reducible exact ⟨i1.c0, i1.c1, i1.c2, i2.c0, i2.c1, i2.c2⟩) | (with_reducible exact KF) | go_keep)
    (first
      | (go_at_call 70
         (with_reducible refine (takes_any s1 A1 A2 n1 n2 c1 c2 p _ m1 (by omega) (by omega)).mono ?_)
         rintro e w3 ⟨s5, A5, n5, c5, A6, n6, c6, rfl, g5, b3⟩
         have hn5 : n5 ≤ 100000 := by have := g5.lens; omega
         have hn6 : n6 ≤ 100001 := by have := g5.lens; omega
         have a1 := y1.below b3
         have a2 := y2.below b3
         have a3 := y3.below b3
         have k2 := m2.below b3
         have ab := bthen yb b3
         clear m1 m2)
      | (go_at_call 70
         (with_reducible refine (takes_any s2 A3 A4 n3 n4 c3 c4 q _ k2 (by omega) (by omega)).mono ?_)
         rintro e w4 ⟨s7, A7, n7, c7, A8, n8, c8, rfl, g7, b4⟩
         have hn7 : n7 ≤ 100000 := by have := g7.lens; omega
         have hn8 : n8 ≤ 100001 := by have := g7.lens; omega
         have b1 := a1.below b4
         have b2 := a2.below b4
         have b3 := a3.below b4
         have k5 := g5.below b4
         have bb := bthen ab b4)
      | (go_at_call 105
         (with_reducible refine (nminus_any s7 A7 A8 n7 n8 c7 c8 q _ g7 (by omega)).mono ?_)
         rintro e w5 ⟨s9, A9, n9, c9, A10, n10, c10, rfl, g9, b5⟩
         have hn9 : n9 ≤ 100000 := by have := g9.lens; have := HL.out; omega
         have hn10 : n10 ≤ 100001 := by have := g9.lens; have := HL.out; omega
         have d1 := b1.below b5
         have d2 := b2.below b5
         have d3 := b3.below b5
         have k6 := k5.below b5
         have db := bthen bb b5)
      | (go_at_call 96
         (with_reducible refine (nadd_any s5 s9 A5 A6 A9 A10 n5 n6 n9 n10 c5 c6 c9 c10 p (-q) _ k6 g9 (by omega) (by omega) (by omega) (by omega)).mono ?_)
         rintro e w6 ⟨s11, A11, n11, c11, A12, n12, c12, rfl, g11, b6⟩
         have hn11 : n11 ≤ 1000000 := by have := g11.lens; have := HL.out; have := HA.out; have := k6.lens; have := g9.lens; omega
         have hn12 : n12 ≤ 1000000 := by have := g11.lens; have := HL.out; have := HA.out; have := k6.lens; have := g9.lens; omega
         have f1 := d1.below b6
         have f2 := d2.below b6
         have f3 := d3.below b6
         have fb := bthen db b6)
      | (go_at_call 74
         (with_reducible refine (gives_any s11 A11 A12 n11 n12 c11 c12 _ _ g11 (by omega) (by omega)).mono ?_)
         rintro e w7 ⟨s13, A13, n13, c13, A14, n14, c14, rfl, g13, o13, o14, b7⟩
         have i1 := f1.below b7
         have i2 := f2.below b7
         have i3 := f3.below b7
         have ib := bthen fb b7
         have G := Lib.hid (g13.ret o13 o14 (by omega) f3.lt ib)
         have j1 := i1.put (g' := w.heap.size + 1 + 1) (by omega) (.bool s13) (.slice A13 n13 c13) (.slice A14 n14 c14)
         have j2 := i2.put (g' := w.heap.size + 1 + 1) (by omega) (.bool s13) (.slice A13 n13 c13) (.slice A14 n14 c14)
         have KF := And.intro j1.c0 (And.intro j1.c1 (And.intro j1.c2 (And.intro j2.c0 (And.intro j2.c1 j2.c2))))
         unfold put3 at KF
         have t0 := i3.c0
         have t1 := i3.c1
         have t2 := i3.c2
         have v0 := i3.fz 0
         have v1 := i3.fz 1
         have v2 := i3.fz 2))
  go_wp2_with fail
  exact bodyPost_ret (v := .agg #[.bool s13, .slice A13 n13 c13, .slice A14 n14 c14]) (by simp [results, Tryd.results54, go_sem, t0, t1, t2]) rfl (by rw [HS.out]; exact G.out)

set_option maxHeartbeats 2000000 in
theorem Cmp_any (s1 s2 : Bool) (A1 A2 A3 A4 : Option Addr) (n1 n2 n3 n4 c1 c2 c3 c4 : Nat) (p q : Rat) (w : World) (h1 : Rf w s1 A1 n1 c1 A2 n2 c2 p) (h2 : Rf w s2 A3 n3 c3 A4 n4 c4 q)
    (l1 : n1 ≤ 100000) (l2 : n2 ≤ 100000) (l3 : n3 ≤ 100000) (l4 : n4 ≤ 100000) :
    Calls Tryd.prog 51 #[.agg #[.bool s1, .slice A1 n1 c1, .slice A2 n2 c2], .agg #[.bool s2, .slice A3 n3 c3, .slice A4 n4 c4]] w (ValPost (.int .i64 (sgn (p - q))) w) := by
  have e1 := h1.len
  have e2 := h2.len
  have HL := Lib.hid (ln_neg q)
  have HA := Lib.hid (ln_add p (-q))
  have HS : Hid (p - q = p + -q) := Lib.hid (Rat.sub_eq_add_neg p q)
  obtain ⟨u, HU, x1, x2, xb⟩ := boxes2 w (.bool s1) (.slice A1 n1 c1) (.slice A2 n2 c2) (.bool s2) (.slice A3 n3 c3) (.slice A4 n4 c4) 24 24
  have m1 := (h1.below xb).drew
  have m2 := (h2.below xb).drew
  have y1 := x1.drew
  have y2 := x2.drew
  have yb := below_drew xb
  have q0 := x1.c0
  have q1 := x1.c1
  have q2 := x1.c2
  have r0 := x2.c0
  have r1 := x2.c1
  have r2 := x2.c2
  clear h1 h2
  go_enter Tryd.func51, Tryd.ntmps51
  go_wp2_with fail
  rw [← HU.out]
  go_region_held3 (fun w' => w'.cell? ⟨w.heap.size, 0, none⟩ = some (.bool s1) ∧ w'.cell? ⟨w.heap.size, 1, none⟩ = some (.slice A1 n1 c1) ∧ w'.cell? ⟨w.heap.size, 2, none⟩ = some (.slice A2 n2 c2) ∧
      w'.cell? ⟨w.heap.size + 1, 0, none⟩ = some (.bool s2) ∧ w'.cell? ⟨w.heap.size + 1, 1, none⟩ = some (.slice A3 n3 c3) ∧ w'.cell? ⟨w.heap.size + 1, 2, none⟩ = some (.slice A4 n4 c4))
    (first | (with_reducible exact ⟨q0, q1, q2, r0, r1, r2⟩) | (with_reducible exact ⟨y1.c0, y1.c1, y1.c2, y2.c0, y2.c1, y2.c2⟩) | (with_reducible exact ⟨a1.c0, a1.c1, a1.c2, a2.c0, a2.c1, a2.c2⟩) | (with_reducible exact ⟨b1.c0, b1.c1, b1.c2, b2.c0, b2.c1, b2.c2⟩) | (with_reducible exact ⟨d1.c0, d1.c1, d1.c2, d2.c0, d2.c1, d2.c2⟩) | (with_reducible exact ⟨f1.c0, f1.c1, f1.c2, f2.c0, f2.c1, f2.c2⟩) | (with_reducible exact ⟨i1.c0, i1.c1, i1.c2, i2.c0, i2.c1, i2.c2⟩) | (with_reducible exact KF) | go_keep)
    (first
      | (go_at_call 70
         (with_reducible refine (takes_any s1 A1 A2 n1 n2 c1 c2 p _ m1 (by omega) (by omega)).mono ?_)
         rintro e w3 ⟨s5, A5, n5, c5, A6, n6, c6, rfl, g5, b3⟩
         have hn5 : n5 ≤ 100000 := by have := g5.lens; omega
         have hn6 : n6 ≤ 100001 := by have := g5.lens; omega
         have a1 := y1.below b3
         have a2 := y2.below b3
         have k2 := m2.below b3
         have ab := bthen yb b3
         clear m1 m2)
      | (go_at_call 70
         (with_reducible refine (takes_any s2 A3 A4 n3 n4 c3 c4 q _ k2 (by omega) (by omega)).mono ?_)
         rintro e w4 ⟨s7, A7, n7, c7, A8, n8, c8, rfl, g7, b4⟩
         have hn7 : n7 ≤ 100000 := by have := g7.lens; omega
         have hn8 : n8 ≤ 100001 := by have := g7.lens; omega
         have b1 := a1.below b4
         have b2 := a2.below b4
         have k5 := g5.below b4
         have bb := bthen ab b4)
      | (go_at_call 105
         (with_reducible refine (nminus_any s7 A7 A8 n7 n8 c7 c8 q _ g7 (by omega)).mono ?_)
         rintro e w5 ⟨s9, A9, n9, c9, A10, n10, c10, rfl, g9, b5⟩
         have hn9 : n9 ≤ 100000 := by have := g9.lens; have := HL.out; omega
         have hn10 : n10 ≤ 100001 := by have := g9.lens; have := HL.out; omega
         have d1 := b1.below b5
         have d2 := b2.below b5
         have k6 := k5.below b5
         have db := bthen bb b5)
      | (go_at_call 96
         (with_reducible refine (nadd_any s5 s9 A5 A6 A9 A10 n5 n6 n9 n10 c5 c6 c9 c10 p (-q) _ k6 g9 (by omega) (by omega) (by omega) (by omega)).mono ?_)
         rintro e w6 ⟨s11, A11, n11, c11, A12, n12, c12, rfl, g11, b6⟩
         have hn11 : n11 ≤ 1000000 := by have := g11.lens; have := HL.out; have := HA.out; have := k6.lens; have := g9.lens; omega
         have hn12 : n12 ≤ 1000000 := by have := g11.lens; have := HL.out; have := HA.out; have := k6.lens; have := g9.lens; omega
         have f1 := d1.below b6
         have f2 := d2.below b6
         have fb := bthen db b6)
      | (go_at_call 104
         (with_reducible refine (nsign_any s11 A11 A12 n11 n12 c11 c12 _ _ g11 (by omega)).mono ?_)
         rintro e w7 ⟨rfl, b7⟩
         have i1 := f1.below b7
         have i2 := f2.below b7
         have ib := bthen fb b7))
  go_wp2_with fail
  go_ret
  exact ⟨by rw [HS.out]; rfl, ib⟩
end Go.Proofs.YtaahbabdbopphaaDoor
