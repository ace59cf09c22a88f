/- The examples of the chapter: their numbers, their texts. The examples of the chapter hold: known hands back true. The specification: sameDigits, Same. -/
import Derived.Test.YtaahbabdbopphaaDoorRA
import Derived.Test.YtaahbabdbopphaaDoorTA
import Derived.Test.YtaahbabdbopphaaDoorHA
namespace Go.Proofs.YtaahbabdbopphaaDoor
open Go.RowKit Mx
set_option maxRecDepth 100000

def k32 : Rat := mkRat (-3) 2
def k23 : Rat := mkRat (-2) 3
def k827 : Rat := mkRat (-8) 27
def k57 : Rat := mkRat 5 7
def k710 : Rat := mkRat 7 10
def k2_3 : Rat := mkRat 2 3
def k252 : Rat := mkRat (-25) 2
def k12 : Rat := mkRat 1 2
def k13 : Rat := mkRat 1 3
def k56 : Rat := mkRat 5 6

theorem dd1 {u : Nat} (h : u < 10) : Lib.decDigits u = [UInt8.ofNat (48 + u)] := by unfold Lib.decDigits; rw [dif_pos h]
theorem dd2 {u : Nat} (h : ¬ u < 10) : Lib.decDigits u = Lib.decDigits (u / 10) ++ [UInt8.ofNat (48 + u % 10)] := by conv => lhs; unfold Lib.decDigits; rw [dif_neg h]
theorem txt_of {q : Rat} {s : Bool} {n d : Nat} (h1 : rneg q = s) (h2 : rn q = n) (h3 : rd q = d) : txt q = (if s then [45] else []) ++ Lib.decDigits n ++ (if d = 1 then [] else 47 :: Lib.decDigits d) := by
  unfold txt; rw [h1, h2, h3]
theorem txt32 : txt k32 = [45, 51, 47, 50] := by
  rw [txt_of (s := true) (n := 3) (d := 2) (by decide +kernel) (by decide +kernel) (by decide +kernel), dd1 (by decide), dd1 (by decide)]; rfl
theorem txt827 : txt k827 = [45, 56, 47, 50, 55] := by
  rw [txt_of (s := true) (n := 8) (d := 27) (by decide +kernel) (by decide +kernel) (by decide +kernel), dd1 (by decide), dd2 (by decide), dd1 (by decide)]; rfl
theorem txt710 : txt k710 = [55, 47, 49, 48] := by
  rw [txt_of (s := false) (n := 7) (d := 10) (by decide +kernel) (by decide +kernel) (by decide +kernel), dd1 (by decide), dd2 (by decide), dd1 (by decide)]; rfl
theorem txt252 : txt k252 = [45, 50, 53, 47, 50] := by
  rw [txt_of (s := true) (n := 25) (d := 2) (by decide +kernel) (by decide +kernel) (by decide +kernel), dd2 (by decide), dd1 (by decide)]; rfl
theorem txt56 : txt k56 = [53, 47, 54] := by
  rw [txt_of (s := false) (n := 5) (d := 6) (by decide +kernel) (by decide +kernel) (by decide +kernel), dd1 (by decide), dd1 (by decide)]; rfl
theorem dtx667 : dtx k2_3 3 = [48, 46, 54, 54, 55] := by
  unfold dtx
  rw [show rnd k2_3 3 = 667 from by decide +kernel, show (rneg k2_3 && decide (0 < 667)) = false from by decide +kernel, dd2 (by decide), dd2 (by decide), dd1 (by decide)]
  rfl
theorem prs252 : prs [45, 48, 49, 50, 46, 53, 48] = (k252, 0) := by decide +kernel

theorem kmake (w : World) : Calls Tryd.prog 65 #[.int .i64 6, .int .i64 (-4)] w (FrEPost k32 0 w) :=
  Make_any 6 (-4) 0 k32 w (by omega) (by omega) (by omega) (by omega) (.inr ⟨by omega, rfl, by decide +kernel⟩)
theorem kq (n d : Int) (q : Rat) (w : World) (h0 : -100 ≤ n) (h1 : n ≤ 100) (g0 : 1 ≤ d) (g1 : d ≤ 100) (hq : q = (n : Rat) / (d : Rat)) : Calls Tryd.prog 69 #[.int .i64 n, .int .i64 d] w (FrPost q w) := by
  rw [hq]; exact q_any n d w (by omega) (by omega) (by omega) (by omega) (by omega)
theorem Fr.lens {w : World} {sb : Bool} {A1 : Option Addr} {n1 c1 : Nat} {A2 : Option Addr} {n2 c2 : Nat} {q : Rat} (h : Fr w sb A1 n1 c1 A2 n2 c2 q) : n1 = ln q ∧ n2 ≤ ld q := ⟨h.num.len.symm, by rw [← h.den.len]; exact rD_len q⟩
theorem Fr.small {w : World} {sb : Bool} {A1 : Option Addr} {n1 c1 : Nat} {A2 : Option Addr} {n2 c2 : Nat} {q : Rat} (h : Fr w sb A1 n1 c1 A2 n2 c2 q) (l : rn q < 4294967296) (m : rd q < 4294967296) : n1 ≤ 1 ∧ n2 ≤ 1 :=
  ⟨by rw [h.lens.1]; exact len_small l, Nat.le_trans h.lens.2 (len_small m)⟩
theorem kpow (s : Bool) (A B : Option Addr) (n c m d : Nat) (w : World) (h : Fr w s A n c B m d k23) : Calls Tryd.prog 21 #[.agg #[.bool s, .slice A n c, .slice B m d], .int .i64 3] w (FrEPost k827 0 w) := by
  have hs := h.small (by decide +kernel) (by decide +kernel)
  rw [show k827 = k23 ^ 3 from by decide +kernel]
  exact Pow_nat s A B n m c d k23 3 w h.rf (by omega) (by omega) (by omega) (by omega) (by omega)
theorem kfloor (s : Bool) (A B : Option Addr) (n c m d : Nat) (w : World) (h : Fr w s A n c B m d k57) : Calls Tryd.prog 26 #[.agg #[.bool s, .slice A n c, .slice B m d], .int .i64 10] w (FrEPost k710 0 w) := by
  have hs := h.small (by decide +kernel) (by decide +kernel)
  rw [show k710 = (((k57 * ((10 : Int) : Rat)).floor : Int) : Rat) * ((10 : Int) : Rat)⁻¹ from by decide +kernel]
  exact Floor_yes s A B n m c d k57 10 w h.rf (by omega) (by omega) (by omega) (by omega)
theorem kdec (s : Bool) (A B : Option Addr) (n c m d : Nat) (w : World) (h : Fr w s A n c B m d k2_3) (ht : Tab w) : Calls Tryd.prog 35 #[.agg #[.bool s, .slice A n c, .slice B m d], .int .i64 3] w (DecPost (bs [48, 46, 54, 54, 55]) 0 w) := by
  have hs := h.small (by decide +kernel) (by decide +kernel)
  rw [← dtx667]
  exact Decimal_yes s A B n m c d k2_3 3 w h.rf (by omega) (by omega) (by omega) ht
theorem kparse (w : World) : Calls Tryd.prog 32 #[.string ⟨#[45, 48, 49, 50, 46, 53, 48]⟩] w (FrEPost k252 0 w) := by
  have := Parse_any ⟨#[45, 48, 49, 50, 46, 53, 48]⟩ w (by decide)
  rwa [show prs (ByteArray.mk #[45, 48, 49, 50, 46, 53, 48]).data.toList = (k252, 0) from prs252] at this
theorem ktext (q : Rat) (l : List UInt8) (s : Bool) (A B : Option Addr) (n c m d : Nat) (w : World) (h : Fr w s A n c B m d q) (ht : Tab w) (h1 : rn q < 4294967296) (h2 : rd q < 4294967296) (hl : txt q = l) :
    Calls Tryd.prog 31 #[.agg #[.bool s, .slice A n c, .slice B m d]] w (ValPost (.string (bs l)) w) := by
  have hs := h.small h1 h2
  rw [← hl]
  exact Text_any s A B n m c d q w h.rf (by omega) (by omega) ht
theorem kadd (s1 s2 : Bool) (A B A' B' : Option Addr) (n c m d n' c' m' d' : Nat) (w : World) (h : Fr w s1 A n c B m d k12) (h' : Fr w s2 A' n' c' B' m' d' k13) :
    Calls Tryd.prog 52 #[.agg #[.bool s1, .slice A n c, .slice B m d], .agg #[.bool s2, .slice A' n' c', .slice B' m' d']] w (FrPost k56 w) := by
  have hs := h.small (by decide +kernel) (by decide +kernel)
  have hs' := h'.small (by decide +kernel) (by decide +kernel)
  rw [show k56 = k12 + k13 from by decide +kernel]
  exact Add_any s1 s2 A B A' B' n m n' m' c d c' d' k12 k13 w h.rf h'.rf (by omega) (by omega) (by omega) (by omega)
theorem ksize (s : Bool) (A B : Option Addr) (n c m d : Nat) (w : World) (h : Fr w s A n c B m d k12) : Calls Tryd.prog 63 #[.agg #[.bool s, .slice A n c, .slice B m d]] w (ValPost (.int .i64 3) w) := by
  have hs := h.small (by decide +kernel) (by decide +kernel)
  have := Size_any s A B n m c d k12 w h.rf (by omega) (by omega)
  rwa [show ((blen (rn k12) : Int) + (blen (rd k12) : Int)) = 3 from by
    rw [show rn k12 = 1 from by decide +kernel, show rd k12 = 2 from by decide +kernel]
    unfold blen
    rw [if_neg (by decide), if_neg (by decide), dig_one, show dig 2 = [2] from by rw [dig_pos (by decide), show 2 / 4294967296 = 0 from rfl, dig_zero]]
    decide +kernel] at this
theorem bst_k : bst [k12, k2_3, k2_3] 3 = 1 := by decide +kernel
end Go.Proofs.YtaahbabdbopphaaDoor
namespace Go.Proofs.YtaahbabdbopphaaDoor
open Go.RowKit Mx
set_option maxRecDepth 100000

theorem kstr (q : Rat) (B : ByteArray) (s : Bool) (A A' : Option Addr) (n c m d : Nat) (w : World) (h : Fr w s A n c A' m d q) (ht : Tab w) (h1 : rn q < 4294967296) (h2 : rd q < 4294967296) (hl : bs (txt q) = B) :
    Calls Tryd.prog 31 #[.agg #[.bool s, .slice A n c, .slice A' m d]] w (ValPost (.string B) w) := by
  rw [← hl]; exact ktext q (txt q) s A A' n c m d w h ht h1 h2 rfl
theorem kdec2 (s : Bool) (A B : Option Addr) (n c m d : Nat) (w : World) (h : Fr w s A n c B m d k2_3) (ht : Tab w) : Calls Tryd.prog 35 #[.agg #[.bool s, .slice A n c, .slice B m d], .int .i64 3] w (DecPost ⟨#[48, 46, 54, 54, 55]⟩ 0 w) := kdec s A B n c m d w h ht
theorem new_row (w : World) (o : Obj) : (w.alloc o).heap[w.heap.size]? = some o := heap_alloc_new w o
theorem FL.three {u : World} {g : Nat} {s1 s2 s3 : Bool} {A1 A2 A3 A4 A5 A6 : Option Addr} {n1 n2 n3 n4 n5 n6 c1 c2 c3 c4 c5 c6 : Nat} {p q r : Rat} {T : TypeId}
    (hB : u.heap[g]? = some (.cells #[.bool s1, .slice A1 n1 c1, .slice A2 n2 c2, .bool s2, .slice A3 n3 c3, .slice A4 n4 c4, .bool s3, .slice A5 n5 c5, .slice A6 n6 c6] T (0, 0))) (h1 : Rf u s1 A1 n1 c1 A2 n2 c2 p) (h2 : Rf u s2 A3 n3 c3 A4 n4 c4 q) (h3 : Rf u s3 A5 n5 c5 A6 n6 c6 r)
    (l1 : n1 ≤ 1000) (l2 : n2 ≤ 1000) (l3 : n3 ≤ 1000) (l4 : n4 ≤ 1000) (l5 : n5 ≤ 1000) (l6 : n6 ≤ 1000) : FL u (some ⟨g, 0, none⟩) 1000 [p, q, r] := by
  intro i hi
  have hi : i < 3 := hi
  rcases (show i = 0 ∨ i = 1 ∨ i = 2 from by omega) with rfl | rfl | rfl
  · exact ⟨⟨g, 0, none⟩, s1, A1, n1, c1, A2, n2, c2, rfl, cell_of_row _ _ 0 _ T (0, 0) hB, cell_of_row _ _ 1 _ T (0, 0) hB, cell_of_row _ _ 2 _ T (0, 0) hB, h1, l1, l2⟩
  · exact ⟨⟨g, 0, none⟩, s2, A3, n3, c3, A4, n4, c4, rfl, cell_of_row _ _ 3 _ T (0, 0) hB, cell_of_row _ _ 4 _ T (0, 0) hB, cell_of_row _ _ 5 _ T (0, 0) hB, h2, l3, l4⟩
  · exact ⟨⟨g, 0, none⟩, s3, A5, n5, c5, A6, n6, c6, rfl, cell_of_row _ _ 6 _ T (0, 0) hB, cell_of_row _ _ 7 _ T (0, 0) hB, cell_of_row _ _ 8 _ T (0, 0) hB, h3, l5, l6⟩
theorem kbest (A : Option Addr) (c : Nat) (w : World) (h : FL w A 1000 [k12, k2_3, k2_3]) : Calls Tryd.prog 43 #[.slice A 3 c] w (ValPost (.int .i64 1) w) := by
  rw [← bst_k]; exact Best_any A 3 c [k12, k2_3, k2_3] w h rfl (by omega)
set_option maxHeartbeats 4000000 in
theorem known_any (w : World) (ht : Tab w) : Calls Tryd.prog 20 #[] w (ValPost (.bool true) w) := by
  have b0 : Below w.heap.size w w := Below.refl _ _
  go_enter Tryd.func20, Tryd.ntmps20
  go_wp2_with fail
  refine (kmake _).mono ?_
  rintro e w1 ⟨s1, A1, n1, c1, A2, n2, c2, rfl, f1, _, _, b1⟩
  obtain ⟨u1, HU1, x1, xb1⟩ := boxes1 w1 (.bool s1) (.slice A1 n1 c1) (.slice A2 n2 c2) 24
  replace f1 := f1.below xb1
  have hb := bthen b1 xb1
  go_wp2_with fail
  rw [← HU1.out]
  refine (kq (-2) 3 k23 _ (by omega) (by omega) (by omega) (by omega) (by decide +kernel)).mono ?_
  rintro e w2 ⟨s3, A3, n3, c3, A4, n4, c4, rfl, f2, _, _, b2⟩
  go_wp2_with fail
  refine (kpow s3 A3 A4 n3 c3 n4 c4 _ f2).mono ?_
  rintro e w3 ⟨s5, A5, n5, c5, A6, n6, c6, rfl, f3, _, _, b3⟩
  obtain ⟨u2, HU2, x2, xb2⟩ := boxes1 w3 (.bool s5) (.slice A5 n5 c5) (.slice A6 n6 c6) 24
  replace f3 := f3.below xb2
  replace f1 := ((f1.below b2).below b3).below xb2
  replace x1 := ((x1.below b2).below b3).below xb2
  replace hb := bthen (bthen (bthen hb b2) b3) xb2
  clear f2 b2 b3 xb2 b1 xb1
  go_wp2_with fail
  rw [← HU2.out]
  refine (kq 5 7 k57 _ (by omega) (by omega) (by omega) (by omega) (by decide +kernel)).mono ?_
  rintro e w2 ⟨s3, A3, n3, c3, A4, n4, c4, rfl, f2, _, _, b2⟩
  go_wp2_with fail
  refine (kfloor s3 A3 A4 n3 c3 n4 c4 _ f2).mono ?_
  rintro e w4 ⟨s7, A7, n7, c7, A8, n8, c8, rfl, f4, _, _, b3⟩
  obtain ⟨u3, HU3, x3, xb2⟩ := boxes1 w4 (.bool s7) (.slice A7 n7 c7) (.slice A8 n8 c8) 24
  replace f4 := f4.below xb2
  replace f1 := ((f1.below b2).below b3).below xb2
  replace x1 := ((x1.below b2).below b3).below xb2
  replace f3 := ((f3.below b2).below b3).below xb2
  replace x2 := ((x2.below b2).below b3).below xb2
  replace hb := bthen (bthen (bthen hb b2) b3) xb2
  clear f2 b2 b3 xb2
  go_wp2_with fail
  rw [← HU3.out]
  refine (kq 2 3 k2_3 _ (by omega) (by omega) (by omega) (by omega) (by decide +kernel)).mono ?_
  rintro e w2 ⟨s3, A3, n3, c3, A4, n4, c4, rfl, f2, _, _, b2⟩
  replace f4 := f4.below b2
  replace x3 := x3.below b2
  replace f1 := f1.below b2
  replace x1 := x1.below b2
  replace f3 := f3.below b2
  replace x2 := x2.below b2
  replace hb := bthen hb b2
  have ht2 := ht.on hb
  go_wp2_with fail
  refine (kdec2 s3 A3 A4 n3 c3 n4 c4 _ f2 ht2).mono ?_
  rintro e w5 ⟨rfl, b3⟩
  replace f4 := f4.below b3
  replace x3 := x3.below b3
  replace f1 := f1.below b3
  replace x1 := x1.below b3
  replace f3 := f3.below b3
  replace x2 := x2.below b3
  replace hb := bthen hb b3
  clear f2 b2 b3 ht2
  go_wp2_with fail
  refine (kparse _).mono ?_
  rintro e w6 ⟨s9, A9, n9, c9, A10, n10, c10, rfl, f5, _, _, b3⟩
  obtain ⟨u4, HU4, x4, xb2⟩ := boxes1 w6 (.bool s9) (.slice A9 n9 c9) (.slice A10 n10 c10) 24
  replace f5 := f5.below xb2
  replace f4 := (f4.below b3).below xb2
  replace x3 := (x3.below b3).below xb2
  replace f1 := (f1.below b3).below xb2
  replace x1 := (x1.below b3).below xb2
  replace f3 := (f3.below b3).below xb2
  replace x2 := (x2.below b3).below xb2
  replace hb := bthen (bthen hb b3) xb2
  clear b3 xb2
  have q0 := x1.c0
  have q1 := x1.c1
  have q2 := x1.c2
  rw [HU4.out] at q0 q1 q2
  have ht2 := ht.on hb
  go_wp2_with fail
  rw [← HU4.out]
  refine (kstr k32 ⟨#[45, 51, 47, 50]⟩ s1 A1 A2 n1 c1 n2 c2 _ f1 ht2 (by decide +kernel) (by decide +kernel) (by rw [txt32]; rfl)).mono ?_
  rintro e w7 ⟨rfl, b3⟩
  replace f1 := f1.below b3
  replace f3 := f3.below b3
  replace f4 := f4.below b3
  replace f5 := f5.below b3
  replace x1 := x1.below b3
  replace x2 := x2.below b3
  replace x3 := x3.below b3
  replace x4 := x4.below b3
  replace hb := bthen hb b3
  clear q0 q1 q2 ht2 b3
  have q0 := x2.c0
  have q1 := x2.c1
  have q2 := x2.c2
  have ht2 := ht.on hb
  go_wp2_with fail
  refine (kstr k827 ⟨#[45, 56, 47, 50, 55]⟩ s5 A5 A6 n5 c5 n6 c6 _ f3 ht2 (by decide +kernel) (by decide +kernel) (by rw [txt827]; rfl)).mono ?_
  rintro e w7 ⟨rfl, b3⟩
  replace f1 := f1.below b3
  replace f3 := f3.below b3
  replace f4 := f4.below b3
  replace f5 := f5.below b3
  replace x1 := x1.below b3
  replace x2 := x2.below b3
  replace x3 := x3.below b3
  replace x4 := x4.below b3
  replace hb := bthen hb b3
  clear q0 q1 q2 ht2 b3
  have q0 := x3.c0
  have q1 := x3.c1
  have q2 := x3.c2
  have ht2 := ht.on hb
  go_wp2_with fail
  refine (kstr k710 ⟨#[55, 47, 49, 48]⟩ s7 A7 A8 n7 c7 n8 c8 _ f4 ht2 (by decide +kernel) (by decide +kernel) (by rw [txt710]; rfl)).mono ?_
  rintro e w7 ⟨rfl, b3⟩
  replace f1 := f1.below b3
  replace f3 := f3.below b3
  replace f4 := f4.below b3
  replace f5 := f5.below b3
  replace x1 := x1.below b3
  replace x2 := x2.below b3
  replace x3 := x3.below b3
  replace x4 := x4.below b3
  replace hb := bthen hb b3
  clear q0 q1 q2 ht2 b3
  have q0 := x4.c0
  have q1 := x4.c1
  have q2 := x4.c2
  have ht2 := ht.on hb
  go_wp2_with fail
  refine (kstr k252 ⟨#[45, 50, 53, 47, 50]⟩ s9 A9 A10 n9 c9 n10 c10 _ f5 ht2 (by decide +kernel) (by decide +kernel) (by rw [txt252]; rfl)).mono ?_
  rintro e w7 ⟨rfl, b3⟩
  replace f1 := f1.below b3
  replace f3 := f3.below b3
  replace f4 := f4.below b3
  replace f5 := f5.below b3
  replace x1 := x1.below b3
  replace x2 := x2.below b3
  replace x3 := x3.below b3
  replace x4 := x4.below b3
  replace hb := bthen hb b3
  clear q0 q1 q2 ht2 b3 f1 f3 f4 f5 x1 x2 x3 x4
  go_wp2_with fail
  refine (kq 1 2 k12 _ (by omega) (by omega) (by omega) (by omega) (by decide +kernel)).mono ?_
  rintro e w8 ⟨s1, A1, n1, c1, A2, n2, c2, rfl, f1, _, _, b3⟩
  replace hb := bthen hb b3
  clear b3
  go_wp2_with fail
  refine (kq 1 3 k13 _ (by omega) (by omega) (by omega) (by omega) (by decide +kernel)).mono ?_
  rintro e w9 ⟨s3, A3, n3, c3, A4, n4, c4, rfl, f2, _, _, b3⟩
  replace f1 := f1.below b3
  replace hb := bthen hb b3
  clear b3
  go_wp2_with fail
  refine (kadd s1 s3 A1 A2 A3 A4 n1 c1 n2 c2 n3 c3 n4 c4 _ f1 f2).mono ?_
  rintro e w10 ⟨s5, A5, n5, c5, A6, n6, c6, rfl, f3, _, _, b3⟩
  replace hb := bthen hb b3
  have ht2 := ht.on hb
  clear b3 f1 f2
  go_wp2_with fail
  refine (kstr k56 ⟨#[53, 47, 54]⟩ s5 A5 A6 n5 c5 n6 c6 _ f3 ht2 (by decide +kernel) (by decide +kernel) (by rw [txt56]; rfl)).mono ?_
  rintro e w7 ⟨rfl, b3⟩
  replace hb := bthen hb b3
  clear b3 f3 ht2
  go_wp2_with fail
  refine (kq 1 2 k12 _ (by omega) (by omega) (by omega) (by omega) (by decide +kernel)).mono ?_
  rintro e w8 ⟨s1, A1, n1, c1, A2, n2, c2, rfl, f1, _, _, b3⟩
  replace hb := bthen hb b3
  clear b3
  go_wp2_with fail
  refine (ksize s1 A1 A2 n1 c1 n2 c2 _ f1).mono ?_
  rintro e w9 ⟨rfl, b3⟩
  replace hb := bthen hb b3
  clear b3 f1
  go_wp2_with fail
  refine (kq 1 2 k12 _ (by omega) (by omega) (by omega) (by omega) (by decide +kernel)).mono ?_
  rintro e w8 ⟨s1, A1, n1, c1, A2, n2, c2, rfl, f1, _, _, b3⟩
  replace hb := bthen hb b3
  clear b3
  go_wp2_with fail
  refine (kq 2 3 k2_3 _ (by omega) (by omega) (by omega) (by omega) (by decide +kernel)).mono ?_
  rintro e w9 ⟨s3, A3, n3, c3, A4, n4, c4, rfl, f2, _, _, b3⟩
  replace f1 := f1.below b3
  replace hb := bthen hb b3
  clear b3
  go_wp2_with fail
  refine (kq 4 6 k2_3 _ (by omega) (by omega) (by omega) (by omega) (by decide +kernel)).mono ?_
  rintro e w10 ⟨s5, A5, n5, c5, A6, n6, c6, rfl, f3, _, _, b3⟩
  replace f1 := f1.below b3
  replace f2 := f2.below b3
  replace hb := bthen hb b3
  clear b3
  go_wp2_with fail
  have HL : FL (w10.alloc (.cells #[.bool s1, .slice A1 n1 c1, .slice A2 n2 c2, .bool s3, .slice A3 n3 c3, .slice A4 n4 c4, .bool s5, .slice A5 n5 c5, .slice A6 n6 c6] 24)) (some ⟨w10.heap.size, 0, none⟩) 1000 [k12, k2_3, k2_3] := by
    have g1 := f1.small (by decide +kernel) (by decide +kernel)
    have g2 := f2.small (by decide +kernel) (by decide +kernel)
    have g3 := f3.small (by decide +kernel) (by decide +kernel)
    have bb := below_alloc (Below.refl _ w10) (.cells #[.bool s1, .slice A1 n1 c1, .slice A2 n2 c2, .bool s3, .slice A3 n3 c3, .slice A4 n4 c4, .bool s5, .slice A5 n5 c5, .slice A6 n6 c6] 24)
    exact FL.three (new_row _ _) (f1.rf.below bb) (f2.rf.below bb) (f3.rf.below bb) (by omega) (by omega) (by omega) (by omega) (by omega) (by omega)
  replace hb := below_alloc hb (.cells #[.bool s1, .slice A1 n1 c1, .slice A2 n2 c2, .bool s3, .slice A3 n3 c3, .slice A4 n4 c4, .bool s5, .slice A5 n5 c5, .slice A6 n6 c6] 24)
  clear f1 f2 f3
  refine (kbest _ _ _ HL).mono ?_
  rintro e w7 ⟨rfl, b3⟩
  replace hb := bthen hb b3
  clear b3 HL
  go_wp2_with fail
  go_ret
  exact ⟨rfl, hb⟩
end Go.Proofs.YtaahbabdbopphaaDoor
namespace Go.Proofs.YtaahbabdbopphaaDoor
open Go.RowKit Mx
set_option maxRecDepth 100000

/-- A bool; the world is as it was, but for draws. -/
def QuietB (b : Bool) (w : World) (e : Ending) (w' : World) : Prop := e = .returned (.bool b) ∧ ∃ n, w' = w.drewN n
theorem take_eq_succ {xs ys : List Nat} {k : Nat} (h : xs.take k = ys.take k) (h1 : k < xs.length) (h2 : k < ys.length) (h3 : xs.getD k 0 = ys.getD k 0) : xs.take (k + 1) = ys.take (k + 1) := by
  rw [List.take_succ_eq_append_getElem h1, List.take_succ_eq_append_getElem h2, h]
  have e1 : xs.getD k 0 = xs[k] := by rw [List.getD_eq_getElem?_getD, List.getElem?_eq_getElem h1, Option.getD_some]
  have e2 : ys.getD k 0 = ys[k] := by rw [List.getD_eq_getElem?_getD, List.getElem?_eq_getElem h2, Option.getD_some]
  rw [← e1, ← e2, h3]
set_option maxHeartbeats 1000000 in
theorem sameDigits_any (A1 A2 : Option Addr) (n1 n2 c1 c2 : Nat) (xs ys : List Nat) (w : World) (h1 : Sl w A1 n1 c1 xs) (h2 : Sl w A2 n2 c2 ys) (hl1 : n1 ≤ 1000000000) (hl2 : n2 ≤ 1000000000) (b : Bool) (hb : b = decide (xs = ys)) :
    Calls Tryd.prog 75 #[.slice A1 n1 c1, .slice A2 n2 c2] w (QuietB b w) := by
  by_cases hn : n1 = n2
  · subst hn
    have HL : Hid (xs.length = n1 ∧ ys.length = n1) := Lib.hid ⟨h1.len, h2.len⟩
    have HB := Lib.hid hb
    clear hb
    go_enter Tryd.func75, Tryd.ntmps75
    go_wp2_with fail
    go_loopw [5] (fun i wr => ∃ (k n : Nat), k ≤ n1 ∧ i = .int .i64 (k : Int) ∧ wr = w.drewN n ∧ Hid (xs.take k = ys.take k))
      (fun i _ => n1 - (intOf i).toNat)
    case atStart => exact ⟨0, 0, Nat.zero_le _, rfl, rfl, Lib.hid (by rw [List.take_zero, List.take_zero])⟩
    case round =>
      obtain ⟨k, n, hk, rfl, rfl, HV⟩ := hrel
      by_cases hk0 : k < n1
      · obtain ⟨x, hx⟩ : ∃ x : Nat, x = xs.getD k 0 := ⟨_, rfl⟩
        obtain ⟨y, hy⟩ : ∃ y : Nat, y = ys.getD k 0 := ⟨_, rfl⟩
        obtain ⟨ad1, rfl, hc1⟩ := h1.at_ (k := k) (by omega)
        obtain ⟨ad2, rfl, hc2⟩ := h2.at_ (k := k) (by omega)
        rw [← hx] at hc1
        rw [← hy] at hc2
        have i1 : (0 : Int) ≤ (k : Int) := by omega
        have i2 : (k : Int) < (n1 : Int) := by omega
        have HX := Lib.hid hx
        have HY := Lib.hid hy
        clear hx hy
        by_cases hxy : x = y
        · have HV1 : Hid (xs.take (k + 1) = ys.take (k + 1)) := Lib.hid (take_eq_succ HV.out (by rw [HL.out.1]; exact hk0) (by rw [HL.out.2]; exact hk0) (by rw [← HX.out, ← HY.out]; exact hxy))
          subst hxy
          go_wp2_with fail
          go_quiet (fail)
          go_wp2_with fail
          go_roundw
          case rel => exact ⟨k + 1, _, by omega, by go_num, rfl, HV1⟩
          case measure => simp [intOf]; omega
        · have HF : Hid (b = false) := Lib.hid (by rw [HB.out]; exact decide_eq_false (fun h => hxy (by rw [HX.out, HY.out, h])))
          have t1 : ((x : Int) == (y : Int)) = false := beq_eq_false_iff_ne.2 (by omega)
          have t2 : ((x : Int) != (y : Int)) = true := by simp; omega
          have t3 : (x == y) = false := beq_eq_false_iff_ne.2 (by omega)
          clear hxy
          go_wp2_with fail
          go_quiet (fail)
          go_wp2_with fail
          go_ret
          refine ⟨by rw [HF.out]; rfl, ?_⟩
          try simp only [World.drewN_drewN]
          exact ⟨_, rfl⟩
      · have HT : Hid (b = true) := Lib.hid (by
          have h := HV.out
          rw [List.take_of_length_le (by rw [HL.out.1]; omega), List.take_of_length_le (by rw [HL.out.2]; omega)] at h
          rw [HB.out]; exact decide_eq_true h)
        go_wp2_with fail
        go_ret
        exact ⟨by rw [HT.out]; rfl, _, rfl⟩
  · have HF : Hid (b = false) := Lib.hid (by rw [hb]; exact decide_eq_false (fun h => hn (by rw [← h1.len, ← h2.len, h])))
    have t1 : ((n1 : Int) == (n2 : Int)) = false := beq_eq_false_iff_ne.2 (by omega)
    have t2 : ((n1 : Int) != (n2 : Int)) = true := by simp; omega
    have t3 : (n1 == n2) = false := beq_eq_false_iff_ne.2 (by omega)
    clear hn
    go_enter Tryd.func75, Tryd.ntmps75
    go_wp2_with fail
    go_ret
    exact ⟨by rw [HF.out]; rfl, 0, rfl⟩
set_option maxHeartbeats 1000000 in
theorem Same_any (s1 s2 : Bool) (A1 A2 A3 A4 : Option Addr) (n1 n2 n3 n4 c1 c2 c3 c4 : Nat) (xs ys zs ts : List Nat) (w : World) (h1 : Sl w A1 n1 c1 xs) (h2 : Sl w A2 n2 c2 ys) (h3 : Sl w A3 n3 c3 zs) (h4 : Sl w A4 n4 c4 ts)
    (l1 : n1 ≤ 1000000000) (l2 : n2 ≤ 1000000000) (l3 : n3 ≤ 1000000000) (l4 : n4 ≤ 1000000000) (b : Bool) (hb : b = decide (s1 = s2 ∧ xs = zs ∧ ys = ts)) :
    Calls Tryd.prog 22 #[.agg #[.bool s1, .slice A1 n1 c1, .slice A2 n2 c2], .agg #[.bool s2, .slice A3 n3 c3, .slice A4 n4 c4]] w (ValPost (.bool b) w) := by
  obtain ⟨u, HU, x1, x2, xb⟩ := boxes2 w (.bool s1) (.slice A1 n1 c1) (.slice A2 n2 c2) (.bool s2) (.slice A3 n3 c3) (.slice A4 n4 c4) 24 24
  replace h1 := h1.below xb
  replace h2 := h2.below xb
  replace h3 := h3.below xb
  replace h4 := h4.below xb
  have HB := Lib.hid hb
  have p0 := x1.c0
  have p1 := x1.c1
  have p2 := x1.c2
  have q0 := x2.c0
  have q1 := x2.c1
  have q2 := x2.c2
  rw [HU.out] at p0 p1 p2 q0 q1 q2
  clear hb
  by_cases hs : s1 = s2
  · have Hs := Lib.hid hs
    by_cases hx : xs = zs
    · have C1 := Lib.hid (sameDigits_any A1 A3 n1 n3 c1 c3 xs zs u h1 h3 l1 l3 true (by rw [decide_eq_true hx]))
      have HB2 : Hid (b = decide (ys = ts)) := Lib.hid (by rw [HB.out, decide_eq_decide]; exact ⟨fun h => h.2.2, fun h => ⟨hs, hx, h⟩⟩)
      clear hx h1 h3
      subst hs
      go_enter Tryd.func22, Tryd.ntmps22
      go_wp2_with fail
      rw [← HU.out]
      refine C1.out.mono ?_
      rintro e w1 ⟨rfl, n, rfl⟩
      have r1 := (x1.below (below_draws u n)).c2
      have r2 := (x2.below (below_draws u n)).c2
      have C2 := Lib.hid (sameDigits_any A2 A4 n2 n4 c2 c4 ys ts (u.drewN n) (h2.drewN n) (h4.drewN n) l2 l4 b HB2.out)
      clear h2 h4
      go_wp2_with fail
      refine C2.out.mono ?_
      rintro e w1 ⟨rfl, m, rfl⟩
      go_wp2_with fail
      go_ret
      exact ⟨rfl, below_drewN xb _⟩
    · have C1 := Lib.hid (sameDigits_any A1 A3 n1 n3 c1 c3 xs zs u h1 h3 l1 l3 false (by rw [decide_eq_false hx]))
      have HB2 : Hid (b = false) := Lib.hid (by rw [HB.out, decide_eq_false]; exact fun h => hx h.2.1)
      clear hx h1 h3
      subst hs
      go_enter Tryd.func22, Tryd.ntmps22
      go_wp2_with fail
      rw [← HU.out]
      refine C1.out.mono ?_
      rintro e w1 ⟨rfl, n, rfl⟩
      go_wp2_with fail
      go_ret
      exact ⟨by rw [HB2.out]; rfl, below_drewN xb n⟩
  · have HB2 : Hid (b = false) := Lib.hid (by rw [HB.out, decide_eq_false]; exact fun h => hs h.1)
    have t1 : (s1 == s2) = false := beq_eq_false_iff_ne.2 hs
    clear hs
    go_enter Tryd.func22, Tryd.ntmps22
    go_wp2_with fail
    go_ret
    exact ⟨by rw [HB2.out]; rfl, below_alloc2 _ _ _⟩
theorem Fr.same_iff {w : World} {s1 s2 : Bool} {A1 A2 A3 A4 : Option Addr} {n1 n2 n3 n4 c1 c2 c3 c4 : Nat} {p q : Rat} (h1 : Fr w s1 A1 n1 c1 A2 n2 c2 p) (h2 : Fr w s2 A3 n3 c3 A4 n4 c4 q) :
    (s1 = s2 ∧ dig (rn p) = dig (rn q) ∧ dig (rD p) = dig (rD q)) ↔ p = q := by
  constructor
  · rintro ⟨a, b, c⟩
    exact parts_inj (by rw [← h1.neg, ← h2.neg, a]) (dig_inj b) (dig_inj c)
  · rintro rfl
    exact ⟨by rw [h1.neg, h2.neg], rfl, rfl⟩
/-- Same of two canonical numbers. -/
theorem SameFr_any (s1 s2 : Bool) (A1 A2 A3 A4 : Option Addr) (n1 n2 n3 n4 c1 c2 c3 c4 : Nat) (p q : Rat) (w : World) (h1 : Fr w s1 A1 n1 c1 A2 n2 c2 p) (h2 : Fr w s2 A3 n3 c3 A4 n4 c4 q)
    (l1 : n1 ≤ 1000000000) (l2 : n2 ≤ 1000000000) (l3 : n3 ≤ 1000000000) (l4 : n4 ≤ 1000000000) (b : Bool) (hb : b = decide (p = q)) :
    Calls Tryd.prog 22 #[.agg #[.bool s1, .slice A1 n1 c1, .slice A2 n2 c2], .agg #[.bool s2, .slice A3 n3 c3, .slice A4 n4 c4]] w (ValPost (.bool b) w) :=
  Same_any s1 s2 A1 A2 A3 A4 n1 n2 n3 n4 c1 c2 c3 c4 _ _ _ _ w h1.num h1.den h2.num h2.den l1 l2 l3 l4 b (by rw [hb, decide_eq_decide]; exact (h1.same_iff h2).symm)
end Go.Proofs.YtaahbabdbopphaaDoor
