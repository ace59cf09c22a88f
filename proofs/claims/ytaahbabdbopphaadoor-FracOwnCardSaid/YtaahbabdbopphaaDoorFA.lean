/- The words in which the walks speak of memory: a slice that reads as a list of digits, and how that is kept. slices.Clone and frac.trimmed: what they hand back reads as their argument, without the digits 0 at its end. natural.add: the digits of the sum. natural.small: the digits of a number below 2^64; natural.compare: its answers. natural.sub: the digits of the difference. natural.mul: the digits of the product. natural.over: quotient and rest by one digit; natural.digit. frac.shifted, natural.shift, natural.down. natural.div: quotient and rest. natural.gcd, natural.size, natural.power. -/
import Derived.WalkKit
import Derived.Deep.AppendLies
import Derived.Maps.AppendAt
import Derived.Below
import Derived.Laws.OwnMore
import Derived.Deep.Draws
import Derived.RegionTactic
import Derived.OwnWalk
import Derived.Lib.Hide
import Derived.Outline
import Derived.WalkLawsBesides
import Derived.WalkSpells
import Derived.Deep.LoopGhost
import Derived.BigQuiet
import Derived.Deep.QuietTactic
import Derived.Test.YtaahbabdbopphaaDoorProg
import Derived.Test.YtaahbabdbopphaaDoorMA
import Derived.Laws.BitsAllLaws
import Derived.Test.YtaahbabdbopphaaDoorSA
namespace Go.Proofs.YtaahbabdbopphaaDoor
open Go.RowKit Mx

def u32s (xs : List Nat) : List Value := xs.map fun (x : Nat) => Value.int .u32 (x : Int)
theorem u32s_length (xs : List Nat) : (u32s xs).length = xs.length := by simp [u32s]
theorem u32s_append (xs ys : List Nat) : u32s (xs ++ ys) = u32s xs ++ u32s ys := by simp [u32s]
theorem u32s_get (xs : List Nat) (k : Nat) (h : k < xs.length) : (u32s xs)[k]? = some (.int .u32 ((xs.getD k 0 : Nat) : Int)) := by
  simp [u32s, h]
theorem u32s_set (xs : List Nat) (k v : Nat) : (u32s xs).set k (.int .u32 (v : Int)) = u32s (xs.set k v) := by
  simp [u32s, List.map_set]
theorem u32s_take (xs : List Nat) (k : Nat) : (u32s xs).take k = u32s (xs.take k) := by simp [u32s, List.map_take]
theorem u32s_one (xs : List Nat) : ∀ u ∈ u32s xs, u.oneCell' = true := by
  intro u hu
  obtain ⟨x, _, rfl⟩ := List.mem_map.1 hu
  rfl

/-- The slice at A whose first cells are xs. -/
def Rd (w : World) (A : Option Addr) (xs : List Nat) : Prop := ∀ k, k < xs.length → ∃ ad, A = some ad ∧ w.cell? (ad.add k) = some (.int .u32 ((xs.getD k 0 : Nat) : Int))

theorem block_of_add (a : Addr) (n : Nat) : (a.add n).block = a.block := by unfold Addr.add; split <;> rfl
theorem cell_below {w w' : World} (h : Below w.heap.size w w') {a : Addr} {v : Value} (hc : w.cell? a = some v) : w'.cell? a = some v :=
  (h.cell (World.block_lt_of_cell? w a hc)).trans hc
theorem Rd.below {w w' : World} {A : Option Addr} {xs : List Nat} (h : Rd w A xs) (hb : Below w.heap.size w w') : Rd w' A xs := fun k hk => by
  obtain ⟨ad, e, hc⟩ := h k hk
  exact ⟨ad, e, cell_below hb hc⟩
theorem Rd.nil_ (w : World) (A : Option Addr) : Rd w A [] := fun k hk => absurd hk (by simp)
theorem Rd.take_ {w : World} {A : Option Addr} {xs : List Nat} (h : Rd w A xs) (n : Nat) : Rd w A (xs.take n) := fun k hk => by
  rw [List.length_take] at hk
  obtain ⟨ad, e, hc⟩ := h k (by omega)
  refine ⟨ad, e, ?_⟩
  rw [hc, List.getD_eq_getElem?_getD, List.getD_eq_getElem?_getD, List.getElem?_take, if_pos (by omega)]
theorem Rd.of_own {w : World} {base : Nat} {e : TypeId} {A : Option Addr} {n c : Nat} {xs : List Nat} (h : w.ownsRow base e 1 (.slice A n c) n (u32s xs)) (hn : xs.length = n) : Rd w A xs := by
  intro k hk
  obtain ⟨g, cap, hv, _, _⟩ := h.form (by omega)
  have hA : A = some ⟨g, 0, none⟩ := by injection hv
  have hc : cap = c := by injection hv with _ _ h3; exact h3.symm
  subst hA; subst hc
  refine ⟨_, rfl, ?_⟩
  have := h.cellAt k (by omega)
  rw [u32s_get xs k hk] at this
  rw [← this]
  unfold Addr.add
  by_cases h0 : k = 0
  · subst h0; rfl
  · rw [if_neg h0]; simp
theorem below_then {B : Nat} {w w1 w2 : World} (h : Below B w w1) (hB : B ≤ w1.heap.size) (k : Below w1.heap.size w1 w2) : Below B w w2 :=
  h.trans ⟨k.os, k.tape, k.output, k.size, fun i hi => k.block i (Nat.lt_of_lt_of_le hi hB)⟩
theorem bthen {w w1 w2 : World} (h : Below w.heap.size w w1) (k : Below w1.heap.size w1 w2) : Below w.heap.size w w2 := below_then h h.size k
theorem below_alloc {w W : World} (h : Below w.heap.size w W) (o : Obj) : Below w.heap.size w (W.alloc o) := h.alloc h.size o
theorem below_drew {B : Nat} {w W : World} (h : Below B w W) : Below B w W.drew := ⟨h.os, h.tape, h.output, h.size, h.block⟩
theorem below_drewN {B : Nat} {w W : World} (h : Below B w W) (n : Nat) : Below B w (W.drewN n) := ⟨h.os, h.tape, h.output, h.size, h.block⟩
theorem own_shape {w : World} {base : Nat} {e : TypeId} {size : Nat} {v : Value} {n : Nat} {xs : List Value} (h : w.ownsRow base e size v n xs) : ∃ A c, v = .slice A n c := by
  rcases h.2 with ⟨rfl, rfl⟩ | ⟨g, cap, _, rfl, _⟩
  · exact ⟨_, _, rfl⟩
  · exact ⟨_, _, rfl⟩

/-- The slice value '.slice A n c' reads as xs. -/
structure Sl (w : World) (A : Option Addr) (n c : Nat) (xs : List Nat) : Prop where
  len : xs.length = n
  cap : n ≤ c
  rd : Rd w A xs
theorem Sl.below {w w' : World} {A : Option Addr} {n c : Nat} {xs : List Nat} (h : Sl w A n c xs) (hb : Below w.heap.size w w') : Sl w' A n c xs := ⟨h.len, h.cap, h.rd.below hb⟩
theorem Sl.drewN {w : World} {A : Option Addr} {n c : Nat} {xs : List Nat} (h : Sl w A n c xs) (k : Nat) : Sl (w.drewN k) A n c xs := ⟨h.len, h.cap, h.rd⟩
theorem Sl.drew {w : World} {A : Option Addr} {n c : Nat} {xs : List Nat} (h : Sl w A n c xs) : Sl w.drew A n c xs := ⟨h.len, h.cap, h.rd⟩
theorem Sl.alloc {w : World} {A : Option Addr} {n c : Nat} {xs : List Nat} (h : Sl w A n c xs) (o : Obj) : Sl (w.alloc o) A n c xs := h.below (below_alloc (Below.refl _ w) o)
theorem Sl.at_ {w : World} {A : Option Addr} {n c : Nat} {xs : List Nat} (h : Sl w A n c xs) {k : Nat} (hk : k < n) : ∃ ad, A = some ad ∧ w.cell? (ad.add k) = some (.int .u32 ((xs.getD k 0 : Nat) : Int)) :=
  h.rd k (by rw [h.len]; exact hk)
theorem Sl.cell {w : World} {ad : Addr} {n c : Nat} {xs : List Nat} (h : Sl w (some ad) n c xs) {k : Nat} (hk : k < n) : w.cell? (ad.add k) = some (.int .u32 ((xs.getD k 0 : Nat) : Int)) := by
  obtain ⟨ad', e, hc⟩ := h.at_ hk
  injection e with e; subst e; exact hc
theorem Sl.of_own {w : World} {base : Nat} {e : TypeId} {A : Option Addr} {n c : Nat} {xs : List Nat} (h : w.ownsRow base e 1 (.slice A n c) n (u32s xs)) : Sl w A n c xs := by
  have hl : xs.length = n := by have := h.1; rw [u32s_length] at this; omega
  refine ⟨hl, ?_, Rd.of_own h hl⟩
  rcases h.2 with ⟨_, h0⟩ | ⟨g, cap, _, hv, _, _, hc, _⟩
  · omega
  · injection hv with _ _ h3; omega
/-- Hands back a slice of its own, that reads as xs. -/
def OwnPost (xs : List Nat) (w : World) (e : Ending) (w' : World) : Prop :=
  ∃ A n c, e = .returned (.slice A n c) ∧ w'.ownsRow w.heap.size 57 1 (.slice A n c) n (u32s xs) ∧ xs.length = n ∧ Below w.heap.size w w'
/-- Nothing that was there has turned; the slice at A lies in new memory. -/
structure BelowN (w w' : World) (A : Option Addr) (n : Nat) : Prop where
  bel : Below w.heap.size w w'
  new : ∀ ad, A = some ad → 0 < n → w.heap.size ≤ ad.block
/-- Hands back the digits of a number. -/
def NatPost (m : Nat) (w : World) (e : Ending) (w' : World) : Prop :=
  ∃ A n c, e = .returned (.slice A n c) ∧ Sl w' A n c (dig m) ∧ BelowN w w' A n
theorem new_of_own {w : World} {base : Nat} {e : TypeId} {A : Option Addr} {n c : Nat} {xs : List Value} (h : w.ownsRow base e 1 (.slice A n c) n xs) : ∀ ad, A = some ad → 0 < n → base ≤ ad.block := by
  intro ad hA hn
  obtain ⟨g, cap, hv, hg, _⟩ := h.form hn
  injection hv with h1
  rw [h1] at hA
  injection hA with hA
  subst hA
  exact hg
theorem OwnPost.nat {m : Nat} {w w' : World} {e : Ending} (h : OwnPost (dig m) w e w') : NatPost m w e w' := by
  obtain ⟨A, n, c, he, ho, _, hb⟩ := h
  exact ⟨A, n, c, he, Sl.of_own ho, hb, new_of_own ho⟩
theorem OwnPost.of {w w1 : World} {xs : List Nat} {v : Value} {n : Nat} {ys : List Value} (hn : n = xs.length) (hy : ys = u32s xs) (h : w1.ownsRow w.heap.size 57 1 v n ys) (hb : Below w.heap.size w w1) : OwnPost xs w (.returned v) w1 := by
  subst hn; subst hy
  obtain ⟨A, c, rfl⟩ : ∃ A c, v = .slice A xs.length c := own_shape h
  exact ⟨A, _, c, rfl, h, rfl, hb⟩
theorem Rd.cells {w : World} {ad : Addr} {xs : List Nat} (h : Rd w (some ad) xs) : ∀ (j : Nat) (u : Value), (u32s xs)[j]? = some u → w.cell? (ad.add j) = some u := by
  intro j u hu
  have hj : j < xs.length := by
    rcases Nat.lt_or_ge j xs.length with h1 | h1
    · exact h1
    · rw [List.getElem?_eq_none (by rw [u32s_length]; exact h1)] at hu; cases hu
  obtain ⟨ad', e, hc⟩ := h j hj
  injection e with e; subst e
  rw [hc, ← u32s_get xs j hj, hu]
theorem Tryd.info57 : (Tryd.prog.info? 57).map (fun i => (i.zero, i.size, i.bytes)) = some (some (.int .u32 0), 1, 4) := by kernel_rfl

theorem made_u32 (n : Nat) : (madeCells (Value.int IntKind.u32 0).cells (n * 1)).toList = u32s (List.replicate n 0) := by
  apply List.ext_getElem
  · simp [size_madeCells, u32s]
  · intro i h1 h2
    have : i % 1 = 0 := by omega
    simp [madeCells, u32s, Value.cells, this]

/-- Block g is a row that the call made (it began in world w): L digits, which read as xs in world wr. -/
structure Row (w wr : World) (g L c : Nat) (xs : List Nat) : Prop where
  own : wr.ownsRow w.heap.size 57 1 (.slice (some ⟨g, 0, none⟩) L c) L (u32s xs)
  ds : Ds xs
  bel : Below w.heap.size w wr
  base : w.heap.size ≤ g
theorem Row.len {w wr : World} {g L c : Nat} {xs : List Nat} (h : Row w wr g L c xs) : xs.length = L := by
  have := h.own.1; rw [u32s_length] at this; omega
theorem Row.cell {w wr : World} {g L c : Nat} {xs : List Nat} (h : Row w wr g L c xs) {k : Nat} (hk : k < L) : wr.cell? ⟨g, k, none⟩ = some (.int .u32 ((xs.getD k 0 : Nat) : Int)) := by
  rw [h.own.cellAt k (by omega), u32s_get xs k (by rw [h.len]; exact hk)]
theorem Row.frozen {w wr : World} {g L c : Nat} {xs : List Nat} (h : Row w wr g L c xs) (k : Nat) : wr.frozen? ⟨g, k, none⟩ = false := h.own.frozenAt k
theorem Row.set {w wr : World} {g L c : Nat} {xs : List Nat} (h : Row w wr g L c xs) (k : Nat) {u : Int} (v : Nat) (hu : u = (v : Int)) (hv : v < 4294967296) :
    Row w (wr.setCell ⟨g, k, none⟩ (.int .u32 u)) g L c (xs.set k v) := by
  subst hu
  refine ⟨?_, ds_set h.ds k hv, h.bel.setCell h.base _, h.base⟩
  rw [← u32s_set]
  exact (h.own.stored k _).1
theorem Row.sl {w wr : World} {g L c : Nat} {xs : List Nat} (h : Row w wr g L c xs) : Sl wr (some ⟨g, 0, none⟩) L c xs := Sl.of_own h.own
theorem Row.drew {w wr : World} {g L c : Nat} {xs : List Nat} (h : Row w wr g L c xs) : Row w wr.drew g L c xs := ⟨h.own.drew, h.ds, below_drew h.bel, h.base⟩
theorem Row.made {w w0 w1 : World} {n : Nat} (hb : Below w.heap.size w w0)
    (h : w1.ownsRow w.heap.size 57 1 (.slice (some ⟨w0.heap.size, 0, none⟩) n n) n (madeCells (Value.int IntKind.u32 0).cells (n * 1)).toList) (hg : w0.grownBy w1 none) :
    Row w w1 w0.heap.size n n (List.replicate n 0) := by
  rw [made_u32] at h
  exact ⟨h, ds_replicate n, hb.grown hg hb.size (by intro k hk; cases hk), hb.size⟩
theorem Row.get_lt {w wr : World} {g L c : Nat} {xs : List Nat} (h : Row w wr g L c xs) (k : Nat) : xs.getD k 0 < 4294967296 := ds_get h.ds k
/-- What a callee that makes memory leaves of a row. -/
theorem Row.later {w wr w2 : World} {g L c : Nat} {xs : List Nat} (h : Row w wr g L c xs) (hb : Below wr.heap.size wr w2) : Row w w2 g L c xs := by
  refine ⟨?_, h.ds, bthen h.bel hb, h.base⟩
  have hg : g < wr.heap.size := by
    obtain ⟨hl, hv⟩ := h.own
    rcases hv with ⟨h1, _⟩ | ⟨g', _, _, h1, _, h3, _⟩
    · simp at h1
    · simp only [Value.slice.injEq, Option.some.injEq, Addr.mk.injEq, and_true, true_and] at h1
      rw [h1.1]
      rcases Nat.lt_or_ge g' wr.heap.size with h4 | h4
      · exact h4
      · rw [Array.getElem?_eq_none h4] at h3; cases h3
  obtain ⟨hl, hv⟩ := h.own
  refine ⟨hl, ?_⟩
  rcases hv with h1 | ⟨g', cap, cur, h1, h2, h3, h4, h5, h6, h7⟩
  · exact .inl h1
  · refine .inr ⟨g', cap, cur, h1, h2, ?_, h4, h5, h6, h7⟩
    simp only [Value.slice.injEq, Option.some.injEq, Addr.mk.injEq, and_true, true_and] at h1
    rw [hb.block g' (by rw [← h1.1]; exact hg)]; exact h3
theorem NatPost.of_below {m : Nat} {w w1 w2 : World} {e : Ending} (hb : Below w.heap.size w w1) (h : NatPost m w1 e w2) : NatPost m w e w2 := by
  obtain ⟨A, n, c, he, hs, hb2⟩ := h
  exact ⟨A, n, c, he, hs, bthen hb hb2.bel, fun ad hA hn => Nat.le_trans hb.size (hb2.new ad hA hn)⟩
theorem Sl.far {w : World} {A : Option Addr} {n c : Nat} {xs : List Nat} (h : Sl w A n c xs) {g k : Nat} (hne : ∀ ad, A = some ad → 0 < n → ad.block ≠ g) (u : Value) : Sl (w.setCell ⟨g, k, none⟩ u) A n c xs := by
  refine ⟨h.len, h.cap, fun i hi => ?_⟩
  obtain ⟨ad, hA, hc⟩ := h.rd i hi
  refine ⟨ad, hA, ?_⟩
  rw [World.cell?_setCell_other w ⟨g, k, none⟩ (ad.add i) u ?_]
  · exact hc
  · intro e
    have := hne ad hA (by have := h.len; omega)
    rw [← block_of_add ad i] at this
    first | exact this (by rw [e]) | exact this (by rw [← e])
theorem Row.lt {w wr : World} {g L c : Nat} {xs : List Nat} (h : Row w wr g L c xs) : g < wr.heap.size := by
  obtain ⟨hl, hv⟩ := h.own
  rcases hv with ⟨h1, _⟩ | ⟨g', _, _, h1, _, h3, _⟩
  · simp at h1
  · simp only [Value.slice.injEq, Option.some.injEq, Addr.mk.injEq, and_true, true_and] at h1
    rw [h1.1]
    rcases Nat.lt_or_ge g' wr.heap.size with h4 | h4
    · exact h4
    · rw [Array.getElem?_eq_none h4] at h3; cases h3
theorem Row.of_own {w w1 : World} {A : Option Addr} {n c : Nat} {xs : List Nat} (h : w1.ownsRow w.heap.size 57 1 (.slice A n c) n (u32s xs)) (hd : Ds xs) (hb : Below w.heap.size w w1) (hn : 0 < n) :
    ∃ g, A = some ⟨g, 0, none⟩ ∧ Row w w1 g n c xs := by
  obtain ⟨g, cap, hv, hg, hlt⟩ := h.form hn
  have hA : A = some ⟨g, 0, none⟩ := by injection hv
  subst hA
  exact ⟨g, rfl, h, hd, hb, hg⟩
end Go.Proofs.YtaahbabdbopphaaDoor
namespace Go.Proofs.YtaahbabdbopphaaDoor
open Go.RowKit Mx
set_option maxRecDepth 100000
set_option maxHeartbeats 400000 in
theorem clone_any (A : Option Addr) (c : Nat) (xs : List Nat) (w : World) (n : Nat) (h : Sl w A n c xs) (hl : n ≤ 1000000000) :
    Calls Tryd.prog 125 #[.slice A n c] w (OwnPost xs w) := by
  obtain ⟨rfl, hc, h⟩ := h
  obtain ⟨i0, hi0, hz0, hz1, hz2⟩ := info_parts Tryd.info57
  have heq := fun (w : World) (n c : Nat) => Lib.run_eql_slice_nil (P := Tryd.prog) w 22 57 A n c 0 0 Tryd.underlying22
  cases A with
  | none =>
    have hx : xs = [] := by
      cases xs with
      | nil => rfl
      | cons x xs => obtain ⟨_, e, _⟩ := h 0 (by simp); cases e
    subst hx
    go_enter Tryd.func125, Tryd.ntmps125
    go_wp2_with fail
    go_ret
    exact OwnPost.of rfl rfl (World.ownsRow_nil _ _ _ _) (Below.refl _ _)
  | some ad =>
    have hcs := fun o => (h.below (below_alloc (Below.refl _ w) o)).cells
    have h0 := World.ownsRow_lit (e := 57) (size := 1) (base := w.heap.size) w #[] 0 (Nat.le_refl _) (by simp [maxLen]) rfl
    go_enter Tryd.func125, Tryd.ntmps125
    go_wp2_with (at_builtin; refine wpList_append_own _ rfl _ _ 22 rfl w.heap.size 57 i0 (.int .u32 0) 1 4 Tryd.underlying22 hi0 hz0 hz1 hz2 rfl (by decide) (.slice (some ⟨w.heap.size, 0, none⟩) 0 0) 0 [] rfl h0 ad xs.length c (u32s xs) rfl (by simp [u32s]) (hcs _) (u32s_one xs) (by simp only [maxLen]; omega) (by omega) (by simp) ?_; intro v' w1 hown hgrow _)
    go_ret
    refine OwnPost.of (by omega) (by simp) hown ?_
    exact (below_alloc (Below.refl _ w) _).grown hgrow (by simp) (by intro k hk; simp only [Value.ownBlock, Option.some.injEq] at hk; exact Nat.le_of_eq hk)
set_option maxHeartbeats 400000 in
theorem cloneN_any (A : Option Addr) (c : Nat) (xs : List Nat) (w : World) (n : Nat) (h : Sl w A n c xs) (hl : n ≤ 1000000000) :
    Calls Tryd.prog 114 #[.slice A n c] w (OwnPost xs w) := by
  obtain ⟨rfl, hc, h⟩ := h
  obtain ⟨i0, hi0, hz0, hz1, hz2⟩ := info_parts Tryd.info57
  have heq := fun (w : World) (n c : Nat) => Lib.run_eql_slice_nil (P := Tryd.prog) w 64 57 A n c 0 0 Tryd.underlying64
  cases A with
  | none =>
    have hx : xs = [] := by
      cases xs with
      | nil => rfl
      | cons x xs => obtain ⟨_, e, _⟩ := h 0 (by simp); cases e
    subst hx
    go_enter Tryd.func114, Tryd.ntmps114
    go_wp2_with fail
    go_ret
    exact OwnPost.of rfl rfl (World.ownsRow_nil _ _ _ _) (Below.refl _ _)
  | some ad =>
    have hcs := fun o => (h.below (below_alloc (Below.refl _ w) o)).cells
    have h0 := World.ownsRow_lit (e := 57) (size := 1) (base := w.heap.size) w #[] 0 (Nat.le_refl _) (by simp [maxLen]) rfl
    go_enter Tryd.func114, Tryd.ntmps114
    go_wp2_with (at_builtin; refine wpList_append_own _ rfl _ _ 64 rfl w.heap.size 57 i0 (.int .u32 0) 1 4 Tryd.underlying64 hi0 hz0 hz1 hz2 rfl (by decide) (.slice (some ⟨w.heap.size, 0, none⟩) 0 0) 0 [] rfl h0 ad xs.length c (u32s xs) rfl (by simp [u32s]) (hcs _) (u32s_one xs) (by simp only [maxLen]; omega) (by omega) (by simp) ?_; intro v' w1 hown hgrow _)
    go_ret
    refine OwnPost.of (by omega) (by simp) hown ?_
    exact (below_alloc (Below.refl _ w) _).grown hgrow (by simp) (by intro k hk; simp only [Value.ownBlock, Option.some.injEq] at hk; exact Nat.le_of_eq hk)
set_option maxHeartbeats 400000 in
theorem trimmed_any (A : Option Addr) (c : Nat) (xs : List Nat) (w : World) (n : Nat) (h : Sl w A n c xs) (hds : Ds xs) (hl : n ≤ 1000000000) :
    Calls Tryd.prog 108 #[.slice A n c] w (OwnPost (dig (val xs)) w) := by
  obtain ⟨rfl, hc, h⟩ := h
  go_enter Tryd.func108, Tryd.ntmps108
  go_wp2_with fail
  go_loop [3] (fun i => ∃ k : Nat, k ≤ xs.length ∧ i = .int .i64 k ∧ Hid (∀ j, k ≤ j → j < xs.length → xs.getD j 0 = 0)) (fun i => (intOf i).toNat)
  case atStart => exact ⟨xs.length, Nat.le_refl _, rfl, fun j h1 h2 => by omega⟩
  case round =>
    obtain ⟨k, hk, rfl, HZ⟩ := hrel
    by_cases hk0 : k = 0
    · subst hk0
      have HT := Lib.hid (trim_to hds hk HZ.out (.inl rfl))
      go_wp2_with fail
      refine (clone_any A c (xs.take 0) _ 0 ⟨by simp, by omega, h.take_ 0⟩ (by omega)).mono ?_
      rintro e w1 ⟨A1, n1, c1, rfl, ho, hn1, hb⟩
      rw [HT.out] at ho hn1
      go_wp2_with fail
      go_ret
      exact ⟨_, _, _, rfl, ho, hn1, hb⟩
    · obtain ⟨ad, rfl, hcell⟩ := h (k - 1) (by omega)
      obtain ⟨d, hd⟩ : ∃ d : Nat, d = xs.getD (k - 1) 0 := ⟨_, rfl⟩
      rw [← hd] at hcell
      by_cases hz : d = 0
      · subst hz
        have HZ' : Hid (∀ j, k - 1 ≤ j → j < xs.length → xs.getD j 0 = 0) := fun j h1 h2 => by
          rcases Nat.eq_or_lt_of_le h1 with h1 | h1
          · rw [← h1, ← hd]
          · exact HZ.out j (by omega) h2
        clear hd
        go_wp2_with fail
        go_round
        case rel => exact ⟨k - 1, by omega, by go_num, HZ'⟩
        case measure => simp [intOf]; omega
      · have hz' : ((d : Int) == 0) = false := beq_eq_false_iff_ne.2 (by omega)
        have HT := Lib.hid (trim_to hds hk HZ.out (.inr (by rw [← hd]; exact hz)))
        clear hd
        go_wp2_with fail
        refine (clone_any (some ad) c (xs.take k) _ k ⟨by simp; omega, by omega, h.take_ k⟩ (by omega)).mono ?_
        rintro e w1 ⟨A1, n1, c1, rfl, ho, hn1, hb⟩
        rw [HT.out] at ho hn1
        go_wp2_with fail
        go_ret
        exact ⟨_, _, _, rfl, ho, hn1, hb⟩
end Go.Proofs.YtaahbabdbopphaaDoor
namespace Go.Proofs.YtaahbabdbopphaaDoor
open Go.RowKit Mx
set_option maxRecDepth 100000

set_option maxHeartbeats 1000000 in
theorem add_lt (A1 A2 : Option Addr) (n1 n2 c1 c2 a b : Nat) (w : World) (h1 : Sl w A1 n1 c1 (dig a)) (h2 : Sl w A2 n2 c2 (dig b)) (hl1 : n1 ≤ 100000000) (hl2 : n2 ≤ 100000000) (hle : n1 < n2) :
    Calls Tryd.prog 90 #[.slice A1 n1 c1, .slice A2 n2 c2] w (NatPost (a + b) w) := by
  obtain ⟨i0, hi0, hz0, hz1, hz2⟩ := info_parts Tryd.info57
  go_enter Tryd.func90, Tryd.ntmps90
  go_wp2_with ((with_reducible refine wpList_make_full _ rfl _ _ 22 rfl w.heap.size 57 i0 (.int .u32 0) 1 Tryd.underlying22 hi0 hz0 hz1 .i64 .i64 _ _ (n2 + 1) rfl rfl (by omega) (by omega) (by rw [hz2]; omega) (by simp only [maxLen]; omega) (Nat.le_refl _) ?_); intro w1 hown hgrow)
  have hrow := Row.made (Below.refl _ w) hown hgrow
  clear hown hgrow
  go_loopw [6, 17] (fun cy i wr => ∃ (k C : Nat) (out : List Nat), k ≤ n2 + 1 ∧ i = .int .i64 k ∧ cy = .int .u64 C ∧ C ≤ 1 ∧ Row w wr w.heap.size (n2 + 1) (n2 + 1) out ∧
      Hid (val (out.take k) + 4294967296 ^ k * C = val ((dig a).take k) + val ((dig b).take k)))
    (fun _ i _ => n2 + 1 - (intOf i).toNat)
  case atStart => exact ⟨0, 0, List.replicate (n2 + 1) 0, Nat.zero_le _, rfl, rfl, by omega, hrow, by simp [Hid, val]⟩
  case round =>
    clear hrow
    obtain ⟨k, C, out, hk, rfl, rfl, hC, hR, HV⟩ := hrel
    by_cases hkM : k < n2 + 1
    · obtain ⟨x, hx⟩ : ∃ x : Nat, x = (dig a).getD k 0 := ⟨_, rfl⟩
      obtain ⟨y, hy⟩ : ∃ y : Nat, y = (dig b).getD k 0 := ⟨_, rfl⟩
      have hx32 : x < 4294967296 := by rw [hx]; exact ds_get (ds_dig a) k
      have hy32 : y < 4294967296 := by rw [hy]; exact ds_get (ds_dig b) k
      have hx0 : n1 ≤ k → x = 0 := fun h => by rw [hx]; exact getD_ge _ _ (by rw [h1.len]; exact h)
      have hy0 : n2 ≤ k → y = 0 := fun h => by rw [hy]; exact getD_ge _ _ (by rw [h2.len]; exact h)
      have hcx : k < n1 → ∃ ad, A1 = some ad ∧ wr.cell? (ad.add k) = some (.int .u32 (x : Int)) := fun h => by rw [hx]; exact (h1.below hR.bel).at_ h
      have hcy : k < n2 → ∃ ad, A2 = some ad ∧ wr.cell? (ad.add k) = some (.int .u32 (y : Int)) := fun h => by rw [hy]; exact (h2.below hR.bel).at_ h
      have hcell := hR.cell hkM
      have hfz := hR.frozen k
      have HN : Hid (∀ s : Nat, s = C + x + y → Hid (val ((out.set k (s % 4294967296)).take (k + 1)) + 4294967296 ^ (k + 1) * (s / 4294967296) = val ((dig a).take (k + 1)) + val ((dig b).take (k + 1)))) := Lib.hid (fun s hs => by
        rw [val_take_succ', val_take_succ', val_take_succ', take_set_ge, getD_set_same _ _ _ (by rw [hR.len]; exact hkM), ← hx, ← hy]
        exact add_step HV.out (by omega))
      clear hx hy h1 h2
      by_cases hk1 : k < n1 <;> by_cases hk2 : k < n2
      · obtain ⟨ad1, rfl, hc1⟩ := hcx hk1
        obtain ⟨ad2, rfl, hc2⟩ := hcy hk2
        clear hcx hcy hx0 hy0
        go_wp2_with fail
        go_roundw
        case rel => exact ⟨k + 1, (C + x + y) / 4294967296, out.set k ((C + x + y) % 4294967296), by omega, by go_num, by go_num, by omega, hR.set k _ (by omega) (by omega), HN.out _ rfl⟩
        case measure => simp [intOf]; omega
      · omega
      · obtain ⟨ad2, rfl, hc2⟩ := hcy hk2
        obtain rfl := hx0 (by omega)
        clear hcx hcy hx0 hy0
        go_wp2_with fail
        go_roundw
        case rel => exact ⟨k + 1, (C + y) / 4294967296, out.set k ((C + y) % 4294967296), by omega, by go_num, by go_num, by omega, hR.set k _ (by omega) (by omega), HN.out _ (by omega)⟩
        case measure => simp [intOf]; omega
      · obtain rfl := hx0 (by omega)
        obtain rfl := hy0 (by omega)
        clear hcx hcy hx0 hy0
        go_wp2_with fail
        go_roundw
        case rel => exact ⟨k + 1, C / 4294967296, out.set k (C % 4294967296), by omega, by go_num, by go_num, by omega, hR.set k _ (by omega) (by omega), HN.out _ (by omega)⟩
        case measure => simp [intOf]; omega
    · have HT : Hid (val out = a + b) := Lib.hid (add_end HV.out (by rw [hR.len]; omega) (by rw [h1.len]; omega) (by rw [h2.len]; omega))
      go_wp2_with fail
      refine (trimmed_any _ _ out _ (n2 + 1) hR.sl hR.ds (by omega)).mono ?_
      rintro e w2 hp
      rw [HT.out] at hp
      obtain ⟨A3, n3, c3, rfl, hs, hb⟩ := NatPost.of_below hR.bel hp.nat
      go_wp2_with fail
      go_ret
      exact ⟨_, _, _, rfl, hs, hb⟩

set_option maxHeartbeats 1000000 in
theorem add_ge (A1 A2 : Option Addr) (n1 n2 c1 c2 a b : Nat) (w : World) (h1 : Sl w A1 n1 c1 (dig a)) (h2 : Sl w A2 n2 c2 (dig b)) (hl1 : n1 ≤ 100000000) (_hl2 : n2 ≤ 100000000) (hle : ¬ n1 < n2) :
    Calls Tryd.prog 90 #[.slice A1 n1 c1, .slice A2 n2 c2] w (NatPost (a + b) w) := by
  obtain ⟨i0, hi0, hz0, hz1, hz2⟩ := info_parts Tryd.info57
  go_enter Tryd.func90, Tryd.ntmps90
  go_wp2_with ((with_reducible refine wpList_make_full _ rfl _ _ 22 rfl w.heap.size 57 i0 (.int .u32 0) 1 Tryd.underlying22 hi0 hz0 hz1 .i64 .i64 _ _ (n1 + 1) rfl rfl (by omega) (by omega) (by rw [hz2]; omega) (by simp only [maxLen]; omega) (Nat.le_refl _) ?_); intro w1 hown hgrow)
  have hrow := Row.made (Below.refl _ w) hown hgrow
  clear hown hgrow
  go_loopw [6, 17] (fun cy i wr => ∃ (k C : Nat) (out : List Nat), k ≤ n1 + 1 ∧ i = .int .i64 k ∧ cy = .int .u64 C ∧ C ≤ 1 ∧ Row w wr w.heap.size (n1 + 1) (n1 + 1) out ∧
      Hid (val (out.take k) + 4294967296 ^ k * C = val ((dig a).take k) + val ((dig b).take k)))
    (fun _ i _ => n1 + 1 - (intOf i).toNat)
  case atStart => exact ⟨0, 0, List.replicate (n1 + 1) 0, Nat.zero_le _, rfl, rfl, by omega, hrow, by simp [Hid, val]⟩
  case round =>
    clear hrow
    obtain ⟨k, C, out, hk, rfl, rfl, hC, hR, HV⟩ := hrel
    by_cases hkM : k < n1 + 1
    · obtain ⟨x, hx⟩ : ∃ x : Nat, x = (dig a).getD k 0 := ⟨_, rfl⟩
      obtain ⟨y, hy⟩ : ∃ y : Nat, y = (dig b).getD k 0 := ⟨_, rfl⟩
      have hx32 : x < 4294967296 := by rw [hx]; exact ds_get (ds_dig a) k
      have hy32 : y < 4294967296 := by rw [hy]; exact ds_get (ds_dig b) k
      have hx0 : n1 ≤ k → x = 0 := fun h => by rw [hx]; exact getD_ge _ _ (by rw [h1.len]; exact h)
      have hy0 : n2 ≤ k → y = 0 := fun h => by rw [hy]; exact getD_ge _ _ (by rw [h2.len]; exact h)
      have hcx : k < n1 → ∃ ad, A1 = some ad ∧ wr.cell? (ad.add k) = some (.int .u32 (x : Int)) := fun h => by rw [hx]; exact (h1.below hR.bel).at_ h
      have hcy : k < n2 → ∃ ad, A2 = some ad ∧ wr.cell? (ad.add k) = some (.int .u32 (y : Int)) := fun h => by rw [hy]; exact (h2.below hR.bel).at_ h
      have hcell := hR.cell hkM
      have hfz := hR.frozen k
      have HN : Hid (∀ s : Nat, s = C + x + y → Hid (val ((out.set k (s % 4294967296)).take (k + 1)) + 4294967296 ^ (k + 1) * (s / 4294967296) = val ((dig a).take (k + 1)) + val ((dig b).take (k + 1)))) := Lib.hid (fun s hs => by
        rw [val_take_succ', val_take_succ', val_take_succ', take_set_ge, getD_set_same _ _ _ (by rw [hR.len]; exact hkM), ← hx, ← hy]
        exact add_step HV.out (by omega))
      clear hx hy h1 h2
      by_cases hk1 : k < n1 <;> by_cases hk2 : k < n2
      · obtain ⟨ad1, rfl, hc1⟩ := hcx hk1
        obtain ⟨ad2, rfl, hc2⟩ := hcy hk2
        clear hcx hcy hx0 hy0
        go_wp2_with fail
        go_roundw
        case rel => exact ⟨k + 1, (C + x + y) / 4294967296, out.set k ((C + x + y) % 4294967296), by omega, by go_num, by go_num, by omega, hR.set k _ (by omega) (by omega), HN.out _ rfl⟩
        case measure => simp [intOf]; omega
      · obtain ⟨ad1, rfl, hc1⟩ := hcx hk1
        obtain rfl := hy0 (by omega)
        clear hcx hcy hx0 hy0
        go_wp2_with fail
        go_roundw
        case rel => exact ⟨k + 1, (C + x) / 4294967296, out.set k ((C + x) % 4294967296), by omega, by go_num, by go_num, by omega, hR.set k _ (by omega) (by omega), HN.out _ rfl⟩
        case measure => simp [intOf]; omega
      · omega
      · obtain rfl := hx0 (by omega)
        obtain rfl := hy0 (by omega)
        clear hcx hcy hx0 hy0
        go_wp2_with fail
        go_roundw
        case rel => exact ⟨k + 1, C / 4294967296, out.set k (C % 4294967296), by omega, by go_num, by go_num, by omega, hR.set k _ (by omega) (by omega), HN.out _ (by omega)⟩
        case measure => simp [intOf]; omega
    · have HT : Hid (val out = a + b) := Lib.hid (add_end HV.out (by rw [hR.len]; omega) (by rw [h1.len]; omega) (by rw [h2.len]; omega))
      go_wp2_with fail
      refine (trimmed_any _ _ out _ (n1 + 1) hR.sl hR.ds (by omega)).mono ?_
      rintro e w2 hp
      rw [HT.out] at hp
      obtain ⟨A3, n3, c3, rfl, hs, hb⟩ := NatPost.of_below hR.bel hp.nat
      go_wp2_with fail
      go_ret
      exact ⟨_, _, _, rfl, hs, hb⟩
theorem add_any (A1 A2 : Option Addr) (n1 n2 c1 c2 a b : Nat) (w : World) (h1 : Sl w A1 n1 c1 (dig a)) (h2 : Sl w A2 n2 c2 (dig b)) (hl1 : n1 ≤ 100000000) (hl2 : n2 ≤ 100000000) :
    Calls Tryd.prog 90 #[.slice A1 n1 c1, .slice A2 n2 c2] w (NatPost (a + b) w) := by
  by_cases h : n1 < n2
  · exact add_lt A1 A2 n1 n2 c1 c2 a b w h1 h2 hl1 hl2 h
  · exact add_ge A1 A2 n1 n2 c1 c2 a b w h1 h2 hl1 hl2 h
end Go.Proofs.YtaahbabdbopphaaDoor
namespace Go.Proofs.YtaahbabdbopphaaDoor
open Go.RowKit Mx
set_option maxRecDepth 100000

theorem val_two (m : Nat) : val [m % 4294967296, m / 4294967296] = m := by simp [val]; omega
set_option maxHeartbeats 400000 in
theorem small_any (m : Int) (w : World) (h0 : 0 ≤ m) (h1 : m ≤ 18446744073709551615) :
    Calls Tryd.prog 86 #[.int .u64 m] w (NatPost m.toNat w) := by
  have hrow := World.ownsRow_lit (e := 57) (size := 1) (base := w.heap.size) w #[.int .u32 (m % 4294967296), .int .u32 (m / 4294967296)] 2 (Nat.le_refl _) (by simp [maxLen]) rfl
  have hsl : Sl (w.alloc (.cells #[.int .u32 (m % 4294967296), .int .u32 (m / 4294967296)] 57)) (some ⟨w.heap.size, 0, none⟩) 2 2 [m.toNat % 4294967296, m.toNat / 4294967296] := by
    refine Sl.of_own (base := w.heap.size) (e := 57) ?_
    have e : u32s [m.toNat % 4294967296, m.toNat / 4294967296] = (#[Value.int .u32 (m % 4294967296), .int .u32 (m / 4294967296)] : Array Value).toList := by
      simp [u32s]; omega
    rw [e]; exact hrow
  have hds : Ds [m.toNat % 4294967296, m.toNat / 4294967296] := by
    intro x hx; simp at hx; omega
  have HV := Lib.hid (val_two m.toNat)
  clear hrow
  go_enter Tryd.func86, Tryd.ntmps86
  go_wp2_with fail
  refine (trimmed_any _ _ _ _ 2 hsl hds (by omega)).mono ?_
  rintro e w2 hp
  rw [HV.out] at hp
  obtain ⟨A3, n3, c3, rfl, hs, hb⟩ := NatPost.of_below (below_alloc (Below.refl _ w) _) hp.nat
  go_wp2_with fail
  go_ret
  exact ⟨_, _, _, rfl, hs, hb⟩

/-- compare's answers. -/
def CmpPost (r : Int) (w : World) (e : Ending) (w' : World) : Prop := e = .returned (.int .i64 r) ∧ ∃ n, w' = w.drewN n
set_option maxHeartbeats 1000000 in
theorem compare_lt (A1 A2 : Option Addr) (n1 n2 c1 c2 a b : Nat) (w : World) (h1 : Sl w A1 n1 c1 (dig a)) (h2 : Sl w A2 n2 c2 (dig b)) (hl1 : n1 ≤ 1000000000) (hl2 : n2 ≤ 1000000000) (hlt : a < b) :
    Calls Tryd.prog 85 #[.slice A1 n1 c1, .slice A2 n2 c2] w (CmpPost (-1) w) := by
  have hle : n1 ≤ n2 := by rw [← h1.len, ← h2.len]; exact len_mono (by omega)
  by_cases hn : n1 < n2
  · go_enter Tryd.func85, Tryd.ntmps85
    go_wp2_with fail
    go_ret
    exact ⟨rfl, 0, rfl⟩
  · obtain rfl : n1 = n2 := by omega
    clear hle hn
    go_enter Tryd.func85, Tryd.ntmps85
    go_wp2_with fail
    go_loopw [5] (fun i wr => ∃ (k n : Nat), k ≤ n1 ∧ i = .int .i64 ((k : Int) - 1) ∧ wr = w.drewN n ∧ Hid (val ((dig a).drop k) = val ((dig b).drop k)))
      (fun i _ => (intOf i + 1).toNat)
    case atStart => exact ⟨n1, 0, Nat.le_refl _, by go_num, rfl, by rw [val_drop_ge _ _ (by rw [h1.len]; omega), val_drop_ge _ _ (by rw [h2.len]; omega)]; rfl⟩
    case round =>
      obtain ⟨k, n, hk, rfl, rfl, HV⟩ := hrel
      by_cases hk0 : k = 0
      · exfalso
        have := HV.out
        rw [hk0] at this
        simp only [List.drop_zero, val_dig] at this
        omega
      · obtain ⟨x, hx⟩ : ∃ x : Nat, x = (dig a).getD (k - 1) 0 := ⟨_, rfl⟩
        obtain ⟨y, hy⟩ : ∃ y : Nat, y = (dig b).getD (k - 1) 0 := ⟨_, rfl⟩
        obtain ⟨ad1, rfl, hc1⟩ := h1.at_ (k := k - 1) (by omega)
        obtain ⟨ad2, rfl, hc2⟩ := h2.at_ (k := k - 1) (by omega)
        rw [← hx] at hc1
        rw [← hy] at hc2
        have i1 : (0 : Int) ≤ (k : Int) - 1 := by omega
        have i2 : (k : Int) - 1 < (n1 : Int) := by omega
        have i3 : ((k : Int) - 1).toNat = k - 1 := by omega
        have hk1 : k - 1 + 1 = k := by omega
        have L1 := h1.len
        have L2 := h2.len
        have BAD1 : x < y → a < b := fun h => by
          have := cmp_at (xs := dig a) (ys := dig b) (i := k - 1) (ds_dig a) (by omega) (by omega) (by rw [hk1]; exact HV.out) (by rw [← hx, ← hy]; exact h)
          rwa [val_dig, val_dig] at this
        have BAD2 : y < x → b < a := fun h => by
          have := cmp_at (xs := dig b) (ys := dig a) (i := k - 1) (ds_dig b) (by omega) (by omega) (by rw [hk1]; exact HV.out.symm) (by rw [← hx, ← hy]; exact h)
          rwa [val_dig, val_dig] at this
        have HV' : x = y → Hid (val ((dig a).drop (k - 1)) = val ((dig b).drop (k - 1))) := fun h => Lib.hid (by
          rw [val_drop' _ (k - 1), val_drop' _ (k - 1), hk1, HV.out, ← hx, ← hy, h])
        clear L1 L2 hk1 h1 h2 hx hy
        rcases Nat.lt_trichotomy x y with hxy | hxy | hxy
        · have HB := BAD1 hxy
          clear BAD1 BAD2 HV'
          have t1 : (x == y) = false := beq_eq_false_iff_ne.2 (by omega)
          have t2 : decide (x < y) = true := decide_eq_true hxy
          go_wp2_with fail
          go_quiet (fail)
          go_wp2_with fail
          go_quiet (fail)
          go_wp2_with fail
          go_ret
          refine ⟨rfl, ?_⟩
          simp only [World.drewN_drewN]
          exact ⟨_, rfl⟩
        · have HV1 := HV' hxy
          clear BAD1 BAD2 HV'
          subst hxy
          go_wp2_with fail
          go_quiet (fail)
          go_wp2_with fail
          go_roundw
          case rel => exact ⟨k - 1, _, by omega, by go_num, rfl, HV1⟩
          case measure => simp [intOf]; omega
        · have HB := BAD2 hxy
          clear BAD1 BAD2 HV'
          omega
set_option maxHeartbeats 1000000 in
theorem compare_gt (A1 A2 : Option Addr) (n1 n2 c1 c2 a b : Nat) (w : World) (h1 : Sl w A1 n1 c1 (dig a)) (h2 : Sl w A2 n2 c2 (dig b)) (hl1 : n1 ≤ 1000000000) (hl2 : n2 ≤ 1000000000) (hlt : b < a) :
    Calls Tryd.prog 85 #[.slice A1 n1 c1, .slice A2 n2 c2] w (CmpPost (1) w) := by
  have hle : n2 ≤ n1 := by rw [← h1.len, ← h2.len]; exact len_mono (by omega)
  by_cases hn : n2 < n1
  · go_enter Tryd.func85, Tryd.ntmps85
    go_wp2_with fail
    go_ret
    exact ⟨rfl, 0, rfl⟩
  · obtain rfl : n1 = n2 := by omega
    clear hle hn
    go_enter Tryd.func85, Tryd.ntmps85
    go_wp2_with fail
    go_loopw [5] (fun i wr => ∃ (k n : Nat), k ≤ n1 ∧ i = .int .i64 ((k : Int) - 1) ∧ wr = w.drewN n ∧ Hid (val ((dig a).drop k) = val ((dig b).drop k)))
      (fun i _ => (intOf i + 1).toNat)
    case atStart => exact ⟨n1, 0, Nat.le_refl _, by go_num, rfl, by rw [val_drop_ge _ _ (by rw [h1.len]; omega), val_drop_ge _ _ (by rw [h2.len]; omega)]; rfl⟩
    case round =>
      obtain ⟨k, n, hk, rfl, rfl, HV⟩ := hrel
      by_cases hk0 : k = 0
      · exfalso
        have := HV.out
        rw [hk0] at this
        simp only [List.drop_zero, val_dig] at this
        omega
      · obtain ⟨x, hx⟩ : ∃ x : Nat, x = (dig a).getD (k - 1) 0 := ⟨_, rfl⟩
        obtain ⟨y, hy⟩ : ∃ y : Nat, y = (dig b).getD (k - 1) 0 := ⟨_, rfl⟩
        obtain ⟨ad1, rfl, hc1⟩ := h1.at_ (k := k - 1) (by omega)
        obtain ⟨ad2, rfl, hc2⟩ := h2.at_ (k := k - 1) (by omega)
        rw [← hx] at hc1
        rw [← hy] at hc2
        have i1 : (0 : Int) ≤ (k : Int) - 1 := by omega
        have i2 : (k : Int) - 1 < (n1 : Int) := by omega
        have i3 : ((k : Int) - 1).toNat = k - 1 := by omega
        have hk1 : k - 1 + 1 = k := by omega
        have L1 := h1.len
        have L2 := h2.len
        have BAD1 : x < y → a < b := fun h => by
          have := cmp_at (xs := dig a) (ys := dig b) (i := k - 1) (ds_dig a) (by omega) (by omega) (by rw [hk1]; exact HV.out) (by rw [← hx, ← hy]; exact h)
          rwa [val_dig, val_dig] at this
        have BAD2 : y < x → b < a := fun h => by
          have := cmp_at (xs := dig b) (ys := dig a) (i := k - 1) (ds_dig b) (by omega) (by omega) (by rw [hk1]; exact HV.out.symm) (by rw [← hx, ← hy]; exact h)
          rwa [val_dig, val_dig] at this
        have HV' : x = y → Hid (val ((dig a).drop (k - 1)) = val ((dig b).drop (k - 1))) := fun h => Lib.hid (by
          rw [val_drop' _ (k - 1), val_drop' _ (k - 1), hk1, HV.out, ← hx, ← hy, h])
        clear L1 L2 hk1 h1 h2 hx hy
        rcases Nat.lt_trichotomy x y with hxy | hxy | hxy
        · have HB := BAD1 hxy
          clear BAD1 BAD2 HV'
          omega
        · have HV1 := HV' hxy
          clear BAD1 BAD2 HV'
          subst hxy
          go_wp2_with fail
          go_quiet (fail)
          go_wp2_with fail
          go_roundw
          case rel => exact ⟨k - 1, _, by omega, by go_num, rfl, HV1⟩
          case measure => simp [intOf]; omega
        · have HB := BAD2 hxy
          clear BAD1 BAD2 HV'
          have t1 : (x == y) = false := beq_eq_false_iff_ne.2 (by omega)
          have t2 : decide (x < y) = false := decide_eq_false (by omega)
          go_wp2_with fail
          go_quiet (fail)
          go_wp2_with fail
          go_quiet (fail)
          go_wp2_with fail
          go_ret
          refine ⟨rfl, ?_⟩
          simp only [World.drewN_drewN]
          exact ⟨_, rfl⟩
set_option maxHeartbeats 1000000 in
theorem compare_eq (A1 A2 : Option Addr) (n1 n2 c1 c2 a b : Nat) (w : World) (h1 : Sl w A1 n1 c1 (dig a)) (h2 : Sl w A2 n2 c2 (dig b)) (hl1 : n1 ≤ 1000000000) (hl2 : n2 ≤ 1000000000) (hlt : a = b) :
    Calls Tryd.prog 85 #[.slice A1 n1 c1, .slice A2 n2 c2] w (CmpPost (0) w) := by
  have hle : n1 ≤ n2 := by rw [← h1.len, ← h2.len]; exact len_mono (by omega)
  have hge : n2 ≤ n1 := by rw [← h1.len, ← h2.len]; exact len_mono (by omega)
  by_cases hn : n1 < n2
  · omega
  · obtain rfl : n1 = n2 := by omega
    clear hle hge hn
    have HEQ := Lib.hid hlt
    clear hlt
    go_enter Tryd.func85, Tryd.ntmps85
    go_wp2_with fail
    go_loopw [5] (fun i wr => ∃ (k n : Nat), k ≤ n1 ∧ i = .int .i64 ((k : Int) - 1) ∧ wr = w.drewN n ∧ Hid (val ((dig a).drop k) = val ((dig b).drop k)))
      (fun i _ => (intOf i + 1).toNat)
    case atStart => exact ⟨n1, 0, Nat.le_refl _, by go_num, rfl, by rw [val_drop_ge _ _ (by rw [h1.len]; omega), val_drop_ge _ _ (by rw [h2.len]; omega)]; rfl⟩
    case round =>
      obtain ⟨k, n, hk, rfl, rfl, HV⟩ := hrel
      by_cases hk0 : k = 0
      · subst hk0
        go_wp2_with fail
        go_ret
        exact ⟨rfl, _, rfl⟩
      · obtain ⟨x, hx⟩ : ∃ x : Nat, x = (dig a).getD (k - 1) 0 := ⟨_, rfl⟩
        obtain ⟨y, hy⟩ : ∃ y : Nat, y = (dig b).getD (k - 1) 0 := ⟨_, rfl⟩
        obtain ⟨ad1, rfl, hc1⟩ := h1.at_ (k := k - 1) (by omega)
        obtain ⟨ad2, rfl, hc2⟩ := h2.at_ (k := k - 1) (by omega)
        rw [← hx] at hc1
        rw [← hy] at hc2
        have i1 : (0 : Int) ≤ (k : Int) - 1 := by omega
        have i2 : (k : Int) - 1 < (n1 : Int) := by omega
        have i3 : ((k : Int) - 1).toNat = k - 1 := by omega
        have hk1 : k - 1 + 1 = k := by omega
        have L1 := h1.len
        have L2 := h2.len
        have BAD1 : x < y → a < b := fun h => by
          have := cmp_at (xs := dig a) (ys := dig b) (i := k - 1) (ds_dig a) (by omega) (by omega) (by rw [hk1]; exact HV.out) (by rw [← hx, ← hy]; exact h)
          rwa [val_dig, val_dig] at this
        have BAD2 : y < x → b < a := fun h => by
          have := cmp_at (xs := dig b) (ys := dig a) (i := k - 1) (ds_dig b) (by omega) (by omega) (by rw [hk1]; exact HV.out.symm) (by rw [← hx, ← hy]; exact h)
          rwa [val_dig, val_dig] at this
        have HV' : x = y → Hid (val ((dig a).drop (k - 1)) = val ((dig b).drop (k - 1))) := fun h => Lib.hid (by
          rw [val_drop' _ (k - 1), val_drop' _ (k - 1), hk1, HV.out, ← hx, ← hy, h])
        clear L1 L2 hk1 h1 h2 hx hy
        rcases Nat.lt_trichotomy x y with hxy | hxy | hxy
        · have HB := BAD1 hxy
          have := HEQ.out
          omega
        · have HV1 := HV' hxy
          clear BAD1 BAD2 HV'
          subst hxy
          go_wp2_with fail
          go_quiet (fail)
          go_wp2_with fail
          go_roundw
          case rel => exact ⟨k - 1, _, by omega, by go_num, rfl, HV1⟩
          case measure => simp [intOf]; omega
        · have HB := BAD2 hxy
          have := HEQ.out
          omega
end Go.Proofs.YtaahbabdbopphaaDoor
namespace Go.Proofs.YtaahbabdbopphaaDoor
open Go.RowKit Mx
set_option maxRecDepth 100000

set_option maxHeartbeats 1000000 in
theorem sub_any (A1 A2 : Option Addr) (n1 n2 c1 c2 a b : Nat) (w : World) (h1 : Sl w A1 n1 c1 (dig a)) (h2 : Sl w A2 n2 c2 (dig b)) (hl1 : n1 ≤ 1000000000) (_hl2 : n2 ≤ 1000000000) (hle : b ≤ a) :
    Calls Tryd.prog 122 #[.slice A1 n1 c1, .slice A2 n2 c2] w (NatPost (a - b) w) := by
  have hn : n2 ≤ n1 := by rw [← h1.len, ← h2.len]; exact len_mono hle
  by_cases hn0 : n1 = 0
  · have ha : Hid (a = 0) := Lib.hid (len_dig_zero.1 (by rw [h1.len]; exact hn0))
    subst hn0
    go_enter Tryd.func122, Tryd.ntmps122
    go_wp2_with fail
    refine (cloneN_any A1 c1 _ w 0 h1 (by omega)).mono ?_
    rintro e w1 ⟨A3, n3, c3, rfl, ho, hn3, hb⟩
    have hl3 : n3 = 0 := by rw [← hn3]; exact h1.len
    clear hn3
    subst hl3
    go_wp2_with fail
    go_loopw [14, 6] (fun i b wr => i = .int .i64 0 ∧ wr = w1) (fun _ _ _ => 0)
    case atStart => exact ⟨rfl, rfl⟩
    case round =>
      obtain ⟨rfl, rfl⟩ := hrel
      go_wp2_with fail
      refine (trimmed_any _ _ (dig a) _ 0 (Sl.of_own ho) (ds_dig a) (by omega)).mono ?_
      rintro e w2 hp
      rw [val_dig] at hp
      obtain ⟨A4, n4, c4, rfl, hs, hb4⟩ := NatPost.of_below hb hp.nat
      go_wp2_with fail
      go_ret
      exact ⟨_, _, _, rfl, by rw [show a - b = a from by have := ha.out; omega]; exact hs, hb4⟩
  · go_enter Tryd.func122, Tryd.ntmps122
    go_wp2_with fail
    refine (cloneN_any A1 c1 _ w n1 h1 (by omega)).mono ?_
    rintro e w1 ⟨A3, n3, c3, rfl, ho, hn3, hb⟩
    obtain rfl : n3 = n1 := by rw [← hn3]; exact h1.len
    obtain ⟨g, rfl, hrow⟩ := Row.of_own ho (ds_dig a) hb (by omega)
    clear ho hb hn3
    go_wp2_with fail
    go_loopw [14, 6] (fun i bw wr => ∃ (k C : Nat) (out : List Nat), k ≤ n3 ∧ i = .int .i64 k ∧ bw = .int .u64 C ∧ C ≤ 1 ∧ Row w wr g n3 c3 out ∧
      Hid (val (out.take k) + val ((dig b).take k) = val ((dig a).take k) + 4294967296 ^ k * C) ∧ Hid (∀ j, k ≤ j → out.getD j 0 = (dig a).getD j 0))
      (fun i _ _ => n3 - (intOf i).toNat)
    case atStart => exact ⟨0, 0, dig a, Nat.zero_le _, rfl, rfl, by omega, hrow, by simp [Hid, val], fun j _ => rfl⟩
    case round =>
      clear hrow
      obtain ⟨k, C, out, hk, rfl, rfl, hC, hR, HV, HX⟩ := hrel
      by_cases hkM : k < n3
      · obtain ⟨x, hx⟩ : ∃ x : Nat, x = out.getD k 0 := ⟨_, rfl⟩
        obtain ⟨y, hy⟩ : ∃ y : Nat, y = (dig b).getD k 0 := ⟨_, rfl⟩
        have hx32 : x < 4294967296 := by rw [hx]; exact hR.get_lt k
        have hy32 : y < 4294967296 := by rw [hy]; exact ds_get (ds_dig b) k
        have hy0 : n2 ≤ k → y = 0 := fun h => by rw [hy]; exact getD_ge _ _ (by rw [h2.len]; exact h)
        have hcy : k < n2 → ∃ ad, A2 = some ad ∧ wr.cell? (ad.add k) = some (.int .u32 (y : Int)) := fun h => by rw [hy]; exact (h2.below hR.bel).at_ h
        have hcell := hR.cell hkM
        rw [← hx] at hcell
        have hfz := hR.frozen k
        have HN : Hid (∀ o b' : Nat, o + y + C = x + 4294967296 * b' → Hid (val ((out.set k o).take (k + 1)) + val ((dig b).take (k + 1)) = val ((dig a).take (k + 1)) + 4294967296 ^ (k + 1) * b')) := Lib.hid (fun o b' hs => by
          rw [val_take_succ', val_take_succ', val_take_succ', take_set_ge, getD_set_same _ _ _ (by rw [hR.len]; exact hkM), ← hy, ← HX.out k (Nat.le_refl _), ← hx]
          exact sub_step HV.out hs)
        have HX' : Hid (∀ o : Nat, Hid (∀ j, k + 1 ≤ j → (out.set k o).getD j 0 = (dig a).getD j 0)) := Lib.hid (fun o j hj => by
          rw [getD_set_other _ _ _ _ (by omega)]; exact HX.out j (by omega))
        clear hx hy h1 h2
        by_cases hk2 : k < n2
        · obtain ⟨ad2, rfl, hc2⟩ := hcy hk2
          clear hcy hy0
          by_cases hlt : x < y + C
          · go_wp2_with fail
            go_roundw
            case rel => exact ⟨k + 1, 1, out.set k (x + 4294967296 - (y + C)), by omega, by go_num, by go_num, by omega, hR.set k _ (by omega) (by omega), HN.out _ _ (by omega), HX'.out _⟩
            case measure => simp [intOf]; omega
          · go_wp2_with fail
            go_roundw
            case rel => exact ⟨k + 1, 0, out.set k (x - (y + C)), by omega, by go_num, by go_num, by omega, hR.set k _ (by omega) (by omega), HN.out _ _ (by omega), HX'.out _⟩
            case measure => simp [intOf]; omega
        · obtain rfl := hy0 (by omega)
          clear hcy hy0
          by_cases hlt : x < C
          · go_wp2_with fail
            go_roundw
            case rel => exact ⟨k + 1, 1, out.set k (x + 4294967296 - C), by omega, by go_num, by go_num, by omega, hR.set k _ (by omega) (by omega), HN.out _ _ (by omega), HX'.out _⟩
            case measure => simp [intOf]; omega
          · go_wp2_with fail
            go_roundw
            case rel => exact ⟨k + 1, 0, out.set k (x - C), by omega, by go_num, by go_num, by omega, hR.set k _ (by omega) (by omega), HN.out _ _ (by omega), HX'.out _⟩
            case measure => simp [intOf]; omega
      · have HT : Hid (val out = a - b) := Lib.hid (sub_end HV.out (by rw [hR.len]; omega) hR.ds (by rw [h1.len]; omega) (by rw [h2.len]; omega) hle)
        go_wp2_with fail
        refine (trimmed_any _ _ out _ n3 hR.sl hR.ds (by omega)).mono ?_
        rintro e w2 hp
        rw [HT.out] at hp
        obtain ⟨A4, n4, c4, rfl, hs, hb⟩ := NatPost.of_below hR.bel hp.nat
        go_wp2_with fail
        go_ret
        exact ⟨_, _, _, rfl, hs, hb⟩
end Go.Proofs.YtaahbabdbopphaaDoor
namespace Go.Proofs.YtaahbabdbopphaaDoor
open Go.RowKit Mx
set_option maxRecDepth 100000

set_option maxHeartbeats 1000000 in
theorem mul_any (A1 A2 : Option Addr) (n1 n2 c1 c2 a b : Nat) (w : World) (h1 : Sl w A1 n1 c1 (dig a)) (h2 : Sl w A2 n2 c2 (dig b)) (hl1 : n1 ≤ 100000000) (hl2 : n2 ≤ 100000000) :
    Calls Tryd.prog 89 #[.slice A1 n1 c1, .slice A2 n2 c2] w (NatPost (a * b) w) := by
  obtain ⟨i0, hi0, hz0, hz1, hz2⟩ := info_parts Tryd.info57
  go_enter Tryd.func89, Tryd.ntmps89
  go_wp2_with ((with_reducible refine wpList_make_full _ rfl _ _ 22 rfl w.heap.size 57 i0 (.int .u32 0) 1 Tryd.underlying22 hi0 hz0 hz1 .i64 .i64 _ _ (n1 + n2) rfl rfl (by omega) (by omega) (by rw [hz2]; omega) (by simp only [maxLen]; omega) (Nat.le_refl _) ?_); intro w1 hown hgrow)
  have hrow := Row.made (Below.refl _ w) hown hgrow
  clear hown hgrow
  go_loopw [19, 8] (fun i c wr => ∃ (k : Nat) (out : List Nat), k ≤ n1 ∧ i = .int .i64 k ∧ Row w wr w.heap.size (n1 + n2) (n1 + n2) out ∧
      Hid (val out = val ((dig a).take k) * b) ∧ Hid (∀ j, k + n2 ≤ j → out.getD j 0 = 0))
    (fun i _ _ => n1 - (intOf i).toNat)
  case atStart => exact ⟨0, List.replicate (n1 + n2) 0, Nat.zero_le _, rfl, hrow, by simp [Hid, val, val_replicate], fun j _ => getD_replicate _ _⟩
  case round =>
    clear hrow
    obtain ⟨k, out0, hk, rfl, hR, HV, HZ⟩ := hrel
    by_cases hkM : k < n1
    · obtain ⟨x, hx⟩ : ∃ x : Nat, x = (dig a).getD k 0 := ⟨_, rfl⟩
      have hx32 : x < 4294967296 := by rw [hx]; exact ds_get (ds_dig a) k
      obtain ⟨ad1, rfl, hc1⟩ := (h1.below hR.bel).at_ hkM
      rw [← hx] at hc1
      have HX := Lib.hid hx
      clear hx
      go_wp2_with fail
      obtain ⟨wo, hwo⟩ : ∃ wo : World, wo = wr := ⟨_, rfl⟩
      subst hwo
      go_loopw [26, 8] (fun jj c wi => ∃ (j C : Nat) (out : List Nat), j ≤ n2 ∧ jj = .int .i64 j ∧ c = .int .u64 C ∧ C < 4294967296 ∧ Row w wi w.heap.size (n1 + n2) (n1 + n2) out ∧
          Hid (val out + 4294967296 ^ (k + j) * C = val ((dig a).take k) * b + 4294967296 ^ k * (x * val ((dig b).take j))) ∧ Hid (∀ i, k + n2 ≤ i → out.getD i 0 = 0))
        (fun jj _ _ => n2 - (intOf jj).toNat)
      case atStart => exact ⟨0, 0, out0, Nat.zero_le _, rfl, rfl, by omega, hR, by have := HV.out; simp [Hid, val, this], HZ⟩
      case round =>
        clear hR HV HZ
        obtain ⟨j, C, out, hj, rfl, rfl, hC, hR, HV, HZ⟩ := hrel
        have hl := hR.len
        by_cases hjM : j < n2
        · obtain ⟨y, hy⟩ : ∃ y : Nat, y = (dig b).getD j 0 := ⟨_, rfl⟩
          obtain ⟨o, ho⟩ : ∃ o : Nat, o = out.getD (k + j) 0 := ⟨_, rfl⟩
          have hy32 : y < 4294967296 := by rw [hy]; exact ds_get (ds_dig b) j
          have ho32 : o < 4294967296 := by rw [ho]; exact hR.get_lt _
          obtain ⟨ad2, rfl, hc2⟩ := (h2.below hR.bel).at_ hjM
          rw [← hy] at hc2
          have hcell := hR.cell (k := k + j) (by omega)
          rw [← ho] at hcell
          have hfz := hR.frozen (k + j)
          obtain ⟨p, hp⟩ : ∃ p : Nat, p = x * y := ⟨_, rfl⟩
          have hpi : Hid ((x : Int) * (y : Int) = (p : Int)) := Lib.hid (by rw [hp]; simp)
          have hp0 : (0 : Int) ≤ (x : Int) * (y : Int) := by rw [hpi.out]; omega
          have hp1 : (x : Int) * (y : Int) ≤ 18446744065119617025 := by rw [hpi.out]; have := pbound hx32 hy32; omega
          have HN : Hid (∀ s : Nat, s = C + p + o → Hid (val (out.set (k + j) (s % 4294967296)) + 4294967296 ^ (k + (j + 1)) * (s / 4294967296) = val ((dig a).take k) * b + 4294967296 ^ k * (x * val ((dig b).take (j + 1))))) := Lib.hid (fun s hs => by
            rw [val_take_succ' (dig b), ← hy]
            refine mul_step (o := o) (o' := s % 4294967296) (c := C) HV.out ?_ (by rw [← hp]; omega)
            rw [ho]; exact val_set out (k + j) _ (by omega))
          have HZ' : Hid (∀ v : Nat, Hid (∀ i, k + n2 ≤ i → (out.set (k + j) v).getD i 0 = 0)) := Lib.hid (fun v i hi => by
            rw [getD_set_other _ _ _ _ (by omega)]; exact HZ.out i hi)
          have Hp := Lib.hid hp
          have HP : Hid (p ≤ 18446744065119617025) := Lib.hid (by rw [hp]; exact pbound hx32 hy32)
          clear hp hy ho h1 h2 hl
          go_wp2_with fail
          go_roundw
          case rel => exact ⟨j + 1, (C + (p + o)) / 4294967296, out.set (k + j) ((C + (p + o)) % 4294967296), by omega, by go_num, by rw [hpi.out]; go_num, by have := HP.out; omega, hR.set (k + j) _ (by rw [hpi.out]; omega) (by omega), HN.out _ (by omega), HZ'.out _⟩
          case measure => simp [intOf]; omega
        · obtain rfl : j = n2 := by omega
          have hcell := hR.cell (k := k + j) (by omega)
          have hfz := hR.frozen (k + j)
          have HN : Hid (val (out.set (k + j) C) = val ((dig a).take (k + 1)) * b) := Lib.hid (by
            have hv := val_set out (k + j) C (by omega)
            rw [HZ.out (k + j) (Nat.le_refl _), Nat.mul_zero, Nat.add_zero, HV.out] at hv
            rw [hv, val_take_succ', ← HX.out, val_take_all (dig b) j (by rw [h2.len]; exact Nat.le_refl _), val_dig, Nat.add_mul, Nat.mul_assoc])
          have HZ' : Hid (∀ i, k + 1 + j ≤ i → (out.set (k + j) C).getD i 0 = 0) := Lib.hid (fun i hi => by
            rw [getD_set_other _ _ _ _ (by omega)]; exact HZ.out i (by omega))
          clear hl h1 h2
          go_wp2_with fail
          go_roundw
          case rel => exact ⟨k + 1, out.set (k + j) C, by omega, by go_num, hR.set (k + j) _ (by omega) hC, HN, HZ'⟩
          case measure => simp [intOf]; omega
    · have HT : Hid (val out0 = a * b) := Lib.hid (by
        rw [HV.out, val_take_all (dig a) k (by rw [h1.len]; omega), val_dig])
      go_wp2_with fail
      refine (trimmed_any _ _ out0 _ (n1 + n2) hR.sl hR.ds (by omega)).mono ?_
      rintro e w2 hp
      rw [HT.out] at hp
      obtain ⟨A4, n4, c4, rfl, hs, hb⟩ := NatPost.of_below hR.bel hp.nat
      go_wp2_with fail
      go_ret
      exact ⟨_, _, _, rfl, hs, hb⟩
end Go.Proofs.YtaahbabdbopphaaDoor
namespace Go.Proofs.YtaahbabdbopphaaDoor
open Go.RowKit Mx
set_option maxRecDepth 100000

theorem or_hi (R x s : Nat) (hR : R < 4294967296) (hx : x < 4294967296) (hs : s = R * 4294967296 + x) : bits .or .u64 ((R : Int) * 4294967296) (x : Int) = (s : Int) := by
  have h := u64_or_nat (R * 4294967296) x (by omega) (by omega)
  rw [nat_join 32 (R * 4294967296) x (by omega) (by omega), ← hs, Int.natCast_mul] at h
  exact h
theorem or_lo (R x s : Nat) (hR : R < 4294967296) (hx : x < 4294967296) (hs : s = x + R * 4294967296) : bits .or .u64 (x : Int) ((R : Int) * 4294967296) = (s : Int) := by
  have h := u64_or_nat x (R * 4294967296) (by omega) (by omega)
  rw [Nat.or_comm, nat_join 32 (R * 4294967296) x (by omega) (by omega), Nat.add_comm, ← hs, Int.natCast_mul] at h
  exact h

/-- A quotient and a rest. -/
def OverPost (q : Nat) (r : Nat) (w : World) (e : Ending) (w' : World) : Prop :=
  ∃ A n c, e = .returned (.tuple #[.slice A n c, .int .u32 (r : Int)]) ∧ Sl w' A n c (dig q) ∧ Below w.heap.size w w'

set_option maxHeartbeats 1000000 in
theorem over_any (A1 : Option Addr) (n1 c1 a : Nat) (d : Nat) (w : World) (h1 : Sl w A1 n1 c1 (dig a)) (hl1 : n1 ≤ 1000000000) (hd0 : 0 < d) (hd1 : d < 4294967296) :
    Calls Tryd.prog 117 #[.slice A1 n1 c1, .int .u32 (d : Int)] w (OverPost (a / d) (a % d) w) := by
  obtain ⟨i0, hi0, hz0, hz1, hz2⟩ := info_parts Tryd.info57
  go_enter Tryd.func117, Tryd.ntmps117
  go_wp2_with ((with_reducible refine wpList_make_full _ rfl _ _ 22 rfl w.heap.size 57 i0 (.int .u32 0) 1 Tryd.underlying22 hi0 hz0 hz1 .i64 .i64 _ _ n1 rfl rfl (by omega) (by omega) (by rw [hz2]; omega) (by simp only [maxLen]; omega) (Nat.le_refl _) ?_); intro w1 hown hgrow)
  have hrow := Row.made (Below.refl _ w) hown hgrow
  clear hown hgrow
  go_loopw [7, 8] (fun r i wr => ∃ (k R : Nat) (out : List Nat), k ≤ n1 ∧ i = .int .i64 ((k : Int) - 1) ∧ r = .int .u64 R ∧ R < d ∧ Row w wr w.heap.size n1 n1 out ∧
      Hid (val ((dig a).drop k) = d * val (out.drop k) + R))
    (fun _ i _ => (intOf i + 1).toNat)
  case atStart => exact ⟨n1, 0, List.replicate n1 0, Nat.le_refl _, by go_num, rfl, hd0, hrow, Lib.hid (by rw [val_drop_ge _ _ (by rw [h1.len]; omega), val_drop_ge _ _ (by simp)]; omega)⟩
  case round =>
    clear hrow
    obtain ⟨k, R, out, hk, rfl, rfl, hR32, hR, HV⟩ := hrel
    have hl := hR.len
    by_cases hk0 : k = 0
    · subst hk0
      have hq : Hid (val out = a / d ∧ R = a % d) := Lib.hid (by
        have hv := HV.out
        rw [List.drop_zero, List.drop_zero, val_dig] at hv
        rw [hv]
        exact ⟨by rw [Nat.mul_add_div hd0, Nat.div_eq_of_lt hR32]; omega, by rw [Nat.mul_add_mod, Nat.mod_eq_of_lt hR32]⟩)
      clear hl
      go_wp2_with fail
      refine (trimmed_any _ _ out _ n1 hR.sl hR.ds (by omega)).mono ?_
      rintro e w2 hp
      rw [hq.out.1] at hp
      obtain ⟨A4, n4, c4, rfl, hs, hb⟩ := NatPost.of_below hR.bel hp.nat
      go_wp2_with fail
      go_ret2
      refine ⟨_, _, _, ?_, hs, hb.bel⟩
      rw [← hq.out.2]; rfl
    · obtain ⟨x, hx⟩ : ∃ x : Nat, x = (dig a).getD (k - 1) 0 := ⟨_, rfl⟩
      have hx32 : x < 4294967296 := by rw [hx]; exact ds_get (ds_dig a) _
      obtain ⟨ad1, rfl, hc1⟩ := (h1.below hR.bel).at_ (k := k - 1) (by omega)
      rw [← hx] at hc1
      have hcell := hR.cell (k := k - 1) (by omega)
      have hfz := hR.frozen (k - 1)
      have i1 : (0 : Int) ≤ (k : Int) - 1 := by omega
      have i2 : (k : Int) - 1 < (n1 : Int) := by omega
      have i3 : ((k : Int) - 1).toNat = k - 1 := by omega
      obtain ⟨s, hs⟩ : ∃ s : Nat, s = R * 4294967296 + x := ⟨_, rfl⟩
      have hor := or_hi R x s (by omega) hx32 hs
      have hs0 : (s : Int) ≤ 18446744073709551615 := by omega
      have HN : Hid (val ((dig a).drop (k - 1)) = d * val ((out.set (k - 1) (s / d)).drop (k - 1)) + s % d) := Lib.hid (by
        rw [val_drop' (dig a), ← hx, val_drop' (out.set _ _), getD_set_same _ _ _ (by omega), show k - 1 + 1 = k from by omega, List.drop_set_of_lt (by omega)]
        exact over_step HV.out (by rw [← hs]; exact (Nat.div_add_mod s d).symm))
      have HQ : Hid (s / d < 4294967296 ∧ s % d < d) := Lib.hid ⟨by rw [Nat.div_lt_iff_lt_mul hd0]; have : (R + 1) * 4294967296 ≤ d * 4294967296 := Nat.mul_le_mul_right _ hR32; rw [Nat.mul_comm]; omega, Nat.mod_lt _ hd0⟩
      have hq0 : (0 : Int) ≤ (s : Int) / (d : Int) := Int.ediv_nonneg (by omega) (by omega)
      have hq1 : (s : Int) / (d : Int) ≤ 4294967295 := by have := HQ.out.1; rw [← Int.natCast_ediv]; omega
      have HS := Lib.hid hs
      clear hx hl hs h1
      go_wp2_with fail
      go_roundw
      case rel => exact ⟨k - 1, s % d, out.set (k - 1) (s / d), by omega, by go_num, by simp, HQ.out.2, hR.set (k - 1) _ (by push_cast; omega) HQ.out.1, HN⟩
      case measure => simp [intOf]; omega
set_option maxHeartbeats 1000000 in
theorem digit_any (A1 : Option Addr) (n1 c1 : Nat) (xs : List Nat) (i : Int) (w : World) (h1 : Sl w A1 n1 c1 xs) (hds : Ds xs) (_hl1 : n1 ≤ 1000000000) (h0 : 0 ≤ i) :
    Calls Tryd.prog 112 #[.slice A1 n1 c1, .int .i64 i] w (fun e w' => e = .returned (.int .u64 ((xs.getD i.toNat 0 : Nat) : Int)) ∧ w = w') := by
  by_cases hi : i < n1
  · obtain ⟨ad, rfl, hc⟩ := h1.at_ (k := i.toNat) (by omega)
    obtain ⟨x, hx⟩ : ∃ x : Nat, x = xs.getD i.toNat 0 := ⟨_, rfl⟩
    have hx32 : x < 4294967296 := by rw [hx]; exact ds_get hds _
    rw [← hx] at hc ⊢
    clear hx
    go_enter Tryd.func112, Tryd.ntmps112
    go_wp2_with fail
    go_ret
    exact ⟨rfl, rfl⟩
  · have hx := getD_ge xs i.toNat (by rw [h1.len]; omega)
    rw [hx]
    clear hx
    go_enter Tryd.func112, Tryd.ntmps112
    go_wp2_with fail
    go_ret
    exact ⟨rfl, rfl⟩

end Go.Proofs.YtaahbabdbopphaaDoor
namespace Go.Proofs.YtaahbabdbopphaaDoor
open Go.RowKit Mx
set_option maxRecDepth 100000

theorem or_shift (o x s : Nat) (hs : s ≤ 31) (ho : o < 2 ^ s) : bits .or .u32 (o : Int) ((x : Int) * 2 ^ s % 4294967296) = ((o + x * 2 ^ s % 4294967296 : Nat) : Int) ∧ o + x * 2 ^ s % 4294967296 < 4294967296 := by
  have h1 := pow_le_31 hs
  have h2 : x * 2 ^ s % 4294967296 < 4294967296 := Nat.mod_lt _ (by omega)
  have h := u32_or_nat o (x * 2 ^ s % 4294967296) (by omega) h2
  have hj := nat_join s (x * 2 ^ s % 4294967296) o (shift_low hs) ho
  rw [Nat.or_comm, hj, Nat.add_comm] at h
  rw [cast_shl] at h
  refine ⟨h, ?_⟩
  have hlt : x * 2 ^ s % 4294967296 ||| o < 2 ^ 32 := Nat.or_lt_two_pow h2 (by omega)
  rw [hj] at hlt
  omega

set_option maxHeartbeats 1000000 in
theorem shift_any (A1 : Option Addr) (n1 c1 a : Nat) (s : Nat) (w : World) (h1 : Sl w A1 n1 c1 (dig a)) (hl1 : n1 ≤ 100000000) (hs : s ≤ 31) :
    Calls Tryd.prog 120 #[.slice A1 n1 c1, .int .i64 (s : Int)] w (NatPost (a * 2 ^ s) w) := by
  obtain ⟨i0, hi0, hz0, hz1, hz2⟩ := info_parts Tryd.info57
  go_enter Tryd.func120, Tryd.ntmps120
  go_wp2_with ((with_reducible refine wpList_make_full _ rfl _ _ 22 rfl w.heap.size 57 i0 (.int .u32 0) 1 Tryd.underlying22 hi0 hz0 hz1 .i64 .i64 _ _ (n1 + 1) rfl rfl (by omega) (by omega) (by rw [hz2]; omega) (by simp only [maxLen]; omega) (Nat.le_refl _) ?_); intro w1 hown hgrow)
  have hrow := Row.made (Below.refl _ w) hown hgrow
  clear hown hgrow
  go_loopw [14] (fun i wr => ∃ (k : Nat) (out : List Nat), k ≤ n1 ∧ i = .int .i64 k ∧ Row w wr w.heap.size (n1 + 1) (n1 + 1) out ∧
      Hid (val out = val ((dig a).take k) * 2 ^ s ∧ (∀ j, k < j → out.getD j 0 = 0) ∧ out.getD k 0 < 2 ^ s))
    (fun i _ => n1 - (intOf i).toNat)
  case atStart => exact ⟨0, List.replicate (n1 + 1) 0, Nat.zero_le _, rfl, hrow, Lib.hid ⟨by simp [val, val_replicate], fun j _ => getD_replicate _ _, by rw [getD_replicate]; exact Nat.pow_pos (by omega)⟩⟩
  case round =>
    clear hrow
    obtain ⟨k, out, hk, rfl, hR, HV⟩ := hrel
    have hl := hR.len
    by_cases hkM : k < n1
    · obtain ⟨x, hx⟩ : ∃ x : Nat, x = (dig a).getD k 0 := ⟨_, rfl⟩
      have hx32 : x < 4294967296 := by rw [hx]; exact ds_get (ds_dig a) _
      obtain ⟨ad1, rfl, hc1⟩ := (h1.below hR.bel).at_ (k := k) (by omega)
      rw [← hx] at hc1
      obtain ⟨o, ho⟩ : ∃ o : Nat, o = out.getD k 0 := ⟨_, rfl⟩
      have hcell := hR.cell (k := k) (by omega)
      have hfz := hR.frozen k
      have hcell2 := hR.cell (k := k + 1) (by omega)
      have hfz2 := hR.frozen (k + 1)
      rw [← ho] at hcell
      have ho32 : o < 4294967296 := by rw [ho]; exact hR.get_lt _
      have HO : Hid (o < 2 ^ s) := Lib.hid (by rw [ho]; exact HV.out.2.2)
      have HH : Hid ((x : Int) / 2 ^ (32 - s) % 4294967296 = ((x * 2 ^ s / 4294967296 : Nat) : Int)) := Lib.hid (by
        rw [← cast_shr, Nat.mod_eq_of_lt (Nat.lt_of_le_of_lt (Nat.div_le_self _ _) hx32), shift_high hs])
      have HN : Hid (val ((out.set k (o + x * 2 ^ s % 4294967296)).set (k + 1) (x * 2 ^ s / 4294967296)) = val ((dig a).take (k + 1)) * 2 ^ s ∧
          (∀ j, k + 1 < j → ((out.set k (o + x * 2 ^ s % 4294967296)).set (k + 1) (x * 2 ^ s / 4294967296)).getD j 0 = 0) ∧
          ((out.set k (o + x * 2 ^ s % 4294967296)).set (k + 1) (x * 2 ^ s / 4294967296)).getD (k + 1) 0 < 2 ^ s) := Lib.hid ⟨by
        rw [val_take_succ', ← hx]
        exact shift_round (by omega) HV.out.1 (HV.out.2.1 _ (by omega)) (by rw [ho]) rfl, fun j hj => by
        rw [getD_set_other _ _ _ _ (by omega), getD_set_other _ _ _ _ (by omega)]; exact HV.out.2.1 j (by omega), by
        rw [getD_set_same _ _ _ (by rw [List.length_set]; omega)]; exact shift_high_lt hx32⟩
      clear hx hl ho h1
      go_wp2_with fail
      go_region
      all_goals go_wp2_with fail
      go_roundw
      case rel => exact ⟨k + 1, (out.set k (o + x * 2 ^ s % 4294967296)).set (k + 1) (x * 2 ^ s / 4294967296), by omega, by go_num, ((hR.set k _ (or_shift o x s hs HO.out).1 (or_shift o x s hs HO.out).2).set (k + 1) (x * 2 ^ s / 4294967296) (HH.out) (Nat.lt_of_lt_of_le (shift_high_lt hx32) (by have := pow_le_31 hs; omega))).drew, HN⟩
      case measure => simp [intOf]; omega
    · have HT : Hid (val out = a * 2 ^ s) := Lib.hid (by rw [HV.out.1, val_take_all (dig a) k (by rw [h1.len]; omega), val_dig])
      go_wp2_with fail
      refine (trimmed_any _ _ out _ (n1 + 1) hR.sl hR.ds (by omega)).mono ?_
      rintro e w2 hp
      rw [HT.out] at hp
      obtain ⟨A4, n4, c4, rfl, hs4, hb⟩ := NatPost.of_below hR.bel hp.nat
      go_wp2_with fail
      go_ret
      exact ⟨_, _, _, rfl, hs4, hb⟩
set_option maxHeartbeats 1000000 in
theorem down_any (A1 : Option Addr) (n1 c1 : Nat) (xs : List Nat) (s : Nat) (w : World) (h1 : Sl w A1 n1 c1 xs) (hds : Ds xs) (hl1 : n1 ≤ 1000000000) (hs : s ≤ 31) :
    Calls Tryd.prog 123 #[.slice A1 n1 c1, .int .i64 (s : Int)] w (NatPost (val xs / 2 ^ s) w) := by
  obtain ⟨i0, hi0, hz0, hz1, hz2⟩ := info_parts Tryd.info57
  go_enter Tryd.func123, Tryd.ntmps123
  go_wp2_with ((with_reducible refine wpList_make_full _ rfl _ _ 22 rfl w.heap.size 57 i0 (.int .u32 0) 1 Tryd.underlying22 hi0 hz0 hz1 .i64 .i64 _ _ n1 rfl rfl (by omega) (by omega) (by rw [hz2]; omega) (by simp only [maxLen]; omega) (Nat.le_refl _) ?_); intro w1 hown hgrow)
  have hrow := Row.made (Below.refl _ w) hown hgrow
  clear hown hgrow
  go_loopw [12] (fun i wr => ∃ (k : Nat) (out : List Nat), k ≤ n1 ∧ i = .int .i64 k ∧ Row w wr w.heap.size n1 n1 out ∧
      Hid (val (out.take k) = val xs / 2 ^ s % 4294967296 ^ k))
    (fun i _ => n1 - (intOf i).toNat)
  case atStart => exact ⟨0, List.replicate n1 0, Nat.zero_le _, rfl, hrow, Lib.hid (by simp [val]; omega)⟩
  case round =>
    clear hrow
    obtain ⟨k, out, hk, rfl, hR, HV⟩ := hrel
    have hl := hR.len
    by_cases hkM : k < n1
    · have hs1 := h1.below hR.bel
      have hcell := hR.cell (k := k) (by omega)
      have hfz := hR.frozen k
      obtain ⟨x, hx⟩ : ∃ x : Nat, x = xs.getD k 0 := ⟨_, rfl⟩
      obtain ⟨y, hy⟩ : ∃ y : Nat, y = xs.getD (k + 1) 0 := ⟨_, rfl⟩
      have hx32 : x < 4294967296 := by rw [hx]; exact ds_get hds _
      have hy32 : y < 4294967296 := by rw [hy]; exact ds_get hds _
      obtain ⟨t, ht⟩ : ∃ t : Nat, t = x + y * 4294967296 := ⟨_, rfl⟩
      have hor := or_lo y x t hy32 hx32 ht
      have ht0 : (t : Int) ≤ 18446744073709551615 := by omega
      have HX := Lib.hid hx
      have HY := Lib.hid hy
      have HN : Hid (val ((out.set k ((x + y * 4294967296) / 2 ^ s % 4294967296)).take (k + 1)) = val xs / 2 ^ s % 4294967296 ^ (k + 1)) := Lib.hid (by
        rw [val_take_succ', take_set_ge, getD_set_same _ _ _ (by omega), HV.out]
        exact down_round hds hs (by rw [hx, hy]))
      clear hx hy hl
      go_wp2_with fail
      refine (digit_any A1 n1 c1 xs _ _ hs1 hds hl1 (by omega)).mono ?_
      rintro e w2 ⟨rfl, rfl⟩
      rw [show ((k : Int)).toNat = k from by omega, ← HX.out]
      go_wp2_with fail
      refine (digit_any A1 n1 c1 xs _ _ hs1 hds hl1 (by omega)).mono ?_
      rintro e w2 ⟨rfl, rfl⟩
      rw [show ((k : Int) + 1).toNat = k + 1 from by omega, ← HY.out]
      go_wp2_with fail
      go_roundw
      case rel => exact ⟨k + 1, out.set k ((x + y * 4294967296) / 2 ^ s % 4294967296), by omega, by go_num, hR.set k ((x + y * 4294967296) / 2 ^ s % 4294967296) (by rw [cast_shr]; rfl) (Nat.mod_lt _ (by omega)), HN⟩
      case measure => simp [intOf]; omega
    · have HT : Hid (val out = val xs / 2 ^ s) := Lib.hid (by
        have := HV.out
        rw [val_take_all out k (by omega), down_end hds (by rw [h1.len]; omega)] at this
        exact this)
      go_wp2_with fail
      refine (trimmed_any _ _ out _ n1 hR.sl hR.ds (by omega)).mono ?_
      rintro e w2 hp
      rw [HT.out] at hp
      obtain ⟨A4, n4, c4, rfl, hs4, hb⟩ := NatPost.of_below hR.bel hp.nat
      go_wp2_with fail
      go_ret
      exact ⟨_, _, _, rfl, hs4, hb⟩
set_option maxHeartbeats 1000000 in
theorem shifted_any (A1 : Option Addr) (n1 c1 : Nat) (a j : Nat) (w : World) (h1 : Sl w A1 n1 c1 (dig a)) (hl1 : n1 ≤ 100000000) (hj : j ≤ 100000000) :
    Calls Tryd.prog 121 #[.slice A1 n1 c1, .int .i64 (j : Int)] w (NatPost (a * 4294967296 ^ j) w) := by
  obtain ⟨i0, hi0, hz0, hz1, hz2⟩ := info_parts Tryd.info57
  by_cases h0 : n1 = 0
  · have ha : a = 0 := len_dig_zero.1 (by rw [h1.len]; exact h0)
    subst h0
    go_enter Tryd.func121, Tryd.ntmps121
    go_wp2_with fail
    go_ret
    refine ⟨none, 0, 0, rfl, ?_, Below.refl _ _, fun _ h => by cases h⟩
    rw [ha, Nat.zero_mul, dig_zero]
    exact ⟨rfl, Nat.le_refl _, Rd.nil_ _ _⟩
  · have HD := Lib.hid (dig_shift (j := j) (a := a) (by intro e; rw [e, dig_zero] at h1; have := h1.len; simp at this; omega))
    have h0' : ((n1 : Int) == 0) = false := beq_eq_false_iff_ne.2 (by omega)
    obtain ⟨ad, rfl, _⟩ := h1.at_ (k := 0) (by omega)
    go_enter Tryd.func121, Tryd.ntmps121
    go_wp2_with (first
      | (at_builtin
         refine wpList_append_own _ rfl _ _ 64 rfl w.heap.size 57 i0 (.int .u32 0) 1 4 Tryd.underlying64 hi0 hz0 hz1 hz2 rfl (by decide) (.slice (some ⟨w.heap.size, 0, none⟩) j j) j (u32s (List.replicate j 0)) rfl hr.own ad n1 c1 (u32s (dig a)) rfl (by rw [u32s_length, h1.len, Nat.mul_one]) (h1.below hb).rd.cells (u32s_one _) (by simp only [maxLen]; omega) (by omega) hb.size ?_
         intro v' w2 hown2 hgrow2 _)
      | ((with_reducible refine wpList_make_full _ rfl _ _ 64 rfl w.heap.size 57 i0 (.int .u32 0) 1 Tryd.underlying64 hi0 hz0 hz1 .i64 .i64 _ _ j rfl rfl (by omega) (by omega) (by rw [hz2]; omega) (by simp only [maxLen]; omega) (Nat.le_refl _) ?_)
         intro w1 hown hgrow
         have hb := (Below.refl w.heap.size w).grown hgrow (Nat.le_refl _) (by intro k hk; cases hk)
         have hr := Row.made (Below.refl _ w) hown hgrow))
    rw [← u32s_append, HD.out] at hown2
    obtain ⟨A4, c4, rfl⟩ := own_shape hown2
    go_ret
    exact ⟨_, _, _, rfl, Sl.of_own hown2, hb.grown hgrow2 hb.size (by intro k hk; simp only [Value.ownBlock, Option.some.injEq] at hk; omega), new_of_own hown2⟩
end Go.Proofs.YtaahbabdbopphaaDoor
namespace Go.Proofs.YtaahbabdbopphaaDoor
open Go.RowKit Mx
set_option maxRecDepth 100000

def DivPost (q r : Nat) (w : World) (e : Ending) (w' : World) : Prop :=
  ∃ A n c A' n' c', e = .returned (.tuple #[.slice A n c, .slice A' n' c']) ∧ Sl w' A n c (dig q) ∧ Sl w' A' n' c' (dig r) ∧ Below w.heap.size w w'

/-- compare's answer where the first is not less, or not greater. -/
def CmpGe (w : World) (e : Ending) (w' : World) : Prop := ∃ r : Int, e = .returned (.int .i64 r) ∧ 0 ≤ r ∧ ∃ n, w' = w.drewN n
def CmpLe (w : World) (e : Ending) (w' : World) : Prop := ∃ r : Int, e = .returned (.int .i64 r) ∧ r ≤ 0 ∧ ∃ n, w' = w.drewN n
theorem compare_ge (A1 A2 : Option Addr) (n1 n2 c1 c2 a b : Nat) (w : World) (h1 : Sl w A1 n1 c1 (dig a)) (h2 : Sl w A2 n2 c2 (dig b)) (hl1 : n1 ≤ 1000000000) (hl2 : n2 ≤ 1000000000) (h : b ≤ a) :
    Calls Tryd.prog 85 #[.slice A1 n1 c1, .slice A2 n2 c2] w (CmpGe w) := by
  rcases Nat.eq_or_lt_of_le h with h | h
  · exact (compare_eq A1 A2 n1 n2 c1 c2 a b w h1 h2 hl1 hl2 h.symm).mono fun e w' he => ⟨_, he.1, by omega, he.2⟩
  · exact (compare_gt A1 A2 n1 n2 c1 c2 a b w h1 h2 hl1 hl2 h).mono fun e w' he => ⟨_, he.1, by omega, he.2⟩
theorem compare_le (A1 A2 : Option Addr) (n1 n2 c1 c2 a b : Nat) (w : World) (h1 : Sl w A1 n1 c1 (dig a)) (h2 : Sl w A2 n2 c2 (dig b)) (hl1 : n1 ≤ 1000000000) (hl2 : n2 ≤ 1000000000) (h : a ≤ b) :
    Calls Tryd.prog 85 #[.slice A1 n1 c1, .slice A2 n2 c2] w (CmpLe w) := by
  rcases Nat.eq_or_lt_of_le h with h | h
  · exact (compare_eq A1 A2 n1 n2 c1 c2 a b w h1 h2 hl1 hl2 h).mono fun e w' he => ⟨_, he.1, by omega, he.2⟩
  · exact (compare_lt A1 A2 n1 n2 c1 c2 a b w h1 h2 hl1 hl2 h).mono fun e w' he => ⟨_, he.1, by omega, he.2⟩
theorem below_draws (w : World) (n : Nat) : Below w.heap.size w (w.drewN n) := below_drewN (Below.refl _ w) n

set_option maxHeartbeats 1000000 in
theorem div_less (A1 A2 : Option Addr) (n1 n2 c1 c2 a b : Nat) (w : World) (h1 : Sl w A1 n1 c1 (dig a)) (h2 : Sl w A2 n2 c2 (dig b)) (hl1 : n1 ≤ 10000000) (hl2 : n2 ≤ 10000000) (hlt : a < b) :
    Calls Tryd.prog 92 #[.slice A1 n1 c1, .slice A2 n2 c2] w (DivPost 0 a w) := by
  go_enter Tryd.func92, Tryd.ntmps92
  go_wp2_with fail
  go_step3
  go_wp2_with fail
  refine (compare_lt A1 A2 n1 n2 c1 c2 a b _ h1 h2 (by omega) (by omega) hlt).mono ?_
  rintro e w1 ⟨rfl, n, rfl⟩
  go_wp2_with fail
  refine (cloneN_any A1 c1 _ _ n1 (h1.drewN n) (by omega)).mono ?_
  rintro e w2 hp
  obtain ⟨A3, n3, c3, rfl, hs, hb⟩ := hp.nat
  go_wp2_with fail
  go_ret2
  exact ⟨_, _, _, _, _, _, rfl, by rw [dig_zero]; exact ⟨rfl, Nat.le_refl _, Rd.nil_ _ _⟩, hs, bthen (below_draws w n) hb.bel⟩
set_option maxHeartbeats 1000000 in
theorem div_one (A1 A2 : Option Addr) (n1 n2 c1 c2 a b : Nat) (w : World) (h1 : Sl w A1 n1 c1 (dig a)) (h2 : Sl w A2 n2 c2 (dig b)) (hl1 : n1 ≤ 10000000) (hl2 : n2 ≤ 10000000) (hle : b ≤ a) (hb0 : b ≠ 0) (hn2 : n2 = 1) :
    Calls Tryd.prog 92 #[.slice A1 n1 c1, .slice A2 n2 c2] w (DivPost (a / b) (a % b) w) := by
  subst hn2
  have hbl : b < 4294967296 := by have := lt_pow_len b; rw [h2.len] at this; simpa using this
  have hbd : b = (dig b).getD 0 0 := by rw [digit_dig]; simp; omega
  obtain ⟨ad, rfl, hc⟩ := h2.at_ (k := 0) (by omega)
  rw [← hbd] at hc
  have hc : w.cell? ad = some (.int .u32 (b : Int)) := hc
  clear hbd
  obtain ⟨m, hm⟩ : ∃ m : Nat, m = a % b := ⟨_, rfl⟩
  have hmb : m < b := by rw [hm]; exact Nat.mod_lt _ (by omega)
  have hov := fun (W : World) (h : Sl W A1 n1 c1 (dig a)) => over_any A1 n1 c1 a b W h (by omega) (by omega) hbl
  rw [← hm] at hov ⊢
  have HOV := Lib.hid hov
  clear hov hm
  go_enter Tryd.func92, Tryd.ntmps92
  go_wp2_with fail
  go_step3
  go_wp2_with fail
  refine (compare_ge A1 _ n1 1 c1 c2 a b _ h1 h2 (by omega) (by omega) hle).mono ?_
  rintro e w1 ⟨r, rfl, hr, n, rfl⟩
  go_wp2_with fail
  refine (HOV.out _ (h1.drewN n)).mono ?_
  rintro e w2 ⟨A3, n3, c3, rfl, hs, hb⟩
  go_wp2_with fail
  refine (small_any _ _ (by omega) (by omega)).mono ?_
  rintro e w3 ⟨A4, n4, c4, rfl, hs4, hb4⟩
  go_wp2_with fail
  go_ret2
  refine ⟨_, _, _, _, _, _, rfl, hs.below hb4.bel, ?_, bthen (bthen (below_draws w n) hb) hb4.bel⟩
  simpa using hs4

theorem bitLen_pos {x : Nat} (h : x ≠ 0) : 1 ≤ Lib.bitLen x := by
  unfold Lib.bitLen
  rw [Lib.bitLenAux, if_neg h]
  omega
/-- bits.LeadingZeros32 of a digit that is not 0. -/
def LzPost (w : World) (e : Ending) (w' : World) : Prop := ∃ s : Nat, e = .returned (.int .i64 (s : Int)) ∧ s ≤ 31 ∧ w = w'
theorem lz_any (x : Nat) (w : World) (h0 : x ≠ 0) (h1 : x < 4294967296) : Calls Tryd.prog 119 #[.int .u32 (x : Int)] w (LzPost w) := by
  refine (Tryd.bits_LeadingZeros32 (x : Int) w (by omega) (by omega)).mono ?_
  rintro e w' ⟨rfl, rfl⟩
  have hp := bitLen_pos h0
  have hl := Any.bitLen_le32 (x : Int) (by omega) (by omega)
  rw [Int.toNat_natCast] at hl ⊢
  exact ⟨32 - Lib.bitLen x, by congr 2; omega, by omega, rfl⟩

set_option maxHeartbeats 4000000 in
theorem div_long (A1 A2 : Option Addr) (n1 n2 c1 c2 a b : Nat) (w : World) (h1 : Sl w A1 n1 c1 (dig a)) (h2 : Sl w A2 n2 c2 (dig b)) (hl1 : n1 ≤ 10000000) (hl2 : n2 ≤ 10000000) (hle : b ≤ a) (hb0 : b ≠ 0) (hn2 : n2 ≠ 1) :
    Calls Tryd.prog 92 #[.slice A1 n1 c1, .slice A2 n2 c2] w (DivPost (a / b) (a % b) w) := by
  obtain ⟨i0, hi0, hz0, hz1, hz2⟩ := info_parts Tryd.info57
  have hp2 : 0 < n2 := by rw [← h2.len]; exact len_dig_pos.2 hb0
  obtain ⟨ad, rfl, hc⟩ := h2.at_ (k := n2 - 1) (by omega)
  have htd := top_digit hb0
  rw [h2.len] at htd
  obtain ⟨t, ht⟩ : ∃ t : Nat, t = (dig b).getD (n2 - 1) 0 := ⟨_, rfl⟩
  rw [← ht] at hc htd
  have ht0 := htd.1
  have ht32 : t < 4294967296 := by rw [ht]; exact ds_get (ds_dig b) _
  have HT := Lib.hid ht
  clear ht htd
  have hn2' : ((n2 : Int) == 1) = false := beq_eq_false_iff_ne.2 (by omega)
  have i1 : (0 : Int) ≤ (n2 : Int) - 1 := by omega
  go_enter Tryd.func92, Tryd.ntmps92
  go_wp2_with fail
  go_step3
  go_wp2_with fail
  refine (compare_ge A1 _ n1 n2 c1 c2 a b _ h1 h2 (by omega) (by omega) hle).mono ?_
  rintro e w1 ⟨r, rfl, hr, n, rfl⟩
  go_wp2_with fail
  refine (lz_any t _ ht0 ht32).mono ?_
  rintro e w1 ⟨s, rfl, hs, rfl⟩
  go_wp2_with fail
  refine (shift_any A1 n1 c1 a s _ (h1.drewN n) (by omega) hs).mono ?_
  rintro e w1 ⟨Au, nu, cu, rfl, hu, ⟨hb1, _⟩⟩
  go_wp2_with fail
  refine (shift_any _ n2 c2 b s _ ((h2.drewN n).below hb1) (by omega) hs).mono ?_
  rintro e w2 ⟨Av, nv, cv, rfl, hv, ⟨hb2, _⟩⟩
  have hu := hu.below hb2
  have hbw : Below w.heap.size w w2 := bthen (bthen (below_draws w n) hb1) hb2
  obtain ⟨U, hU⟩ : ∃ U, U = a * 2 ^ s := ⟨_, rfl⟩
  obtain ⟨V, hV⟩ : ∃ V, V = b * 2 ^ s := ⟨_, rfl⟩
  have hUV : V ≤ U := by rw [hU, hV]; exact Nat.mul_le_mul_right _ hle
  have hV0 : V ≠ 0 := by rw [hV]; exact Nat.mul_ne_zero hb0 (by have := Nat.pow_pos (n := s) (show 0 < 2 by omega); omega)
  have hnu : nu ≤ 10000001 := by rw [← hu.len]; have := len_shl a s hs; rw [h1.len] at this; omega
  have hnv : nv ≤ 10000001 := by rw [← hv.len]; have := len_shl b s hs; rw [h2.len] at this; omega
  rw [← hU] at hu
  rw [← hV] at hv
  have hnn : nv ≤ nu := by rw [← hv.len, ← hu.len]; exact len_mono hUV
  have hnv0 : 0 < nv := by rw [← hv.len]; exact len_dig_pos.2 hV0
  have HU := Lib.hid hU
  have HV := Lib.hid hV
  clear hU hV
  go_wp2_with ((with_reducible refine wpList_make_full _ rfl _ _ 22 rfl w.heap.size 57 i0 (.int .u32 0) 1 Tryd.underlying22 hi0 hz0 hz1 .i64 .i64 _ _ (nu - nv + 1) rfl rfl (by omega) (by omega) (by rw [hz2]; omega) (by simp only [maxLen]; omega) hbw.size ?_); intro w3 hown hgrow)
  have hrow := Row.made hbw hown hgrow
  have hb3 : Below w2.heap.size w2 w3 := (Below.refl _ _).grown hgrow (Nat.le_refl _) (by intro k hk; cases hk)
  refine (cloneN_any Au cu _ _ nu (hu.below hb3) (by omega)).mono ?_
  rintro e w4 hp
  obtain ⟨Ar, nr, cr, rfl, hrs, ⟨hb4, hnew4⟩⟩ := hp.nat
  have hfar : ∀ ad, Ar = some ad → 0 < nr → w2.heap.size < ad.block := fun ad h1 h2 => Nat.lt_of_lt_of_le hrow.lt (hnew4 ad h1 h2)
  have hrow := hrow.later hb4
  have hv2 := hv
  have hv := (hv.below hb3).below hb4
  have HST : Hid (DI (nu - nv + 1) (nu - nv + 1) U (List.replicate (nu - nv + 1) 0) U V) := Lib.hid (DI.start hV0 (by rw [hu.len, hv.len]; omega))
  have hul := hu.len
  have HUL : Hid (∀ R : Nat, R ≤ U → (dig R).length ≤ nu) := Lib.hid (fun R hR => by rw [← hul]; exact len_mono hR)
  clear hown hgrow hu hb1 hb2 hb3 hb4 h1 h2 hp hbw hul
  clear hc
  obtain ⟨adv, rfl, _⟩ := hv.at_ (k := nv - 1) (by omega)
  have hvfar : Hid (adv.block < w2.heap.size) := Lib.hid (by
    have := World.block_lt_of_cell? w2 _ (hv2.cell (k := nv - 1) (by omega))
    rwa [block_of_add] at this)
  have HFAR := Lib.hid hfar
  clear hfar hv2 hnew4
  go_wp2_with fail
  go_step3
  go_wp2_with fail
  go_loopg [13, 14] (nu - nv + 1) (fun k sr sj wr => ∃ (A : Option Addr) (n c R : Nat) (out : List Nat), sr = .slice A n c ∧ sj = .int .i64 ((k : Int) - 1) ∧ k ≤ nu - nv + 1 ∧
      Row w wr w2.heap.size (nu - nv + 1) (nu - nv + 1) out ∧ Sl wr A n c (dig R) ∧ Hid (∀ ad, A = some ad → 0 < n → w2.heap.size < ad.block) ∧ Sl wr (some adv) nv cv (dig V) ∧ Hid (DI (nu - nv + 1) k R out U V))
  case atStart => exact ⟨Ar, nr, cr, U, _, rfl, by go_num, Nat.le_refl _, hrow, hrs, HFAR, hv, HST⟩
  case round =>
    clear hrow hrs hv HST HFAR
    obtain ⟨A, n, c, R, out, rfl, rfl, hk, hR, hrs, HFAR, hv, HD⟩ := hrel
    cases gk with
    | zero =>
      have hq : Hid (val out = U / V ∧ R = U % V) := Lib.hid (HD.out.end_ hV0)
      have hR' : Hid (a / b = val out ∧ a % b = R / 2 ^ s) := Lib.hid (by
        have e := div_shift (a := a) (b := b) (s := s) (Q := U / V) (R := U % V) (by omega) (by rw [← HU.out, ← HV.out]; exact (Nat.div_add_mod U V).symm) (by rw [← HV.out]; exact Nat.mod_lt _ (by omega))
        rw [hq.out.1, hq.out.2]
        exact ⟨e.1.symm, e.2.symm⟩)
      have hnr : n ≤ nu := by rw [← hrs.len]; exact HUL.out R HD.out.le
      go_wp2_with fail
      refine (trimmed_any _ _ out _ (nu - nv + 1) hR.sl hR.ds (by omega)).mono ?_
      rintro e w5 hp
      rw [← hR'.out.1] at hp
      obtain ⟨A4, n4, c4, rfl, hs4, ⟨hb4, _⟩⟩ := hp.nat
      have hrs := hrs.below hb4
      go_wp2_with fail
      refine (down_any A n c (dig R) s _ hrs (ds_dig _) (by omega) hs).mono ?_
      rintro e w6 hp
      rw [val_dig, ← hR'.out.2] at hp
      obtain ⟨A5, n5, c5, rfl, hs5, ⟨hb5, _⟩⟩ := hp
      go_wp2_with fail
      go_ret2
      exact ⟨_, _, _, _, _, _, rfl, hs4.below hb5, hs5, bthen (bthen hR.bel hb4) hb5⟩
    | succ j =>
      have hRU := HD.out.le
      have hnr : n ≤ nu := by rw [← hrs.len]; exact HUL.out R hRU
      have HG := Lib.hid (HD.out.guess hV0 hv.len)
      have HQ := Lib.hid (HD.out.quot_lt hV0)
      have htop := top_digit hV0
      rw [hv.len] at htop
      have hcv := hv.cell (k := nv - 1) (by omega)
      obtain ⟨dh, hdh⟩ : ∃ d, d = (dig R).getD (j + nv) 0 := ⟨_, rfl⟩
      obtain ⟨dl, hdl⟩ : ∃ d, d = (dig R).getD (j + nv - 1) 0 := ⟨_, rfl⟩
      obtain ⟨vt, hvt⟩ : ∃ d, d = (dig V).getD (nv - 1) 0 := ⟨_, rfl⟩
      have hdh32 : dh < 4294967296 := by rw [hdh]; exact ds_get (ds_dig _) _
      have hdl32 : dl < 4294967296 := by rw [hdl]; exact ds_get (ds_dig _) _
      have hvt32 : vt < 4294967296 := by rw [hvt]; exact ds_get (ds_dig _) _
      rw [← hvt] at hcv htop
      have hvt0 : vt ≠ 0 := htop.1
      obtain ⟨T, hTe⟩ : ∃ T : Nat, T = dh * 4294967296 + dl := ⟨_, rfl⟩
      have hor := or_hi dh dl T hdh32 hdl32 hTe
      have hT64 : (T : Int) ≤ 18446744073709551615 := by omega
      obtain ⟨q, hqe⟩ : ∃ q : Nat, q = T / vt := ⟨_, rfl⟩
      have HG : Hid (R / (V * 4294967296 ^ j) ≤ q) := Lib.hid (by rw [hqe, hTe, hdh, hdl, hvt]; exact HG.out)
      have hqi : (T : Int) / (vt : Int) = (q : Int) := by rw [hqe, Int.natCast_ediv]
      have hq64 : (q : Int) ≤ 18446744073709551615 := by
        have : q ≤ T := by rw [hqe]; exact Nat.div_le_self _ _
        omega
      obtain ⟨g0, hg0e⟩ : ∃ g0 : Nat, g0 = min q 4294967295 := ⟨_, rfl⟩
      have hmin : min (q : Int) 4294967295 = (g0 : Int) := by omega
      have hg0 : g0 ≤ 4294967295 := by omega
      have HG0 : Hid (R / (V * 4294967296 ^ j) ≤ g0) := Lib.hid (by
        have e1 := HG.out
        have e2 := HQ.out
        generalize R / (V * 4294967296 ^ j) = z at e1 e2 ⊢
        omega)
      have HDH := Lib.hid hdh
      have HDL := Lib.hid hdl
      have iv1 : (0 : Int) ≤ (nv : Int) - 1 := by omega
      clear hRU htop hdh hdl hvt hqe hTe hg0e HG HQ
      go_wp2_with fail
      refine (digit_any A n c _ _ _ hrs (ds_dig _) (by omega) (by omega)).mono ?_
      rintro e w5 ⟨rfl, rfl⟩
      rw [show ((j : Int) + (nv : Int)).toNat = j + nv from by omega, ← HDH.out]
      go_wp2_with fail
      refine (digit_any A n c _ _ _ hrs (ds_dig _) (by omega) (by omega)).mono ?_
      rintro e w5 ⟨rfl, rfl⟩
      rw [show ((j : Int) + (nv : Int) - 1).toNat = j + nv - 1 from by omega, ← HDL.out]
      go_wp2_with fail
      clear hor hqi hmin hq64 hT64 hcv iv1
      obtain ⟨wo, hwo⟩ : ∃ wo : World, wo = wr := ⟨_, rfl⟩
      subst hwo
      go_loopg [13, 16] g0 (fun g2 sr sg wi => ∃ G : Nat, sr = .slice A n c ∧ sg = .int .u64 (G : Int) ∧ Hid (G = g2) ∧ G ≤ 4294967295 ∧
        Row w wi w2.heap.size (nu - nv + 1) (nu - nv + 1) out ∧ Sl wi A n c (dig R) ∧ Sl wi (some adv) nv cv (dig V) ∧ Hid (R / (V * 4294967296 ^ j) ≤ G))
      case atStart => exact ⟨g0, rfl, rfl, rfl, hg0, hR, hrs, hv, HG0⟩
      case round =>
        clear hR hrs hv HG0
        obtain ⟨G, rfl, rfl, HGe, hg2, hR, hrs, hv, HG⟩ := hrel
        cases gk with
        | zero =>
          obtain rfl : G = 0 := HGe.out
          have HN := Lib.hid (HD.out.none hV0 HG.out)
          go_wp2_with fail
          go_roundg j
          case measure => omega
          case rel => exact ⟨A, n, c, R, out, rfl, by go_num, by omega, hR, hrs, HFAR, hv, HN⟩
        | succ g =>
          have hG0 : 0 < G := by rw [HGe.out]; omega
          go_wp2_with fail
          refine (small_any _ _ (by omega) (by omega)).mono ?_
          rintro e w5 ⟨A5, n5, c5, rfl, hs5, ⟨hb5, _⟩⟩
          rw [Int.toNat_natCast] at hs5
          have hn5 : n5 ≤ 1 := by rw [← hs5.len]; exact len_small (by omega)
          have hv5 := hv.below hb5
          go_wp2_with fail
          refine (mul_any _ _ _ _ _ _ V G _ hv5 hs5 (by omega) (by omega)).mono ?_
          rintro e w6 ⟨A6, n6, c6, rfl, hs6, ⟨hb6, _⟩⟩
          have hn6 : n6 ≤ nv + 1 := by rw [← hs6.len]; have := len_mul V G; rw [hv5.len, hs5.len] at this; omega
          go_wp2_with fail
          refine (shifted_any _ _ _ _ j _ hs6 (by omega) (by omega)).mono ?_
          rintro e w7 ⟨A7, n7, c7, rfl, hs7, ⟨hb7, _⟩⟩
          have hn7 : n7 ≤ nv + 1 + j := by rw [← hs7.len]; have := len_shift (V * G) j; rw [hs6.len] at this; omega
          have hb57 := bthen (bthen hb5 hb6) hb7
          have hR7 := hR.later hb57
          have hrs7 := hrs.below hb57
          have hv7 := hv.below hb57
          clear hb5 hb6 hb7 hv5 hs5 hs6 hR hrs hv
          by_cases hfit : V * G * 4294967296 ^ j ≤ R
          · have HN := Lib.hid (HD.out.fit hV0 (by omega) hfit HG.out)
            have HF := Lib.hid hfit
            clear hfit
            go_wp2_with fail
            refine (compare_le _ _ _ _ _ _ _ R _ hs7 hrs7 (by omega) (by omega) HF.out).mono ?_
            rintro e w8 ⟨r8, rfl, hr8, m8, rfl⟩
            go_wp2_with fail
            refine (sub_any _ _ _ _ _ _ R _ _ (hrs7.drewN m8) (hs7.drewN m8) (by omega) (by omega) HF.out).mono ?_
            rintro e w9 ⟨A9, n9, c9, rfl, hs9, ⟨hb9, hnew9⟩⟩
            have HFAR9 : Hid (∀ ad, A9 = some ad → 0 < n9 → w2.heap.size < ad.block) := Lib.hid (fun ad h1 h2 => Nat.lt_of_lt_of_le (hR7.later (below_draws w7 m8)).lt (hnew9 ad h1 h2))
            clear hnew9
            have hb79 := bthen (below_draws w7 m8) hb9
            have hR9 := hR7.later hb79
            have hv9 := hv7.below hb79
            have hcell := hR9.cell (k := j) (by omega)
            have hfz := hR9.frozen j
            go_wp2_with fail
            go_roundg j
            case measure => omega
            case rel => exact ⟨A9, n9, c9, _, _, rfl, by go_num, by omega, hR9.set j G (by omega) (by omega), hs9.far (fun ad h1 h2 => by have := HFAR9.out ad h1 h2; omega) _, HFAR9, hv9.far (fun ad h1 h2 => by injection h1 with h1; subst h1; have := hvfar.out; omega) _, HN⟩
          · have HG' : Hid (R / (V * 4294967296 ^ j) ≤ G - 1) := Lib.hid (guess_not (g := G) (by omega) hfit)
            have HF : Hid (R < V * G * 4294967296 ^ j) := Lib.hid (Nat.lt_of_not_le hfit)
            clear hfit
            go_wp2_with fail
            refine (compare_gt _ _ _ _ _ _ _ R _ hs7 hrs7 (by omega) (by omega) HF.out).mono ?_
            rintro e w8 ⟨rfl, m8, rfl⟩
            go_wp2_with fail
            go_roundg g
            case measure => omega
            case rel => exact ⟨G - 1, rfl, by go_num, by have := HGe.out; show G - 1 = g; omega, by omega, hR7.later (below_draws w7 m8), hrs7.drewN m8, hv7.drewN m8, HG'⟩
theorem div_any (A1 A2 : Option Addr) (n1 n2 c1 c2 a b : Nat) (w : World) (h1 : Sl w A1 n1 c1 (dig a)) (h2 : Sl w A2 n2 c2 (dig b)) (hl1 : n1 ≤ 10000000) (hl2 : n2 ≤ 10000000) (hb0 : b ≠ 0) :
    Calls Tryd.prog 92 #[.slice A1 n1 c1, .slice A2 n2 c2] w (DivPost (a / b) (a % b) w) := by
  rcases Nat.lt_or_ge a b with h | h
  · rw [Nat.div_eq_of_lt h, Nat.mod_eq_of_lt h]
    exact div_less A1 A2 n1 n2 c1 c2 a b w h1 h2 hl1 hl2 h
  · by_cases hn : n2 = 1
    · exact div_one A1 A2 n1 n2 c1 c2 a b w h1 h2 hl1 hl2 h hb0 hn
    · exact div_long A1 A2 n1 n2 c1 c2 a b w h1 h2 hl1 hl2 h hb0 hn
end Go.Proofs.YtaahbabdbopphaaDoor
namespace Go.Proofs.YtaahbabdbopphaaDoor
open Go.RowKit Mx
set_option maxRecDepth 100000

/-- Hands back digits of a number that may lie in an argument's memory. -/
def RdPost (m : Nat) (w : World) (e : Ending) (w' : World) : Prop := ∃ A n c, e = .returned (.slice A n c) ∧ Sl w' A n c (dig m) ∧ Below w.heap.size w w'

set_option maxHeartbeats 1000000 in
theorem gcd_any (A1 A2 : Option Addr) (n1 n2 c1 c2 a b : Nat) (w : World) (h1 : Sl w A1 n1 c1 (dig a)) (h2 : Sl w A2 n2 c2 (dig b)) (hl1 : n1 ≤ 10000000) (hl2 : n2 ≤ 10000000) :
    Calls Tryd.prog 109 #[.slice A1 n1 c1, .slice A2 n2 c2] w (RdPost (a.gcd b) w) := by
  go_enter Tryd.func109, Tryd.ntmps109
  go_wp2_with fail
  go_loopg [0, 1] b (fun k sa sb wr => ∃ (A : Option Addr) (n c : Nat) (A' : Option Addr) (n' c' x : Nat), sa = .slice A n c ∧ sb = .slice A' n' c' ∧ Sl wr A n c (dig x) ∧ Sl wr A' n' c' (dig k) ∧
      Hid (x.gcd k = a.gcd b) ∧ n ≤ 10000000 ∧ n' ≤ 10000000 ∧ Below w.heap.size w wr)
  case atStart => exact ⟨A1, n1, c1, A2, n2, c2, a, rfl, rfl, h1, h2, rfl, hl1, hl2, Below.refl _ _⟩
  case round =>
    obtain ⟨A, n, c, A', n', c', x, rfl, rfl, hs, hs', HG, hn, hn', hb⟩ := hrel
    by_cases hk : gk = 0
    · have hz : n' = 0 := by rw [← hs'.len]; exact len_dig_zero.2 hk
      have HX : Hid (x = a.gcd b) := Lib.hid (by rw [← HG.out, hk, Nat.gcd_zero_right])
      clear hk
      subst hz
      go_wp2_with fail
      go_ret
      exact ⟨_, _, _, rfl, by rw [← HX.out]; exact hs, hb⟩
    · have hz : 0 < n' := by rw [← hs'.len]; exact len_dig_pos.2 hk
      go_wp2_with fail
      refine (div_any A A' n n' c c' x gk _ hs hs' hn hn' hk).mono ?_
      rintro e w1 ⟨A3, n3, c3, A4, n4, c4, rfl, h3, h4, hb1⟩
      have h5 := hs'.below hb1
      have hb2 := bthen hb hb1
      have hlt : x % gk < gk := Nat.mod_lt _ (by omega)
      have hn4 : n4 ≤ n' := by rw [← h4.len, ← hs'.len]; exact len_mono (by omega)
      go_wp2_with fail
      go_roundg (x % gk)
      case measure => exact hlt
      case rel => exact ⟨_, _, _, _, _, _, gk, rfl, rfl, h5, h4, Lib.hid (by rw [← HG.out, Nat.gcd_comm gk, ← Nat.gcd_rec]; exact Nat.gcd_comm _ _), hn', by omega, hb2⟩

/-- How many binary digits. -/
def blen (n : Nat) : Nat := if n = 0 then 0 else 32 * ((dig n).length - 1) + Lib.bitLen ((dig n).getD ((dig n).length - 1) 0)
theorem bitLen_le_32 {x : Nat} (h : x < 4294967296) : Lib.bitLen x ≤ 32 := by
  have := Any.bitLen_le32 (x : Int) (by omega) (by omega)
  rwa [Int.toNat_natCast] at this
set_option maxHeartbeats 1000000 in
theorem size_any (A1 : Option Addr) (n1 c1 a : Nat) (w : World) (h1 : Sl w A1 n1 c1 (dig a)) (hl1 : n1 ≤ 10000000) :
    Calls Tryd.prog 110 #[.slice A1 n1 c1] w (fun e w' => e = .returned (.int .i64 (blen a : Int)) ∧ w = w') := by
  by_cases h0 : n1 = 0
  · have ha : blen a = 0 := by unfold blen; rw [if_pos (len_dig_zero.1 (by rw [h1.len]; exact h0))]
    rw [ha]
    subst h0
    go_enter Tryd.func110, Tryd.ntmps110
    go_wp2_with fail
    go_ret
    exact ⟨rfl, rfl⟩
  · have ha0 : a ≠ 0 := len_dig_pos.1 (by rw [h1.len]; omega)
    obtain ⟨ad, rfl, hc⟩ := h1.at_ (k := n1 - 1) (by omega)
    obtain ⟨t, ht⟩ : ∃ t : Nat, t = (dig a).getD (n1 - 1) 0 := ⟨_, rfl⟩
    have ht32 : t < 4294967296 := by rw [ht]; exact ds_get (ds_dig _) _
    rw [← ht] at hc
    have hbl : blen a = 32 * (n1 - 1) + Lib.bitLen t := by unfold blen; rw [if_neg ha0, h1.len, ← ht]
    have hle := bitLen_le_32 ht32
    have HB := Lib.hid hbl
    have h0' : ((n1 : Int) == 0) = false := beq_eq_false_iff_ne.2 (by omega)
    have i1 : (0 : Int) ≤ (n1 : Int) - 1 := by omega
    clear ht hbl
    go_enter Tryd.func110, Tryd.ntmps110
    go_wp2_with fail
    refine (Tryd.bits_Len32 (t : Int) _ (by omega) (by omega)).mono ?_
    rintro e w1 ⟨rfl, rfl⟩
    rw [Int.toNat_natCast]
    go_wp2_with fail
    go_ret
    refine ⟨?_, rfl⟩
    rw [HB.out]
    show Ending.returned (Value.int .i64 _) = Ending.returned (Value.int .i64 _)
    congr 2
    omega

theorem ofInt_i64 (a : Nat) (ha : a < 9223372036854775808) : (BitVec.ofInt 64 (a : Int)).toNat = a := by
  rw [BitVec.ofInt_natCast, BitVec.toNat_ofNat]; exact Nat.mod_eq_of_lt (by omega)
theorem i64_and_one (a : Nat) (ha : a < 9223372036854775808) : bits .and .i64 (a : Int) 1 = ((a % 2 : Nat) : Int) := by
  show IntKind.i64.wrap ((BitVec.ofInt 64 (a : Int) &&& BitVec.ofInt 64 ((1 : Nat) : Int)).toNat : Int) = _
  rw [BitVec.toNat_and, ofInt_i64 a ha, ofInt_i64 1 (by omega), IntKind.wrap_i64, Nat.and_one_is_mod]
  omega

theorem len_pow (a p : Nat) : (dig (a ^ p)).length ≤ p * (dig a).length + 1 := by
  induction p with
  | zero => simp; exact len_small (by omega)
  | succ p ih =>
    have h := len_mul (a ^ p) a
    rw [Nat.pow_succ, Nat.add_mul]
    have e : (dig (a ^ p * a)).length ≤ (dig (a ^ p)).length + (dig a).length := h
    omega
theorem sq_pow (a p : Nat) : a ^ p * a ^ p = a ^ (2 * p) := by rw [← Nat.pow_add]; congr 1; omega
set_option maxHeartbeats 1000000 in
theorem power_any (A1 : Option Addr) (n1 c1 a e : Nat) (w : World) (h1 : Sl w A1 n1 c1 (dig a)) (hK : e * n1 ≤ 10000000) (hl1 : n1 ≤ 10000000) (he : e ≤ 1000000) :
    Calls Tryd.prog 73 #[.slice A1 n1 c1, .int .i64 (e : Int)] w (RdPost (a ^ e) w) := by
  have hlen := h1.len
  have HL : Hid (∀ p, p ≤ e → (dig (a ^ p)).length ≤ 10000001) := Lib.hid (fun p hp => by
    have := len_pow a p
    rw [hlen] at this
    have h2 : p * n1 ≤ e * n1 := Nat.mul_le_mul_right _ hp
    omega)
  clear hlen hK
  go_enter Tryd.func73, Tryd.ntmps73
  go_wp2_with fail
  refine (small_any _ _ (by omega) (by omega)).mono ?_
  rintro e' w1 ⟨A5, n5, c5, rfl, hs5, ⟨hb5, _⟩⟩
  have hn5 : n5 ≤ 1 := by rw [← hs5.len]; exact len_small (by decide)
  have h11 := h1.below hb5
  go_wp2_with fail
  go_loopg [5, 0, 1] e (fun N so sa sn wr => ∃ (A : Option Addr) (n c : Nat) (A' : Option Addr) (n' c' x p : Nat), so = .slice A n c ∧ sa = .slice A' n' c' ∧ sn = .int .i64 N ∧ Sl wr A n c (dig (a ^ x)) ∧ Sl wr A' n' c' (dig (a ^ p)) ∧
      Hid (p * N + x = e) ∧ 0 < p ∧ n ≤ 10000001 ∧ n' ≤ 20000002 ∧ Below w.heap.size w wr)
  case atStart => exact ⟨A5, n5, c5, A1, n1, c1, 0, 1, rfl, rfl, rfl, by simpa using hs5, by rw [Nat.pow_one]; exact h11, Lib.hid (by omega), by omega, by omega, by omega, hb5⟩
  case round =>
    clear hs5 hn5 h11 h1
    obtain ⟨A, n, c, A', n', c', x, p, rfl, rfl, rfl, hs, hs', HE, hp, hn, hn', hb⟩ := hrel
    by_cases hk : gk = 0
    · have HX : Hid (x = e) := Lib.hid (by have := HE.out; rw [hk] at this; omega)
      subst hk
      go_wp2_with fail
      go_ret
      exact ⟨_, _, _, rfl, by rw [← HX.out]; exact hs, hb⟩
    · have hpe : p ≤ e := by have := HE.out; have : p * 1 ≤ p * gk := Nat.mul_le_mul_left _ (by omega); omega
      have hxe : x ≤ e := by have := HE.out; omega
      have hn1 : n' ≤ 10000001 := by rw [← hs'.len]; exact HL.out p hpe
      have hk1 : 0 < gk := by omega
      have hgk : gk ≤ 1000000 := by
        have h1 := HE.out
        have h2 : 1 * gk ≤ p * gk := Nat.mul_le_mul_right _ hp
        omega
      have hand := i64_and_one gk (by omega)
      have HN : Hid (2 * p * (gk / 2) + (gk % 2) * p + x = e) := Lib.hid (by
        have h1 := HE.out
        have h2 : p * (2 * (gk / 2) + gk % 2) = p * gk := by rw [Nat.div_add_mod]
        rw [Nat.mul_add, ← Nat.mul_assoc, Nat.mul_comm p 2, Nat.mul_comm p (gk % 2)] at h2
        omega)
      have hdg : ((gk : Int) / 2) = ((gk / 2 : Nat) : Int) := by omega
      by_cases hodd : gk % 2 = 1
      · rw [hodd] at hand
        have HX : Hid (p + x ≤ e ∧ 2 * p * (gk / 2) + (p + x) = e) := Lib.hid (by have h1 := HN.out; rw [hodd] at h1; omega)
        clear hdg
        go_wp2_with fail
        refine (mul_any _ _ _ _ _ _ (a ^ x) (a ^ p) _ hs hs' (by omega) (by omega)).mono ?_
        rintro e' w2 ⟨A6, n6, c6, rfl, hs6, ⟨hb6, _⟩⟩
        rw [← Nat.pow_add, Nat.add_comm x p] at hs6
        have hn6 : n6 ≤ 10000001 := by rw [← hs6.len]; exact HL.out _ HX.out.1
        have hs2 := hs'.below hb6
        go_wp2_with fail
        refine (mul_any _ _ _ _ _ _ (a ^ p) (a ^ p) _ hs2 hs2 (by omega) (by omega)).mono ?_
        rintro e' w3 ⟨A7, n7, c7, rfl, hs7, ⟨hb7, _⟩⟩
        have hn7 : n7 ≤ 20000002 := by rw [← hs7.len]; have := len_mul (a ^ p) (a ^ p); rw [hs2.len] at this; omega
        rw [sq_pow] at hs7
        have hs8 := hs6.below hb7
        have hb8 := bthen (bthen hb hb6) hb7
        go_wp2_with fail
        go_roundg (gk / 2)
        case measure => omega
        case rel => exact ⟨_, _, _, _, _, _, _, _, rfl, rfl, by go_num, hs8, hs7, Lib.hid HX.out.2, by omega, by omega, by omega, hb8⟩
      · rw [show gk % 2 = 0 from by omega] at hand
        have HX : Hid (2 * p * (gk / 2) + x = e) := Lib.hid (by have h1 := HN.out; rw [show gk % 2 = 0 from by omega] at h1; omega)
        clear hdg
        go_wp2_with fail
        refine (mul_any _ _ _ _ _ _ (a ^ p) (a ^ p) _ hs' hs' (by omega) (by omega)).mono ?_
        rintro e' w3 ⟨A7, n7, c7, rfl, hs7, ⟨hb7, _⟩⟩
        have hn7 : n7 ≤ 20000002 := by rw [← hs7.len]; have := len_mul (a ^ p) (a ^ p); rw [hs'.len] at this; omega
        rw [sq_pow] at hs7
        have hs8 := hs.below hb7
        have hb8 := bthen hb hb7
        go_wp2_with fail
        go_roundg (gk / 2)
        case measure => omega
        case rel => exact ⟨_, _, _, _, _, _, _, _, rfl, rfl, by go_num, hs8, hs7, HX, by omega, by omega, by omega, hb8⟩
end Go.Proofs.YtaahbabdbopphaaDoor
