/- frac.Normalize. -/
import Derived.Test.YtaahbabdbopphaaDoorLI
import Derived.Deep.RegionLaw
import Derived.Deep.RegionHeld3
import Derived.Maps.AppendAt
import Derived.Deep.AppendLies
namespace Go.Proofs.YtaahbabdbopphaaDoor
open Go.RowKit Mx
set_option maxRecDepth 100000

theorem Tryd.info24 : (Tryd.prog.info? 24).map (fun i => (i.zero, i.size, i.bytes)) = some (some (.agg #[.bool false, .slice none 0 0, .slice none 0 0]), 3, 56) := by kernel_rfl
/-- append onto a slice of the call's own, as a step of a region that draws. -/
theorem step_append_own {P : Program} {ops : Array Oper} {o : Oper} {a : Act} {w : World} {K : Act → World → Prop} {Q : Exit → Act → World → Prop} {E : Prop}
    (hg : o.guard = none) (s x : Operand) (t : TypeId) (hop : o.op = Op.call { callee := Callee.builtin Builtin.append, args := #[s, x], argTypes := #[t, t] })
    (base : Nat) (e : TypeId) (i : TypeInfo) (z : Value) (size bytes : Nat) (h1 : P.underlying t = some (.slice e)) (h2 : P.info? e = some i) (h3 : i.zero = some z) (h4 : i.size = size) (h5 : i.bytes = bytes) (h6 : z.cells.size = size) (h7 : 0 < size)
    (v : Value) (n : Nat) (xs : List Value) (hs : a.eval s = v) (hown : w.ownsRow base e size v n xs)
    (ad : Addr) (m c : Nat) (news : List Value) (hx : a.eval x = .slice (some ad) m c) (hn : news.length = m * size) (hc : ∀ j u, news[j]? = some u → w.cell? (ad.add j) = some u) (h1c : ∀ u ∈ news, u.oneCell' = true)
    (b1 : n + m ≤ maxLen) (b2 : (n + m) * bytes ≤ 140737488355328) (hb : base ≤ w.heap.size)
    (hK : ∀ v' w', w'.ownsRow base e size v' (n + m) (xs ++ news) → w.grownBy w' v.ownBlock → K (a.put o.dst v') w') :
    if Region.wanted o (yielded ops a.tmps) = true then Oper.wp P o a w K Q else E := by
  have hw : Region.wanted o (yielded ops a.tmps) = true := by simp [Region.wanted, hg]
  rw [if_pos hw]
  obtain ⟨v', w', hrun, r1, r2, _, _⟩ := run_append_own_at (P := P) w base t o.type e i z size bytes h1 h2 h3 h4 h5 h6 h7 v n xs hown ad m c news hn hc h1c b1 b2 hb
  unfold Oper.wp
  simp [execOp, hop, resolve, invoke, builtin, hs, hx, hrun, Result.andThen]
  exact hK v' w' r1 r2
/-- A Frac's three cells. -/
structure FV where
  s : Bool
  A : Option Addr
  n : Nat
  c : Nat
  B : Option Addr
  m : Nat
  d : Nat
def FV.nil : FV := ⟨false, none, 0, 0, none, 0, 0⟩
def FV.cells (f : FV) : List Value := [.bool f.s, .slice f.A f.n f.c, .slice f.B f.m f.d]
def flat (fs : List FV) : List Value := fs.flatMap FV.cells
theorem flat_snoc (fs : List FV) (f : FV) : flat (fs ++ [f]) = flat fs ++ f.cells := by simp [flat]
theorem flat_get (fs : List FV) : ∀ (i r : Nat), i < fs.length → r < 3 → (flat fs)[i * 3 + r]? = (fs.getD i FV.nil).cells[r]? := by
  induction fs with
  | nil => intro i r hi; exact absurd hi (Nat.not_lt_zero _)
  | cons f fs ih =>
    intro i r hi hr
    have e : flat (f :: fs) = f.cells ++ flat fs := rfl
    rw [e]
    cases i with
    | zero => rw [Nat.zero_mul, Nat.zero_add, List.getElem?_append_left (by exact hr)]; rfl
    | succ i =>
      have h3 : f.cells.length = 3 := rfl
      rw [List.getElem?_append_right (by rw [h3]; omega), h3, show (i + 1) * 3 + r - 3 = i * 3 + r by omega, ih i r (by simpa using hi) hr]
      rfl
theorem own_later' {base : Nat} {e : TypeId} {size : Nat} {w w' : World} {v : Value} {n : Nat} {xs : List Value} (h : w.ownsRow base e size v n xs) (hb : Below w.heap.size w w') : w'.ownsRow base e size v n xs := by
  obtain ⟨hl, hv⟩ := h
  refine ⟨hl, ?_⟩
  rcases hv with h1 | ⟨g, cap, cur, h1, h2, h3, h4⟩
  · exact .inl h1
  · refine .inr ⟨g, cap, cur, h1, h2, ?_, h4⟩
    have hg : g < w.heap.size := by
      rcases Nat.lt_or_ge g w.heap.size with h | h
      · exact h
      · rw [Array.getElem?_eq_none h] at h3; cases h3
    rw [hb.block g hg]; exact h3
theorem own_grown {base : Nat} {w w' : World} {v : Value} {n : Nat} {xs : List Value} {row : Option Nat} (h : w.ownsRow base 57 1 v n xs) (hg : w.grownBy w' row) (hrow : ∀ g, row = some g → ∃ cur, w.heap[g]? = some (.cells cur 24 (0, 0))) : w'.ownsRow base 57 1 v n xs := by
  obtain ⟨hl, hv⟩ := h
  refine ⟨hl, ?_⟩
  rcases hv with h1 | ⟨g, cap, cur, h1, h2, h3, h4⟩
  · exact .inl h1
  · refine .inr ⟨g, cap, cur, h1, h2, ?_, h4⟩
    have hlt : g < w.heap.size := by
      rcases Nat.lt_or_ge g w.heap.size with h | h
      · exact h
      · rw [Array.getElem?_eq_none h] at h3; cases h3
    rw [hg.block g hlt ?_]
    · exact h3
    · intro e
      obtain ⟨cur', h5⟩ := hrow g e.symm
      rw [h3] at h5
      simp at h5
theorem own24_row {base : Nat} {w : World} {v : Value} {n : Nat} {xs : List Value} (h : w.ownsRow base 24 3 v n xs) : ∀ g, v.ownBlock = some g → ∃ cur, w.heap[g]? = some (.cells cur 24 (0, 0)) := by
  intro g hg
  rcases h.2 with ⟨rfl, _⟩ | ⟨g', cap, cur, rfl, _, h3, _⟩
  · simp [Value.ownBlock] at hg
  · simp [Value.ownBlock] at hg
    subst hg
    exact ⟨cur, h3⟩
theorem Bk.grown {w w' : World} {g : Nat} {a b c : Value} {row : Option Nat} (k : Bk w g a b c) (hg : w.grownBy w' row) (hne : row ≠ some g) : Bk w' g a b c := by
  have e := hg.block g k.lt (fun h => hne h.symm)
  have ec : ∀ i, w'.cell? ⟨g, i, none⟩ = w.cell? ⟨g, i, none⟩ := fun i => World.cell?_of_block (a := ⟨g, i, none⟩) e
  exact ⟨(ec 0).trans k.c0, (ec 1).trans k.c1, (ec 2).trans k.c2, fun i => (World.frozen?_of_block (a := ⟨g, i, none⟩) e).trans (k.fz i), Nat.lt_of_lt_of_le k.lt hg.size⟩
/-- An element of a list that is built: its digits lie in rows of their own. -/
structure El (w0 w : World) (f : FV) (q : Rat) : Prop where
  neg : f.s = rneg q
  num : Own w0 w f.A f.n f.c (dig (rn q))
  den : Own w0 w f.B f.m f.d (dig (rD q))
theorem El.later {w0 w w' : World} {f : FV} {q : Rat} (h : El w0 w f q) (hb : Below w.heap.size w w') : El w0 w' f q := ⟨h.neg, h.num.later hb, h.den.later hb⟩
theorem El.grown {w0 w w' : World} {f : FV} {q : Rat} {row : Option Nat} (h : El w0 w f q) (hg : w.grownBy w' row) (hrow : ∀ g, row = some g → ∃ cur, w.heap[g]? = some (.cells cur 24 (0, 0))) : El w0 w' f q :=
  ⟨h.neg, own_grown h.num hg hrow, own_grown h.den hg hrow⟩
theorem El.fr {w0 w : World} {f : FV} {q : Rat} (h : El w0 w f q) : Fr w f.s f.A f.n f.c f.B f.m f.d q := ⟨h.neg, Sl.of_own h.num, Sl.of_own h.den⟩
def Els (w0 w : World) (fs : List FV) (qs : List Rat) (k : Nat) : Prop := ∀ i, i < k → El w0 w (fs.getD i FV.nil) (qs.getD i 0)
theorem Els.later {w0 w w' : World} {fs : List FV} {qs : List Rat} {k : Nat} (h : Els w0 w fs qs k) (hb : Below w.heap.size w w') : Els w0 w' fs qs k := fun i hi => (h i hi).later hb
theorem Els.alloc {w0 w : World} {fs : List FV} {qs : List Rat} {k : Nat} (h : Els w0 w fs qs k) (o : Obj) : Els w0 (w.alloc o) fs qs k := h.later (below_alloc (Below.refl _ w) o)
theorem Els.grown {w0 w w' : World} {fs : List FV} {qs : List Rat} {k : Nat} {row : Option Nat} (h : Els w0 w fs qs k) (hg : w.grownBy w' row) (hrow : ∀ g, row = some g → ∃ cur, w.heap[g]? = some (.cells cur 24 (0, 0))) : Els w0 w' fs qs k := fun i hi => (h i hi).grown hg hrow
theorem Els.snoc {w0 w : World} {fs : List FV} {qs : List Rat} {k : Nat} {f : FV} (h : Els w0 w fs qs k) (hl : fs.length = k) (hf : El w0 w f (qs.getD k 0)) : Els w0 w (fs ++ [f]) qs (k + 1) := fun i hi => by
  by_cases e : i = k
  · subst e
    have : (fs ++ [f]).getD i FV.nil = f := by rw [List.getD_eq_getElem?_getD, List.getElem?_append_right (by omega), hl, Nat.sub_self]; rfl
    rw [this]; exact hf
  · have : (fs ++ [f]).getD i FV.nil = fs.getD i FV.nil := by rw [List.getD_eq_getElem?_getD, List.getD_eq_getElem?_getD, List.getElem?_append_left (by omega)]
    rw [this]; exact h i (by omega)
/-- A list of canonical Fracs in memory. -/
def FF (w : World) (A : Option Addr) (qs : List Rat) : Prop := ∀ i, i < qs.length → ∃ ad sb A1 n1 c1 A2 n2 c2, A = some ad ∧ w.cell? (ad.add (i * 3)) = some (.bool sb) ∧
  w.cell? ⟨(ad.add (i * 3)).block, (ad.add (i * 3)).off + 1, none⟩ = some (.slice A1 n1 c1) ∧ w.cell? ⟨(ad.add (i * 3)).block, (ad.add (i * 3)).off + 2, none⟩ = some (.slice A2 n2 c2) ∧
  Fr w sb A1 n1 c1 A2 n2 c2 (qs.getD i 0)
theorem FF.below {w w' : World} {A : Option Addr} {qs : List Rat} (h : FF w A qs) (hb : Below w.heap.size w w') : FF w' A qs := fun i hi => by
  obtain ⟨ad, sb, A1, n1, c1, A2, n2, c2, hA, h0, h1, h2, hr⟩ := h i hi
  exact ⟨ad, sb, A1, n1, c1, A2, n2, c2, hA, cell_below hb h0, cell_below hb h1, cell_below hb h2, hr.below hb⟩
theorem FF.fl {w : World} {A : Option Addr} {qs : List Rat} {K : Nat} (h : FF w A qs) (hk : ∀ i, i < qs.length → ln (qs.getD i 0) ≤ K ∧ ld (qs.getD i 0) ≤ K) : FL w A K qs := fun i hi => by
  obtain ⟨ad, sb, A1, n1, c1, A2, n2, c2, hA, h0, h1, h2, hr⟩ := h i hi
  have hl := hr.lens
  have hki := hk i hi
  exact ⟨ad, sb, A1, n1, c1, A2, n2, c2, hA, h0, h1, h2, hr.rf, by omega, by omega⟩
theorem FF.of {base : Nat} {w0 w : World} {A : Option Addr} {n c : Nat} {fs : List FV} {qs : List Rat} (h : w.ownsRow base 24 3 (.slice A n c) n (flat fs)) (hl : fs.length = n) (hq : qs.length = n) (he : Els w0 w fs qs n) : FF w A qs := fun i hi => by
  have hin : i < n := by omega
  obtain ⟨g, cap, hv, _, _⟩ := h.form (by omega)
  injection hv with hA _ hc
  subst hA hc
  have e : (⟨g, 0, none⟩ : Addr).add (i * 3) = ⟨g, i * 3, none⟩ := by
    unfold Addr.add
    by_cases h0 : i * 3 = 0
    · rw [if_pos h0, h0]
    · rw [if_neg h0, Nat.zero_add]
  have c0 := h.cellAt (i * 3 + 0) (by omega)
  have c1 := h.cellAt (i * 3 + 1) (by omega)
  have c2 := h.cellAt (i * 3 + 2) (by omega)
  rw [flat_get fs i _ (by omega) (by omega)] at c0 c1 c2
  exact ⟨⟨g, 0, none⟩, _, _, _, _, _, _, _, rfl, by rw [e]; exact c0, by rw [e]; exact c1, by rw [e]; exact c2, (he i hin).fr⟩
theorem lit3 (w : World) (a b c : Value) : ∀ (j : Nat) (u : Value), [a, b, c][j]? = some u → (w.alloc (.cells #[a, b, c] 24)).cell? ((⟨w.heap.size, 0, none⟩ : Addr).add j) = some u := by
  intro j u hj
  match j, hj with
  | 0, hj => simp at hj; subst hj; simp [Addr.add]
  | 1, hj => simp at hj; subst hj; simp [Addr.add]
  | 2, hj => simp at hj; subst hj; simp [Addr.add]
theorem one3 (s : Bool) (A B : Option Addr) (n c m d : Nat) : ∀ u ∈ [Value.bool s, .slice A n c, .slice B m d], u.oneCell' = true := by
  intro u hu
  simp only [List.mem_cons, List.not_mem_nil, or_false] at hu
  rcases hu with rfl | rfl | rfl <;> rfl
theorem map_getD (qs : List Rat) (x : Rat) (i : Nat) (h : i < qs.length) : (qs.map (· * x)).getD i 0 = qs.getD i 0 * x := by
  rw [List.getD_eq_getElem?_getD, List.getD_eq_getElem?_getD, List.getElem?_map, List.getElem?_eq_getElem h]; rfl
def NilPost (err : Int) (w : World) (e : Ending) (w' : World) : Prop := e = .returned (.tuple #[.slice none 0 0, .int .i64 err]) ∧ Below w.heap.size w w'
def NormPost (qs : List Rat) (n : Nat) (w : World) (e : Ending) (w' : World) : Prop := ∃ A c, e = .returned (.tuple #[.slice A n c, .int .i64 0]) ∧ FF w' A qs ∧ Below w.heap.size w w'

set_option maxHeartbeats 4000000 in
theorem Normalize_neg (A : Option Addr) (n c : Nat) (qs : List Rat) (w : World) (h2 : FL w A 10 qs) (hq : qs.length = n) (hn : n ≤ 10) (hng : ¬ nng qs n) :
    Calls Tryd.prog 48 #[.slice A n c] w (NilPost 2 w) := by
  have HC := Lib.hid (Contains103_yes A n c qs w (h2.mono (by omega)) hq hn true (Lib.hid ⟨fun _ => hng, fun _ => rfl⟩))
  clear h2 hng hq
  go_enter Tryd.func48, Tryd.ntmps48
  go_wp2_with fail
  refine HC.out.mono ?_
  rintro e w1 ⟨rfl, b1⟩
  go_wp2_with fail
  go_ret2
  exact ⟨rfl, b1⟩

set_option maxHeartbeats 4000000 in
theorem Normalize_zero (A : Option Addr) (n c : Nat) (qs : List Rat) (w : World) (h2 : FL w A 10 qs) (hq : qs.length = n) (hn : n ≤ 10) (hng : nng qs n) (hz : rn (qs.foldl (· + ·) 0) = 0) :
    Calls Tryd.prog 48 #[.slice A n c] w (NilPost 3 w) := by
  have HLS : Hid (ln (qs.foldl (· + ·) 0) ≤ 1330 ∧ ld (qs.foldl (· + ·) 0) ≤ 111) := Lib.hid (by
    have := sum_lens h2 (by omega) qs.length (Nat.le_refl _)
    rw [List.take_length] at this
    omega)
  obtain ⟨S, hS⟩ : ∃ S, Hid (S = qs.foldl (· + ·) 0) := ⟨_, Lib.hid rfl⟩
  rw [← hS.out] at HLS hz
  have HC := Lib.hid (Contains103_yes A n c qs w (h2.mono (by omega)) hq hn false (Lib.hid ⟨fun h => (nomatch h), fun h => absurd hng h⟩))
  have HQ := Lib.hid hq
  have HZ := Lib.hid hz
  clear hng hq hz
  go_enter Tryd.func48, Tryd.ntmps48
  go_wp2_with fail
  refine HC.out.mono ?_
  rintro e w1 ⟨rfl, b1⟩
  clear HC
  replace h2 := h2.below b1
  have C39 := Lib.hid (Sum_any A n c qs w1 (h2.mono (by omega)) HQ.out hn)
  rw [← hS.out] at C39
  go_wp2_with fail
  refine C39.out.mono ?_
  rintro e w2 ⟨s1, A1, n1, c1, A2, n2, c2, rfl, f1, _, _, b5⟩
  have hn1 : n1 ≤ 2000 := by have := f1.lens; have := HLS.out; omega
  have hn2 : n2 ≤ 2000 := by have := f1.lens; have := HLS.out; omega
  replace h2 := h2.below b5
  replace b1 := bthen b1 b5
  clear C39
  go_wp2_with fail
  refine (takes_any s1 A1 A2 n1 n2 c1 c2 S _ f1.rf (by omega) (by omega)).mono ?_
  rintro e w3 ⟨s2, A3, n3, c3, A4, n4, c4, rfl, m2, b5⟩
  have hn3 : n3 ≤ 2000 := by have := m2.lens; have := HLS.out; omega
  have hn4 : n4 ≤ 2000 := by have := m2.lens; have := HLS.out; omega
  obtain ⟨v, HV, x1, xb⟩ := boxes1 w3 (.bool s2) (.slice A3 n3 c3) (.slice A4 n4 c4) 66
  replace h2 := (h2.below b5).below xb
  replace m2 := m2.below xb
  replace b1 := bthen (bthen b1 b5) xb
  have p0 := x1.c0
  have p1 := x1.c1
  have p2 := x1.c2
  rw [HV.out] at p0 p1 p2
  clear f1
  go_wp2_with fail
  rw [← HV.out]
  refine (nzero_yes s2 A3 A4 n3 n4 c3 c4 S _ m2 HZ.out).mono ?_
  rintro e w4 ⟨rfl, b5⟩
  replace b1 := bthen b1 b5
  clear p0 p1 p2
  go_wp2_with fail
  go_ret2
  exact ⟨rfl, b1⟩

set_option maxHeartbeats 16000000 in
theorem Normalize_yes (A : Option Addr) (n c : Nat) (qs : List Rat) (w : World) (h2 : FL w A 10 qs) (hq : qs.length = n) (hn : n ≤ 10) (hng : nng qs n) (hz : rn (qs.foldl (· + ·) 0) ≠ 0) :
    Calls Tryd.prog 48 #[.slice A n c] w (NormPost (qs.map (· * (qs.foldl (· + ·) 0)⁻¹)) n w) := by
  obtain ⟨ps, hps⟩ : ∃ ps, Hid (ps = qs.map (· * (qs.foldl (· + ·) 0)⁻¹)) := ⟨_, Lib.hid rfl⟩
  rw [← hps.out]
  have HPQ : Hid (ps.length = n) := Lib.hid (by rw [hps.out, List.length_map, hq])
  have HLS : Hid (ln (qs.foldl (· + ·) 0) ≤ 1330 ∧ ld (qs.foldl (· + ·) 0) ≤ 111) := Lib.hid (by
    have := sum_lens h2 (by omega) qs.length (Nat.le_refl _)
    rw [List.take_length] at this
    omega)
  obtain ⟨S, hS⟩ : ∃ S, Hid (S = qs.foldl (· + ·) 0) := ⟨_, Lib.hid rfl⟩
  rw [← hS.out] at HLS hz
  have HC := Lib.hid (Contains103_yes A n c qs w (h2.mono (by omega)) hq hn false (Lib.hid ⟨fun h => (nomatch h), fun h => absurd hng h⟩))
  have HQ := Lib.hid hq
  have HZ := Lib.hid hz
  clear hng hq hz
  go_enter Tryd.func48, Tryd.ntmps48
  go_wp2_with fail
  refine HC.out.mono ?_
  rintro e w1 ⟨rfl, b1⟩
  clear HC
  replace h2 := h2.below b1
  have C39 := Lib.hid (Sum_any A n c qs w1 (h2.mono (by omega)) HQ.out hn)
  rw [← hS.out] at C39
  go_wp2_with fail
  refine C39.out.mono ?_
  rintro e w2 ⟨s1, A1, n1, c1, A2, n2, c2, rfl, f1, _, _, b5⟩
  have hn1 : n1 ≤ 2000 := by have := f1.lens; have := HLS.out; omega
  have hn2 : n2 ≤ 2000 := by have := f1.lens; have := HLS.out; omega
  replace h2 := h2.below b5
  replace b1 := bthen b1 b5
  clear C39
  go_wp2_with fail
  refine (takes_any s1 A1 A2 n1 n2 c1 c2 S _ f1.rf (by omega) (by omega)).mono ?_
  rintro e w3 ⟨s2, A3, n3, c3, A4, n4, c4, rfl, m2, b5⟩
  have hn3 : n3 ≤ 2000 := by have := m2.lens; have := HLS.out; omega
  have hn4 : n4 ≤ 2000 := by have := m2.lens; have := HLS.out; omega
  obtain ⟨v, HV, x1, xb⟩ := boxes1 w3 (.bool s2) (.slice A3 n3 c3) (.slice A4 n4 c4) 66
  replace h2 := (h2.below b5).below xb
  replace m2 := m2.below xb
  replace b1 := bthen (bthen b1 b5) xb
  have p0 := x1.c0
  have p1 := x1.c1
  have p2 := x1.c2
  rw [HV.out] at p0 p1 p2
  clear f1
  go_wp2_with fail
  rw [← HV.out]
  have HPI : Hid (∀ i, i < n → ps.getD i 0 = qs.getD i 0 * S⁻¹) := Lib.hid (fun i hi => by rw [hps.out, ← hS.out]; exact map_getD _ _ _ (by rw [HQ.out]; exact hi))
  have HLI : Hid (ln S⁻¹ ≤ 1330 ∧ ld S⁻¹ ≤ 1330) := Lib.hid (by have := ln_inv (q := S) HZ.out; have := HLS.out; omega)
  obtain ⟨i0, hi0, hz0, hz1, hz2⟩ := info_parts Tryd.info24
  clear hS hps
  refine (nzero_no s2 A3 A4 n3 n4 c3 c4 S _ m2 HZ.out (by omega)).mono ?_
  rintro e w4 ⟨rfl, b5⟩
  replace h2 := h2.below b5
  replace m2 := m2.below b5
  replace b1 := bthen b1 b5
  replace x1 := x1.below b5
  have hg1 := x1.lt
  clear p0 p1 p2
  go_wp2_with fail
  go_loopw [5, 17] (fun so si wr => ∃ (k : Nat) (A' : Option Addr) (c' : Nat) (fs : List FV), so = .slice A' k c' ∧ si = .int .i64 k ∧ k ≤ n ∧ wr.ownsRow w4.heap.size 24 3 (.slice A' k c') k (flat fs) ∧ Hid (fs.length = k) ∧ Els w4 wr fs ps k ∧ Below w4.heap.size w4 wr) (fun _ si _ => n - (intOf si).toNat)
  case atStart => exact ⟨0, none, 0, [], rfl, rfl, Nat.zero_le _, World.ownsRow_nil _ _ _ _, Lib.hid rfl, fun i hi => absurd hi (Nat.not_lt_zero _), Below.refl _ _⟩
  case round =>
    obtain ⟨k, A', c', fs, rfl, rfl, hk, hown, HFL, hE, yb⟩ := hrel
    by_cases hlt : k < n
    · obtain ⟨ad, s3, A5, n5, c5, A6, n6, c6, rfl, k0, k1, k2, hr, hn5, hn6⟩ := (h2.below yb) k (by rw [HQ.out]; exact hlt)
      obtain ⟨q, hqe⟩ : ∃ q, q = qs.getD k 0 := ⟨_, rfl⟩
      have HPK : Hid (ps.getD k 0 = q * S⁻¹) := Lib.hid (by rw [hqe]; exact HPI.out k hlt)
      rw [← hqe] at hr
      have HLq := Lib.hid hr.len
      have HLm : Hid (ln (q * S⁻¹) ≤ 2000 ∧ ld (q * S⁻¹) ≤ 2000) := Lib.hid (by have := ln_mul q S⁻¹; have := HLI.out; have := HLq.out; omega)
      obtain ⟨u, HU, x3, zb⟩ := boxes1 wr (.bool s3) (.slice A5 n5 c5) (.slice A6 n6 c6) 24
      have hgk : w3.heap.size ≠ wr.heap.size := by have := yb.size; omega
      have hlo : ∀ g, (Value.slice A' k c').ownBlock = some g → w4.heap.size ≤ g ∧ g < wr.heap.size := hown.lt
      have y1 := ((x1.below yb).below zb).drew
      have y3 := x3.drew
      have m3 := ((m2.below yb).below zb).drew
      have zr := (hr.below zb).drew
      have zo := own_later' hown (below_drew zb)
      have zE := hE.later (below_drew zb)
      have yu := below_drew (bthen yb zb)
      have r0 := ((x1.below yb).below zb).c0
      have r1 := ((x1.below yb).below zb).c1
      have r2 := ((x1.below yb).below zb).c2
      have q0 := x3.c0
      have q1 := x3.c1
      have q2 := x3.c2
      have i1 : (0 : Int) ≤ (k : Int) := by omega
      have i2 : (k : Int) < (n : Int) := by omega
      clear hqe h2 hE hr HPI
      go_wp2_with fail
      rw [← HU.out]
      go_region_held3 (fun w' => w'.cell? ⟨w3.heap.size, 0, none⟩ = some (.bool s2) ∧ w'.cell? ⟨w3.heap.size, 1, none⟩ = some (.slice A3 n3 c3) ∧ w'.cell? ⟨w3.heap.size, 2, none⟩ = some (.slice A4 n4 c4) ∧ w'.cell? ⟨wr.heap.size, 0, none⟩ = some (.bool s3) ∧ w'.cell? ⟨wr.heap.size, 1, none⟩ = some (.slice A5 n5 c5) ∧ w'.cell? ⟨wr.heap.size, 2, none⟩ = some (.slice A6 n6 c6))
        (first | (with_reducible exact ⟨r0, r1, r2, q0, q1, q2⟩) | (with_reducible exact ⟨y1.c0, y1.c1, y1.c2, y3.c0, y3.c1, y3.c2⟩) | (with_reducible exact ⟨(y1.alloc _).c0, (y1.alloc _).c1, (y1.alloc _).c2, (y3.alloc _).c0, (y3.alloc _).c1, (y3.alloc _).c2⟩) | go_keep)
        (first
          | (go_at_call 70
             (with_reducible refine (takes_any s3 A5 A6 n5 n6 c5 c6 q _ zr (by omega) (by omega)).mono ?_)
             rintro e w5 ⟨s4, A7, n7, c7, A8, n8, c8, rfl, g4, b5⟩
             replace y1 := y1.below b5
             replace y3 := y3.below b5
             replace m3 := m3.below b5
             replace zE := zE.later b5
             replace zo := own_later' zo b5
             replace yu := bthen yu b5
             have hn7 : n7 ≤ 1000 := by have := g4.lens; have := HLq.out; omega
             have hn8 : n8 ≤ 1000 := by have := g4.lens; have := HLq.out; omega)
          | (go_at_call 72
             (with_reducible refine (ninverse_any s2 A3 A4 n3 n4 c3 c4 S _ m3 HZ.out).mono ?_)
             rintro e w6 ⟨s5, A9, n9, c9, A10, n10, c10, rfl, g5, b5⟩
             replace y1 := y1.below b5
             replace y3 := y3.below b5
             replace m3 := m3.below b5
             replace zE := zE.later b5
             replace g4 := g4.below b5
             replace zo := own_later' zo b5
             replace yu := bthen yu b5
             have hn9 : n9 ≤ 2000 := by have := g5.lens; have := HLI.out; omega
             have hn10 : n10 ≤ 2000 := by have := g5.lens; have := HLI.out; omega)
          | (go_at_call 78
             (with_reducible refine (nmul_any s4 s5 A7 A8 A9 A10 n7 n8 n9 n10 c7 c8 c9 c10 q S⁻¹ _ g4 g5 (by omega) (by omega) (by omega) (by omega)).mono ?_)
             rintro e w7 ⟨s6, A11, n11, c11, A12, n12, c12, rfl, g6, b5⟩
             replace y1 := y1.below b5
             replace y3 := y3.below b5
             replace m3 := m3.below b5
             replace zE := zE.later b5
             replace zo := own_later' zo b5
             replace yu := bthen yu b5
             have hn11 : n11 ≤ 2000 := by have := g6.lens; have := HLm.out; omega
             have hn12 : n12 ≤ 2000 := by have := g6.lens; have := HLm.out; omega
             have ysz := yu.size)
          | (go_at_call 74
             (with_reducible refine (gives_any s6 A11 A12 n11 n12 c11 c12 _ _ g6 (by omega) (by omega)).mono ?_)
             rintro e w8 ⟨s7, A13, n13, c13, A14, n14, c14, rfl, f7, o13, o14, b5⟩
             replace y1 := y1.below b5
             replace y3 := y3.below b5
             replace m3 := m3.below b5
             replace zE := zE.later b5
             replace zo := own_later' zo b5
             replace yu := bthen yu b5
             have eK : El w4 w8 (FV.mk s7 A13 n13 c13 A14 n14 c14) (ps.getD k 0) := by rw [HPK.out]; exact ⟨f7.neg, o13.base ysz, o14.base ysz⟩
             have ysz8 := yu.size)
          | (refine step_append_own rfl (.tmp 21) (.tmp 28) 45 rfl w4.heap.size 24 i0 _ 3 56 Tryd.underlying45 hi0 hz0 hz1 hz2 rfl (by decide) (.slice A' k c') k (flat fs) (by simp [Act.eval]) (own_later' zo (below_alloc (Below.refl _ w8) (.cells #[.bool s7, .slice A13 n13 c13, .slice A14 n14 c14] 24))) ⟨w8.heap.size, 0, none⟩ 1 1 [.bool s7, .slice A13 n13 c13, .slice A14 n14 c14] (by simp [Act.eval]) rfl (lit3 w8 _ _ _) (one3 _ _ _ _ _ _ _) (by unfold maxLen; omega) (by omega) (by simp; omega) ?_
             intro v' w9 hown9 hgrow
             have hrow := own24_row (own_later' zo (below_alloc (Below.refl _ w8) (.cells #[.bool s7, .slice A13 n13 c13, .slice A14 n14 c14] 24)))
             replace zE := (zE.alloc (.cells #[.bool s7, .slice A13 n13 c13, .slice A14 n14 c14] 24)).grown hgrow hrow
             replace eK := (eK.later (below_alloc (Below.refl _ w8) (.cells #[.bool s7, .slice A13 n13 c13, .slice A14 n14 c14] 24))).grown hgrow hrow
             replace y1 := (y1.alloc (.cells #[.bool s7, .slice A13 n13 c13, .slice A14 n14 c14] 24)).grown hgrow (fun h => by have := (hlo _ h).1; omega)
             replace y3 := (y3.alloc (.cells #[.bool s7, .slice A13 n13 c13, .slice A14 n14 c14] 24)).grown hgrow (fun h => by have := (hlo _ h).2; omega)
             replace yu := (below_alloc yu (.cells #[.bool s7, .slice A13 n13 c13, .slice A14 n14 c14] 24)).grown hgrow (by simp; omega) (fun g hg => (hlo g hg).1)
             obtain ⟨A9', c9', rfl⟩ := own_shape hown9))
      all_goals
        have hE2 := zE.snoc HFL.out eK
        have HF2 : Hid ((fs ++ [(FV.mk s7 A13 n13 c13 A14 n14 c14)]).length = k + 1) := Lib.hid (by rw [List.length_append, HFL.out]; rfl)
        have hown2 : w9.ownsRow w4.heap.size 24 3 (.slice A9' (k + 1) c9') (k + 1) (flat (fs ++ [(FV.mk s7 A13 n13 c13 A14 n14 c14)])) := by rw [flat_snoc]; exact hown9
        clear zE eK hown9 zo hgrow hrow
        go_wp2_with fail
        go_roundw
        case rel => exact ⟨k + 1, A9', c9', _, rfl, by go_num, by omega, hown2, HF2, hE2, yu⟩
        case measure => simp [intOf]; omega
    · obtain rfl : k = n := by omega
      have hff := FF.of hown HFL.out HPQ.out hE
      have yz := bthen b1 yb
      clear hown hE h2 m2
      go_wp2_with fail
      go_ret2
      exact ⟨A', c', rfl, hff, yz⟩
end Go.Proofs.YtaahbabdbopphaaDoor
