/- What FracOwn needs: a copy by append, rows that are written, a list of Fracs whose digits are written. -/
import Derived.Test.YtaahbabdbopphaaDoorNO
import Derived.Test.YtaahbabdbopphaaDoorSM
import Derived.Test.YtaahbabdbopphaaDoorB0
namespace Go.Proofs.YtaahbabdbopphaaDoor
open Go.RowKit Mx
set_option maxRecDepth 100000

theorem Rd.all_cells {w : World} {ad : Addr} {n c : Nat} {xs : List Nat} (h : Sl w (some ad) n c xs) : ∀ (j : Nat) (u : Value), (u32s xs)[j]? = some u → w.cell? (ad.add j) = some u := by
  intro j u hj
  have hlt : j < xs.length := by
    rcases Nat.lt_or_ge j xs.length with h1 | h1
    · exact h1
    · rw [List.getElem?_eq_none (by rw [u32s_length]; exact h1)] at hj; cases hj
  rw [u32s_get xs j hlt] at hj
  rw [← hj]
  exact h.cell (by rw [← h.len]; exact hlt)
/-- append(nil, x...): a copy. -/
theorem step_append_nil {ops : Array Oper} {o : Oper} {a : Act} {w : World} {K : Act → World → Prop} {Q : Exit → Act → World → Prop} {E : Prop}
    (hg : o.guard = none) (s x : Operand) (hop : o.op = Op.call { callee := Callee.builtin Builtin.append, args := #[s, x], argTypes := #[22, 22] })
    (A : Option Addr) (n c : Nat) (xs : List Nat) (hs : a.eval s = .slice none 0 0) (hx : a.eval x = .slice A n c) (h : Sl w A n c xs) (hn : n ≤ 1000)
    (hK : ∀ A' c' w', Sl w' A' n c' xs → Below w.heap.size w w' → K (a.put o.dst (.slice A' n c')) w') :
    if Region.wanted o (yielded ops a.tmps) = true then Oper.wp Tryd.prog o a w K Q else E := by
  have hw : Region.wanted o (yielded ops a.tmps) = true := by simp [Region.wanted, hg]
  rw [if_pos hw]
  obtain ⟨i0, hi0, hz0, hz1, hz2⟩ := info_parts Tryd.info57
  cases A with
  | some ad =>
    have hl : (u32s xs).length = n * 1 := by rw [u32s_length, h.len, Nat.mul_one]
    obtain ⟨v', w', hrun, r1, r2, _, _⟩ := run_append_own_at (P := Tryd.prog) w w.heap.size 22 o.type 57 i0 (.int .u32 0) 1 4 Tryd.underlying22 hi0 hz0 hz1 hz2 rfl (by decide) (.slice none 0 0) 0 [] (World.ownsRow_nil w _ 57 1) ad n c (u32s xs) hl (Rd.all_cells h) (u32s_one xs) (by unfold maxLen; omega) (by omega) (Nat.le_refl _)
    rw [Nat.zero_add, List.nil_append] at r1
    obtain ⟨A', c', rfl⟩ := own_shape r1
    have hb : Below w.heap.size w w' := (Below.refl _ w).grown r2 (Nat.le_refl _) (fun k hk => by simp [Value.ownBlock] at hk)
    unfold Oper.wp
    simp [execOp, hop, resolve, invoke, builtin, hs, hx, hrun, Result.andThen]
    exact hK A' c' w' (Sl.of_own r1) hb
  | none =>
    have hn0 : n = 0 := by
      rcases Nat.eq_zero_or_pos n with h0 | h0
      · exact h0
      · obtain ⟨ad, hA, _⟩ := h.at_ h0
        cases hA
    subst hn0
    have hx0 : xs = [] := List.eq_nil_of_length_eq_zero h.len
    subst hx0
    have hrun : (Builtin.append_ #[22, 22] o.type #[.slice none 0 0, .slice none 0 c]).run Tryd.prog w = .ok (.slice none 0 0) w := by
      simp [Builtin.append_, run_underlying Tryd.underlying22, sizeOf, typeInfo, hi0, Builtin.lenOf, Builtin.firstCells]
    unfold Oper.wp
    simp [execOp, hop, resolve, invoke, builtin, hs, hx, hrun, Result.andThen]
    exact hK none 0 w ⟨rfl, Nat.le_refl _, Rd.nil_ _ _⟩ (Below.refl _ w)
/-- A variable of the call's own holds a copy of a Frac. -/
def CpPost (s : Bool) (n m : Nat) (xs ys : List Nat) (V : World) (sv : Value) (wx : World) : Prop :=
  ∃ g A c B d, sv = .pointer (some ⟨g, 0, none⟩) ∧ Bk wx g (.bool s) (.slice A n c) (.slice B m d) ∧ Sl wx A n c xs ∧ Sl wx B m d ys ∧ Below V.heap.size V wx
theorem CpPost.put {s : Bool} {n m : Nat} {xs ys : List Nat} {V w : World} {A B : Option Addr} {c d : Nat} (f : Sl w A n c xs) (f' : Sl w B m d ys) {g : Nat} {x : Bool} {A' B' : Option Addr} {n' m' c' d' : Nat}
    (k : Bk w g (.bool x) (.slice A' n' c') (.slice B' m' d')) (hb : Below V.heap.size V w) (hg : V.heap.size ≤ g) : CpPost s n m xs ys V (.pointer (some ⟨g, 0, none⟩)) (put3 w g (.bool s) (.slice A n c) (.slice B m d)) :=
  ⟨g, A, c, B, d, rfl, k.self _ _ _, f.put3 k.c0 k.c1 k.c2 (notDigit_bool _) (notDigit_slice _ _ _) (notDigit_slice _ _ _) _ _ _, f'.put3 k.c0 k.c1 k.c2 (notDigit_bool _) (notDigit_slice _ _ _) (notDigit_slice _ _ _) _ _ _, below_put3 hb hg _ _ _⟩
theorem CpPost.new {s : Bool} {n m : Nat} {xs ys : List Nat} {V w : World} {A B : Option Addr} {c d : Nat} {T : TypeId} (f : Sl w A n c xs) (f' : Sl w B m d ys) (hb : Below V.heap.size V w) :
    CpPost s n m xs ys V (.pointer (some ⟨w.heap.size, 0, none⟩)) (w.alloc (.cells #[.bool s, .slice A n c, .slice B m d] T)) :=
  ⟨_, A, c, B, d, rfl, Bk.new w _ _ _ T, f.alloc _, f'.alloc _, below_alloc hb _⟩
/-- The cells of a row, at B or beyond, can be written. -/
def Wt (w : World) (B : Nat) (A : Option Addr) (n : Nat) : Prop := ∀ k, k < n → ∃ ad z, A = some ad ∧ B ≤ ad.block ∧ w.cell? (ad.add k) = some (.int .u32 z) ∧ w.frozen? (ad.add k) = false
theorem lt_of_cell {w : World} {p : Addr} {v : Value} (h : w.cell? p = some v) : p.block < w.heap.size := by
  rcases Nat.lt_or_ge p.block w.heap.size with h1 | h1
  · exact h1
  · unfold World.cell? at h
    rw [Array.getElem?_eq_none h1] at h
    simp at h
theorem Wt.below {w w' : World} {B : Nat} {A : Option Addr} {n : Nat} (h : Wt w B A n) (hb : Below w.heap.size w w') : Wt w' B A n := fun k hk => by
  obtain ⟨ad, z, hA, hB, hc, hf⟩ := h k hk
  have hlt := lt_of_cell hc
  exact ⟨ad, z, hA, hB, cell_below hb hc, (World.frozen?_of_block (hb.block _ hlt)).trans hf⟩
theorem Wt.set {w : World} {B : Nat} {A : Option Addr} {n : Nat} (h : Wt w B A n) {p : Addr} {z : Int} (_hp : w.cell? p = some (.int .u32 z)) (u : Int) : Wt (w.setCell p (.int .u32 u)) B A n := fun k hk => by
  obtain ⟨ad, y, hA, hB, hc, hf⟩ := h k hk
  have hfz : (w.setCell p (.int .u32 u)).frozen? (ad.add k) = false := by simp [go_sem]; exact hf
  by_cases e : ad.add k = p
  · exact ⟨ad, u, hA, hB, by rw [e]; exact World.cell?_setCell_same w _ _ (by rw [← e, hc]), hfz⟩
  · exact ⟨ad, y, hA, hB, by rw [World.cell?_setCell_other w _ _ _ (fun h => e h.symm)]; exact hc, hfz⟩
theorem Own.wt {w0 w : World} {A : Option Addr} {n c : Nat} {xs : List Nat} {B : Nat} (h : Own w0 w A n c xs) (hB : B ≤ w0.heap.size) : Wt w B A n := fun k hk => by
  have h' : w.ownsRow w0.heap.size 57 1 (.slice A n c) n (u32s xs) := h
  obtain ⟨g, cap, hv, hg, _⟩ := h'.form (by omega)
  injection hv with hA _ hc
  subst hA hc
  have e : (⟨g, 0, none⟩ : Addr).add k = ⟨g, k, none⟩ := by
    unfold Addr.add
    by_cases h0 : k = 0
    · rw [if_pos h0, h0]
    · rw [if_neg h0, Nat.zero_add]
  have hl : xs.length = n := by have := h'.1; rw [u32s_length] at this; omega
  have hc := h'.cellAt k (by omega)
  rw [u32s_get xs k (by omega)] at hc
  exact ⟨⟨g, 0, none⟩, _, rfl, by show B ≤ g; omega, by rw [e]; exact hc, by rw [e]; exact h'.frozenAt k⟩
/-- Both parts of a Frac can be written. -/
structure Rw (w : World) (B : Nat) (A1 : Option Addr) (n1 : Nat) (A2 : Option Addr) (n2 : Nat) : Prop where
  num : Wt w B A1 n1
  den : Wt w B A2 n2
  l1 : n1 ≤ 100000
  l2 : n2 ≤ 100000
theorem Rw.below {w w' : World} {B : Nat} {A1 : Option Addr} {n1 : Nat} {A2 : Option Addr} {n2 : Nat} (h : Rw w B A1 n1 A2 n2) (hb : Below w.heap.size w w') : Rw w' B A1 n1 A2 n2 := ⟨h.num.below hb, h.den.below hb, h.l1, h.l2⟩
theorem Rw.alloc {w : World} {B : Nat} {A1 : Option Addr} {n1 : Nat} {A2 : Option Addr} {n2 : Nat} (h : Rw w B A1 n1 A2 n2) (o : Obj) : Rw (w.alloc o) B A1 n1 A2 n2 := h.below (below_alloc (Below.refl _ w) o)
theorem Rw.drew {w : World} {B : Nat} {A1 : Option Addr} {n1 : Nat} {A2 : Option Addr} {n2 : Nat} (h : Rw w B A1 n1 A2 n2) : Rw w.drew B A1 n1 A2 n2 := h.below (below_drew (Below.refl _ w))
theorem Rw.of {w0 w : World} {q : Rat} {s : Bool} {A1 : Option Addr} {n1 c1 : Nat} {A2 : Option Addr} {n2 c2 : Nat} {B : Nat} (f : Fr w s A1 n1 c1 A2 n2 c2 q) (o1 : Own w0 w A1 n1 c1 (dig (rn q))) (o2 : Own w0 w A2 n2 c2 (dig (rD q))) (hB : B ≤ w0.heap.size) (hl : ln q ≤ 100000 ∧ ld q ≤ 100000) : Rw w B A1 n1 A2 n2 :=
  ⟨o1.wt hB, o2.wt hB, by have := f.lens; omega, by have := f.lens; omega⟩
theorem Rw.set {w : World} {B : Nat} {A1 : Option Addr} {n1 : Nat} {A2 : Option Addr} {n2 : Nat} (h : Rw w B A1 n1 A2 n2) {p : Addr} {z : Int} (hp : w.cell? p = some (.int .u32 z)) (u : Int) : Rw (w.setCell p (.int .u32 u)) B A1 n1 A2 n2 := ⟨h.num.set hp u, h.den.set hp u, h.l1, h.l2⟩
/-- The list of the eight results. -/
def Tb (w : World) (B : Nat) (ad : Addr) : Prop := ∀ i, i < 8 → ∃ A n c A' m d, w.cell? ⟨(ad.add (i * 3)).block, (ad.add (i * 3)).off + 1, none⟩ = some (.slice A n c) ∧ w.cell? ⟨(ad.add (i * 3)).block, (ad.add (i * 3)).off + 2, none⟩ = some (.slice A' m d) ∧ Rw w B A n A' m
theorem slice_set {w : World} {p q : Addr} {z : Int} {A : Option Addr} {n c : Nat} (hq : w.cell? q = some (.slice A n c)) (hp : w.cell? p = some (.int .u32 z)) (u : Int) : (w.setCell p (.int .u32 u)).cell? q = some (.slice A n c) := by
  rw [World.cell?_setCell_other w _ _ _ (by intro e; rw [← e, hp] at hq; cases hq)]
  exact hq
theorem Tb.set {w : World} {B : Nat} {ad : Addr} (h : Tb w B ad) {p : Addr} {z : Int} (hp : w.cell? p = some (.int .u32 z)) (u : Int) : Tb (w.setCell p (.int .u32 u)) B ad := fun i hi => by
  obtain ⟨A, n, c, A', m, d, h1, h2, h3⟩ := h i hi
  exact ⟨A, n, c, A', m, d, slice_set h1 hp u, slice_set h2 hp u, h3.set hp u⟩
theorem Tb.of {w : World} {B : Nat} (fs : List FV) (hl : fs.length = 8) (h : ∀ i, i < 8 → Rw w B (fs.getD i FV.nil).A (fs.getD i FV.nil).n (fs.getD i FV.nil).B (fs.getD i FV.nil).m) :
    Tb (w.alloc (.cells (flat fs).toArray 24)) B ⟨w.heap.size, 0, none⟩ := fun i hi => by
  have hn : (flat fs).length = 8 * 3 := by
    rw [← hl]
    clear h hl
    induction fs with
    | nil => rfl
    | cons f fs ih => show (f.cells ++ flat fs).length = (fs.length + 1) * 3; rw [List.length_append, ih]; show 3 + _ = _; omega
  have hown := World.ownsRow_lit (e := 24) (size := 3) (base := w.heap.size) w (flat fs).toArray 8 (Nat.le_refl _) (by unfold maxLen; omega) (by rw [List.size_toArray, hn])
  have e : (⟨w.heap.size, 0, none⟩ : Addr).add (i * 3) = ⟨w.heap.size, i * 3, none⟩ := by
    unfold Addr.add
    by_cases h0 : i * 3 = 0
    · rw [if_pos h0, h0]
    · rw [if_neg h0, Nat.zero_add]
  have c1 := hown.cellAt (i * 3 + 1) (by omega)
  have c2 := hown.cellAt (i * 3 + 2) (by omega)
  rw [List.toList_toArray, flat_get fs i _ (by omega) (by omega)] at c1 c2
  exact ⟨_, _, _, _, _, _, by rw [e]; exact c1, by rw [e]; exact c2, (h i hi).alloc _⟩
/-- A list of one Frac, in a block of its own. -/
def OneX (w : World) (g : Nat) (s : Bool) (A : Option Addr) (n c : Nat) (B : Option Addr) (m d : Nat) : Prop := w.heap[g]? = some (.cells #[.bool s, .slice A n c, .slice B m d] 24 (0, 0))
theorem OneX.new (w : World) (s : Bool) (A : Option Addr) (n c : Nat) (B : Option Addr) (m d : Nat) : OneX (w.alloc (.cells #[.bool s, .slice A n c, .slice B m d] 24)) w.heap.size s A n c B m d := new_row w _
theorem OneX.new2 (w : World) (o : Obj) (s : Bool) (A : Option Addr) (n c : Nat) (B : Option Addr) (m d : Nat) : OneX ((w.alloc o).alloc (.cells #[.bool s, .slice A n c, .slice B m d] 24)) (w.heap.size + 1) s A n c B m d := by
  have h := OneX.new (w.alloc o) s A n c B m d
  rwa [show (w.alloc o).heap.size = w.heap.size + 1 by simp] at h
theorem OneX.below {w w' : World} {g : Nat} {s : Bool} {A : Option Addr} {n c : Nat} {B : Option Addr} {m d : Nat} (h : OneX w g s A n c B m d) (hb : Below w.heap.size w w') : OneX w' g s A n c B m d := by
  have hg : g < w.heap.size := by
    rcases Nat.lt_or_ge g w.heap.size with h1 | h1
    · exact h1
    · have h' : w.heap[g]? = _ := h
      rw [Array.getElem?_eq_none h1] at h'; cases h'
  exact (hb.block g hg).trans h
theorem OneX.alloc {w : World} {g : Nat} {s : Bool} {A : Option Addr} {n c : Nat} {B : Option Addr} {m d : Nat} (h : OneX w g s A n c B m d) (o : Obj) : OneX (w.alloc o) g s A n c B m d := h.below (below_alloc (Below.refl _ w) o)
theorem OneX.drew {w : World} {g : Nat} {s : Bool} {A : Option Addr} {n c : Nat} {B : Option Addr} {m d : Nat} (h : OneX w g s A n c B m d) : OneX w.drew g s A n c B m d := h.below (below_drew (Below.refl _ w))
theorem OneX.fl {w : World} {g : Nat} {s : Bool} {A : Option Addr} {n c : Nat} {B : Option Addr} {m d : Nat} {q : Rat} (h : OneX w g s A n c B m d) (hr : Rf w s A n c B m d q) (l1 : n ≤ 1000) (l2 : m ≤ 1000) : FL w (some ⟨g, 0, none⟩) 1000 [q] := fun i hi => by
  have hi0 : i = 0 := by simpa using hi
  subst hi0
  have h' : w.heap[g]? = _ := h
  refine ⟨⟨g, 0, none⟩, s, A, n, c, B, m, d, rfl, ?_, ?_, ?_, hr, l1, l2⟩
  · show w.cell? ⟨g, 0, none⟩ = _
    rw [cell_of_row w g 0 _ 24 (0, 0) h']; rfl
  · show w.cell? ⟨g, 1, none⟩ = _
    rw [cell_of_row w g 1 _ 24 (0, 0) h']; rfl
  · show w.cell? ⟨g, 2, none⟩ = _
    rw [cell_of_row w g 2 _ 24 (0, 0) h']; rfl
/-- The results so far can be written. -/
def Rws (w : World) (B : Nat) (fs : List FV) : Prop := ∀ i, i < fs.length → Rw w B (fs.getD i FV.nil).A (fs.getD i FV.nil).n (fs.getD i FV.nil).B (fs.getD i FV.nil).m
theorem Rws.nil (w : World) (B : Nat) : Rws w B [] := fun _i hi => absurd hi (Nat.not_lt_zero _)
theorem Rws.below {w w' : World} {B : Nat} {fs : List FV} (h : Rws w B fs) (hb : Below w.heap.size w w') : Rws w' B fs := fun i hi => (h i hi).below hb
theorem Rws.alloc {w : World} {B : Nat} {fs : List FV} (h : Rws w B fs) (o : Obj) : Rws (w.alloc o) B fs := h.below (below_alloc (Below.refl _ w) o)
theorem Rws.snoc {w : World} {B : Nat} {fs : List FV} (h : Rws w B fs) (s : Bool) (c d : Nat) {A : Option Addr} {n : Nat} {A' : Option Addr} {m : Nat} (k : Rw w B A n A' m) : Rws w B (fs ++ [FV.mk s A n c A' m d]) := fun i hi => by
  rw [List.length_append] at hi
  by_cases e : i < fs.length
  · have : (fs ++ [FV.mk s A n c A' m d]).getD i FV.nil = fs.getD i FV.nil := by rw [List.getD_eq_getElem?_getD, List.getD_eq_getElem?_getD, List.getElem?_append_left e]
    rw [this]; exact h i e
  · have hi2 : i = fs.length := by simp only [List.length_cons, List.length_nil] at hi; omega
    have : (fs ++ [FV.mk s A n c A' m d]).getD i FV.nil = FV.mk s A n c A' m d := by rw [List.getD_eq_getElem?_getD, List.getElem?_append_right (by omega), hi2, Nat.sub_self]; rfl
    rw [this]; exact k
theorem Rws.seven {w : World} {B : Nat} {s1 s2 s3 s4 s5 s6 s7 : Bool} {A1 B1 A2 B2 A3 B3 A4 B4 A5 B5 A6 B6 A7 B7 : Option Addr} {n1 c1 m1 d1 n2 c2 m2 d2 n3 c3 m3 d3 n4 c4 m4 d4 n5 c5 m5 d5 n6 c6 m6 d6 n7 c7 m7 d7 : Nat} (h : Rws w B ([] ++ [FV.mk s1 A1 n1 c1 B1 m1 d1] ++ [FV.mk s2 A2 n2 c2 B2 m2 d2] ++ [FV.mk s3 A3 n3 c3 B3 m3 d3] ++ [FV.mk s4 A4 n4 c4 B4 m4 d4] ++ [FV.mk s5 A5 n5 c5 B5 m5 d5] ++ [FV.mk s6 A6 n6 c6 B6 m6 d6] ++ [FV.mk s7 A7 n7 c7 B7 m7 d7])) : Rw w B A1 n1 B1 m1 ∧ Rw w B A2 n2 B2 m2 ∧ Rw w B A3 n3 B3 m3 ∧ Rw w B A4 n4 B4 m4 ∧ Rw w B A5 n5 B5 m5 ∧ Rw w B A6 n6 B6 m6 ∧ Rw w B A7 n7 B7 m7 :=
  ⟨h 0 (by simp), h 1 (by simp), h 2 (by simp), h 3 (by simp), h 4 (by simp), h 5 (by simp), h 6 (by simp)⟩
end Go.Proofs.YtaahbabdbopphaaDoor
