/- A list of Fracs that came in. -/
import Derived.Test.YtaahbabdbopphaaDoorL0
import Derived.Test.YtaahbabdbopphaaDoorLI
import Derived.Deep.Slices
import Derived.Deep.Strs
namespace Go.Proofs.YtaahbabdbopphaaDoor
open Go.ChangeShapes Go.WideShapes Go.ChangeAt Go.WideElems Go.RowKit Go.Joins Mx
set_option maxRecDepth 100000

/-- A list of Fracs: the digits of each part, and the values. -/
def LL (w : World) (A : Option Addr) (L : List (Nat × Nat × Rat)) : Prop := ∀ i, i < L.length → ∃ ad sb A1 c1 A2 c2, A = some ad ∧ w.cell? (ad.add (i * 3)) = some (.bool sb) ∧
  w.cell? ⟨(ad.add (i * 3)).block, (ad.add (i * 3)).off + 1, none⟩ = some (.slice A1 (L.getD i (0, 0, 0)).1 c1) ∧ w.cell? ⟨(ad.add (i * 3)).block, (ad.add (i * 3)).off + 2, none⟩ = some (.slice A2 (L.getD i (0, 0, 0)).2.1 c2) ∧
  Rf w sb A1 (L.getD i (0, 0, 0)).1 c1 A2 (L.getD i (0, 0, 0)).2.1 c2 (L.getD i (0, 0, 0)).2.2
theorem LL.below {w w' : World} {A : Option Addr} {L : List (Nat × Nat × Rat)} (h : LL w A L) (hb : Below w.heap.size w w') : LL w' A L := fun i hi => by
  obtain ⟨ad, sb, A1, c1, A2, c2, hA, h0, h1, h2, hr⟩ := h i hi
  exact ⟨ad, sb, A1, c1, A2, c2, hA, cell_below hb h0, cell_below hb h1, cell_below hb h2, hr.below hb⟩
theorem LL.fl {w : World} {A : Option Addr} {L : List (Nat × Nat × Rat)} {K : Nat} (h : LL w A L) (hk : ∀ i, i < L.length → (L.getD i (0, 0, 0)).1 ≤ K ∧ (L.getD i (0, 0, 0)).2.1 ≤ K) : FL w A K (L.map (·.2.2)) := fun i hi => by
  rw [List.length_map] at hi
  obtain ⟨ad, sb, A1, c1, A2, c2, hA, h0, h1, h2, hr⟩ := h i hi
  have e : (L.map (·.2.2)).getD i 0 = (L.getD i (0, 0, 0)).2.2 := by
    rw [List.getD_eq_getElem?_getD, List.getD_eq_getElem?_getD, List.getElem?_map]
    cases L[i]? <;> rfl
  rw [e]
  exact ⟨ad, sb, A1, _, c1, A2, _, c2, hA, h0, h1, h2, hr, hk i hi⟩
theorem Tryd.cells4 : Tryd.prog.cellsOf 4 = 1 := by kernel_rfl
theorem Tryd.cells22 : Tryd.prog.cellsOf 22 = 1 := by kernel_rfl
theorem open_fracs {H : Type} {enc : TypeId × Value → H} {W : World} {r : Reach} {b0 : Nat} {v : Value} {d : DataW H} {p : List MemPlace} (hv : Value.okWide Tryd.prog W r b0 45 v) (h : DataW.Trod enc Tryd.prog W 0 (fun _ => true) true 45 v d p) :
    ∃ A m c L, v = .slice A m c ∧ LL W A L ∧ L.length = m := by
  obtain ⟨A, m, c, rfl⟩ := okWide_slice Tryd.underlying45 hv
  obtain ⟨fuel, hf⟩ := h
  simp only [Value.cells] at hf
  rcases Go.Deep.open_slice Tryd.underlying45 hf with ⟨h0, _⟩ | ⟨a, len, cap, m', n, D, Pl, hcs, _, hlc, _, hm, _, hx⟩
  · simp only [List.cons.injEq, Value.slice.injEq, and_true] at h0
    obtain ⟨rfl, rfl, rfl⟩ := h0
    exact ⟨none, 0, 0, [], rfl, fun i hi => absurd hi (Nat.not_lt_zero _), rfl⟩
  · simp only [List.cons.injEq, Value.slice.injEq, and_true] at hcs
    obtain ⟨rfl, rfl, rfl⟩ := hcs
    have each : ∀ i, i < m → ∃ t : Nat × Nat × Rat, ∃ sb A1 c1 A2 c2, W.cell? (a.add (i * 3)) = some (.bool sb) ∧
        W.cell? ⟨(a.add (i * 3)).block, (a.add (i * 3)).off + 1, none⟩ = some (.slice A1 t.1 c1) ∧ W.cell? ⟨(a.add (i * 3)).block, (a.add (i * 3)).off + 2, none⟩ = some (.slice A2 t.2.1 c2) ∧ Rf W sb A1 t.1 c1 A2 t.2.1 c2 t.2.2 := by
      intro i hi
      obtain ⟨cs', h1, h2⟩ := hx i (by rw [hm]; simp; omega)
      rw [Tryd.cells24] at h1
      obtain ⟨_, hlen, hcell⟩ := World.cells?_some h1
      obtain ⟨y0, y1, y2, k, _, _, g0, g1, g2⟩ := Go.Deep.trod_struct3 Tryd.underlying24 h2
      match cs', hlen with
      | [v0, v1, v2], _ =>
        simp [Tryd.cells4, Tryd.cells22] at g0 g1 g2
        have e0 := hcell 0 (by omega)
        have e1 := hcell 1 (by omega)
        have e2 := hcell 2 (by omega)
        obtain ⟨b, hb, _⟩ := DataW.trod_bool Tryd.underlying4 g0
        injection hb with hb
        obtain ⟨A1, n1, c1, xs, rfl, s1, d1⟩ := open_digs g1
        obtain ⟨A2, n2, c2, ys, rfl, s2, d2⟩ := open_digs g2
        subst hb
        refine ⟨(n1, n2, fv b (val xs) (val ys)), b, A1, c1, A2, c2, ?_, ?_, ?_, ⟨xs, ys, s1, s2, d1, d2, rfl⟩⟩
        · simpa [Addr.add] using e0
        · simpa [Addr.add] using e1
        · simpa [Addr.add] using e2
    obtain ⟨f, hf⟩ := Go.Deep.choose_lt each
    refine ⟨some a, m, c, (List.range m).map f, rfl, fun i hi => ?_, by simp⟩
    have hi' : i < m := by simpa using hi
    have e : ((List.range m).map f).getD i (0, 0, 0) = f i := by
      rw [List.getD_eq_getElem?_getD, List.getElem?_map, List.getElem?_range hi']; rfl
    rw [e]
    obtain ⟨sb, A1, c1, A2, c2, k0, k1, k2, hr⟩ := hf i hi'
    exact ⟨a, sb, A1, c1, A2, c2, rfl, k0, k1, k2, hr⟩
end Go.Proofs.YtaahbabdbopphaaDoor
