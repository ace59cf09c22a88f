/- What every law's row needs: a Frac that came in, the tables, the witness, the end. -/
import Derived.Test.YtaahbabdbopphaaDoorRows
import Derived.Test.YtaahbabdbopphaaDoorKA
import Derived.ProofKit
import Derived.LaidMore
import Derived.OpenShut
import Derived.Stop.Joined
import Derived.Stop.LaidErr
import Derived.Lib.SmallJoins
import Derived.Carry
namespace Go.Proofs.YtaahbabdbopphaaDoor
open Go.ChangeShapes Go.WideShapes Go.ChangeAt Go.WideElems Go.RowKit Go.Joins Mx
set_option maxRecDepth 100000

theorem Tryd.own : ownKnob Tryd.prog.godebug = none := by kernel_rfl
theorem Tryd.laidOut : laidOutB Tryd.prog = true := by kernel_rfl
theorem Tryd.cells24 : Tryd.prog.cellsOf 24 = 3 := by kernel_rfl
theorem Tryd.cells57 : Tryd.prog.cellsOf 57 = 1 := by kernel_rfl
theorem Tryd.gT : Tryd.prog.globalNamed "internal/strconv.uint64pow10" = some 0 := by kernel_rfl
theorem Tryd.gTType : (Tryd.prog.globals[0]?).map (·.type) = some 121 := by kernel_rfl
theorem Tryd.cells77 : Tryd.prog.cellsOf 77 = 1 := by kernel_rfl
theorem Tryd.cells121 : Tryd.prog.cellsOf 121 = 20 := by kernel_rfl
noncomputable def laids : List (String × DataW Unit) := Rows.fracPowersRow.laid
theorem tab_of_laid {W : World} (h : laidMetH Tryd.prog laids W) : Tab W := by
  rw [MakeChecks.laidMetH_plain _ _ _ (by kernel_rfl)] at h
  have h2 : laidMet Tryd.prog [("internal/strconv.uint64pow10", Lib.tabData .u64 Lib.pow10Tab)] W := laidMet.tail (laidMet.tail h)
  exact Lib.tabBelow_of_tabIs (Lib.tabIs_of_head Tryd.gT Tryd.gTType Tryd.underlying121 Tryd.underlying77 Tryd.cells77 Tryd.cells121 h2)
theorem door_met (os : Os) (args : Array Value) : laidMetH Tryd.prog laids ((World.doorLaid Tryd.prog 400 os).forCall (fun _ _ => 0) ⟨#[], args, []⟩).memory :=
  laidMetH_of_parts3 (fuel := 8) (laidMet_of_run' 8 (by kernel_rfl) (by kernel_rfl)) (by kernel_rfl) (by kernel_rfl)
/-- A slice of digits that came in. -/
theorem open_digs {H : Type} {enc : TypeId × Value → H} {W : World} {n : Nat} {v : Value} {y : DataW H × List MemPlace} (h : DataW.trod enc Tryd.prog W 0 (fun _ => true) true n 22 [v] = some y) :
    ∃ A m c xs, v = .slice A m c ∧ Sl W A m c xs ∧ Ds xs := by
  rcases open_ints Tryd.underlying22 Tryd.underlying57 Tryd.cells57 h with ⟨hv, _⟩ | ⟨a, len, cap, zs, hv, _, hlc, hcap, hzl, _, hcell, hwf⟩
  · injection hv with hv
    exact ⟨none, 0, 0, [], hv, ⟨rfl, Nat.le_refl _, Rd.nil_ _ _⟩, ds_nil⟩
  · injection hv with hv
    have hz : ∀ z ∈ zs, 0 ≤ z ∧ z < 4294967296 := fun z hz => by
      have := hwf z hz
      simp only [Lit.wf, Bool.and_eq_true, decide_eq_true_eq] at this
      have e1 : IntKind.u32.min = 0 := rfl
      have e2 : IntKind.u32.max = 4294967295 := rfl
      omega
    rw [if_pos rfl] at hzl
    refine ⟨some a, len, cap, (zs.take len).map Int.toNat, hv, ⟨by rw [List.length_map, List.length_take]; omega, hlc, ?_⟩, ?_⟩
    · intro k hk
      rw [List.length_map, List.length_take] at hk
      refine ⟨a, rfl, ?_⟩
      rw [hcell k (by omega)]
      have e1 : zs.getD k 0 = zs[k]'(by omega) := by rw [List.getD_eq_getElem?_getD, List.getElem?_eq_getElem (by omega), Option.getD_some]
      have e2 : ((zs.take len).map Int.toNat).getD k 0 = (zs[k]'(by omega)).toNat := by
        rw [List.getD_eq_getElem?_getD, List.getElem?_map, List.getElem?_take, if_pos (by omega), List.getElem?_eq_getElem (by omega)]; rfl
      rw [e1, e2, Int.toNat_of_nonneg (hz _ (List.getElem_mem _)).1]
    · intro x hx
      obtain ⟨z, hz1, rfl⟩ := List.mem_map.1 hx
      have := hz z (List.mem_of_mem_take hz1)
      omega
/-- A Frac that came in. -/
theorem open_frac {H : Type} {enc : TypeId × Value → H} {W : World} {r : Reach} {b0 : Nat} {v : Value} {d : DataW H} {p : List MemPlace} (hv : Value.okWide Tryd.prog W r b0 24 v) (h : DataW.Trod enc Tryd.prog W 0 (fun _ => true) true 24 v d p) :
    ∃ sb A1 n1 c1 A2 n2 c2 xs ys, v = .agg #[.bool sb, .slice A1 n1 c1, .slice A2 n2 c2] ∧ Sl W A1 n1 c1 xs ∧ Sl W A2 n2 c2 ys ∧ Ds xs ∧ Ds ys := by
  obtain ⟨v0, v1, v2, y0, y1, y2, n, rfl, _, _, h0, h1, h2⟩ := open_agg3 Tryd.underlying24 (by kernel_rfl) Tryd.cells24 hv h
  obtain ⟨b, hb, _⟩ := DataW.trod_bool Tryd.underlying4 h0
  injection hb with hb
  obtain ⟨A1, n1, c1, xs, rfl, s1, d1⟩ := open_digs h1
  obtain ⟨A2, n2, c2, ys, rfl, s2, d2⟩ := open_digs h2
  subst hb
  exact ⟨b, A1, n1, c1, A2, n2, c2, xs, ys, rfl, s1, s2, d1, d2⟩
end Go.Proofs.YtaahbabdbopphaaDoor
