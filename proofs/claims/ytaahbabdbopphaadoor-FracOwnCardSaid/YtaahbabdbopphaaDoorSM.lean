/- The law's small. -/
import Derived.Test.YtaahbabdbopphaaDoorKA
namespace Go.Proofs.YtaahbabdbopphaaDoor
open Go.RowKit Mx
set_option maxRecDepth 100000

/-- A list of Fracs: how many digits each has. -/
def SL (w : World) (A : Option Addr) (L : List (Nat × Nat)) : Prop := ∀ i, i < L.length → ∃ ad A1 c1 A2 c2, A = some ad ∧
  w.cell? ⟨(ad.add (i * 3)).block, (ad.add (i * 3)).off + 1, none⟩ = some (.slice A1 (L.getD i (0, 0)).1 c1) ∧ w.cell? ⟨(ad.add (i * 3)).block, (ad.add (i * 3)).off + 2, none⟩ = some (.slice A2 (L.getD i (0, 0)).2 c2)
theorem getD_mem {α : Type} {L : List α} {i : Nat} {d : α} (h : i < L.length) : L.getD i d ∈ L := by
  rw [List.getD_eq_getElem?_getD, List.getElem?_eq_getElem h]; exact List.getElem_mem h
set_option maxHeartbeats 1000000 in
theorem small_law (A : Option Addr) (n c : Nat) (L : List (Nat × Nat)) (w : World) (h : SL w A L) (hn : L.length = n) (hn1 : n ≤ 10) (b : Bool) (hb : b = decide (∀ x ∈ L, x.1 ≤ 12 ∧ x.2 ≤ 12)) :
    Calls Tryd.prog 25 #[.slice A n c] w (fun e w' => e = .returned (.bool b) ∧ w' = w) := by
  have HB := Lib.hid hb
  have HN := Lib.hid hn
  clear hb hn
  go_enter Tryd.func25, Tryd.ntmps25
  go_wp2_with fail
  go_loop [3] (fun i => ∃ k : Nat, k ≤ n ∧ i = .int .i64 k ∧ Hid (∀ i, i < k → (L.getD i (0, 0)).1 ≤ 12 ∧ (L.getD i (0, 0)).2 ≤ 12)) (fun i => n - (intOf i).toNat)
  case atStart => exact ⟨0, Nat.zero_le _, rfl, Lib.hid (fun i hi => absurd hi (by omega))⟩
  case round =>
    obtain ⟨k, hk, rfl, HV⟩ := hrel
    by_cases hkn : k < n
    · obtain ⟨ad, A1, d1, A2, d2, rfl, q1, q2⟩ := h k (by rw [HN.out]; exact hkn)
      obtain ⟨x, hx⟩ : ∃ x, x = (L.getD k (0, 0)).1 := ⟨_, rfl⟩
      obtain ⟨y, hy⟩ : ∃ y, y = (L.getD k (0, 0)).2 := ⟨_, rfl⟩
      rw [← hx] at q1
      rw [← hy] at q2
      have HX := Lib.hid hx
      have HY := Lib.hid hy
      clear hx hy h
      by_cases h1 : x ≤ 12
      · by_cases h2 : y ≤ 12
        · have HV2 : Hid (∀ i, i < k + 1 → (L.getD i (0, 0)).1 ≤ 12 ∧ (L.getD i (0, 0)).2 ≤ 12) := Lib.hid (fun i hi => by
            by_cases e : i = k
            · subst e; rw [← HX.out, ← HY.out]; exact ⟨h1, h2⟩
            · exact HV.out i (by omega))
          go_wp2_with fail
          go_round
          case rel => exact ⟨k + 1, by omega, by go_num, HV2⟩
          case measure => simp [intOf]; omega
        · have HF : Hid (b = false) := Lib.hid (by rw [HB.out]; exact decide_eq_false (fun h => h2 (by have := (h _ (getD_mem (L := L) (i := k) (d := (0, 0)) (by rw [HN.out]; exact hkn))).2; rwa [← HY.out] at this)))
          go_wp2_with fail
          go_ret
          exact ⟨by rw [HF.out]; rfl, rfl⟩
      · have HF : Hid (b = false) := Lib.hid (by rw [HB.out]; exact decide_eq_false (fun h => h1 (by have := (h _ (getD_mem (L := L) (i := k) (d := (0, 0)) (by rw [HN.out]; exact hkn))).1; rwa [← HX.out] at this)))
        go_wp2_with fail
        go_ret
        exact ⟨by rw [HF.out]; rfl, rfl⟩
    · have HT : Hid (b = true) := Lib.hid (by
        rw [HB.out]
        refine decide_eq_true (fun x hx => ?_)
        obtain ⟨i, hi, rfl⟩ := List.mem_iff_getElem.1 hx
        have := HV.out i (by have := HN.out; omega)
        rwa [List.getD_eq_getElem?_getD, List.getElem?_eq_getElem hi] at this)
      go_wp2_with fail
      go_ret
      exact ⟨by rw [HT.out]; rfl, rfl⟩
theorem SL.two {u : World} {g : Nat} {s1 s2 : Bool} {A1 A2 A3 A4 : Option Addr} {n1 n2 n3 n4 c1 c2 c3 c4 : Nat} {T : TypeId}
    (hB : u.heap[g]? = some (.cells #[.bool s1, .slice A1 n1 c1, .slice A2 n2 c2, .bool s2, .slice A3 n3 c3, .slice A4 n4 c4] T (0, 0))) : SL u (some ⟨g, 0, none⟩) [(n1, n2), (n3, n4)] := by
  intro i hi
  have hi : i < 2 := hi
  rcases (show i = 0 ∨ i = 1 from by omega) with rfl | rfl
  · exact ⟨⟨g, 0, none⟩, A1, c1, A2, c2, rfl, cell_of_row _ _ 1 _ T (0, 0) hB, cell_of_row _ _ 2 _ T (0, 0) hB⟩
  · exact ⟨⟨g, 0, none⟩, A3, c3, A4, c4, rfl, cell_of_row _ _ 4 _ T (0, 0) hB, cell_of_row _ _ 5 _ T (0, 0) hB⟩
theorem SL.one {u : World} {g : Nat} {s1 : Bool} {A1 A2 : Option Addr} {n1 n2 c1 c2 : Nat} {T : TypeId}
    (hB : u.heap[g]? = some (.cells #[.bool s1, .slice A1 n1 c1, .slice A2 n2 c2] T (0, 0))) : SL u (some ⟨g, 0, none⟩) [(n1, n2)] := by
  intro i hi
  have hi : i < 1 := hi
  obtain rfl : i = 0 := by omega
  exact ⟨⟨g, 0, none⟩, A1, c1, A2, c2, rfl, cell_of_row _ _ 1 _ T (0, 0) hB, cell_of_row _ _ 2 _ T (0, 0) hB⟩
theorem small_one {s1 : Bool} {A1 A2 : Option Addr} {n1 n2 c1 c2 : Nat} {T : TypeId} (u : World) (b : Bool) (hb : b = decide (n1 ≤ 12 ∧ n2 ≤ 12)) :
    Calls Tryd.prog 25 #[.slice (some ⟨u.heap.size, 0, none⟩) 1 1] (u.alloc (.cells #[.bool s1, .slice A1 n1 c1, .slice A2 n2 c2] T)) (fun e w' => e = .returned (.bool b) ∧ w' = u.alloc (.cells #[.bool s1, .slice A1 n1 c1, .slice A2 n2 c2] T)) :=
  small_law _ 1 1 [(n1, n2)] _ (SL.one (heap_alloc_new u _)) rfl (by omega) b (by rw [hb]; simp)
theorem small_two {s1 s2 : Bool} {A1 A2 A3 A4 : Option Addr} {n1 n2 n3 n4 c1 c2 c3 c4 : Nat} {T : TypeId} (u : World) (b : Bool) (hb : b = decide (n1 ≤ 12 ∧ n2 ≤ 12 ∧ n3 ≤ 12 ∧ n4 ≤ 12)) :
    Calls Tryd.prog 25 #[.slice (some ⟨u.heap.size, 0, none⟩) 2 2] (u.alloc (.cells #[.bool s1, .slice A1 n1 c1, .slice A2 n2 c2, .bool s2, .slice A3 n3 c3, .slice A4 n4 c4] T)) (fun e w' => e = .returned (.bool b) ∧ w' = u.alloc (.cells #[.bool s1, .slice A1 n1 c1, .slice A2 n2 c2, .bool s2, .slice A3 n3 c3, .slice A4 n4 c4] T)) :=
  small_law _ 2 2 [(n1, n2), (n3, n4)] _ (SL.two (heap_alloc_new u _)) rfl (by omega) b (by rw [hb]; simp [and_assoc])
end Go.Proofs.YtaahbabdbopphaaDoor
