/- The statement of FracOwn that lays the list of the eight results: its operations come up in many orders; the states are met one by one. -/
import Derived.Test.YtaahbabdbopphaaDoorOW
namespace Go.Proofs.YtaahbabdbopphaaDoor
open Go.RowKit Mx
set_option maxRecDepth 100000

theorem run_call (f : Nat) (a : Act) (w : World) (o : Oper) (args : Array Operand) (tys : Array TypeId) (hf : f = 59 ∨ f = 55 ∨ f = 52 ∨ f = 54 ∨ f = 58 ∨ f = 39 ∨ f = 41)
    (hop : o.op = Op.call { callee := Callee.value (Operand.func f), args := args, argTypes := tys }) : (execOp a.eval o).run Tryd.prog w = .ok (.enter f (args.map a.eval)) w := by
  rcases hf with rfl | rfl | rfl | rfl | rfl | rfl | rfl
  all_goals simp [execOp, hop, resolve, invoke, go_sem]
theorem eval_get {a : Act} {t : Nat} {v : Value} (h : a.eval (.tmp t) = v) : a.tmps[t]?.getD undef = v := by
  rw [← Array.getD_eq_getD_getElem?]; exact h
theorem run_build1 (a : Act) (w : World) (o : Oper) (t : Nat) (s : Bool) (A : Option Addr) (n c : Nat) (B : Option Addr) (m d : Nat) (hop : o.op = Op.buildSlice 45 1 #[(0, .tmp t)]) (ht : a.eval (.tmp t) = .agg #[.bool s, .slice A n c, .slice B m d]) :
    (execOp a.eval o).run Tryd.prog w = .ok (.value (.slice (some ⟨w.heap.size, 0, none⟩) 1 1)) (w.alloc (.cells #[.bool s, .slice A n c, .slice B m d] 24)) := by
  have ht' := eval_get ht
  simp [execOp, hop, go_sem, ht']
theorem run_build8 (a : Act) (w : World) (o : Oper) {s1 s2 s3 s4 s5 s6 s7 s8 : Bool} {A1 B1 A2 B2 A3 B3 A4 B4 A5 B5 A6 B6 A7 B7 A8 B8 : Option Addr} {n1 c1 m1 d1 n2 c2 m2 d2 n3 c3 m3 d3 n4 c4 m4 d4 n5 c5 m5 d5 n6 c6 m6 d6 n7 c7 m7 d7 n8 c8 m8 d8 : Nat} (hop : o.op = Op.buildSlice 45 8 #[(0, .tmp 43), (1, .tmp 45), (2, .tmp 48), (3, .tmp 51), (4, .tmp 54), (5, .tmp 55), (6, .tmp 58), (7, .tmp 61)])
    (h1 : a.eval (.tmp 43) = .agg #[.bool s1, .slice A1 n1 c1, .slice B1 m1 d1]) (h2 : a.eval (.tmp 45) = .agg #[.bool s2, .slice A2 n2 c2, .slice B2 m2 d2]) (h3 : a.eval (.tmp 48) = .agg #[.bool s3, .slice A3 n3 c3, .slice B3 m3 d3]) (h4 : a.eval (.tmp 51) = .agg #[.bool s4, .slice A4 n4 c4, .slice B4 m4 d4]) (h5 : a.eval (.tmp 54) = .agg #[.bool s5, .slice A5 n5 c5, .slice B5 m5 d5]) (h6 : a.eval (.tmp 55) = .agg #[.bool s6, .slice A6 n6 c6, .slice B6 m6 d6]) (h7 : a.eval (.tmp 58) = .agg #[.bool s7, .slice A7 n7 c7, .slice B7 m7 d7]) (h8 : a.eval (.tmp 61) = .agg #[.bool s8, .slice A8 n8 c8, .slice B8 m8 d8]) :
    (execOp a.eval o).run Tryd.prog w = .ok (.value (.slice (some ⟨w.heap.size, 0, none⟩) 8 8)) (w.alloc (.cells #[.bool s1, .slice A1 n1 c1, .slice B1 m1 d1, .bool s2, .slice A2 n2 c2, .slice B2 m2 d2, .bool s3, .slice A3 n3 c3, .slice B3 m3 d3, .bool s4, .slice A4 n4 c4, .slice B4 m4 d4, .bool s5, .slice A5 n5 c5, .slice B5 m5 d5, .bool s6, .slice A6 n6 c6, .slice B6 m6 d6, .bool s7, .slice A7 n7 c7, .slice B7 m7 d7, .bool s8, .slice A8 n8 c8, .slice B8 m8 d8] 24)) := by
  have k1 := eval_get h1
  have k2 := eval_get h2
  have k3 := eval_get h3
  have k4 := eval_get h4
  have k5 := eval_get h5
  have k6 := eval_get h6
  have k7 := eval_get h7
  have k8 := eval_get h8
  simp [execOp, hop, go_sem, k1, k2, k3, k4, k5, k6, k7, k8]
theorem eval_ne (a : Act) {d t : Nat} (v : Value) (h : t ≠ d) : (a.put (some d) v).eval (.tmp t) = a.eval (.tmp t) := by
  show (a.tmps.setIfInBounds d v).getD t undef = a.tmps.getD t undef
  rw [Array.getD_eq_getD_getElem?, Array.getD_eq_getD_getElem?, Array.getElem?_setIfInBounds_ne (Ne.symm h)]
theorem eval_eq (a : Act) {d : Nat} (v : Value) (h : d < a.tmps.size) : (a.put (some d) v).eval (.tmp d) = v := by
  show (a.tmps.setIfInBounds d v).getD d undef = v
  rw [Array.getD_eq_getD_getElem?, Array.getElem?_setIfInBounds_self_of_lt h]
  rfl

def DD : List Nat := [9, 43, 45, 48, 51, 54, 57, 58, 60, 61, 62]
/-- The act is as it was but for the slots that the statement writes. -/
structure Sm (a1 a : Act) : Prop where
  sz : a.tmps.size = a1.tmps.size
  df : a.defers = a1.defers
  same : ∀ t, t ∉ DD → a.tmps[t]? = a1.tmps[t]?
theorem Sm.refl (a : Act) : Sm a a := ⟨rfl, rfl, fun _ _ => rfl⟩
theorem Sm.put {a1 a : Act} (h : Sm a1 a) (d : Nat) (v : Value) (hd : d ∈ DD) : Sm a1 (a.put (some d) v) := by
  refine ⟨?_, h.df, fun t ht => ?_⟩
  · show (a.tmps.setIfInBounds d v).size = _
    rw [Array.size_setIfInBounds]; exact h.sz
  · show (a.tmps.setIfInBounds d v)[t]? = _
    rw [Array.getElem?_setIfInBounds_ne (fun e => ht (by rw [← e]; exact hd))]; exact h.same t ht
theorem Sm.eval {a1 a : Act} (h : Sm a1 a) {t : Nat} (ht : t ∉ DD) : a.eval (.tmp t) = a1.eval (.tmp t) := by
  show a.tmps.getD t undef = a1.tmps.getD t undef
  rw [Array.getD_eq_getD_getElem?, Array.getD_eq_getD_getElem?, h.same t ht]
def fillA (a1 : Act) (v9 v43 v45 v48 v51 v54 v57 v58 v60 v61 v62 : Value) : Act := (((((((((((a1.put (some 9) v9).put (some 43) v43).put (some 45) v45).put (some 48) v48).put (some 51) v51).put (some 54) v54).put (some 57) v57).put (some 58) v58).put (some 60) v60).put (some 61) v61).put (some 62) v62)
set_option maxHeartbeats 4000000 in
theorem Sm.fill {a1 a : Act} (h : Sm a1 a) (hsz : 62 < a1.tmps.size) : a = fillA a1 (a.eval (.tmp 9)) (a.eval (.tmp 43)) (a.eval (.tmp 45)) (a.eval (.tmp 48)) (a.eval (.tmp 51)) (a.eval (.tmp 54)) (a.eval (.tmp 57)) (a.eval (.tmp 58)) (a.eval (.tmp 60)) (a.eval (.tmp 61)) (a.eval (.tmp 62)) := by
  have key : ∀ t : Nat, a.tmps[t]? = (fillA a1 (a.eval (.tmp 9)) (a.eval (.tmp 43)) (a.eval (.tmp 45)) (a.eval (.tmp 48)) (a.eval (.tmp 51)) (a.eval (.tmp 54)) (a.eval (.tmp 57)) (a.eval (.tmp 58)) (a.eval (.tmp 60)) (a.eval (.tmp 61)) (a.eval (.tmp 62))).tmps[t]? := by
    intro t
    by_cases ht : t ∈ DD
    · have hlt : t < a.tmps.size := by
        rw [h.sz]
        have : ∀ t ∈ DD, t ≤ 62 := by decide
        have := this t ht
        omega
      have e : a.tmps[t]? = some (a.eval (.tmp t)) := by
        show _ = some (a.tmps.getD t undef)
        rw [Array.getD_eq_getD_getElem?, Array.getElem?_eq_getElem hlt]; rfl
      rw [e]
      have hlt1 : t < a1.tmps.size := by rw [← h.sz]; exact hlt
      simp only [DD, List.mem_cons, List.not_mem_nil, or_false] at ht
      simp only [fillA, Act.put]
      rcases ht with rfl | rfl | rfl | rfl | rfl | rfl | rfl | rfl | rfl | rfl | rfl
      · rw [Array.getElem?_setIfInBounds_ne (by decide : 62 ≠ 9), Array.getElem?_setIfInBounds_ne (by decide : 61 ≠ 9), Array.getElem?_setIfInBounds_ne (by decide : 60 ≠ 9), Array.getElem?_setIfInBounds_ne (by decide : 58 ≠ 9), Array.getElem?_setIfInBounds_ne (by decide : 57 ≠ 9), Array.getElem?_setIfInBounds_ne (by decide : 54 ≠ 9), Array.getElem?_setIfInBounds_ne (by decide : 51 ≠ 9), Array.getElem?_setIfInBounds_ne (by decide : 48 ≠ 9), Array.getElem?_setIfInBounds_ne (by decide : 45 ≠ 9), Array.getElem?_setIfInBounds_ne (by decide : 43 ≠ 9), Array.getElem?_setIfInBounds_self_of_lt hlt1]
      · rw [Array.getElem?_setIfInBounds_ne (by decide : 62 ≠ 43), Array.getElem?_setIfInBounds_ne (by decide : 61 ≠ 43), Array.getElem?_setIfInBounds_ne (by decide : 60 ≠ 43), Array.getElem?_setIfInBounds_ne (by decide : 58 ≠ 43), Array.getElem?_setIfInBounds_ne (by decide : 57 ≠ 43), Array.getElem?_setIfInBounds_ne (by decide : 54 ≠ 43), Array.getElem?_setIfInBounds_ne (by decide : 51 ≠ 43), Array.getElem?_setIfInBounds_ne (by decide : 48 ≠ 43), Array.getElem?_setIfInBounds_ne (by decide : 45 ≠ 43), Array.getElem?_setIfInBounds_self_of_lt (by simp only [Array.size_setIfInBounds]; exact hlt1)]
      · rw [Array.getElem?_setIfInBounds_ne (by decide : 62 ≠ 45), Array.getElem?_setIfInBounds_ne (by decide : 61 ≠ 45), Array.getElem?_setIfInBounds_ne (by decide : 60 ≠ 45), Array.getElem?_setIfInBounds_ne (by decide : 58 ≠ 45), Array.getElem?_setIfInBounds_ne (by decide : 57 ≠ 45), Array.getElem?_setIfInBounds_ne (by decide : 54 ≠ 45), Array.getElem?_setIfInBounds_ne (by decide : 51 ≠ 45), Array.getElem?_setIfInBounds_ne (by decide : 48 ≠ 45), Array.getElem?_setIfInBounds_self_of_lt (by simp only [Array.size_setIfInBounds]; exact hlt1)]
      · rw [Array.getElem?_setIfInBounds_ne (by decide : 62 ≠ 48), Array.getElem?_setIfInBounds_ne (by decide : 61 ≠ 48), Array.getElem?_setIfInBounds_ne (by decide : 60 ≠ 48), Array.getElem?_setIfInBounds_ne (by decide : 58 ≠ 48), Array.getElem?_setIfInBounds_ne (by decide : 57 ≠ 48), Array.getElem?_setIfInBounds_ne (by decide : 54 ≠ 48), Array.getElem?_setIfInBounds_ne (by decide : 51 ≠ 48), Array.getElem?_setIfInBounds_self_of_lt (by simp only [Array.size_setIfInBounds]; exact hlt1)]
      · rw [Array.getElem?_setIfInBounds_ne (by decide : 62 ≠ 51), Array.getElem?_setIfInBounds_ne (by decide : 61 ≠ 51), Array.getElem?_setIfInBounds_ne (by decide : 60 ≠ 51), Array.getElem?_setIfInBounds_ne (by decide : 58 ≠ 51), Array.getElem?_setIfInBounds_ne (by decide : 57 ≠ 51), Array.getElem?_setIfInBounds_ne (by decide : 54 ≠ 51), Array.getElem?_setIfInBounds_self_of_lt (by simp only [Array.size_setIfInBounds]; exact hlt1)]
      · rw [Array.getElem?_setIfInBounds_ne (by decide : 62 ≠ 54), Array.getElem?_setIfInBounds_ne (by decide : 61 ≠ 54), Array.getElem?_setIfInBounds_ne (by decide : 60 ≠ 54), Array.getElem?_setIfInBounds_ne (by decide : 58 ≠ 54), Array.getElem?_setIfInBounds_ne (by decide : 57 ≠ 54), Array.getElem?_setIfInBounds_self_of_lt (by simp only [Array.size_setIfInBounds]; exact hlt1)]
      · rw [Array.getElem?_setIfInBounds_ne (by decide : 62 ≠ 57), Array.getElem?_setIfInBounds_ne (by decide : 61 ≠ 57), Array.getElem?_setIfInBounds_ne (by decide : 60 ≠ 57), Array.getElem?_setIfInBounds_ne (by decide : 58 ≠ 57), Array.getElem?_setIfInBounds_self_of_lt (by simp only [Array.size_setIfInBounds]; exact hlt1)]
      · rw [Array.getElem?_setIfInBounds_ne (by decide : 62 ≠ 58), Array.getElem?_setIfInBounds_ne (by decide : 61 ≠ 58), Array.getElem?_setIfInBounds_ne (by decide : 60 ≠ 58), Array.getElem?_setIfInBounds_self_of_lt (by simp only [Array.size_setIfInBounds]; exact hlt1)]
      · rw [Array.getElem?_setIfInBounds_ne (by decide : 62 ≠ 60), Array.getElem?_setIfInBounds_ne (by decide : 61 ≠ 60), Array.getElem?_setIfInBounds_self_of_lt (by simp only [Array.size_setIfInBounds]; exact hlt1)]
      · rw [Array.getElem?_setIfInBounds_ne (by decide : 62 ≠ 61), Array.getElem?_setIfInBounds_self_of_lt (by simp only [Array.size_setIfInBounds]; exact hlt1)]
      · rw [Array.getElem?_setIfInBounds_self_of_lt (by simp only [Array.size_setIfInBounds]; exact hlt1)]
    · rw [h.same t ht]
      have hne : ∀ d ∈ DD, d ≠ t := fun d hd e => ht (by rw [← e]; exact hd)
      simp only [DD, List.forall_mem_cons] at hne
      obtain ⟨h9, h43, h45, h48, h51, h54, h57, h58, h60, h61, h62, -⟩ := hne
      simp only [fillA, Act.put]
      rw [Array.getElem?_setIfInBounds_ne h62, Array.getElem?_setIfInBounds_ne h61, Array.getElem?_setIfInBounds_ne h60, Array.getElem?_setIfInBounds_ne h58, Array.getElem?_setIfInBounds_ne h57, Array.getElem?_setIfInBounds_ne h54, Array.getElem?_setIfInBounds_ne h51, Array.getElem?_setIfInBounds_ne h48, Array.getElem?_setIfInBounds_ne h45, Array.getElem?_setIfInBounds_ne h43, Array.getElem?_setIfInBounds_ne h9]
  have ht : a.tmps = (fillA a1 (a.eval (.tmp 9)) (a.eval (.tmp 43)) (a.eval (.tmp 45)) (a.eval (.tmp 48)) (a.eval (.tmp 51)) (a.eval (.tmp 54)) (a.eval (.tmp 57)) (a.eval (.tmp 58)) (a.eval (.tmp 60)) (a.eval (.tmp 61)) (a.eval (.tmp 62))).tmps := Array.ext_getElem? key
  clear key
  have hd : a.defers = a1.defers := h.df
  have e2 : (fillA a1 (a.eval (.tmp 9)) (a.eval (.tmp 43)) (a.eval (.tmp 45)) (a.eval (.tmp 48)) (a.eval (.tmp 51)) (a.eval (.tmp 54)) (a.eval (.tmp 57)) (a.eval (.tmp 58)) (a.eval (.tmp 60)) (a.eval (.tmp 61)) (a.eval (.tmp 62))).defers = a1.defers := by simp only [fillA, Act.put]
  rw [← e2] at hd
  generalize fillA a1 (a.eval (.tmp 9)) (a.eval (.tmp 43)) (a.eval (.tmp 45)) (a.eval (.tmp 48)) (a.eval (.tmp 51)) (a.eval (.tmp 54)) (a.eval (.tmp 57)) (a.eval (.tmp 58)) (a.eval (.tmp 60)) (a.eval (.tmp 61)) (a.eval (.tmp 62)) = b at hd ht
  obtain ⟨at_, ad_⟩ := a
  obtain ⟨bt_, bd_⟩ := b
  exact congr (congrArg Act.mk ht) hd
def ds (j : Nat) : Nat := [43, 45, 48, 51, 54, 58, 61].getD j 0
def ci (j : Nat) : Nat := [1, 3, 6, 9, 12, 16, 19].getD j 0
def Lk (k : Nat) (bA bB : Bool) : Array Bool := #[true, decide (0 < k), true, decide (1 < k), true, true, decide (2 < k), true, true, decide (3 < k), true, true, decide (4 < k), true, true, bA, decide (5 < k), true, bB, decide (6 < k), false, false]
def Rk (k : Nat) (bA bB : Bool) : List Nat :=
  if k = 7 then [20] else if k = 6 then (if bB then [19] else [18]) else if k = 5 then (if bA then [16] else [15]) ++ (if bB then [] else [18]) else [ci k] ++ (if bA then [] else [15]) ++ (if bB then [] else [18])
theorem upto7 {k : Nat} (h : k ≤ 7) : k = 0 ∨ k = 1 ∨ k = 2 ∨ k = 3 ∨ k = 4 ∨ k = 5 ∨ k = 6 ∨ k = 7 := by omega
theorem Rk_ne {k : Nat} {bA bB : Bool} (hk : k ≤ 7) : Rk k bA bB ≠ [] := by
  rcases upto7 hk with rfl | rfl | rfl | rfl | rfl | rfl | rfl | rfl <;> cases bA <;> cases bB <;> decide
theorem Rk_mem {k i : Nat} {bA bB : Bool} (hk : k ≤ 7) (h6 : 6 ≤ k → bA = true) (h7 : k = 7 → bB = true) (h : i ∈ Rk k bA bB) :
    (i = ci k ∧ k < 7 ∧ (5 ≤ k → bA = true) ∧ (k = 6 → bB = true)) ∨ (i = 15 ∧ bA = false ∧ k ≤ 5) ∨ (i = 18 ∧ bB = false ∧ k ≤ 6) ∨ (i = 20 ∧ k = 7) := by
  rcases upto7 hk with rfl | rfl | rfl | rfl | rfl | rfl | rfl | rfl <;> cases bA <;> cases bB <;> simp_all [Rk, ci] <;> omega
theorem Lk_call {k : Nat} (bA bB : Bool) (hk : k < 7) : (Lk k bA bB).setIfInBounds (ci k) true = Lk (k + 1) bA bB := by
  rcases upto7 (Nat.le_of_lt hk) with rfl | rfl | rfl | rfl | rfl | rfl | rfl | rfl
  all_goals first | rfl | omega
theorem Lk_A (k : Nat) (bB : Bool) : (Lk k false bB).setIfInBounds 15 true = Lk k true bB := rfl
theorem Lk_B (k : Nat) (bA : Bool) : (Lk k bA false).setIfInBounds 18 true = Lk k bA true := rfl
theorem ds_mem {k : Nat} (hk : k < 7) : ds k ∈ DD := by
  rcases upto7 (Nat.le_of_lt hk) with rfl | rfl | rfl | rfl | rfl | rfl | rfl | rfl
  all_goals first | decide | omega
theorem ds_ne : ∀ k, k < 7 → ∀ j, j < 7 → j ≠ k → ds j ≠ ds k := by decide
theorem ds_57 : ∀ k, k < 7 → ds k ≠ 57 ∧ ds k ≠ 60 ∧ ds k < 62 := by decide
/-- What holds when k calls have ended, and the two lists of one have been laid, or not. -/
structure RI (V : World) (B : Nat) (s1 : Bool) (A5 : Option Addr) (n1 c5 : Nat) (A6 : Option Addr) (n2 c6 : Nat) (a1 : Act) (k : Nat) (bA bB : Bool) (a : Act) (w : World) : Prop where
  sm : Sm a1 a
  yV : Below V.heap.size V w
  res : ∀ j, j < k → ∃ s A n c A' m d, a.eval (.tmp (ds j)) = .agg #[.bool s, .slice A n c, .slice A' m d] ∧ Rw w B A n A' m
  hA : bA = true → ∃ g, a.eval (.tmp 57) = .slice (some ⟨g, 0, none⟩) 1 1 ∧ OneX w g s1 A5 n1 c5 A6 n2 c6
  hB : bB = true → ∃ g, a.eval (.tmp 60) = .slice (some ⟨g, 0, none⟩) 1 1 ∧ OneX w g s1 A5 n1 c5 A6 n2 c6
theorem RI.call {V : World} {B : Nat} {s1 : Bool} {A5 : Option Addr} {n1 c5 : Nat} {A6 : Option Addr} {n2 c6 : Nat} {a1 : Act} {k : Nat} {bA bB : Bool} {a : Act} {w w' : World} (h : RI V B s1 A5 n1 c5 A6 n2 c6 a1 k bA bB a w) (hsz : 62 < a1.tmps.size) (hk : k < 7) (hb : Below w.heap.size w w') {s : Bool} {A : Option Addr} {n : Nat} (c : Nat) {A' : Option Addr} {m : Nat} (d : Nat) (hr : Rw w' B A n A' m) :
    RI V B s1 A5 n1 c5 A6 n2 c6 a1 (k + 1) bA bB (a.put (some (ds k)) (.agg #[.bool s, .slice A n c, .slice A' m d])) w' := by
  have h57 := ds_57 k hk
  refine ⟨h.sm.put _ _ (ds_mem hk), bthen h.yV hb, fun j hj => ?_, fun e => ?_, fun e => ?_⟩
  · by_cases e : j = k
    · subst e
      exact ⟨s, A, n, c, A', m, d, eval_eq a _ (by rw [h.sm.sz]; omega), hr⟩
    · obtain ⟨s', A1, n', c', A2, m', d', he, hr'⟩ := h.res j (by omega)
      exact ⟨s', A1, n', c', A2, m', d', by rw [eval_ne a _ (ds_ne k hk j (by omega) e)]; exact he, hr'.below hb⟩
  · obtain ⟨g, he, ho⟩ := h.hA e
    exact ⟨g, by rw [eval_ne a _ (Ne.symm h57.1)]; exact he, ho.below hb⟩
  · obtain ⟨g, he, ho⟩ := h.hB e
    exact ⟨g, by rw [eval_ne a _ (Ne.symm h57.2.1)]; exact he, ho.below hb⟩
theorem RI.layA {V : World} {B : Nat} {s1 : Bool} {A5 : Option Addr} {n1 c5 : Nat} {A6 : Option Addr} {n2 c6 : Nat} {a1 : Act} {k : Nat} {bB : Bool} {a : Act} {w : World} (h : RI V B s1 A5 n1 c5 A6 n2 c6 a1 k false bB a w) (hsz : 62 < a1.tmps.size) (hk : k ≤ 7) :
    RI V B s1 A5 n1 c5 A6 n2 c6 a1 k true bB (a.put (some 57) (.slice (some ⟨w.heap.size, 0, none⟩) 1 1)) (w.alloc (.cells #[.bool s1, .slice A5 n1 c5, .slice A6 n2 c6] 24)) := by
  have hb := below_alloc (Below.refl w.heap.size w) (.cells #[.bool s1, .slice A5 n1 c5, .slice A6 n2 c6] 24)
  refine ⟨h.sm.put _ _ (by decide), below_alloc h.yV _, fun j hj => ?_, fun _ => ⟨_, eval_eq a _ (by rw [h.sm.sz]; omega), OneX.new w s1 A5 n1 c5 A6 n2 c6⟩, fun e => ?_⟩
  · obtain ⟨s', A1, n', c', A2, m', d', he, hr'⟩ := h.res j hj
    exact ⟨s', A1, n', c', A2, m', d', by rw [eval_ne a _ (ds_57 j (by omega)).1]; exact he, hr'.below hb⟩
  · obtain ⟨g, he, ho⟩ := h.hB e
    exact ⟨g, by rw [eval_ne a _ (by decide)]; exact he, ho.below hb⟩
theorem RI.layB {V : World} {B : Nat} {s1 : Bool} {A5 : Option Addr} {n1 c5 : Nat} {A6 : Option Addr} {n2 c6 : Nat} {a1 : Act} {k : Nat} {bA : Bool} {a : Act} {w : World} (h : RI V B s1 A5 n1 c5 A6 n2 c6 a1 k bA false a w) (hsz : 62 < a1.tmps.size) (hk : k ≤ 7) :
    RI V B s1 A5 n1 c5 A6 n2 c6 a1 k bA true (a.put (some 60) (.slice (some ⟨w.heap.size, 0, none⟩) 1 1)) (w.alloc (.cells #[.bool s1, .slice A5 n1 c5, .slice A6 n2 c6] 24)) := by
  have hb := below_alloc (Below.refl w.heap.size w) (.cells #[.bool s1, .slice A5 n1 c5, .slice A6 n2 c6] 24)
  refine ⟨h.sm.put _ _ (by decide), below_alloc h.yV _, fun j hj => ?_, fun e => ?_, fun _ => ⟨_, eval_eq a _ (by rw [h.sm.sz]; omega), OneX.new w s1 A5 n1 c5 A6 n2 c6⟩⟩
  · obtain ⟨s', A1, n', c', A2, m', d', he, hr'⟩ := h.res j hj
    exact ⟨s', A1, n', c', A2, m', d', by rw [eval_ne a _ (ds_57 j (by omega)).2.1]; exact he, hr'.below hb⟩
  · obtain ⟨g, he, ho⟩ := h.hA e
    exact ⟨g, by rw [eval_ne a _ (by decide)]; exact he, ho.below hb⟩
theorem wpAnyH_at {P : Program} {md : Region.Mode} {ops : Array Oper} {Q : Exit → Act → World → Prop} {S : World → Prop} {n n' : Nat} {L L' : Array Bool} {a : Act} {w : World} (hn : n' = n) (hL : L' = L) (h : wpAnyH P md ops Q S n L a w) : wpAnyH P md ops Q S n' L' a w := by
  rw [hn, hL]; exact h
/-- Operation i of the region. -/
def Has (ops : Array Oper) (i d : Nat) (op : Op) : Prop := ∃ o, ops[i]? = some o ∧ o.dst = some d ∧ o.guard = none ∧ o.op = op
theorem wpOp_of {P : Program} {ops : Array Oper} {Q : Exit → Act → World → Prop} {i : Nat} {K : Act → World → Prop} {a : Act} {w : World} {o : Oper} (ho : ops[i]? = some o) (hg : o.guard = none) (h : Oper.wp P o a w K Q) : wpOp P ops Q i K a w := by
  unfold wpOp
  rw [ho]
  simp only [Region.wanted, hg]
  rw [if_pos (by simp)]
  exact Or.inl h
theorem wp_enter {P : Program} {o : Oper} {a : Act} {w : World} {K : Act → World → Prop} {Q : Exit → Act → World → Prop} {f : Nat} {args : Array Value} {R : Ending → World → Prop} (hrun : (execOp a.eval o).run P w = .ok (.enter f args) w) (h : Calls P f args w R)
    (hn : ∀ e w', R e w' → ∃ v, e = .returned v ∧ K (a.put o.dst v) w') : Oper.wp P o a w K Q := by
  unfold Oper.wp
  rw [hrun, Oper.upon_enter]
  refine h.mono (fun e w' hr => ?_)
  obtain ⟨v, rfl, hk⟩ := hn e w' hr
  exact hk
theorem wp_value {P : Program} {o : Oper} {a : Act} {w w' : World} {K : Act → World → Prop} {Q : Exit → Act → World → Prop} {v : Value} (hrun : (execOp a.eval o).run P w = .ok (.value v) w') (h : K (a.put o.dst v) w') : Oper.wp P o a w K Q := by
  unfold Oper.wp
  rw [hrun, Oper.upon_value]
  exact h
theorem Tb.of8 {w : World} {B : Nat} {s1 s2 s3 s4 s5 s6 s7 s8 : Bool} {A1 B1 A2 B2 A3 B3 A4 B4 A5 B5 A6 B6 A7 B7 A8 B8 : Option Addr} {n1 c1 m1 d1 n2 c2 m2 d2 n3 c3 m3 d3 n4 c4 m4 d4 n5 c5 m5 d5 n6 c6 m6 d6 n7 c7 m7 d7 n8 c8 m8 d8 : Nat}
    (h1 : Rw w B A1 n1 B1 m1) (h2 : Rw w B A2 n2 B2 m2) (h3 : Rw w B A3 n3 B3 m3) (h4 : Rw w B A4 n4 B4 m4) (h5 : Rw w B A5 n5 B5 m5) (h6 : Rw w B A6 n6 B6 m6) (h7 : Rw w B A7 n7 B7 m7) (h8 : Rw w B A8 n8 B8 m8) :
    Tb (w.alloc (.cells #[.bool s1, .slice A1 n1 c1, .slice B1 m1 d1, .bool s2, .slice A2 n2 c2, .slice B2 m2 d2, .bool s3, .slice A3 n3 c3, .slice B3 m3 d3, .bool s4, .slice A4 n4 c4, .slice B4 m4 d4, .bool s5, .slice A5 n5 c5, .slice B5 m5 d5, .bool s6, .slice A6 n6 c6, .slice B6 m6 d6, .bool s7, .slice A7 n7 c7, .slice B7 m7 d7, .bool s8, .slice A8 n8 c8, .slice B8 m8 d8] 24)) B ⟨w.heap.size, 0, none⟩ :=
  Tb.of [FV.mk s1 A1 n1 c1 B1 m1 d1, FV.mk s2 A2 n2 c2 B2 m2 d2, FV.mk s3 A3 n3 c3 B3 m3 d3, FV.mk s4 A4 n4 c4 B4 m4 d4, FV.mk s5 A5 n5 c5 B5 m5 d5, FV.mk s6 A6 n6 c6 B6 m6 d6, FV.mk s7 A7 n7 c7 B7 m7 d7, FV.mk s8 A8 n8 c8 B8 m8 d8] rfl (fun i hi => match i, hi with
    | 0, _ => h1
    | 1, _ => h2
    | 2, _ => h3
    | 3, _ => h4
    | 4, _ => h5
    | 5, _ => h6
    | 6, _ => h7
    | 7, _ => h8)

theorem region6 {ops : Array Oper} {Q : Exit → Act → World → Prop} {S : World → Prop} {a1 : Act} {V : World} {B : Nat} {s1 : Bool} {A5 : Option Addr} {n1 c5 : Nat} {A6 : Option Addr} {n2 c6 : Nat} {s2 : Bool} {A7 : Option Addr} {n3 c7 : Nat} {A8 : Option Addr} {n4 c8 : Nat} {s5 : Bool} {A9 : Option Addr} {n9 c9 : Nat} {A10 : Option Addr} {n10 c10 : Nat}
    (hQ : ∀ v43 v45 v48 v51 v54 v57 v58 v60 v61 v62 ad w', Tb w' B ad → Below V.heap.size V w' → Q .normal (fillA a1 (.slice (some ad) 8 8) v43 v45 v48 v51 v54 v57 v58 v60 v61 v62) w')
    (hS : ∀ w', Below V.heap.size V w' → S w') (hBV : B ≤ V.heap.size) (hsz : 62 < a1.tmps.size)
    (e42 : a1.eval (.tmp 42) = .agg #[.bool s1, .slice A5 n1 c5, .slice A6 n2 c6])
    (e44 : a1.eval (.tmp 44) = .agg #[.bool s1, .slice A5 n1 c5, .slice A6 n2 c6])
    (e46 : a1.eval (.tmp 46) = .agg #[.bool s1, .slice A5 n1 c5, .slice A6 n2 c6])
    (e47 : a1.eval (.tmp 47) = .agg #[.bool s2, .slice A7 n3 c7, .slice A8 n4 c8])
    (e49 : a1.eval (.tmp 49) = .agg #[.bool s1, .slice A5 n1 c5, .slice A6 n2 c6])
    (e50 : a1.eval (.tmp 50) = .agg #[.bool s2, .slice A7 n3 c7, .slice A8 n4 c8])
    (e52 : a1.eval (.tmp 52) = .agg #[.bool s1, .slice A5 n1 c5, .slice A6 n2 c6])
    (e53 : a1.eval (.tmp 53) = .agg #[.bool s2, .slice A7 n3 c7, .slice A8 n4 c8])
    (e55 : a1.eval (.tmp 55) = .agg #[.bool s5, .slice A9 n9 c9, .slice A10 n10 c10])
    (e56 : a1.eval (.tmp 56) = .agg #[.bool s1, .slice A5 n1 c5, .slice A6 n2 c6])
    (e59 : a1.eval (.tmp 59) = .agg #[.bool s1, .slice A5 n1 c5, .slice A6 n2 c6])
    (C59 : ∀ W, Below V.heap.size V W → ∃ q, (ln q ≤ 100000 ∧ ld q ≤ 100000) ∧ Calls Tryd.prog 59 #[.agg #[.bool s1, .slice A5 n1 c5, .slice A6 n2 c6]] W (FrPost q W))
    (C55 : ∀ W, Below V.heap.size V W → ∃ q, (ln q ≤ 100000 ∧ ld q ≤ 100000) ∧ Calls Tryd.prog 55 #[.agg #[.bool s1, .slice A5 n1 c5, .slice A6 n2 c6]] W (FrPost q W))
    (C52 : ∀ W, Below V.heap.size V W → ∃ q, (ln q ≤ 100000 ∧ ld q ≤ 100000) ∧ Calls Tryd.prog 52 #[.agg #[.bool s1, .slice A5 n1 c5, .slice A6 n2 c6], .agg #[.bool s2, .slice A7 n3 c7, .slice A8 n4 c8]] W (FrPost q W))
    (C54 : ∀ W, Below V.heap.size V W → ∃ q, (ln q ≤ 100000 ∧ ld q ≤ 100000) ∧ Calls Tryd.prog 54 #[.agg #[.bool s1, .slice A5 n1 c5, .slice A6 n2 c6], .agg #[.bool s2, .slice A7 n3 c7, .slice A8 n4 c8]] W (FrPost q W))
    (C58 : ∀ W, Below V.heap.size V W → ∃ q, (ln q ≤ 100000 ∧ ld q ≤ 100000) ∧ Calls Tryd.prog 58 #[.agg #[.bool s1, .slice A5 n1 c5, .slice A6 n2 c6], .agg #[.bool s2, .slice A7 n3 c7, .slice A8 n4 c8]] W (FrPost q W))
    (C39 : ∀ W g, Below V.heap.size V W → OneX W g s1 A5 n1 c5 A6 n2 c6 → ∃ q, (ln q ≤ 100000 ∧ ld q ≤ 100000) ∧ Calls Tryd.prog 39 #[.slice (some ⟨g, 0, none⟩) 1 1] W (FrPost q W))
    (C41 : ∀ W g, Below V.heap.size V W → OneX W g s1 A5 n1 c5 A6 n2 c6 → ∃ q, (ln q ≤ 100000 ∧ ld q ≤ 100000) ∧ Calls Tryd.prog 41 #[.slice (some ⟨g, 0, none⟩) 1 1] W (FrPost q W))
    (r5 : Rw V B A9 n9 A10 n10)
    (o0 : Has ops 1 43 (.call { callee := .value (.func 59), args := #[.tmp 42], argTypes := #[24] }))
    (o1 : Has ops 3 45 (.call { callee := .value (.func 55), args := #[.tmp 44], argTypes := #[24] }))
    (o2 : Has ops 6 48 (.call { callee := .value (.func 52), args := #[.tmp 46, .tmp 47], argTypes := #[24, 24] }))
    (o3 : Has ops 9 51 (.call { callee := .value (.func 54), args := #[.tmp 49, .tmp 50], argTypes := #[24, 24] }))
    (o4 : Has ops 12 54 (.call { callee := .value (.func 58), args := #[.tmp 52, .tmp 53], argTypes := #[24, 24] }))
    (o5 : Has ops 16 58 (.call { callee := .value (.func 39), args := #[.tmp 57], argTypes := #[45] }))
    (o6 : Has ops 19 61 (.call { callee := .value (.func 41), args := #[.tmp 60], argTypes := #[45] }))
    (oA : Has ops 15 57 (.buildSlice 45 1 #[(0, .tmp 56)])) (oB : Has ops 18 60 (.buildSlice 45 1 #[(0, .tmp 59)]))
    (oC : Has ops 20 62 (.buildSlice 45 8 #[(0, .tmp 43), (1, .tmp 45), (2, .tmp 48), (3, .tmp 51), (4, .tmp 54), (5, .tmp 55), (6, .tmp 58), (7, .tmp 61)])) (oD : Has ops 21 9 (.assign (.tmp 62)))
    (rd : ∀ k bA bB, k ≤ 7 → (6 ≤ k → bA = true) → (k = 7 → bB = true) → Region.ready .any ops (Lk k bA bB) = Rk k bA bB)
    (rd1 : Region.ready .any ops ((Lk 7 true true).setIfInBounds 20 true) = [21]) (rd2 : Region.ready .any ops (((Lk 7 true true).setIfInBounds 20 true).setIfInBounds 21 true) = []) :
    ∀ r k bA bB, k ≤ 7 → (6 ≤ k → bA = true) → (k = 7 → bB = true) → r = (7 - k) + (if bA = true then 0 else 1) + (if bB = true then 0 else 1) →
      ∀ a w, RI V B s1 A5 n1 c5 A6 n2 c6 a1 k bA bB a w → wpAnyH Tryd.prog .any ops Q S (r + 2) (Lk k bA bB) a w := by
  -- one call
  have hcall : ∀ k, k < 7 → ∀ bA bB, (5 ≤ k → bA = true) → (k = 6 → bB = true) → ∀ a w, RI V B s1 A5 n1 c5 A6 n2 c6 a1 k bA bB a w →
      ∃ o args f q, ops[ci k]? = some o ∧ o.dst = some (ds k) ∧ o.guard = none ∧ (execOp a.eval o).run Tryd.prog w = .ok (.enter f args) w ∧ (ln q ≤ 100000 ∧ ld q ≤ 100000) ∧ Calls Tryd.prog f args w (FrPost q w) := by
    intro k hk bA bB h5 h6 a w h
    rcases upto7 (Nat.le_of_lt hk) with rfl | rfl | rfl | rfl | rfl | rfl | rfl | rfl
    · obtain ⟨o, ho, hd, hg, hop⟩ := o0
      obtain ⟨q, hl, hC⟩ := C59 w h.yV
      refine ⟨o, _, 59, q, ho, hd, hg, run_call 59 a w o _ _ (by decide) hop, hl, ?_⟩
      simp only [List.map_toArray, List.map_cons, List.map_nil]
      rw [h.sm.eval (t := 42) (by decide), e42]
      exact hC
    · obtain ⟨o, ho, hd, hg, hop⟩ := o1
      obtain ⟨q, hl, hC⟩ := C55 w h.yV
      refine ⟨o, _, 55, q, ho, hd, hg, run_call 55 a w o _ _ (by decide) hop, hl, ?_⟩
      simp only [List.map_toArray, List.map_cons, List.map_nil]
      rw [h.sm.eval (t := 44) (by decide), e44]
      exact hC
    · obtain ⟨o, ho, hd, hg, hop⟩ := o2
      obtain ⟨q, hl, hC⟩ := C52 w h.yV
      refine ⟨o, _, 52, q, ho, hd, hg, run_call 52 a w o _ _ (by decide) hop, hl, ?_⟩
      simp only [List.map_toArray, List.map_cons, List.map_nil]
      rw [h.sm.eval (t := 46) (by decide), e46, h.sm.eval (t := 47) (by decide), e47]
      exact hC
    · obtain ⟨o, ho, hd, hg, hop⟩ := o3
      obtain ⟨q, hl, hC⟩ := C54 w h.yV
      refine ⟨o, _, 54, q, ho, hd, hg, run_call 54 a w o _ _ (by decide) hop, hl, ?_⟩
      simp only [List.map_toArray, List.map_cons, List.map_nil]
      rw [h.sm.eval (t := 49) (by decide), e49, h.sm.eval (t := 50) (by decide), e50]
      exact hC
    · obtain ⟨o, ho, hd, hg, hop⟩ := o4
      obtain ⟨q, hl, hC⟩ := C58 w h.yV
      refine ⟨o, _, 58, q, ho, hd, hg, run_call 58 a w o _ _ (by decide) hop, hl, ?_⟩
      simp only [List.map_toArray, List.map_cons, List.map_nil]
      rw [h.sm.eval (t := 52) (by decide), e52, h.sm.eval (t := 53) (by decide), e53]
      exact hC
    · obtain ⟨o, ho, hd, hg, hop⟩ := o5
      obtain ⟨g, hg1, hg2⟩ := h.hA (h5 (by omega))
      obtain ⟨q, hl, hC⟩ := C39 w g h.yV hg2
      refine ⟨o, _, 39, q, ho, hd, hg, run_call 39 a w o _ _ (by decide) hop, hl, ?_⟩
      simp only [List.map_toArray, List.map_cons, List.map_nil]
      rw [hg1]
      exact hC
    · obtain ⟨o, ho, hd, hg, hop⟩ := o6
      obtain ⟨g, hg1, hg2⟩ := h.hB (h6 rfl)
      obtain ⟨q, hl, hC⟩ := C41 w g h.yV hg2
      refine ⟨o, _, 41, q, ho, hd, hg, run_call 41 a w o _ _ (by decide) hop, hl, ?_⟩
      simp only [List.map_toArray, List.map_cons, List.map_nil]
      rw [hg1]
      exact hC
    · omega
  intro r
  induction r with
  | zero =>
    intro k bA bB hk h6 h7 hr a w h
    have hA : bA = true := by
      cases bA with
      | true => rfl
      | false => rw [if_neg (by decide : ¬ (false = true))] at hr; omega
    have hB : bB = true := by
      cases bB with
      | true => rfl
      | false => rw [if_neg (by decide : ¬ (false = true))] at hr; omega
    subst hA hB
    have hk7 : k = 7 := by rw [if_pos rfl] at hr; omega
    subst hk7
    refine wpAnyH_all (rd 7 true true (by omega) (fun _ => rfl) (fun _ => rfl)) (Rk_ne (by omega)) (fun i hi => ?_)
    have hi20 : i = 20 := by simpa [Rk] using hi
    subst hi20
    obtain ⟨o, ho, hd, hg, hop⟩ := oC
    obtain ⟨x0, P0, u0, v0, R0, y0, z0, k0, g0⟩ := h.res 0 (by omega)
    obtain ⟨x1, P1, u1, v1, R1, y1, z1, k1, g1⟩ := h.res 1 (by omega)
    obtain ⟨x2, P2, u2, v2, R2, y2, z2, k2, g2⟩ := h.res 2 (by omega)
    obtain ⟨x3, P3, u3, v3, R3, y3, z3, k3, g3⟩ := h.res 3 (by omega)
    obtain ⟨x4, P4, u4, v4, R4, y4, z4, k4, g4⟩ := h.res 4 (by omega)
    obtain ⟨x5, P5, u5, v5, R5, y5, z5, k5, g5⟩ := h.res 5 (by omega)
    obtain ⟨x6, P6, u6, v6, R6, y6, z6, k6, g6⟩ := h.res 6 (by omega)
    have k7 : a.eval (.tmp 55) = .agg #[.bool s5, .slice A9 n9 c9, .slice A10 n10 c10] := by rw [h.sm.eval (by decide)]; exact e55
    refine wpOp_of ho hg (wp_value (run_build8 a w o hop k0 k1 k2 k3 k4 k7 k5 k6) ?_)
    rw [hd]
    have hb := below_alloc h.yV (.cells #[.bool x0, .slice P0 u0 v0, .slice R0 y0 z0, .bool x1, .slice P1 u1 v1, .slice R1 y1 z1, .bool x2, .slice P2 u2 v2, .slice R2 y2 z2, .bool x3, .slice P3 u3 v3, .slice R3 y3 z3, .bool x4, .slice P4 u4 v4, .slice R4 y4 z4, .bool s5, .slice A9 n9 c9, .slice A10 n10 c10, .bool x5, .slice P5 u5 v5, .slice R5 y5 z5, .bool x6, .slice P6 u6 v6, .slice R6 y6 z6] 24)
    refine ⟨hS _ hb, wpAnyH_all rd1 (by simp) (fun i hi => ?_)⟩
    have hi21 : i = 21 := by simpa using hi
    subst hi21
    obtain ⟨o2, ho2, hd2, hg2, hop2⟩ := oD
    refine wpOp_of ho2 hg2 (wp_value (v := .slice (some ⟨w.heap.size, 0, none⟩) 8 8) (w' := w.alloc (.cells #[.bool x0, .slice P0 u0 v0, .slice R0 y0 z0, .bool x1, .slice P1 u1 v1, .slice R1 y1 z1, .bool x2, .slice P2 u2 v2, .slice R2 y2 z2, .bool x3, .slice P3 u3 v3, .slice R3 y3 z3, .bool x4, .slice P4 u4 v4, .slice R4 y4 z4, .bool s5, .slice A9 n9 c9, .slice A10 n10 c10, .bool x5, .slice P5 u5 v5, .slice R5 y5 z5, .bool x6, .slice P6 u6 v6, .slice R6 y6 z6] 24)) ?_ ?_)
    · have e : (a.put (some 62) (.slice (some ⟨w.heap.size, 0, none⟩) 8 8)).eval (.tmp 62) = .slice (some ⟨w.heap.size, 0, none⟩) 8 8 := eval_eq a _ (by rw [h.sm.sz]; exact hsz)
      simp only [execOp, hop2, e]
      rfl
    · rw [hd2]
      refine ⟨hS _ hb, rd2, ?_⟩
      have hsm := (h.sm.put 62 (.slice (some ⟨w.heap.size, 0, none⟩) 8 8) (by decide)).put 9 (.slice (some ⟨w.heap.size, 0, none⟩) 8 8) (by decide)
      have h9 := eval_eq (a.put (some 62) (.slice (some ⟨w.heap.size, 0, none⟩) 8 8)) (d := 9) (.slice (some ⟨w.heap.size, 0, none⟩) 8 8) (by rw [(h.sm.put 62 _ (by decide)).sz]; omega)
      rw [hsm.fill hsz, h9]
      exact hQ _ _ _ _ _ _ _ _ _ _ _ _ (Tb.of8 g0 g1 g2 g3 g4 (r5.below h.yV) g5 g6) hb
  | succ r ih =>
    intro k bA bB hk h6 h7 hr a w h
    refine wpAnyH_all (rd k bA bB hk h6 h7) (Rk_ne hk) (fun i hi => ?_)
    rcases Rk_mem hk h6 h7 hi with ⟨rfl, hk7, h5, h6'⟩ | ⟨rfl, rfl, hk5⟩ | ⟨rfl, rfl, hk6⟩ | ⟨rfl, rfl⟩
    · obtain ⟨o, args, f, q, ho, hd, hg, hrun, hl, hC⟩ := hcall k hk7 bA bB h5 h6' a w h
      refine wpOp_of ho hg (wp_enter hrun hC (fun e w' hp => ?_))
      obtain ⟨s, A, n, c, A', m, d, rfl, hf, o1', o2', hb⟩ := hp
      have hR := Rw.of hf o1' o2' (Nat.le_trans hBV h.yV.size) hl
      have hI := h.call hsz hk7 hb (s := s) c d hR
      refine ⟨_, rfl, hS _ hI.yV, ?_⟩
      rw [hd, Lk_call bA bB hk7]
      exact ih (k + 1) bA bB (by omega) (fun _ => h5 (by omega)) (fun _ => h6' (by omega)) (by omega) _ _ hI
    · obtain ⟨o, ho, hd, hg, hop⟩ := oA
      refine wpOp_of ho hg (wp_value (run_build1 a w o 56 s1 A5 n1 c5 A6 n2 c6 hop (by rw [h.sm.eval (by decide)]; exact e56)) ?_)
      rw [hd, Lk_A]
      have hI := h.layA hsz hk
      exact ⟨hS _ hI.yV, ih k true bB hk (fun _ => rfl) h7 (by simp at hr ⊢; omega) _ _ hI⟩
    · obtain ⟨o, ho, hd, hg, hop⟩ := oB
      refine wpOp_of ho hg (wp_value (run_build1 a w o 59 s1 A5 n1 c5 A6 n2 c6 hop (by rw [h.sm.eval (by decide)]; exact e59)) ?_)
      rw [hd, Lk_B]
      have hI := h.layB hsz hk
      exact ⟨hS _ hI.yV, ih k bA true hk h6 (fun _ => rfl) (by simp at hr ⊢; omega) _ _ hI⟩
    · exfalso
      have hA := h6 (by omega)
      have hB := h7 rfl
      subst hA hB
      simp at hr
end Go.Proofs.YtaahbabdbopphaaDoor
