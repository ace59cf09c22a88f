/- What a statement leaves that puts a Frac into a variable of the call's own. -/
import Derived.Test.YtaahbabdbopphaaDoorKA
import Derived.Test.YtaahbabdbopphaaDoorMB
import Derived.Deep.RegionHeld3
import Derived.Deep.DeepCutAuto
import Derived.Deep.CutBlock
namespace Go.Proofs.YtaahbabdbopphaaDoor
open Go.RowKit Mx
set_option maxRecDepth 100000

/-- A variable of the call's own holds the canonical Frac of z; nothing that was there in V has turned. -/
def BoxPost (z : Rat) (V : World) (sv : Value) (wx : World) : Prop :=
  ∃ g s A n c B m d, sv = .pointer (some ⟨g, 0, none⟩) ∧ Bk wx g (.bool s) (.slice A n c) (.slice B m d) ∧ Fr wx s A n c B m d z ∧ Below V.heap.size V wx
theorem Fr.put3 {w : World} {sb : Bool} {A1 : Option Addr} {n1 c1 : Nat} {A2 : Option Addr} {n2 c2 : Nat} {q : Rat} (h : Fr w sb A1 n1 c1 A2 n2 c2 q) {g : Nat} {x : Bool} {A B : Option Addr} {n m c d : Nat}
    (k : Bk w g (.bool x) (.slice A n c) (.slice B m d)) (u v z : Value) : Fr (YtaahbabdbopphaaDoor.put3 w g u v z) sb A1 n1 c1 A2 n2 c2 q :=
  ⟨h.neg, h.num.put3 k.c0 k.c1 k.c2 (notDigit_bool _) (notDigit_slice _ _ _) (notDigit_slice _ _ _) u v z, h.den.put3 k.c0 k.c1 k.c2 (notDigit_bool _) (notDigit_slice _ _ _) (notDigit_slice _ _ _) u v z⟩
theorem BoxPost.put {z : Rat} {V w : World} {s : Bool} {A B : Option Addr} {n c m d : Nat} (f : Fr w s A n c B m d z) {g : Nat} {x : Bool} {A' B' : Option Addr} {n' m' c' d' : Nat}
    (k : Bk w g (.bool x) (.slice A' n' c') (.slice B' m' d')) (hb : Below V.heap.size V w) (hg : V.heap.size ≤ g) : BoxPost z V (.pointer (some ⟨g, 0, none⟩)) (YtaahbabdbopphaaDoor.put3 w g (.bool s) (.slice A n c) (.slice B m d)) :=
  ⟨g, s, A, n, c, B, m, d, rfl, k.self _ _ _, f.put3 k _ _ _, below_put3 hb hg _ _ _⟩
theorem BoxPost.new {z : Rat} {V w : World} {s : Bool} {A B : Option Addr} {n c m d : Nat} {T : TypeId} (f : Fr w s A n c B m d z) (hb : Below V.heap.size V w) :
    BoxPost z V (.pointer (some ⟨w.heap.size, 0, none⟩)) (w.alloc (.cells #[.bool s, .slice A n c, .slice B m d] T)) :=
  ⟨_, s, A, n, c, B, m, d, rfl, Bk.new w _ _ _ T, f.below (below_alloc (Below.refl _ w) _), below_alloc hb _⟩
theorem Fr.alloc {w : World} {sb : Bool} {A1 : Option Addr} {n1 c1 : Nat} {A2 : Option Addr} {n2 c2 : Nat} {q : Rat} (h : Fr w sb A1 n1 c1 A2 n2 c2 q) (o : Obj) : Fr (w.alloc o) sb A1 n1 c1 A2 n2 c2 q := h.below (below_alloc (Below.refl _ w) o)
theorem Rf.alloc {w : World} {sb : Bool} {A1 : Option Addr} {n1 c1 : Nat} {A2 : Option Addr} {n2 c2 : Nat} {q : Rat} (h : Rf w sb A1 n1 c1 A2 n2 c2 q) (o : Obj) : Rf (w.alloc o) sb A1 n1 c1 A2 n2 c2 q := h.below (below_alloc (Below.refl _ w) o)
theorem sgn_eq {xs : Array Value} {w : World} {f : Nat} {x y : Int} (h : Calls Tryd.prog f xs w (ValPost (.int .i64 x) w)) (e : x = y) : Calls Tryd.prog f xs w (ValPost (.int .i64 y) w) := by subst e; exact h
end Go.Proofs.YtaahbabdbopphaaDoor
