/- The law FracOwn holds: for every input the call returns true, and each argument reads afterwards as it read before. For Fracs of at most 12 digits in each part; in all other cases the examples are checked. The package-level tables that the run reads are tied to the program's text by the card. -/
import Derived.Test.YtaahbabdbopphaaDoorCards
import Derived.Test.YtaahbabdbopphaaDoorTie
import Derived.Test.YtaahbabdbopphaaDoorL0
import Derived.Test.YtaahbabdbopphaaDoorA16
import Derived.SevenTiedAt
namespace Go.Proofs.YtaahbabdbopphaaDoor
open Go.ChangeShapes Go.WideShapes Go.ChangeAt Go.WideElems Go.RowKit Go.Joins Mx

set_option maxRecDepth 100000 in
theorem fracOwn_lifted (os : Os) (started : os.Started) (H : Type) (enc : TypeId × Value → H) :
    ReturnsInHanded {} Tryd.checked os 16 .any (fun w args => (Rows.fracOwnSpec.pre enc Tryd.prog Tryd.f16 [] false w args ∧ laidMetH Tryd.prog laids w) ∧ sizedMet enc Tryd.prog Tryd.f16 (OpenSpec.ofChange Rows.fracOwnSpec) false w args)
      (Rows.fracOwnSpec.post enc Tryd.prog Tryd.f16 false true false false) := by
  refine returnsInHanded_of_change_and (C := Tryd.checked) (X := fun w _ => laidMetH Tryd.prog laids w) (fun _ _ _ hh h => h.of_heap hh) Tryd.own started (by kernel_rfl) Tryd.func16
    (ChangeSpec.witness_shaped (enc := enc) (C := Tryd.checked) (os := os) (X := fun w _ => laidMetH Tryd.prog laids w) false (World.doorLaid Tryd.prog 400 os) #[.agg #[.bool false, .slice none 0 0, .slice none 0 0], .agg #[.bool false, .slice none 0 0, .slice none 0 0]] 8 rfl (World.shaped_of_RefB (by kernel_rfl) (by kernel_rfl)) (by kernel_rfl) (by kernel_rfl) (by kernel_rfl) (door_met os _)) ?_
  intro W base args ds gs before hval0 hW _ _ hL _
  have hval : ∀ (j : Nat) t v, Tryd.f16.params[j]? = some t → args[j]? = some v → Value.okWide Tryd.prog W .any base t v := hval0
  have hW' := hW
  have hlt := hW.lt
  obtain ⟨p, q, hA0, hV, rfl, hfz, hnd⟩ := hW
  have hA : DataW.TrodAll enc Tryd.prog W 0 (fun _ => true) true Tryd.f16.params.toList args.toList ds p := hA0
  rw [Tryd.params16] at hA hval
  obtain ⟨v0, v1, d0, d1, p0, p1, rfl, rfl, rfl, h0, h1⟩ := trodAll_two hA
  obtain ⟨rfl, rfl⟩ := trodVars_none hV
  obtain ⟨s0, A0, n0, c0, B0, m0, e0, xs0, ys0, rfl, x0, y0, dx0, dy0⟩ := open_frac (hval 0 24 v0 rfl rfl) h0
  obtain ⟨s1, A1, n1, c1, B1, m1, e1, xs1, ys1, rfl, x1, y1, dx1, dy1⟩ := open_frac (hval 1 24 v1 rfl rfl) h1
  clear hA0 hval0
  simp only [List.append_nil] at hW' hlt
  have ht := tab_of_laid hL
  refine (FracOwn_any s0 A0 B0 n0 m0 c0 e0 s1 A1 B1 n1 m1 c1 e1 xs0 ys0 xs1 ys1 W x0 y0 x1 y1 dx0 dy0 dx1 dy1 ht).mono fun e W' ⟨he, hb⟩ => ?_
  subst he
  have hargs := trodAll_mk2 (Below.trod Tryd.laidOut (by kernel_rfl) (of_decide_eq_true (by kernel_rfl)) h0 hb (fun x hx => hlt x (by simp [hx]))) (Below.trod Tryd.laidOut (by kernel_rfl) (of_decide_eq_true (by kernel_rfl)) h1 hb (fun x hx => hlt x (by simp [hx])))
  exact ⟨_, rfl, _, _, _, [], _, [], hW', trodAll_mk1 (shut_bool Tryd.underlying4 true), hargs, rfl, hb.frame _, fun h => by cases h⟩

theorem fracOwn_row : Rows.FracOwnSaid :=
  OpenClaim.holds_of_wide 16 Tryd.f16 rfl rfl rfl rfl rfl rfl rfl ⟨rfl, rfl, rfl, rfl, rfl⟩ rfl rfl rfl rfl rfl (by kernel_rfl) Tryd.func16 (by kernel_rfl)
    (of_decide_eq_true (by kernel_rfl)) (by unfold Func.isWrapper; first | (rw [if_pos (by decide +kernel)]; kernel_rfl) | (rw [if_neg (by decide +kernel)]; exact ⟨rfl, rfl⟩))
    (fun os started H enc _ => fracOwn_lifted os started H enc)

theorem fracOwn_holds : Rows.FracOwnCardSaid :=
  Claim7.holds_tied_plain_at .later [] [.data, .data, .data] true (true, "118a4a925b065a163283db546db1f4fa0252a57c9de3c043d098f177817e6c1f") false
    fracOwn_row (fun _ h => by cases h) (by kernel_rfl) (fun _ h => by cases h) fracOwn_row_tie rfl ⟨rfl, rfl⟩ (by kernel_rfl) rfl
    (fun f fn hf hfn => by
      obtain rfl : f = 16 := Option.some.inj ((show Tryd.prog.funcNamed "earshot/earshotlaw01.FracOwn" = some 16 by kernel_rfl).symm.trans hf) |>.symm
      obtain rfl : fn = Tryd.f16 := (Option.some.inj (Tryd.func16.symm.trans hfn)).symm
      exact ⟨by kernel_rfl, fun j t ht => by
        rw [Tryd.params16] at ht
        have h3 : Tryd.prog.wantsStandIn t = false := by
          rcases j with _ | _ | _ | j
          all_goals first
            | (simp at ht; done)
            | (simp at ht; subst ht; kernel_rfl)
        exact h3⟩)
    (by kernel_rfl)
#print axioms fracOwn_holds
end Go.Proofs.YtaahbabdbopphaaDoor
