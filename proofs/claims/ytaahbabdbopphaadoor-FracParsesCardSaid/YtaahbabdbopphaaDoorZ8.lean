/- The law FracParses holds: for every input the call returns true, and each argument reads afterwards as it read before. For strings of at most 200 bytes, or of more than 10000; in all other cases the examples are checked. The package-level tables that the run reads are tied to the program's text by the card. -/
import Derived.Test.YtaahbabdbopphaaDoorCards
import Derived.Test.YtaahbabdbopphaaDoorTie
import Derived.Test.YtaahbabdbopphaaDoorL0
import Derived.Test.YtaahbabdbopphaaDoorA08
import Derived.SevenTiedAt
import Derived.ChangeMaps5
namespace Go.Proofs.YtaahbabdbopphaaDoor
open Go.ChangeShapes Go.WideShapes Go.ChangeAt Go.WideElems Go.RowKit Go.Joins Mx

set_option maxRecDepth 100000 in
theorem fracParses_lifted (os : Os) (started : os.Started) (H : Type) (enc : TypeId × Value → H) :
    ReturnsInHanded {} Tryd.checked os 8 .any (fun w args => (Rows.fracParsesSpec.pre enc Tryd.prog Tryd.f8 [] false w args ∧ laidMetH Tryd.prog laids w) ∧ sizedMet enc Tryd.prog Tryd.f8 (OpenSpec.ofChange Rows.fracParsesSpec) false w args)
      (Rows.fracParsesSpec.post enc Tryd.prog Tryd.f8 false true false false) := by
  refine returnsInHanded_of_change_and (C := Tryd.checked) (X := fun w _ => laidMetH Tryd.prog laids w) (fun _ _ _ hh h => h.of_heap hh) Tryd.own started (by kernel_rfl) Tryd.func8
    (ChangeSpec.witness_shaped (enc := enc) (C := Tryd.checked) (os := os) (X := fun w _ => laidMetH Tryd.prog laids w) false (World.doorLaid Tryd.prog 400 os) #[.string ⟨#[]⟩] 8 rfl (World.shaped_of_RefB (by kernel_rfl) (by kernel_rfl)) (by kernel_rfl) (by kernel_rfl) (by kernel_rfl) (door_met os _)) ?_
  intro W base args ds gs before hval0 hW _ _ hL _
  have hval : ∀ (j : Nat) t v, Tryd.f8.params[j]? = some t → args[j]? = some v → Value.okWide Tryd.prog W .any base t v := hval0
  have hW' := hW
  have hlt := hW.lt
  obtain ⟨p, q, hA0, hV, rfl, hfz, hnd⟩ := hW
  have hA : DataW.TrodAll enc Tryd.prog W 0 (fun _ => true) true Tryd.f8.params.toList args.toList ds p := hA0
  rw [Tryd.params8] at hA hval
  obtain ⟨v0, d0, rfl, rfl, h0⟩ := trodAll_one hA
  obtain ⟨rfl, rfl⟩ := trodVars_none hV
  obtain ⟨z0, ev0, ed0, ep0, hw0⟩ := Go.ChangeMaps.open_string Tryd.underlying9 (hval 0 9 v0 rfl rfl) h0
  subst ev0
  clear hA0 hval0
  simp only [List.append_nil] at hW' hlt
  have ht := tab_of_laid hL
  refine (FracParses_any z0 W ht (Nat.le_trans hw0 (by decide))).mono fun e W' ⟨he, hb⟩ => ?_
  subst he
  have hargs := trodAll_mk1 (Below.trod Tryd.laidOut (by kernel_rfl) (of_decide_eq_true (by kernel_rfl)) h0 hb (fun x hx => hlt x (by simp [hx])))
  exact ⟨_, rfl, _, _, _, [], _, [], hW', trodAll_mk1 (shut_bool Tryd.underlying4 true), hargs, rfl, hb.frame _, fun h => by cases h⟩

theorem fracParses_row : Rows.FracParsesSaid :=
  OpenClaim.holds_of_wide 8 Tryd.f8 rfl rfl rfl rfl rfl rfl rfl ⟨rfl, rfl, rfl, rfl, rfl⟩ rfl rfl rfl rfl rfl (by kernel_rfl) Tryd.func8 (by kernel_rfl)
    (of_decide_eq_true (by kernel_rfl)) (by unfold Func.isWrapper; first | (rw [if_pos (by decide +kernel)]; kernel_rfl) | (rw [if_neg (by decide +kernel)]; exact ⟨rfl, rfl⟩))
    (fun os started H enc _ => fracParses_lifted os started H enc)

theorem fracParses_holds : Rows.FracParsesCardSaid :=
  Claim7.holds_tied_plain_at .later [] [.data, .data, .data] true (true, "118a4a925b065a163283db546db1f4fa0252a57c9de3c043d098f177817e6c1f") false
    fracParses_row (fun _ h => by cases h) (by kernel_rfl) (fun _ h => by cases h) fracParses_row_tie rfl ⟨rfl, rfl⟩ (by kernel_rfl) rfl
    (fun f fn hf hfn => by
      obtain rfl : f = 8 := Option.some.inj ((show Tryd.prog.funcNamed "earshot/earshotlaw01.FracParses" = some 8 by kernel_rfl).symm.trans hf) |>.symm
      obtain rfl : fn = Tryd.f8 := (Option.some.inj (Tryd.func8.symm.trans hfn)).symm
      exact ⟨by kernel_rfl, fun j t ht => by
        rw [Tryd.params8] at ht
        have h3 : Tryd.prog.wantsStandIn t = false := by
          rcases j with _ | _ | _ | j
          all_goals first
            | (simp at ht; done)
            | (simp at ht; subst ht; kernel_rfl)
        exact h3⟩)
    (by kernel_rfl)
#print axioms fracParses_holds
end Go.Proofs.YtaahbabdbopphaaDoor
