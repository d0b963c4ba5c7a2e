/- The program's NewView returns what the reference's returns: the law answers true. No condition. -/
import Derived.Test.YtlokmogjbpcmgaaRows
import Derived.WalkKit
import Derived.ProofKit
import Derived.OpenShut
import Derived.ShutString
import Derived.ChangeOld
import Derived.Below
import Derived.SizedLaws
import Derived.Test.YtlokmogjbpcmgaaCvd
namespace Go.Proofs.Ytlokmogjbpcmgaa.newView
open Go.ChangeShapes Go.WideShapes Go.ChangeAt Go.RowKit Go.Cv
set_option linter.unusedVariables false
noncomputable def cfg : Cfg := { P := Try.prog, keep := fun f => f == 10, ext := fun _ => Option.none, glob := fun _ => Option.none }
theorem good : Go.Cv.Good cfg where
  mixed := by kernel_rfl
  g := fun g cs h => by simp [cfg] at h
  ext := fun f h he => by simp [cfg] at he
theorem extNz : ExtNz cfg := fun f h he => by simp [cfg] at he
def isT : Res → Bool | some (.val (.bool true), _, _) => true | _ => false
theorem isT_spec {r : Res} (h : isT r = true) : ∃ n E, r = some (.val (.bool true), n, E) := by
  unfold isT at h
  split at h
  · exact ⟨_, _, rfl⟩
  · simp at h
set_option maxRecDepth 100000 in
theorem runs : isT (callF cfg 200 3 [] 1) = true := by kernel_rfl
theorem own : ownKnob Try.prog.godebug = none := by kernel_rfl
set_option maxRecDepth 100000 in
theorem lifted (os : Os) (started : os.Started) (H : Type) (enc : TypeId × Value → H) :
    ReturnsInHanded {} Try.checked os 3 .any (Rows.fnExactNewViewSpec.pre6 enc Try.prog Try.f3 Rows.fnExactNewViewRow.domain false) (Rows.fnExactNewViewSpec.post enc Try.prog Try.f3 false true false false) := by
  refine returnsInHanded_of_change_sized (C := Try.checked) own started (by kernel_rfl) Try.func3
    (ChangeSpec.witness6 (enc := enc) (C := Try.checked) false ⟨#[], #[], []⟩ 8 (by kernel_rfl) (by kernel_rfl) (by kernel_rfl) (by kernel_rfl)) ?_
  intro W base args ds gs before hval0 hW hcnd hsz0 _
  have hW' := hW
  obtain ⟨p, q, hA0, hV, rfl, hfz, hnd⟩ := hW
  have hA : DataW.TrodAll enc Try.prog W 0 (fun _ => true) true Try.f3.params.toList args.toList ds p := hA0
  rw [Try.params3] at hA
  obtain ⟨rfl, rfl, rfl⟩ := trodAll_none hA
  obtain ⟨rfl, rfl⟩ := trodVars_none hV
  clear hA0 hval0 hsz0
  obtain ⟨n', E, hr⟩ := isT_spec runs
  refine (law_calls (A := cfg) good extNz Try.func3 rfl (by kernel_rfl) (call_some.2 ⟨200, hr⟩) (W := W) (fun g cs h => by simp [cfg] at h) RL.nil).mono fun e W' ⟨he, bel⟩ => ?_
  subst he
  exact ⟨_, rfl, _, _, _, [], _, [], hW', trodAll_mk1 (shut_bool Try.underlying4 _), trodAll_mk0, rfl, bel.frame _, fun h => by cases h⟩
theorem over : Rows.fnExactNewViewRow.holds Try.pinned (OpenSpec.ofChange Rows.fnExactNewViewSpec) :=
  OpenClaim.holds_of_wide 3 Try.f3 rfl rfl rfl rfl rfl rfl rfl ⟨rfl, rfl, rfl, rfl, rfl⟩ rfl rfl rfl rfl rfl (by kernel_rfl) Try.func3 (by kernel_rfl)
    (of_decide_eq_true (by kernel_rfl)) (by unfold Func.isWrapper; first | (rw [if_pos (by decide +kernel)]; kernel_rfl) | (rw [if_neg (by decide +kernel)]; exact ⟨rfl, rfl⟩))
    (fun os started H enc _ => lifted os started H enc)
theorem proved : Rows.FnExactNewViewSaid := over
#print axioms proved
end Go.Proofs.Ytlokmogjbpcmgaa.newView
namespace Go.Proofs.Ytlokmogjbpcmgaa
/-- The row, under a short name, for the claim. -/
theorem fnExactNewView_holds : Rows.FnExactNewViewSaid := newView.proved
end Go.Proofs.Ytlokmogjbpcmgaa
