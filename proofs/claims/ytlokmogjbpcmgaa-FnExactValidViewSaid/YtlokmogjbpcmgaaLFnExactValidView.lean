/- The law FnExactValidView answers true for all arguments: the program's function and the reference's agree as the law says. No condition. -/
import Derived.Test.YtlokmogjbpcmgaaRows
import Derived.WalkKit
import Derived.ProofKit
import Derived.OpenShut
import Derived.ShutString
import Derived.ChangeOld
import Derived.Below
import Derived.SizedLaws
import Derived.Carry
import Derived.Test.YtlokmogjbpcmgaaE2
namespace Go.Proofs.Ytlokmogjbpcmgaa.fnExactValidView
open Go Go.ChangeShapes Go.WideShapes Go.ChangeAt Go.RowKit Go.Cv Go.Cv.Enc Go.Proofs.Ytlokmogjbpcmgaa.Cv
open Go.ChangeMaps (open_string shut_string)
set_option linter.unusedVariables false
set_option linter.unusedSimpArgs false
theorem own : ownKnob Try.prog.godebug = none := by kernel_rfl
theorem laidOut : laidOutB Try.prog = true := by kernel_rfl
theorem good : Go.Cv.Good cfg where
  mixed := by kernel_rfl
  g := fun g cs h => by simp [cfg] at h
  ext := fun f h he => by simp [cfg] at he
theorem extNz : ExtNz cfg := fun f h he => by simp [cfg] at he
theorem rd3 : Rd Try.prog 3 Int := Rd.int Try.underlying3 (by kernel_rfl)
theorem rd93 : Rd Try.prog 93 Tim := Rd.tim (by kernel_rfl) (by kernel_rfl) (by kernel_rfl) rd3 rd3
theorem rd41 : Rd Try.prog 41 (List Tim) := Rd.slice Try.underlying41 (by kernel_rfl) (by rw [show Try.prog.bytesOf 93 = 16 from by kernel_rfl]; decide) rd93
theorem rd31 : Rd Try.prog 31 (List Int) := Rd.slice Try.underlying31 (by kernel_rfl) (by rw [show Try.prog.bytesOf 3 = 8 from by kernel_rfl]; decide) rd3
theorem rd95 : Rd Try.prog 95 Upd := Rd.upd (by kernel_rfl) (by kernel_rfl) (by kernel_rfl) (by kernel_rfl) rd31 rd93 rd3
theorem rd42 : Rd Try.prog 42 (List Upd) := Rd.slice Try.underlying42 (by kernel_rfl) (by rw [show Try.prog.bytesOf 95 = 48 from by kernel_rfl]; decide) rd95
theorem rd44 : Rd Try.prog 44 Vw := Rd.vw (by kernel_rfl) (by kernel_rfl) (by kernel_rfl) (by kernel_rfl) rd41 rd41 rd42
set_option maxRecDepth 100000 in
theorem lifted (os : Os) (started : os.Started) (H : Type) (enc : TypeId × Value → H) :
    ReturnsInHanded {} Try.checked os 6 .any (Rows.fnExactValidViewSpec.pre6 enc Try.prog Try.f6 Rows.fnExactValidViewRow.domain false) (Rows.fnExactValidViewSpec.post enc Try.prog Try.f6 false true false false) := by
  refine returnsInHanded_of_change_sized (C := Try.checked) own started (by kernel_rfl) Try.func6
    (ChangeSpec.witness6 (enc := enc) (C := Try.checked) false ⟨#[], #[.agg #[.slice none 0 0, .slice none 0 0, .slice none 0 0]], []⟩ 8 (by kernel_rfl) (by kernel_rfl) (by kernel_rfl) (by kernel_rfl)) ?_
  intro W base args ds gs before hval0 hW hcnd hsz0 _
  have hsz : (DataW.weightsEach Try.prog (Try.f6.params.toList ++ Rows.fnExactValidViewSpec.plain.varTypes Try.prog) (ds ++ gs)).all (· ≤ reachBytes) = true := hsz0
  have hval : ∀ (j : Nat) t v, Try.f6.params[j]? = some t → args[j]? = some v → Value.okWide Try.prog W .any base t v := hval0
  have hW' := hW
  obtain ⟨p, q, hA0, hV, rfl, hfz, hnd⟩ := hW
  have hA : DataW.TrodAll enc Try.prog W 0 (fun _ => true) true Try.f6.params.toList args.toList ds p := hA0
  rw [Try.params6] at hA
  obtain ⟨v0, vs0, d0, ds0, p0, q0, hargs, rfl, rfl, h0, r0⟩ := trodAll_cons hA
  obtain ⟨rfl, rfl, rfl⟩ := trodAll_nil r0
  obtain rfl : args = #[v0] := by cases args; simp_all
  obtain ⟨rfl, rfl⟩ := trodVars_none hV
  have k0 := h0
  have lt0 : ∀ x ∈ p0, x.block < W.heap.size := by obtain ⟨m, hm⟩ := k0; exact DataW.trod_lt m _ _ _ hm
  obtain ⟨c0, rfl⟩ : ∃ c, v0 = .agg c := by
    have z := (hval 0 44 v0 rfl rfl)
    simp only [Value.okWide, Try.underlying44] at z
    obtain ⟨c, hc, _⟩ := z
    exact ⟨c, hc⟩
  obtain ⟨a0, ra0, b0⟩ := Rd.argS rd44 (fun _ => rfl) h0 (weights_of hsz (j := 0) (t := 44) (d := d0) rfl rfl)
  clear hA0 hval0 hsz0 hsz
  refine (law_calls (A := cfg) good extNz Try.func6 rfl (by kernel_rfl) (c_laws_FnExactValidView a0 1 (by decide) b0.1.1 b0.2.1.1 b0.2.2.1 (fun e he => (b0.2.2.2 e he).1.1)) (W := W) (fun g cs h => by simp [cfg] at h) (RL.cons ra0 RL.nil)).mono fun e W' ⟨he, bel⟩ => ?_
  subst he
  exact ⟨_, rfl, _, _, _, [], _, [], hW', trodAll_mk1 (shut_bool Try.underlying4 _), (trodAll_cons_mk (Below.trod laidOut (by kernel_rfl) (of_decide_eq_true (by kernel_rfl)) k0 bel lt0) trodAll_mk0), rfl, bel.frame _, fun h => by cases h⟩
theorem over : Rows.fnExactValidViewRow.holds Try.pinned (OpenSpec.ofChange Rows.fnExactValidViewSpec) :=
  OpenClaim.holds_of_wide 6 Try.f6 rfl rfl rfl rfl rfl rfl rfl ⟨rfl, rfl, rfl, rfl, rfl⟩ rfl rfl rfl rfl rfl (by kernel_rfl) Try.func6 (by kernel_rfl)
    (of_decide_eq_true (by kernel_rfl)) (by unfold Func.isWrapper; first | (rw [if_pos (by decide +kernel)]; kernel_rfl) | (rw [if_neg (by decide +kernel)]; exact ⟨rfl, rfl⟩))
    (fun os started H enc _ => lifted os started H enc)
theorem proved : Rows.FnExactValidViewSaid := over
#print axioms proved
end Go.Proofs.Ytlokmogjbpcmgaa.fnExactValidView
namespace Go.Proofs.Ytlokmogjbpcmgaa
/-- The row, under a short name, for the claim. -/
theorem fnExactValidView_holds : Rows.FnExactValidViewSaid := fnExactValidView.proved
end Go.Proofs.Ytlokmogjbpcmgaa
