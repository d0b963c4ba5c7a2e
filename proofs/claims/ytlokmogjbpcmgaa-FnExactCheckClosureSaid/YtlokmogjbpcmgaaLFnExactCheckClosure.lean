/- The law FnExactCheckClosure answers true for all arguments: the program's function and the reference's agree as the law says. No condition. -/
import Derived.Test.YtlokmogjbpcmgaaRows
import Derived.WalkKit
import Derived.ProofKit
import Derived.OpenShut
import Derived.ShutString
import Derived.ChangeOld
import Derived.Below
import Derived.SizedLaws
import Derived.Carry
import Derived.Test.YtlokmogjbpcmgaaE2
namespace Go.Proofs.Ytlokmogjbpcmgaa.fnExactCheckClosure
open Go Go.ChangeShapes Go.WideShapes Go.ChangeAt Go.RowKit Go.Cv Go.Cv.Enc Go.Proofs.Ytlokmogjbpcmgaa.Cv
open Go.ChangeMaps (open_string shut_string)
set_option linter.unusedVariables false
set_option linter.unusedSimpArgs false
theorem own : ownKnob Try.prog.godebug = none := by kernel_rfl
theorem laidOut : laidOutB Try.prog = true := by kernel_rfl
theorem good : Go.Cv.Good cfg where
  mixed := by kernel_rfl
  g := fun g cs h => by simp [cfg] at h
  ext := fun f h he => by simp [cfg] at he
theorem extNz : ExtNz cfg := fun f h he => by simp [cfg] at he
theorem rd3 : Rd Try.prog 3 Int := Rd.int Try.underlying3 (by kernel_rfl)
theorem rd31 : Rd Try.prog 31 (List Int) := Rd.slice Try.underlying31 (by kernel_rfl) (by rw [show Try.prog.bytesOf 3 = 8 from by kernel_rfl]; decide) rd3
theorem rd64 : Rd Try.prog 64 Ent := Rd.ent (by kernel_rfl) (by kernel_rfl) (by kernel_rfl) rd31 rd3
theorem rd30 : Rd Try.prog 30 (List Ent) := Rd.slice Try.underlying30 (by kernel_rfl) (by rw [show Try.prog.bytesOf 64 = 32 from by kernel_rfl]; decide) rd64
set_option maxRecDepth 100000 in
theorem lifted (os : Os) (started : os.Started) (H : Type) (enc : TypeId × Value → H) :
    ReturnsInHanded {} Try.checked os 5 .any (Rows.fnExactCheckClosureSpec.pre6 enc Try.prog Try.f5 Rows.fnExactCheckClosureRow.domain false) (Rows.fnExactCheckClosureSpec.post enc Try.prog Try.f5 false true false false) := by
  refine returnsInHanded_of_change_sized (C := Try.checked) own started (by kernel_rfl) Try.func5
    (ChangeSpec.witness6 (enc := enc) (C := Try.checked) false ⟨#[], #[.slice none 0 0, .slice none 0 0], []⟩ 8 (by kernel_rfl) (by kernel_rfl) (by kernel_rfl) (by kernel_rfl)) ?_
  intro W base args ds gs before hval0 hW hcnd hsz0 _
  have hsz : (DataW.weightsEach Try.prog (Try.f5.params.toList ++ Rows.fnExactCheckClosureSpec.plain.varTypes Try.prog) (ds ++ gs)).all (· ≤ reachBytes) = true := hsz0
  have hval : ∀ (j : Nat) t v, Try.f5.params[j]? = some t → args[j]? = some v → Value.okWide Try.prog W .any base t v := hval0
  have hW' := hW
  obtain ⟨p, q, hA0, hV, rfl, hfz, hnd⟩ := hW
  have hA : DataW.TrodAll enc Try.prog W 0 (fun _ => true) true Try.f5.params.toList args.toList ds p := hA0
  rw [Try.params5] at hA
  obtain ⟨v0, vs0, d0, ds0, p0, q0, hargs, rfl, rfl, h0, r0⟩ := trodAll_cons hA
  obtain ⟨v1, vs1, d1, ds1, p1, q1, rfl, rfl, rfl, h1, r1⟩ := trodAll_cons r0
  obtain ⟨rfl, rfl, rfl⟩ := trodAll_nil r1
  obtain rfl : args = #[v0, v1] := by cases args; simp_all
  obtain ⟨rfl, rfl⟩ := trodVars_none hV
  have k0 := h0
  have lt0 : ∀ x ∈ p0, x.block < W.heap.size := by obtain ⟨m, hm⟩ := k0; exact DataW.trod_lt m _ _ _ hm
  obtain ⟨x0, y0, z0, rfl⟩ := okWide_slice Try.underlying30 (hval 0 30 v0 rfl rfl)
  obtain ⟨a0, ra0, b0⟩ := Rd.arg1 rd30 rfl (fun _ => rfl) h0 (weights_of hsz (j := 0) (t := 30) (d := d0) rfl rfl)
  have k1 := h1
  have lt1 : ∀ x ∈ p1, x.block < W.heap.size := by obtain ⟨m, hm⟩ := k1; exact DataW.trod_lt m _ _ _ hm
  obtain ⟨x1, y1, z1, rfl⟩ := okWide_slice Try.underlying30 (hval 1 30 v1 rfl rfl)
  obtain ⟨a1, ra1, b1⟩ := Rd.arg1 rd30 rfl (fun _ => rfl) h1 (weights_of hsz (j := 1) (t := 30) (d := d1) rfl rfl)
  clear hA0 hval0 hsz0 hsz
  refine (law_calls (A := cfg) good extNz Try.func5 rfl (by kernel_rfl) (c_laws_FnExactCheckClosure a0 a1 1 (by decide) b0.1 (fun e he => (b0.2 e he).1.1) b1.1 (fun e he => (b1.2 e he).1.1)) (W := W) (fun g cs h => by simp [cfg] at h) (RL.cons ra0 (RL.cons ra1 RL.nil))).mono fun e W' ⟨he, bel⟩ => ?_
  subst he
  exact ⟨_, rfl, _, _, _, [], _, [], hW', trodAll_mk1 (shut_bool Try.underlying4 _), (trodAll_cons_mk (Below.trod laidOut (by kernel_rfl) (of_decide_eq_true (by kernel_rfl)) k0 bel lt0) (trodAll_cons_mk (Below.trod laidOut (by kernel_rfl) (of_decide_eq_true (by kernel_rfl)) k1 bel lt1) trodAll_mk0)), rfl, bel.frame _, fun h => by cases h⟩
theorem over : Rows.fnExactCheckClosureRow.holds Try.pinned (OpenSpec.ofChange Rows.fnExactCheckClosureSpec) :=
  OpenClaim.holds_of_wide 5 Try.f5 rfl rfl rfl rfl rfl rfl rfl ⟨rfl, rfl, rfl, rfl, rfl⟩ rfl rfl rfl rfl rfl (by kernel_rfl) Try.func5 (by kernel_rfl)
    (of_decide_eq_true (by kernel_rfl)) (by unfold Func.isWrapper; first | (rw [if_pos (by decide +kernel)]; kernel_rfl) | (rw [if_neg (by decide +kernel)]; exact ⟨rfl, rfl⟩))
    (fun os started H enc _ => lifted os started H enc)
theorem proved : Rows.FnExactCheckClosureSaid := over
#print axioms proved
end Go.Proofs.Ytlokmogjbpcmgaa.fnExactCheckClosure
namespace Go.Proofs.Ytlokmogjbpcmgaa
/-- The row, under a short name, for the claim. -/
theorem fnExactCheckClosure_holds : Rows.FnExactCheckClosureSaid := fnExactCheckClosure.proved
end Go.Proofs.Ytlokmogjbpcmgaa
