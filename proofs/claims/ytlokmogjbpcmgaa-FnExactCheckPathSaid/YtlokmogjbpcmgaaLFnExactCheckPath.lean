/- The law FnExactCheckPath answers true for all arguments: the program's function and the reference's agree as the law says. No condition. -/
import Derived.Test.YtlokmogjbpcmgaaRows
import Derived.WalkKit
import Derived.ProofKit
import Derived.OpenShut
import Derived.ShutString
import Derived.ChangeOld
import Derived.Below
import Derived.SizedLaws
import Derived.Carry
import Derived.Test.YtlokmogjbpcmgaaEa
namespace Go.Proofs.Ytlokmogjbpcmgaa.fnExactCheckPath
open Go Go.ChangeShapes Go.WideShapes Go.ChangeAt Go.RowKit Go.Cv Go.Cv.Enc Go.Proofs.Ytlokmogjbpcmgaa.Cv
open Go.ChangeMaps (open_string shut_string)
set_option linter.unusedVariables false
set_option linter.unusedSimpArgs false
theorem own : ownKnob Try.prog.godebug = none := by kernel_rfl
theorem laidOut : laidOutB Try.prog = true := by kernel_rfl
theorem good : Go.Cv.Good cfg where
  mixed := by kernel_rfl
  g := fun g cs h => by simp [cfg] at h
  ext := fun f h he => by simp [cfg] at he
theorem extNz : ExtNz cfg := fun f h he => by simp [cfg] at he
theorem rd3 : Rd Try.prog 3 Int := Rd.int Try.underlying3 (by kernel_rfl)
theorem rd31 : Rd Try.prog 31 (List Int) := Rd.slice Try.underlying31 (by kernel_rfl) (by rw [show Try.prog.bytesOf 3 = 8 from by kernel_rfl]; decide) rd3
theorem rd64 : Rd Try.prog 64 Ent := Rd.ent (by kernel_rfl) (by kernel_rfl) (by kernel_rfl) rd31 rd3
theorem rd30 : Rd Try.prog 30 (List Ent) := Rd.slice Try.underlying30 (by kernel_rfl) (by rw [show Try.prog.bytesOf 64 = 32 from by kernel_rfl]; decide) rd64
set_option maxRecDepth 100000 in
theorem lifted (os : Os) (started : os.Started) (H : Type) (enc : TypeId × Value → H) :
    ReturnsInHanded {} Try.checked os 4 .any (Rows.fnExactCheckPathSpec.pre6 enc Try.prog Try.f4 Rows.fnExactCheckPathRow.domain false) (Rows.fnExactCheckPathSpec.post enc Try.prog Try.f4 false true false false) := by
  refine returnsInHanded_of_change_sized (C := Try.checked) own started (by kernel_rfl) Try.func4
    (ChangeSpec.witness6 (enc := enc) (C := Try.checked) false ⟨#[], #[.slice none 0 0, .int .i64 0, .int .i64 0, .slice none 0 0], []⟩ 8 (by kernel_rfl) (by kernel_rfl) (by kernel_rfl) (by kernel_rfl)) ?_
  intro W base args ds gs before hval0 hW hcnd hsz0 _
  have hsz : (DataW.weightsEach Try.prog (Try.f4.params.toList ++ Rows.fnExactCheckPathSpec.plain.varTypes Try.prog) (ds ++ gs)).all (· ≤ reachBytes) = true := hsz0
  have hval : ∀ (j : Nat) t v, Try.f4.params[j]? = some t → args[j]? = some v → Value.okWide Try.prog W .any base t v := hval0
  have hW' := hW
  obtain ⟨p, q, hA0, hV, rfl, hfz, hnd⟩ := hW
  have hA : DataW.TrodAll enc Try.prog W 0 (fun _ => true) true Try.f4.params.toList args.toList ds p := hA0
  rw [Try.params4] at hA
  obtain ⟨v0, vs0, d0, ds0, p0, q0, hargs, rfl, rfl, h0, r0⟩ := trodAll_cons hA
  obtain ⟨v1, vs1, d1, ds1, p1, q1, rfl, rfl, rfl, h1, r1⟩ := trodAll_cons r0
  obtain ⟨v2, vs2, d2, ds2, p2, q2, rfl, rfl, rfl, h2, r2⟩ := trodAll_cons r1
  obtain ⟨v3, vs3, d3, ds3, p3, q3, rfl, rfl, rfl, h3, r3⟩ := trodAll_cons r2
  obtain ⟨rfl, rfl, rfl⟩ := trodAll_nil r3
  obtain rfl : args = #[v0, v1, v2, v3] := by cases args; simp_all
  obtain ⟨rfl, rfl⟩ := trodVars_none hV
  have k0 := h0
  have lt0 : ∀ x ∈ p0, x.block < W.heap.size := by obtain ⟨m, hm⟩ := k0; exact DataW.trod_lt m _ _ _ hm
  obtain ⟨x0, y0, z0, rfl⟩ := okWide_slice Try.underlying30 (hval 0 30 v0 rfl rfl)
  obtain ⟨a0, ra0, b0⟩ := Rd.arg1 rd30 rfl (fun _ => rfl) h0 (weights_of hsz (j := 0) (t := 30) (d := d0) rfl rfl)
  have k1 := h1
  have lt1 : ∀ x ∈ p1, x.block < W.heap.size := by obtain ⟨m, hm⟩ := k1; exact DataW.trod_lt m _ _ _ hm
  obtain ⟨x1, rfl⟩ := okWide_int Try.underlying3 (hval 1 3 v1 rfl rfl)
  obtain ⟨a1, ra1, b1⟩ := Rd.arg1 rd3 rfl (fun _ => rfl) h1 (weights_of hsz (j := 1) (t := 3) (d := d1) rfl rfl)
  have k2 := h2
  have lt2 : ∀ x ∈ p2, x.block < W.heap.size := by obtain ⟨m, hm⟩ := k2; exact DataW.trod_lt m _ _ _ hm
  obtain ⟨x2, rfl⟩ := okWide_int Try.underlying3 (hval 2 3 v2 rfl rfl)
  obtain ⟨a2, ra2, b2⟩ := Rd.arg1 rd3 rfl (fun _ => rfl) h2 (weights_of hsz (j := 2) (t := 3) (d := d2) rfl rfl)
  have k3 := h3
  have lt3 : ∀ x ∈ p3, x.block < W.heap.size := by obtain ⟨m, hm⟩ := k3; exact DataW.trod_lt m _ _ _ hm
  obtain ⟨x3, y3, z3, rfl⟩ := okWide_slice Try.underlying31 (hval 3 31 v3 rfl rfl)
  obtain ⟨a3, ra3, b3⟩ := Rd.arg1 rd31 rfl (fun _ => rfl) h3 (weights_of hsz (j := 3) (t := 31) (d := d3) rfl rfl)
  clear hA0 hval0 hsz0 hsz
  refine (law_calls (A := cfg) good extNz Try.func4 rfl (by kernel_rfl) (c_laws_FnExactCheckPath a0 a1 a2 a3 1 (by decide) b0.1 (fun e he => (b0.2 e he).1.1) b3.1) (W := W) (fun g cs h => by simp [cfg] at h) (RL.cons ra0 (RL.cons ra1 (RL.cons ra2 (RL.cons ra3 RL.nil))))).mono fun e W' ⟨he, bel⟩ => ?_
  subst he
  exact ⟨_, rfl, _, _, _, [], _, [], hW', trodAll_mk1 (shut_bool Try.underlying4 _), (trodAll_cons_mk (Below.trod laidOut (by kernel_rfl) (of_decide_eq_true (by kernel_rfl)) k0 bel lt0) (trodAll_cons_mk (Below.trod laidOut (by kernel_rfl) (of_decide_eq_true (by kernel_rfl)) k1 bel lt1) (trodAll_cons_mk (Below.trod laidOut (by kernel_rfl) (of_decide_eq_true (by kernel_rfl)) k2 bel lt2) (trodAll_cons_mk (Below.trod laidOut (by kernel_rfl) (of_decide_eq_true (by kernel_rfl)) k3 bel lt3) trodAll_mk0)))), rfl, bel.frame _, fun h => by cases h⟩
theorem over : Rows.fnExactCheckPathRow.holds Try.pinned (OpenSpec.ofChange Rows.fnExactCheckPathSpec) :=
  OpenClaim.holds_of_wide 4 Try.f4 rfl rfl rfl rfl rfl rfl rfl ⟨rfl, rfl, rfl, rfl, rfl⟩ rfl rfl rfl rfl rfl (by kernel_rfl) Try.func4 (by kernel_rfl)
    (of_decide_eq_true (by kernel_rfl)) (by unfold Func.isWrapper; first | (rw [if_pos (by decide +kernel)]; kernel_rfl) | (rw [if_neg (by decide +kernel)]; exact ⟨rfl, rfl⟩))
    (fun os started H enc _ => lifted os started H enc)
theorem proved : Rows.FnExactCheckPathSaid := over
#print axioms proved
end Go.Proofs.Ytlokmogjbpcmgaa.fnExactCheckPath
namespace Go.Proofs.Ytlokmogjbpcmgaa
/-- The row, under a short name, for the claim. -/
theorem fnExactCheckPath_holds : Rows.FnExactCheckPathSaid := fnExactCheckPath.proved
end Go.Proofs.Ytlokmogjbpcmgaa
