/- What the functions of the program compute (part a). No condition. -/
import Derived.Test.YtlokmogjbpcmgaaRows
import Derived.Test.YtlokmogjbpcmgaaRD
set_option linter.unusedVariables false
set_option linter.unusedSimpArgs false

namespace Go.Proofs.Ytlokmogjbpcmgaa.Cv
open Go Go.Cv Go.Proofs Go.Cv.Enc
noncomputable def cfg : Cfg := { P := Try.prog, keep := fun f => 0, mode := fun f => match f with | 48 => 2 | 43 => 2 | 70 => 2 | 52 => 2 | 20 => 2 | 71 => 2 | 50 => 2 | 51 => 2 | 44 => 2 | 42 => 2 | 15 => 2 | 108 => 2 | 103 => 2 | 97 => 2 | 90 => 2 | 81 => 2 | 72 => 2 | 55 => 2 | 46 => 2 | 18 => 2 | 47 => 3 | 17 => 3 | 45 => 3 | 16 => 3 | 69 => 2 | 41 => 2 | 14 => 2 | 49 => 2 | 19 => 2 | _ => 0, ext := fun _ => Option.none, glob := fun _ => Option.none }
@[simp] theorem cfg_P : cfg.P = Try.prog := rfl
theorem nzc : CallNz cfg.call := nz_cfg (fun _ => rfl)
@[simp] theorem cm4 (xs : List D) (n : Nat) : callM cfg cfg.call 4 xs n = cfg.call 4 (xs.map D.norm) n := callM_0 rfl
@[simp] theorem cm14 (xs : List D) (n : Nat) : callM cfg cfg.call 14 xs n = lentR (cfg.call 14 (xs.map frz) n) := callM_2 rfl
@[simp] theorem cm15 (xs : List D) (n : Nat) : callM cfg cfg.call 15 xs n = lentR (cfg.call 15 (xs.map frz) n) := callM_2 rfl
@[simp] theorem cm16 (xs : List D) (n : Nat) : callM cfg cfg.call 16 xs n = goneR (movE xs) (cfg.call 16 (xs.map frz) n) := callM_3 rfl
@[simp] theorem cm17 (xs : List D) (n : Nat) : callM cfg cfg.call 17 xs n = goneR (movE xs) (cfg.call 17 (xs.map frz) n) := callM_3 rfl
@[simp] theorem cm18 (xs : List D) (n : Nat) : callM cfg cfg.call 18 xs n = lentR (cfg.call 18 (xs.map frz) n) := callM_2 rfl
@[simp] theorem cm19 (xs : List D) (n : Nat) : callM cfg cfg.call 19 xs n = lentR (cfg.call 19 (xs.map frz) n) := callM_2 rfl
@[simp] theorem cm20 (xs : List D) (n : Nat) : callM cfg cfg.call 20 xs n = lentR (cfg.call 20 (xs.map frz) n) := callM_2 rfl
@[simp] theorem cm41 (xs : List D) (n : Nat) : callM cfg cfg.call 41 xs n = lentR (cfg.call 41 (xs.map frz) n) := callM_2 rfl
@[simp] theorem cm42 (xs : List D) (n : Nat) : callM cfg cfg.call 42 xs n = lentR (cfg.call 42 (xs.map frz) n) := callM_2 rfl
@[simp] theorem cm43 (xs : List D) (n : Nat) : callM cfg cfg.call 43 xs n = lentR (cfg.call 43 (xs.map frz) n) := callM_2 rfl
@[simp] theorem cm44 (xs : List D) (n : Nat) : callM cfg cfg.call 44 xs n = lentR (cfg.call 44 (xs.map frz) n) := callM_2 rfl
@[simp] theorem cm45 (xs : List D) (n : Nat) : callM cfg cfg.call 45 xs n = goneR (movE xs) (cfg.call 45 (xs.map frz) n) := callM_3 rfl
@[simp] theorem cm46 (xs : List D) (n : Nat) : callM cfg cfg.call 46 xs n = lentR (cfg.call 46 (xs.map frz) n) := callM_2 rfl
@[simp] theorem cm47 (xs : List D) (n : Nat) : callM cfg cfg.call 47 xs n = goneR (movE xs) (cfg.call 47 (xs.map frz) n) := callM_3 rfl
@[simp] theorem cm48 (xs : List D) (n : Nat) : callM cfg cfg.call 48 xs n = lentR (cfg.call 48 (xs.map frz) n) := callM_2 rfl
@[simp] theorem cm49 (xs : List D) (n : Nat) : callM cfg cfg.call 49 xs n = lentR (cfg.call 49 (xs.map frz) n) := callM_2 rfl
@[simp] theorem cm50 (xs : List D) (n : Nat) : callM cfg cfg.call 50 xs n = lentR (cfg.call 50 (xs.map frz) n) := callM_2 rfl
@[simp] theorem cm51 (xs : List D) (n : Nat) : callM cfg cfg.call 51 xs n = lentR (cfg.call 51 (xs.map frz) n) := callM_2 rfl
@[simp] theorem cm52 (xs : List D) (n : Nat) : callM cfg cfg.call 52 xs n = lentR (cfg.call 52 (xs.map frz) n) := callM_2 rfl
@[simp] theorem cm55 (xs : List D) (n : Nat) : callM cfg cfg.call 55 xs n = lentR (cfg.call 55 (xs.map frz) n) := callM_2 rfl
@[simp] theorem cm69 (xs : List D) (n : Nat) : callM cfg cfg.call 69 xs n = lentR (cfg.call 69 (xs.map frz) n) := callM_2 rfl
@[simp] theorem cm70 (xs : List D) (n : Nat) : callM cfg cfg.call 70 xs n = lentR (cfg.call 70 (xs.map frz) n) := callM_2 rfl
@[simp] theorem cm71 (xs : List D) (n : Nat) : callM cfg cfg.call 71 xs n = lentR (cfg.call 71 (xs.map frz) n) := callM_2 rfl
@[simp] theorem cm72 (xs : List D) (n : Nat) : callM cfg cfg.call 72 xs n = lentR (cfg.call 72 (xs.map frz) n) := callM_2 rfl
@[simp] theorem cm81 (xs : List D) (n : Nat) : callM cfg cfg.call 81 xs n = lentR (cfg.call 81 (xs.map frz) n) := callM_2 rfl
@[simp] theorem cm90 (xs : List D) (n : Nat) : callM cfg cfg.call 90 xs n = lentR (cfg.call 90 (xs.map frz) n) := callM_2 rfl
@[simp] theorem cm97 (xs : List D) (n : Nat) : callM cfg cfg.call 97 xs n = lentR (cfg.call 97 (xs.map frz) n) := callM_2 rfl
@[simp] theorem cm103 (xs : List D) (n : Nat) : callM cfg cfg.call 103 xs n = lentR (cfg.call 103 (xs.map frz) n) := callM_2 rfl
@[simp] theorem cm108 (xs : List D) (n : Nat) : callM cfg cfg.call 108 xs n = lentR (cfg.call 108 (xs.map frz) n) := callM_2 rfl
@[simp] theorem tySz_3 : tySz Try.prog 3 = some 1 := by kernel_rfl
@[simp] theorem tyBy_3 : tyBytes Try.prog 3 = some 8 := by kernel_rfl
@[simp] theorem tyAg_3 : tyAgg Try.prog 3 = some false := by kernel_rfl
@[simp] theorem tyIn_3 : tyInt Try.prog 3 = some .i64 := by kernel_rfl
@[simp] theorem tyZe_3 : tyZero Try.prog 3 = some [ci 0] := by kernel_rfl
@[simp] theorem tySz_4 : tySz Try.prog 4 = some 1 := by kernel_rfl
@[simp] theorem tyBy_4 : tyBytes Try.prog 4 = some 1 := by kernel_rfl
@[simp] theorem tyAg_4 : tyAgg Try.prog 4 = some false := by kernel_rfl
@[simp] theorem tyBo_4 : tyBool Try.prog 4 = true := by kernel_rfl
@[simp] theorem tyZe_4 : tyZero Try.prog 4 = some [bi false] := by kernel_rfl
@[simp] theorem tySz_30 : tySz Try.prog 30 = some 1 := by kernel_rfl
@[simp] theorem tyBy_30 : tyBytes Try.prog 30 = some 24 := by kernel_rfl
@[simp] theorem tyAg_30 : tyAgg Try.prog 30 = some false := by kernel_rfl
@[simp] theorem tyEl_30 : tyElem Try.prog 30 = some 64 := by kernel_rfl
@[simp] theorem tyZe_30 : tyZero Try.prog 30 = some [nilD] := by kernel_rfl
@[simp] theorem tySz_31 : tySz Try.prog 31 = some 1 := by kernel_rfl
@[simp] theorem tyBy_31 : tyBytes Try.prog 31 = some 24 := by kernel_rfl
@[simp] theorem tyAg_31 : tyAgg Try.prog 31 = some false := by kernel_rfl
@[simp] theorem tyEl_31 : tyElem Try.prog 31 = some 3 := by kernel_rfl
@[simp] theorem tyZe_31 : tyZero Try.prog 31 = some [nilD] := by kernel_rfl
@[simp] theorem tySz_34 : tySz Try.prog 34 = some 1 := by kernel_rfl
@[simp] theorem tyBy_34 : tyBytes Try.prog 34 = some 24 := by kernel_rfl
@[simp] theorem tyAg_34 : tyAgg Try.prog 34 = some false := by kernel_rfl
@[simp] theorem tyEl_34 : tyElem Try.prog 34 = some 68 := by kernel_rfl
@[simp] theorem tyZe_34 : tyZero Try.prog 34 = some [nilD] := by kernel_rfl
@[simp] theorem tySz_64 : tySz Try.prog 64 = some 2 := by kernel_rfl
@[simp] theorem tyBy_64 : tyBytes Try.prog 64 = some 32 := by kernel_rfl
@[simp] theorem tyAg_64 : tyAgg Try.prog 64 = some true := by kernel_rfl
@[simp] theorem tyAn_64 : tyArr Try.prog 64 = none := by kernel_rfl
@[simp] theorem tyFi_64_0 : tyField Try.prog 64 0 = some (0, 31) := by kernel_rfl
@[simp] theorem tyFi_64_1 : tyField Try.prog 64 1 = some (1, 3) := by kernel_rfl
@[simp] theorem tyPl_64 : tyPlaces Try.prog 64 = some [(0, 1), (1, 1)] := by kernel_rfl
@[simp] theorem tyZe_64 : tyZero Try.prog 64 = some [nilD, ci 0] := by kernel_rfl
@[simp] theorem tySz_68 : tySz Try.prog 68 = some 2 := by kernel_rfl
@[simp] theorem tyBy_68 : tyBytes Try.prog 68 = some 32 := by kernel_rfl
@[simp] theorem tyAg_68 : tyAgg Try.prog 68 = some true := by kernel_rfl
@[simp] theorem tyAn_68 : tyArr Try.prog 68 = none := by kernel_rfl
@[simp] theorem tyFi_68_0 : tyField Try.prog 68 0 = some (0, 31) := by kernel_rfl
@[simp] theorem tyFi_68_1 : tyField Try.prog 68 1 = some (1, 3) := by kernel_rfl
@[simp] theorem tyPl_68 : tyPlaces Try.prog 68 = some [(0, 1), (1, 1)] := by kernel_rfl
@[simp] theorem tyZe_68 : tyZero Try.prog 68 = some [nilD, ci 0] := by kernel_rfl
@[simp] theorem tySz_70 : tySz Try.prog 70 = some 20 := by kernel_rfl
@[simp] theorem tyBy_70 : tyBytes Try.prog 70 = some 20 := by kernel_rfl
@[simp] theorem tyAg_70 : tyAgg Try.prog 70 = some true := by kernel_rfl
@[simp] theorem tyAr_70 : tyArr Try.prog 70 = some (20, 4) := by kernel_rfl
@[simp] theorem tyPn_70 : tyPlaces Try.prog 70 = none := by kernel_rfl
@[simp] theorem tySz_72 : tySz Try.prog 72 = some 400 := by kernel_rfl
@[simp] theorem tyBy_72 : tyBytes Try.prog 72 = some 400 := by kernel_rfl
@[simp] theorem tyAg_72 : tyAgg Try.prog 72 = some true := by kernel_rfl
@[simp] theorem tyAr_72 : tyArr Try.prog 72 = some (20, 70) := by kernel_rfl
@[simp] theorem tyPn_72 : tyPlaces Try.prog 72 = none := by kernel_rfl
@[simp] theorem tyZe_72 : tyZero Try.prog 72 = some (mat (fun _ _ => false)) := by rw [← rep_matb]; kernel_rfl
def inR (x lo hi : Int) : Bool := decide (lo ≤ x) && decide (x ≤ hi)
theorem inR_t {x lo hi : Int} : inR x lo hi = true ↔ lo ≤ x ∧ x ≤ hi := by simp [inR]
theorem inR_f {x lo hi : Int} : inR x lo hi = false ↔ ¬ (lo ≤ x ∧ x ≤ hi) := by simp [inR]
def isV (x : Int) : Bool := inR x 0 19
theorem isV_t {x : Int} : isV x = true ↔ 0 ≤ x ∧ x ≤ 19 := by simp [isV, inR]

/-- spec.inRange -/
@[simp] theorem c_spec_inRange (x lo hi : Int) (n : Nat) (hn : n ≠ 0)  : cfg.call 43 [ci x, ci lo, ci hi] n = some (bi (inR x lo hi), n, []) := by
 refine call_runs0 rfl Try.func43 rfl (by kernel_rfl) rfl (by simp (disch := omega) [low_agg, low_pt, low_fn]) ?_; refine Runs.cseq ?_; refine Runs.regO (.inl rfl) nzc (fun R hR => ?_); simp (disch := omega) [if_t, hn]; refine hR _ _ _ (by simp) ?_; clear hR R; refine Runs.cseq ?_; refine Runs.regO (.inl rfl) nzc (fun R hR => ?_); repeat' (first | (simp (disch := omega) [if_t, hn]) | (with_reducible refine RunsW.splitN (fun hb => ?_) (fun hb => ?_) <;> (try simp only [hb]) <;> (try simp at hb) <;> (try have hx0 := inR_t.1 hb) <;> (try have hx1 := isV_t.1 hb)) | (with_reducible refine RunsW.split (fun hb => ?_) (fun hb => ?_) <;> (try simp only [hb]) <;> (try simp at hb) <;> (try have hx0 := inR_t.1 hb) <;> (try have hx1 := isV_t.1 hb)))
 all_goals (
  refine hR _ _ _ (by simp) ?_; clear hR R; refine Runs.ret ?_; dsimp only [thenQ, blockQ]; refine ⟨by simp, by simp (disch := omega) <;> omega, ?_⟩
  simp (disch := omega) [if_t, hn, resD, resL, resV, inR] <;> (first | omega | (simp_all; done) | (simp_all <;> omega)))

/-- impl.isVertex -/
@[simp] theorem c_impl_isVertex (x : Int) (n : Nat) (hn : n ≠ 0)  : cfg.call 48 [ci x] n = some (bi (isV x), n, []) := by
 refine call_runs0 rfl Try.func48 rfl (by kernel_rfl) rfl (by simp (disch := omega) [low_agg, low_pt, low_fn]) ?_; refine Runs.cseq ?_; refine Runs.regO (.inl rfl) nzc (fun R hR => ?_); simp (disch := omega) [if_t, hn]; refine hR _ _ _ (by simp) ?_; clear hR R; refine Runs.cseq ?_; refine Runs.regO (.inl rfl) nzc (fun R hR => ?_); repeat' (first | (simp (disch := omega) [if_t, hn]) | (with_reducible refine RunsW.splitN (fun hb => ?_) (fun hb => ?_) <;> (try simp only [hb]) <;> (try simp at hb) <;> (try have hx0 := inR_t.1 hb) <;> (try have hx1 := isV_t.1 hb)) | (with_reducible refine RunsW.split (fun hb => ?_) (fun hb => ?_) <;> (try simp only [hb]) <;> (try simp at hb) <;> (try have hx0 := inR_t.1 hb) <;> (try have hx1 := isV_t.1 hb)))
 all_goals (
  refine hR _ _ _ (by simp) ?_; clear hR R; refine Runs.ret ?_; dsimp only [thenQ, blockQ]; refine ⟨by simp, by simp (disch := omega) <;> omega, ?_⟩
  simp (disch := omega) [if_t, hn, resD, resL, resV, isV, inR] <;> (first | omega | (simp_all; done) | (simp_all <;> omega)))

def okNum (x : Int) : Bool := inR x (-9999) 9999
def allOk : List Int → Bool
  | [] => true
  | x :: xs => okNum x && allOk xs
def validRow (xs : List Int) : Bool := allOk xs && inR xs.length 1 6

/-- spec.validRow -/
@[simp] theorem c_spec_validRow (xs : List Int) (n : Nat) (hn : n ≠ 0) (p0 : sizL xs ≤ 1152921504606846976) : cfg.call 70 [cl xs] n = some (bi (validRow xs), n, []) := by
 refine call_runs0 rfl Try.func70 rfl (by kernel_rfl) rfl (by simp (disch := omega) [low_agg, low_pt, low_fn]) ?_; have hl_xs := len_siz xs
 refine Runs.cseq ?_; refine Runs.regO (.inl rfl) nzc (fun R hR => ?_); simp (disch := omega) [if_t, hn]; refine hR _ _ _ (by simp) ?_; clear hR R; refine Runs.cseq ?_; refine Runs.cseq ?_; refine Runs.regO (.inl rfl) nzc (fun R hR => ?_); simp (disch := omega) [if_t, hn]; refine hR _ _ _ (by simp) ?_; clear hR R; refine Runs.cblock ?_; refine Runs.loop (fun k fr n' E => ∃ (i : Nat), n ≤ n' ∧ Go.Cv.Loc n E ∧ fr 0 = cl xs ∧ fr 3 = ci (i : Int) ∧ i + k = xs.length ∧ allOk xs = allOk (xs.drop i)) ?_ (k := xs.length) ?_
 ·rintro k1 fr n1 E1 ⟨i, hn1, hE1, s0, s3, hk, hM⟩
  have hz1 : n1 ≠ 0 := by omega
  refine Runs.cseq ?_; refine Runs.cseq ?_; refine Runs.regO (.inl rfl) nzc (fun R hR => ?_); simp (disch := omega) [if_t, hn, s0, s3]; refine hR _ _ _ (by simp) ?_; clear hR R; refine Runs.condI fun d hd => ?_; simp (disch := omega) [if_t, hn, s0, s3] at hd; subst hd; refine cond_b (fun hc => ?_) (fun hc => ?_)
  ·first | (simp at hc; done) |
    (
    (try simp at hc); (try have hcx0 := inR_t.1 hc); (try have hcx1 := isV_t.1 hc); have hsz := siz_ix hc
    (try simp at hsz); rw [drop_ix hc] at hM; rw [allOk] at hM; refine Runs.skip ?_; refine Runs.cseq ?_; refine Runs.cblock ?_; refine Runs.cseq ?_; refine Runs.regO (.inl rfl) nzc (fun R hR => ?_); simp (disch := omega) [if_t, hn, s0, s3]; refine hR _ _ _ (by simp) ?_; clear hR R; refine Runs.condI fun d hd => ?_; simp (disch := omega) [if_t, hn, s0, s3] at hd; subst hd; refine cond_b (fun hc => ?_) (fun hc => ?_)
    ·first | (simp at hc; done) |
      (
      (try simp at hc); (try have hcx0 := inR_t.1 hc); (try have hcx1 := isV_t.1 hc); have hM : allOk xs = false := by rw [hM]; simp [okNum, hc]
      refine Runs.cseq ?_; refine Runs.regO (.inl rfl) nzc (fun R hR => ?_); simp (disch := omega) [if_t, hn, s0, s3]; refine hR _ _ _ (by simp) ?_; clear hR R; refine Runs.ret ?_; dsimp only [thenQ, blockQ]; refine ⟨by simp, by simp (disch := omega) [hE1] <;> omega, ?_⟩
      simp (disch := omega) [if_t, hn, s0, s3, resD, resL, resV] <;> (first | omega | (simp_all [validRow, allOk]; done) | (simp_all [validRow, allOk] <;> omega)))
    ·first | (simp at hc; done) |
      (
      (try simp at hc); (try have hcx0 := inR_t.1 hc); (try have hcx1 := isV_t.1 hc); rw [show okNum (ix xs i) = true from hc, Bool.true_and] at hM; refine Runs.skip ?_; refine Runs.regO (.inl rfl) nzc (fun R hR => ?_); simp (disch := omega) [if_t, hn, s0, s3]; refine hR _ _ _ (by simp) ?_; clear hR R; dsimp only [thenQ, blockQ]; refine ⟨k1 - 1, by omega, i + 1, ?_, ?_, ?_, ?_, ?_, ?_⟩
      ·omega
      ·simp (disch := omega) [hE1] <;> omega
      ·simp (disch := omega) [if_t, hn, s0, s3]
      ·simp (disch := omega) [if_t, hn, s0, s3]
      ·first | omega | assumption
      ·rw [hM]))
  ·first | (simp at hc; done) |
    (
    (try simp at hc); (try have hcx0 := inR_t.1 hc); (try have hcx1 := isV_t.1 hc); rw [List.drop_of_length_le (by omega)] at hM; refine Runs.exit ?_; refine Runs.cseq ?_; refine Runs.regO (.inl rfl) nzc (fun R hR => ?_); simp (disch := omega) [if_t, hn, s0, s3]; refine hR _ _ _ (by simp) ?_; clear hR R; refine Runs.ret ?_; dsimp only [thenQ, blockQ]; refine ⟨by simp, by simp (disch := omega) [hE1] <;> omega, ?_⟩
    simp (disch := omega) [if_t, hn, s0, s3, resD, resL, resV] <;> (first | omega | (simp_all [validRow, allOk]; done) | (simp_all [validRow, allOk] <;> omega)))
 ·skip
  refine ⟨0, ?_, ?_, ?_, ?_, ?_, ?_⟩
  ·omega
  ·simp
  ·simp (disch := omega) [if_t, hn]
  ·simp (disch := omega) [if_t, hn]
  ·first | omega | simp | rfl
  ·rfl

theorem cons_eq {α : Type} [DecidableEq α] (x y : α) (a b : List α) : decide (x :: a = y :: b) = (decide (x = y) && decide (a = b)) := by
  by_cases h : x = y <;> simp [h]

/-- spec.equalInts -/
@[simp] theorem c_spec_equalInts (xs ys : List Int) (n : Nat) (hn : n ≠ 0) (p0 : sizL xs ≤ 1152921504606846976) : cfg.call 52 [cl xs, cl ys] n = some (bi (decide (xs = ys)), n, []) := by
 refine call_runs0 rfl Try.func52 rfl (by kernel_rfl) rfl (by simp (disch := omega) [low_agg, low_pt, low_fn]) ?_; have hl_xs := len_siz xs
 refine Runs.cseq ?_; refine Runs.regO (.inl rfl) nzc (fun R hR => ?_); simp (disch := omega) [if_t, hn]; refine hR _ _ _ (by simp) ?_; clear hR R; refine Runs.cseq ?_; refine Runs.cseq ?_; refine Runs.regO (.inl rfl) nzc (fun R hR => ?_); simp (disch := omega) [if_t, hn]; refine hR _ _ _ (by simp) ?_; clear hR R; refine Runs.condI fun d hd => ?_; simp (disch := omega) [if_t, hn] at hd; subst hd; refine cond_b (fun hc => ?_) (fun hc => ?_)
 ·first | (simp at hc; done) |
   (
   (try simp at hc); (try have hcx0 := inR_t.1 hc); (try have hcx1 := isV_t.1 hc); have hne : ¬ xs = ys := fun h => hc (by rw [h])
   refine Runs.cseq ?_; refine Runs.regO (.inl rfl) nzc (fun R hR => ?_); simp (disch := omega) [if_t, hn]; refine hR _ _ _ (by simp) ?_; clear hR R; refine Runs.ret ?_; dsimp only [thenQ, blockQ]; refine ⟨by simp, by simp (disch := omega) <;> omega, ?_⟩
   simp (disch := omega) [if_t, hn, resD, resL, resV] <;> (first | omega | (simp_all; done) | (simp_all <;> omega)))
 ·first | (simp at hc; done) |
   (
   (try simp at hc); (try have hcx0 := inR_t.1 hc); (try have hcx1 := isV_t.1 hc); have hle : xs.length = ys.length := by omega
   refine Runs.skip ?_; refine Runs.cseq ?_; refine Runs.cseq ?_; refine Runs.regO (.inl rfl) nzc (fun R hR => ?_); simp (disch := omega) [if_t, hn]; refine hR _ _ _ (by simp) ?_; clear hR R; refine Runs.cblock ?_; refine Runs.loop (fun k fr n' E => ∃ (i : Nat), n ≤ n' ∧ Go.Cv.Loc n E ∧ fr 0 = cl xs ∧ fr 1 = cl ys ∧ fr 5 = ci (i : Int) ∧ i + k = xs.length ∧ decide (xs = ys) = decide (xs.drop i = ys.drop i)) ?_ (k := xs.length) ?_
   ·rintro k1 fr n1 E1 ⟨i, hn1, hE1, s0, s1, s5, hk, hM⟩
    have hz1 : n1 ≠ 0 := by omega
    refine Runs.cseq ?_; refine Runs.cseq ?_; refine Runs.regO (.inl rfl) nzc (fun R hR => ?_); simp (disch := omega) [if_t, hn, s0, s1, s5]; refine hR _ _ _ (by simp) ?_; clear hR R; refine Runs.condI fun d hd => ?_; simp (disch := omega) [if_t, hn, s0, s1, s5] at hd; subst hd; refine cond_b (fun hc => ?_) (fun hc => ?_)
    ·first | (simp at hc; done) |
      (
      (try simp at hc); (try have hcx0 := inR_t.1 hc); (try have hcx1 := isV_t.1 hc); have hsz := siz_ix hc
      (try simp at hsz); rw [drop_ix hc] at hM; rw [drop_ix (xs := ys) (i := i) (by omega), cons_eq] at hM; refine Runs.skip ?_; refine Runs.cseq ?_; refine Runs.cblock ?_; refine Runs.cseq ?_; refine Runs.regO (.inr (by kernel_rfl)) nzc (fun R hR => ?_); simp (disch := omega) [if_t, hn, s0, s1, s5]; refine hR _ _ _ (by simp) ?_; clear hR R; refine Runs.condI fun d hd => ?_; simp (disch := omega) [if_t, hn, s0, s1, s5] at hd; subst hd; refine cond_b (fun hc => ?_) (fun hc => ?_)
      ·first | (simp at hc; done) |
        (
        (try simp at hc); (try have hcx0 := inR_t.1 hc); (try have hcx1 := isV_t.1 hc); rw [decide_eq_false hc, Bool.false_and] at hM; refine Runs.cseq ?_; refine Runs.regO (.inl rfl) nzc (fun R hR => ?_); simp (disch := omega) [if_t, hn, s0, s1, s5]; refine hR _ _ _ (by simp) ?_; clear hR R; refine Runs.ret ?_; dsimp only [thenQ, blockQ]; refine ⟨by simp, by simp (disch := omega) [hE1] <;> omega, ?_⟩
        simp (disch := omega) [if_t, hn, s0, s1, s5, resD, resL, resV] <;> (first | omega | (simp_all; done) | (simp_all <;> omega)))
      ·first | (simp at hc; done) |
        (
        (try simp at hc); (try have hcx0 := inR_t.1 hc); (try have hcx1 := isV_t.1 hc); rw [decide_eq_true hc, Bool.true_and] at hM; refine Runs.skip ?_; refine Runs.regO (.inl rfl) nzc (fun R hR => ?_); simp (disch := omega) [if_t, hn, s0, s1, s5]; refine hR _ _ _ (by simp) ?_; clear hR R; dsimp only [thenQ, blockQ]; refine ⟨k1 - 1, by omega, i + 1, ?_, ?_, ?_, ?_, ?_, ?_, ?_⟩
        ·omega
        ·simp (disch := omega) [hE1] <;> omega
        ·simp (disch := omega) [if_t, hn, s0, s1, s5]
        ·simp (disch := omega) [if_t, hn, s0, s1, s5]
        ·simp (disch := omega) [if_t, hn, s0, s1, s5]
        ·first | omega | assumption
        ·rw [hM]))
    ·first | (simp at hc; done) |
      (
      (try simp at hc); (try have hcx0 := inR_t.1 hc); (try have hcx1 := isV_t.1 hc); rw [List.drop_of_length_le (by omega), List.drop_of_length_le (by omega)] at hM; refine Runs.exit ?_; refine Runs.cseq ?_; refine Runs.regO (.inl rfl) nzc (fun R hR => ?_); simp (disch := omega) [if_t, hn, s0, s1, s5]; refine hR _ _ _ (by simp) ?_; clear hR R; refine Runs.ret ?_; dsimp only [thenQ, blockQ]; refine ⟨by simp, by simp (disch := omega) [hE1] <;> omega, ?_⟩
      simp (disch := omega) [if_t, hn, s0, s1, s5, resD, resL, resV] <;> (first | omega | (simp_all; done) | (simp_all <;> omega)))
   ·skip
    refine ⟨0, ?_, ?_, ?_, ?_, ?_, ?_, ?_⟩
    ·omega
    ·simp
    ·simp (disch := omega) [if_t, hn]
    ·simp (disch := omega) [if_t, hn]
    ·simp (disch := omega) [if_t, hn]
    ·first | omega | simp | rfl
    ·rfl)

/-- laws.eqIntS -/
@[simp] theorem c_laws_eqIntS (xs ys : List Int) (n : Nat) (hn : n ≠ 0) (p0 : sizL xs ≤ 1152921504606846976) : cfg.call 20 [cl xs, cl ys] n = some (bi (decide (xs = ys)), n, []) := by
 refine call_runs0 rfl Try.func20 rfl (by kernel_rfl) rfl (by simp (disch := omega) [low_agg, low_pt, low_fn]) ?_; have hl_xs := len_siz xs
 refine Runs.cseq ?_; refine Runs.regO (.inl rfl) nzc (fun R hR => ?_); simp (disch := omega) [if_t, hn]; refine hR _ _ _ (by simp) ?_; clear hR R; refine Runs.cseq ?_; refine Runs.cseq ?_; refine Runs.regO (.inl rfl) nzc (fun R hR => ?_); simp (disch := omega) [if_t, hn]; refine hR _ _ _ (by simp) ?_; clear hR R; refine Runs.condI fun d hd => ?_; simp (disch := omega) [if_t, hn] at hd; subst hd; refine cond_b (fun hc => ?_) (fun hc => ?_)
 ·first | (simp at hc; done) |
   (
   (try simp at hc); (try have hcx0 := inR_t.1 hc); (try have hcx1 := isV_t.1 hc); have hne : ¬ xs = ys := fun h => hc (by rw [h])
   refine Runs.cseq ?_; refine Runs.regO (.inl rfl) nzc (fun R hR => ?_); simp (disch := omega) [if_t, hn]; refine hR _ _ _ (by simp) ?_; clear hR R; refine Runs.ret ?_; dsimp only [thenQ, blockQ]; refine ⟨by simp, by simp (disch := omega) <;> omega, ?_⟩
   simp (disch := omega) [if_t, hn, resD, resL, resV] <;> (first | omega | (simp_all; done) | (simp_all <;> omega)))
 ·first | (simp at hc; done) |
   (
   (try simp at hc); (try have hcx0 := inR_t.1 hc); (try have hcx1 := isV_t.1 hc); have hle : xs.length = ys.length := by omega
   refine Runs.skip ?_; refine Runs.cseq ?_; refine Runs.cseq ?_; refine Runs.regO (.inl rfl) nzc (fun R hR => ?_); simp (disch := omega) [if_t, hn]; refine hR _ _ _ (by simp) ?_; clear hR R; refine Runs.cblock ?_; refine Runs.loop (fun k fr n' E => ∃ (i : Nat), n ≤ n' ∧ Go.Cv.Loc n E ∧ fr 0 = cl xs ∧ fr 1 = cl ys ∧ fr 5 = ci (i : Int) ∧ i + k = xs.length ∧ decide (xs = ys) = decide (xs.drop i = ys.drop i)) ?_ (k := xs.length) ?_
   ·rintro k1 fr n1 E1 ⟨i, hn1, hE1, s0, s1, s5, hk, hM⟩
    have hz1 : n1 ≠ 0 := by omega
    refine Runs.cseq ?_; refine Runs.cseq ?_; refine Runs.regO (.inl rfl) nzc (fun R hR => ?_); simp (disch := omega) [if_t, hn, s0, s1, s5]; refine hR _ _ _ (by simp) ?_; clear hR R; refine Runs.condI fun d hd => ?_; simp (disch := omega) [if_t, hn, s0, s1, s5] at hd; subst hd; refine cond_b (fun hc => ?_) (fun hc => ?_)
    ·first | (simp at hc; done) |
      (
      (try simp at hc); (try have hcx0 := inR_t.1 hc); (try have hcx1 := isV_t.1 hc); have hsz := siz_ix hc
      (try simp at hsz); rw [drop_ix hc] at hM; rw [drop_ix (xs := ys) (i := i) (by omega), cons_eq] at hM; refine Runs.skip ?_; refine Runs.cseq ?_; refine Runs.cblock ?_; refine Runs.cseq ?_; refine Runs.regO (.inr (by kernel_rfl)) nzc (fun R hR => ?_); simp (disch := omega) [if_t, hn, s0, s1, s5]; refine hR _ _ _ (by simp) ?_; clear hR R; refine Runs.condI fun d hd => ?_; simp (disch := omega) [if_t, hn, s0, s1, s5] at hd; subst hd; refine cond_b (fun hc => ?_) (fun hc => ?_)
      ·first | (simp at hc; done) |
        (
        (try simp at hc); (try have hcx0 := inR_t.1 hc); (try have hcx1 := isV_t.1 hc); rw [decide_eq_false hc, Bool.false_and] at hM; refine Runs.cseq ?_; refine Runs.regO (.inl rfl) nzc (fun R hR => ?_); simp (disch := omega) [if_t, hn, s0, s1, s5]; refine hR _ _ _ (by simp) ?_; clear hR R; refine Runs.ret ?_; dsimp only [thenQ, blockQ]; refine ⟨by simp, by simp (disch := omega) [hE1] <;> omega, ?_⟩
        simp (disch := omega) [if_t, hn, s0, s1, s5, resD, resL, resV] <;> (first | omega | (simp_all; done) | (simp_all <;> omega)))
      ·first | (simp at hc; done) |
        (
        (try simp at hc); (try have hcx0 := inR_t.1 hc); (try have hcx1 := isV_t.1 hc); rw [decide_eq_true hc, Bool.true_and] at hM; refine Runs.skip ?_; refine Runs.regO (.inl rfl) nzc (fun R hR => ?_); simp (disch := omega) [if_t, hn, s0, s1, s5]; refine hR _ _ _ (by simp) ?_; clear hR R; dsimp only [thenQ, blockQ]; refine ⟨k1 - 1, by omega, i + 1, ?_, ?_, ?_, ?_, ?_, ?_, ?_⟩
        ·omega
        ·simp (disch := omega) [hE1] <;> omega
        ·simp (disch := omega) [if_t, hn, s0, s1, s5]
        ·simp (disch := omega) [if_t, hn, s0, s1, s5]
        ·simp (disch := omega) [if_t, hn, s0, s1, s5]
        ·first | omega | assumption
        ·rw [hM]))
    ·first | (simp at hc; done) |
      (
      (try simp at hc); (try have hcx0 := inR_t.1 hc); (try have hcx1 := isV_t.1 hc); rw [List.drop_of_length_le (by omega), List.drop_of_length_le (by omega)] at hM; refine Runs.exit ?_; refine Runs.cseq ?_; refine Runs.regO (.inl rfl) nzc (fun R hR => ?_); simp (disch := omega) [if_t, hn, s0, s1, s5]; refine hR _ _ _ (by simp) ?_; clear hR R; refine Runs.ret ?_; dsimp only [thenQ, blockQ]; refine ⟨by simp, by simp (disch := omega) [hE1] <;> omega, ?_⟩
      simp (disch := omega) [if_t, hn, s0, s1, s5, resD, resL, resV] <;> (first | omega | (simp_all; done) | (simp_all <;> omega)))
   ·skip
    refine ⟨0, ?_, ?_, ?_, ?_, ?_, ?_, ?_⟩
    ·omega
    ·simp
    ·simp (disch := omega) [if_t, hn]
    ·simp (disch := omega) [if_t, hn]
    ·simp (disch := omega) [if_t, hn]
    ·first | omega | simp | rfl
    ·rfl)

def rowLess : List Int → List Int → Bool
  | x :: xs, y :: ys => if x = y then rowLess xs ys else decide (x < y)
  | [], ys => decide (0 < ys.length)
  | _ :: _, [] => false

/-- spec.rowLess -/
@[simp] theorem c_spec_rowLess (xs ys : List Int) (n : Nat) (hn : n ≠ 0) (p0 : sizL xs ≤ 1152921504606846976) : cfg.call 71 [cl xs, cl ys] n = some (bi (rowLess xs ys), n, []) := by
 refine call_runs0 rfl Try.func71 rfl (by kernel_rfl) rfl (by simp (disch := omega) [low_agg, low_pt, low_fn]) ?_; have hl_xs := len_siz xs
 refine Runs.cseq ?_; refine Runs.regO (.inl rfl) nzc (fun R hR => ?_); simp (disch := omega) [if_t, hn]; refine hR _ _ _ (by simp) ?_; clear hR R; refine Runs.cseq ?_; refine Runs.cseq ?_; refine Runs.regO (.inl rfl) nzc (fun R hR => ?_); simp (disch := omega) [if_t, hn]; refine hR _ _ _ (by simp) ?_; clear hR R; refine Runs.cblock ?_; refine Runs.loop (fun k fr n' E => ∃ (i : Nat), n ≤ n' ∧ Go.Cv.Loc n E ∧ fr 0 = cl xs ∧ fr 1 = cl ys ∧ fr 5 = ci (i : Int) ∧ i + k = xs.length ∧ rowLess xs ys = rowLess (xs.drop i) (ys.drop i) ∧ i ≤ ys.length) ?_ (k := xs.length) ?_
 ·rintro k1 fr n1 E1 ⟨i, hn1, hE1, s0, s1, s5, hk, hM, hi⟩
  have hz1 : n1 ≠ 0 := by omega
  refine Runs.cseq ?_; refine Runs.cseq ?_; refine Runs.regO (.inl rfl) nzc (fun R hR => ?_); repeat' (first | (simp (disch := omega) [if_t, hn, s0, s1, s5]) | (with_reducible refine RunsW.splitN (fun hb => ?_) (fun hb => ?_) <;> (try simp only [hb]) <;> (try simp at hb) <;> (try have hx0 := inR_t.1 hb) <;> (try have hx1 := isV_t.1 hb)) | (with_reducible refine RunsW.split (fun hb => ?_) (fun hb => ?_) <;> (try simp only [hb]) <;> (try simp at hb) <;> (try have hx0 := inR_t.1 hb) <;> (try have hx1 := isV_t.1 hb)))
  all_goals (
   refine hR _ _ _ (by simp) ?_; clear hR R; refine Runs.condI fun d hd => ?_; simp (disch := omega) [if_t, hn, s0, s1, s5] at hd; subst hd; refine cond_b (fun hc => ?_) (fun hc => ?_)
   ·first | (simp at hc; done) |
     (
     (try simp at hc); (try have hcx0 := inR_t.1 hc); (try have hcx1 := isV_t.1 hc); have hc : i < xs.length := by omega
     have hsz := siz_ix hc
     rw [drop_ix hc, drop_ix (xs := ys) (i := i) (by omega), rowLess] at hM; refine Runs.skip ?_; refine Runs.cseq ?_; refine Runs.cblock ?_; refine Runs.cseq ?_; refine Runs.regO (.inr (by kernel_rfl)) nzc (fun R hR => ?_); simp (disch := omega) [if_t, hn, s0, s1, s5]; refine hR _ _ _ (by simp) ?_; clear hR R; refine Runs.condI fun d hd => ?_; simp (disch := omega) [if_t, hn, s0, s1, s5] at hd; subst hd; refine cond_b (fun hc => ?_) (fun hc => ?_)
     ·first | (simp at hc; done) |
       (
       (try simp at hc); (try have hcx0 := inR_t.1 hc); (try have hcx1 := isV_t.1 hc); rw [if_neg hc] at hM; refine Runs.cseq ?_; refine Runs.regO (.inr (by kernel_rfl)) nzc (fun R hR => ?_); simp (disch := omega) [if_t, hn, s0, s1, s5]; refine hR _ _ _ (by simp) ?_; clear hR R; refine Runs.ret ?_; dsimp only [thenQ, blockQ]; refine ⟨by simp, by simp (disch := omega) [hE1] <;> omega, ?_⟩
       simp (disch := omega) [if_t, hn, s0, s1, s5, resD, resL, resV] <;> (first | omega | (simp_all; done) | (simp_all <;> omega)))
     ·first | (simp at hc; done) |
       (
       (try simp at hc); (try have hcx0 := inR_t.1 hc); (try have hcx1 := isV_t.1 hc); rw [if_pos hc] at hM; refine Runs.skip ?_; refine Runs.regO (.inl rfl) nzc (fun R hR => ?_); simp (disch := omega) [if_t, hn, s0, s1, s5]; refine hR _ _ _ (by simp) ?_; clear hR R; dsimp only [thenQ, blockQ]; refine ⟨k1 - 1, by omega, i + 1, ?_, ?_, ?_, ?_, ?_, ?_, ?_, ?_⟩
       ·omega
       ·simp (disch := omega) [hE1] <;> omega
       ·simp (disch := omega) [if_t, hn, s0, s1, s5]
       ·simp (disch := omega) [if_t, hn, s0, s1, s5]
       ·simp (disch := omega) [if_t, hn, s0, s1, s5]
       ·first | omega | assumption
       ·rw [hM]
       ·first | omega | assumption))
   ·first | (simp at hc; done) |
     (
     (try simp at hc); (try have hcx0 := inR_t.1 hc); (try have hcx1 := isV_t.1 hc); have hM : rowLess xs ys = decide (xs.length < ys.length) := by
      rw [hM]; by_cases h1 : i < xs.length
      ·rw [drop_ix h1, List.drop_of_length_le (l := ys) (by omega), rowLess]; symm; apply decide_eq_false; omega
      ·rw [List.drop_of_length_le (l := xs) (by omega), rowLess, List.length_drop]; congr 1; apply propext; omega
     refine Runs.exit ?_; refine Runs.cseq ?_; refine Runs.regO (.inl rfl) nzc (fun R hR => ?_); simp (disch := omega) [if_t, hn, s0, s1, s5]; refine hR _ _ _ (by simp) ?_; clear hR R; refine Runs.ret ?_; dsimp only [thenQ, blockQ]; refine ⟨by simp, by simp (disch := omega) [hE1] <;> omega, ?_⟩
     simp (disch := omega) [if_t, hn, s0, s1, s5, resD, resL, resV] <;> (first | omega | (simp_all; done) | (simp_all <;> omega))))
 ·skip
  refine ⟨0, ?_, ?_, ?_, ?_, ?_, ?_, ?_, ?_⟩
  ·omega
  ·simp
  ·simp (disch := omega) [if_t, hn]
  ·simp (disch := omega) [if_t, hn]
  ·simp (disch := omega) [if_t, hn]
  ·first | omega | simp | rfl
  ·rfl
  ·first | omega | simp | rfl

def okEnt (es : List Ent) (i : Nat) : Bool :=
  validRow (ix es i).row && (decide ((ix es i).row.length = (ix es 0).row.length) && (!decide ((ix es i).w = 0) && (inR (ix es i).w (-1000000) 1000000 &&
      (if i = 0 then true else rowLess (ix es (i - 1)).row (ix es i).row))))
def okFrom (es : List Ent) (i : Nat) : Nat → Bool
  | 0 => true
  | k + 1 => okEnt es i && okFrom es (i + 1) k
def validZ (es : List Ent) : Bool := okFrom es 0 es.length && decide (es.length ≤ 400)

/-- spec.validZSet -/
@[simp] theorem c_spec_validZSet (es : List Ent) (n : Nat) (hn : n ≠ 0) (p0 : sizL es ≤ 1152921504606846976) : cfg.call 50 [cl es] n = some (bi (validZ es), n, []) := by
 refine call_runs0 rfl Try.func50 rfl (by kernel_rfl) rfl (by simp (disch := omega) [low_agg, low_pt, low_fn]) ?_; have hl_es := len_siz es
 refine Runs.cseq ?_; refine Runs.regO (.inl rfl) nzc (fun R hR => ?_); simp (disch := omega) [if_t, hn]; refine hR _ _ _ (by simp) ?_; clear hR R; refine Runs.cseq ?_; refine Runs.cseq ?_; refine Runs.regO (.inl rfl) nzc (fun R hR => ?_); simp (disch := omega) [if_t, hn]; refine hR _ _ _ (by simp) ?_; clear hR R; refine Runs.cblock ?_; refine Runs.loop (fun k fr n' E => ∃ (i : Nat), n ≤ n' ∧ Go.Cv.Loc n E ∧ fr 0 = cl es ∧ fr 3 = ci (i : Int) ∧ i + k = es.length ∧ okFrom es 0 es.length = okFrom es i k) ?_ (k := es.length) ?_
 ·rintro k1 fr n1 E1 ⟨i, hn1, hE1, s0, s3, hk, hM⟩
  have hz1 : n1 ≠ 0 := by omega
  refine Runs.cseq ?_; refine Runs.cseq ?_; refine Runs.regO (.inl rfl) nzc (fun R hR => ?_); simp (disch := omega) [if_t, hn, s0, s3]; refine hR _ _ _ (by simp) ?_; clear hR R; refine Runs.condI fun d hd => ?_; simp (disch := omega) [if_t, hn, s0, s3] at hd; subst hd; refine cond_b (fun hc => ?_) (fun hc => ?_)
  ·first | (simp at hc; done) |
    (
    (try simp at hc); (try have hcx0 := inR_t.1 hc); (try have hcx1 := isV_t.1 hc); have hsz := siz_ix hc
    simp at hsz; have hs0 := siz_ix (xs := es) (i := 0) (by omega)
    simp at hs0; have hs1 := siz_ix (xs := es) (i := i - 1) (by omega)
    simp at hs1; obtain ⟨k1, rfl⟩ : ∃ j, k1 = j + 1 := ⟨k1 - 1, by omega⟩
    rw [okFrom] at hM; refine Runs.skip ?_; refine Runs.cseq ?_; refine Runs.cblock ?_; refine Runs.cseq ?_; refine Runs.regO (.inr (by kernel_rfl)) nzc (fun R hR => ?_); repeat' (first | (simp (disch := omega) [if_t, hn, s0, s3]) | (with_reducible refine RunsW.splitN (fun hb => ?_) (fun hb => ?_) <;> (try simp only [hb]) <;> (try simp at hb) <;> (try have hx0 := inR_t.1 hb) <;> (try have hx1 := isV_t.1 hb)) | (with_reducible refine RunsW.split (fun hb => ?_) (fun hb => ?_) <;> (try simp only [hb]) <;> (try simp at hb) <;> (try have hx0 := inR_t.1 hb) <;> (try have hx1 := isV_t.1 hb)))
    all_goals (
     refine hR _ _ _ (by simp) ?_; clear hR R; refine Runs.condI fun d hd => ?_; simp (disch := omega) [if_t, hn, s0, s3] at hd; subst hd; refine cond_b (fun hc => ?_) (fun hc => ?_)
     ·first | (simp at hc; done) |
       (
       (try simp at hc); (try have hcx0 := inR_t.1 hc); (try have hcx1 := isV_t.1 hc); have ho : okEnt es i = false := by clear hM; simp_all [okEnt] <;> omega
       have hM : okFrom es 0 es.length = false := by rw [hM, ho]; rfl
       refine Runs.cseq ?_; refine Runs.regO (.inl rfl) nzc (fun R hR => ?_); simp (disch := omega) [if_t, hn, s0, s3]; refine hR _ _ _ (by simp) ?_; clear hR R; refine Runs.ret ?_; dsimp only [thenQ, blockQ]; refine ⟨by simp, by simp (disch := omega) [hE1] <;> omega, ?_⟩
       simp (disch := omega) [if_t, hn, s0, s3, resD, resL, resV] <;> (first | omega | (simp_all [validZ]; done) | (simp_all [validZ] <;> omega)))
     ·first | (simp at hc; done) |
       (
       (try simp at hc); (try have hcx0 := inR_t.1 hc); (try have hcx1 := isV_t.1 hc); have ho : okEnt es i = true := by clear hM; simp_all [okEnt] <;> omega
       rw [ho, Bool.true_and] at hM; refine Runs.skip ?_; refine Runs.regO (.inl rfl) nzc (fun R hR => ?_); simp (disch := omega) [if_t, hn, s0, s3]; refine hR _ _ _ (by simp) ?_; clear hR R; dsimp only [thenQ, blockQ]; refine ⟨k1, by omega, i + 1, ?_, ?_, ?_, ?_, ?_, ?_⟩
       ·omega
       ·simp (disch := omega) [hE1] <;> omega
       ·simp (disch := omega) [if_t, hn, s0, s3]
       ·simp (disch := omega) [if_t, hn, s0, s3]
       ·first | omega | assumption
       ·rw [hM])))
  ·first | (simp at hc; done) |
    (
    (try simp at hc); (try have hcx0 := inR_t.1 hc); (try have hcx1 := isV_t.1 hc); obtain rfl : k1 = 0 := by omega
    rw [okFrom] at hM; refine Runs.exit ?_; refine Runs.cseq ?_; refine Runs.regO (.inl rfl) nzc (fun R hR => ?_); simp (disch := omega) [if_t, hn, s0, s3]; refine hR _ _ _ (by simp) ?_; clear hR R; refine Runs.ret ?_; dsimp only [thenQ, blockQ]; refine ⟨by simp, by simp (disch := omega) [hE1] <;> omega, ?_⟩
    simp (disch := omega) [if_t, hn, s0, s3, resD, resL, resV] <;> (first | omega | (simp_all [validZ]; done) | (simp_all [validZ] <;> omega)))
 ·skip
  refine ⟨0, ?_, ?_, ?_, ?_, ?_, ?_⟩
  ·omega
  ·simp
  ·simp (disch := omega) [if_t, hn]
  ·simp (disch := omega) [if_t, hn]
  ·first | omega | simp | rfl
  ·rfl

def allSet : List Ent → Bool
  | [] => true
  | e :: es => decide (e.w = 1) && allSet es
def wOf : List Ent → List Int → Int
  | [], _ => 0
  | e :: es, r => if e.row = r then e.w else wOf es r
def okEdge (e : Ent) : Bool := decide (e.row.length = 2) && (isV (ix e.row 0) && isV (ix e.row 1))
def allEdge : List Ent → Bool
  | [] => true
  | e :: es => okEdge e && allEdge es
def validE (es : List Ent) : Bool := validZ es && (allSet es && allEdge es)

/-- spec.isSet -/
@[simp] theorem c_spec_isSet (es : List Ent) (n : Nat) (hn : n ≠ 0) (p0 : sizL es ≤ 1152921504606846976) : cfg.call 51 [cl es] n = some (bi (allSet es), n, []) := by
 refine call_runs0 rfl Try.func51 rfl (by kernel_rfl) rfl (by simp (disch := omega) [low_agg, low_pt, low_fn]) ?_; have hl_es := len_siz es
 refine Runs.cseq ?_; refine Runs.regO (.inl rfl) nzc (fun R hR => ?_); simp (disch := omega) [if_t, hn]; refine hR _ _ _ (by simp) ?_; clear hR R; refine Runs.cseq ?_; refine Runs.cseq ?_; refine Runs.regO (.inl rfl) nzc (fun R hR => ?_); simp (disch := omega) [if_t, hn]; refine hR _ _ _ (by simp) ?_; clear hR R; refine Runs.cblock ?_; refine Runs.loop (fun k fr n' E => ∃ (i : Nat), n ≤ n' ∧ Go.Cv.Loc n E ∧ fr 0 = cl es ∧ fr 3 = ci (i : Int) ∧ i + k = es.length ∧ allSet es = allSet (es.drop i)) ?_ (k := es.length) ?_
 ·rintro k1 fr n1 E1 ⟨i, hn1, hE1, s0, s3, hk, hM⟩
  have hz1 : n1 ≠ 0 := by omega
  refine Runs.cseq ?_; refine Runs.cseq ?_; refine Runs.regO (.inl rfl) nzc (fun R hR => ?_); simp (disch := omega) [if_t, hn, s0, s3]; refine hR _ _ _ (by simp) ?_; clear hR R; refine Runs.condI fun d hd => ?_; simp (disch := omega) [if_t, hn, s0, s3] at hd; subst hd; refine cond_b (fun hc => ?_) (fun hc => ?_)
  ·first | (simp at hc; done) |
    (
    (try simp at hc); (try have hcx0 := inR_t.1 hc); (try have hcx1 := isV_t.1 hc); have hsz := siz_ix hc
    (try simp at hsz); rw [drop_ix hc] at hM; rw [allSet] at hM; refine Runs.skip ?_; refine Runs.cseq ?_; refine Runs.cblock ?_; refine Runs.cseq ?_; refine Runs.regO (.inl rfl) nzc (fun R hR => ?_); simp (disch := omega) [if_t, hn, s0, s3]; refine hR _ _ _ (by simp) ?_; clear hR R; refine Runs.condI fun d hd => ?_; simp (disch := omega) [if_t, hn, s0, s3] at hd; subst hd; refine cond_b (fun hc => ?_) (fun hc => ?_)
    ·first | (simp at hc; done) |
      (
      (try simp at hc); (try have hcx0 := inR_t.1 hc); (try have hcx1 := isV_t.1 hc); rw [decide_eq_false hc, Bool.false_and] at hM; refine Runs.cseq ?_; refine Runs.regO (.inl rfl) nzc (fun R hR => ?_); simp (disch := omega) [if_t, hn, s0, s3]; refine hR _ _ _ (by simp) ?_; clear hR R; refine Runs.ret ?_; dsimp only [thenQ, blockQ]; refine ⟨by simp, by simp (disch := omega) [hE1] <;> omega, ?_⟩
      simp (disch := omega) [if_t, hn, s0, s3, resD, resL, resV] <;> (first | omega | (simp_all [allSet]; done) | (simp_all [allSet] <;> omega)))
    ·first | (simp at hc; done) |
      (
      (try simp at hc); (try have hcx0 := inR_t.1 hc); (try have hcx1 := isV_t.1 hc); rw [decide_eq_true hc, Bool.true_and] at hM; refine Runs.skip ?_; refine Runs.regO (.inl rfl) nzc (fun R hR => ?_); simp (disch := omega) [if_t, hn, s0, s3]; refine hR _ _ _ (by simp) ?_; clear hR R; dsimp only [thenQ, blockQ]; refine ⟨k1 - 1, by omega, i + 1, ?_, ?_, ?_, ?_, ?_, ?_⟩
      ·omega
      ·simp (disch := omega) [hE1] <;> omega
      ·simp (disch := omega) [if_t, hn, s0, s3]
      ·simp (disch := omega) [if_t, hn, s0, s3]
      ·first | omega | assumption
      ·rw [hM]))
  ·first | (simp at hc; done) |
    (
    (try simp at hc); (try have hcx0 := inR_t.1 hc); (try have hcx1 := isV_t.1 hc); rw [List.drop_of_length_le (by omega)] at hM; refine Runs.exit ?_; refine Runs.cseq ?_; refine Runs.regO (.inl rfl) nzc (fun R hR => ?_); simp (disch := omega) [if_t, hn, s0, s3]; refine hR _ _ _ (by simp) ?_; clear hR R; refine Runs.ret ?_; dsimp only [thenQ, blockQ]; refine ⟨by simp, by simp (disch := omega) [hE1] <;> omega, ?_⟩
    simp (disch := omega) [if_t, hn, s0, s3, resD, resL, resV] <;> (first | omega | (simp_all [allSet]; done) | (simp_all [allSet] <;> omega)))
 ·skip
  refine ⟨0, ?_, ?_, ?_, ?_, ?_, ?_⟩
  ·omega
  ·simp
  ·simp (disch := omega) [if_t, hn]
  ·simp (disch := omega) [if_t, hn]
  ·first | omega | simp | rfl
  ·rfl

/-- spec.weightOf -/
@[simp] theorem c_spec_weightOf (es : List Ent) (r : List Int) (n : Nat) (hn : n ≠ 0) (p0 : sizL es ≤ 1152921504606846976) : cfg.call 44 [cl es, cl r] n = some (ci (wOf es r), n, []) := by
 refine call_runs0 rfl Try.func44 rfl (by kernel_rfl) rfl (by simp (disch := omega) [low_agg, low_pt, low_fn]) ?_; have hl_es := len_siz es
 refine Runs.cseq ?_; refine Runs.regO (.inl rfl) nzc (fun R hR => ?_); simp (disch := omega) [if_t, hn]; refine hR _ _ _ (by simp) ?_; clear hR R; refine Runs.cseq ?_; refine Runs.cseq ?_; refine Runs.regO (.inl rfl) nzc (fun R hR => ?_); simp (disch := omega) [if_t, hn]; refine hR _ _ _ (by simp) ?_; clear hR R; refine Runs.cblock ?_; refine Runs.loop (fun k fr n' E => ∃ (i : Nat), n ≤ n' ∧ Go.Cv.Loc n E ∧ fr 0 = cl es ∧ fr 1 = cl r ∧ fr 5 = ci (i : Int) ∧ i + k = es.length ∧ wOf es r = wOf (es.drop i) r) ?_ (k := es.length) ?_
 ·rintro k1 fr n1 E1 ⟨i, hn1, hE1, s0, s1, s5, hk, hM⟩
  have hz1 : n1 ≠ 0 := by omega
  refine Runs.cseq ?_; refine Runs.cseq ?_; refine Runs.regO (.inl rfl) nzc (fun R hR => ?_); simp (disch := omega) [if_t, hn, s0, s1, s5]; refine hR _ _ _ (by simp) ?_; clear hR R; refine Runs.condI fun d hd => ?_; simp (disch := omega) [if_t, hn, s0, s1, s5] at hd; subst hd; refine cond_b (fun hc => ?_) (fun hc => ?_)
  ·first | (simp at hc; done) |
    (
    (try simp at hc); (try have hcx0 := inR_t.1 hc); (try have hcx1 := isV_t.1 hc); have hsz := siz_ix hc
    (try simp at hsz); rw [drop_ix hc] at hM; rw [wOf] at hM; refine Runs.skip ?_; refine Runs.cseq ?_; refine Runs.cblock ?_; refine Runs.cseq ?_; refine Runs.regO (.inl rfl) nzc (fun R hR => ?_); simp (disch := omega) [if_t, hn, s0, s1, s5]; refine hR _ _ _ (by simp) ?_; clear hR R; refine Runs.condI fun d hd => ?_; simp (disch := omega) [if_t, hn, s0, s1, s5] at hd; subst hd; refine cond_b (fun hc => ?_) (fun hc => ?_)
    ·first | (simp at hc; done) |
      (
      (try simp at hc); (try have hcx0 := inR_t.1 hc); (try have hcx1 := isV_t.1 hc); rw [if_pos hc] at hM; refine Runs.cseq ?_; refine Runs.regO (.inl rfl) nzc (fun R hR => ?_); simp (disch := omega) [if_t, hn, s0, s1, s5]; refine hR _ _ _ (by simp) ?_; clear hR R; refine Runs.ret ?_; dsimp only [thenQ, blockQ]; refine ⟨by simp, by simp (disch := omega) [hE1] <;> omega, ?_⟩
      simp (disch := omega) [if_t, hn, s0, s1, s5, resD, resL, resV] <;> (first | omega | (simp_all [wOf]; done) | (simp_all [wOf] <;> omega)))
    ·first | (simp at hc; done) |
      (
      (try simp at hc); (try have hcx0 := inR_t.1 hc); (try have hcx1 := isV_t.1 hc); rw [if_neg hc] at hM; refine Runs.skip ?_; refine Runs.regO (.inl rfl) nzc (fun R hR => ?_); simp (disch := omega) [if_t, hn, s0, s1, s5]; refine hR _ _ _ (by simp) ?_; clear hR R; dsimp only [thenQ, blockQ]; refine ⟨k1 - 1, by omega, i + 1, ?_, ?_, ?_, ?_, ?_, ?_, ?_⟩
      ·omega
      ·simp (disch := omega) [hE1] <;> omega
      ·simp (disch := omega) [if_t, hn, s0, s1, s5]
      ·simp (disch := omega) [if_t, hn, s0, s1, s5]
      ·simp (disch := omega) [if_t, hn, s0, s1, s5]
      ·first | omega | assumption
      ·rw [hM]))
  ·first | (simp at hc; done) |
    (
    (try simp at hc); (try have hcx0 := inR_t.1 hc); (try have hcx1 := isV_t.1 hc); rw [List.drop_of_length_le (by omega)] at hM; refine Runs.exit ?_; refine Runs.cseq ?_; refine Runs.regO (.inl rfl) nzc (fun R hR => ?_); simp (disch := omega) [if_t, hn, s0, s1, s5]; refine hR _ _ _ (by simp) ?_; clear hR R; refine Runs.ret ?_; dsimp only [thenQ, blockQ]; refine ⟨by simp, by simp (disch := omega) [hE1] <;> omega, ?_⟩
    simp (disch := omega) [if_t, hn, s0, s1, s5, resD, resL, resV] <;> (first | omega | (simp_all [wOf]; done) | (simp_all [wOf] <;> omega)))
 ·skip
  refine ⟨0, ?_, ?_, ?_, ?_, ?_, ?_, ?_⟩
  ·omega
  ·simp
  ·simp (disch := omega) [if_t, hn]
  ·simp (disch := omega) [if_t, hn]
  ·simp (disch := omega) [if_t, hn]
  ·first | omega | simp | rfl
  ·rfl

/-- spec.validEdges -/
@[simp] theorem c_spec_validEdges (es : List Ent) (n : Nat) (hn : n ≠ 0) (p0 : sizL es ≤ 1152921504606846976) : cfg.call 42 [cl es] n = some (bi (validE es), n, []) := by
 refine call_runs0 rfl Try.func42 rfl (by kernel_rfl) rfl (by simp (disch := omega) [low_agg, low_pt, low_fn]) ?_; have hl_es := len_siz es
 refine Runs.cseq ?_; refine Runs.regO (.inl rfl) nzc (fun R hR => ?_); simp (disch := omega) [if_t, hn]; refine hR _ _ _ (by simp) ?_; clear hR R; refine Runs.cseq ?_; refine Runs.cseq ?_; refine Runs.regO (.inl rfl) nzc (fun R hR => ?_); repeat' (first | (simp (disch := omega) [if_t, hn]) | (with_reducible refine RunsW.splitN (fun hb => ?_) (fun hb => ?_) <;> (try simp only [hb]) <;> (try simp at hb) <;> (try have hx0 := inR_t.1 hb) <;> (try have hx1 := isV_t.1 hb)) | (with_reducible refine RunsW.split (fun hb => ?_) (fun hb => ?_) <;> (try simp only [hb]) <;> (try simp at hb) <;> (try have hx0 := inR_t.1 hb) <;> (try have hx1 := isV_t.1 hb)))
 all_goals (
  refine hR _ _ _ (by simp) ?_; clear hR R; refine Runs.condI fun d hd => ?_; simp (disch := omega) [if_t, hn] at hd; subst hd; refine cond_b (fun hc => ?_) (fun hc => ?_)
  ·first | (simp at hc; done) |
    (
    (try simp at hc); (try have hcx0 := inR_t.1 hc); (try have hcx1 := isV_t.1 hc); refine Runs.cseq ?_; refine Runs.regO (.inl rfl) nzc (fun R hR => ?_); simp (disch := omega) [if_t, hn]; refine hR _ _ _ (by simp) ?_; clear hR R; refine Runs.ret ?_; dsimp only [thenQ, blockQ]; refine ⟨by simp, by simp (disch := omega) <;> omega, ?_⟩
    simp (disch := omega) [if_t, hn, resD, resL, resV] <;> (first | omega | (simp_all [validE, allEdge]; done) | (simp_all [validE, allEdge] <;> omega)))
  ·first | (simp at hc; done) |
    (
    (try simp at hc); (try have hcx0 := inR_t.1 hc); (try have hcx1 := isV_t.1 hc); refine Runs.skip ?_; refine Runs.cseq ?_; refine Runs.cseq ?_; refine Runs.regO (.inl rfl) nzc (fun R hR => ?_); simp (disch := omega) [if_t, hn]; refine hR _ _ _ (by simp) ?_; clear hR R; refine Runs.cblock ?_; refine Runs.loop (fun k fr n' E => ∃ (i : Nat), n ≤ n' ∧ Go.Cv.Loc n E ∧ fr 0 = cl es ∧ fr 3 = ci (i : Int) ∧ i + k = es.length ∧ allEdge es = allEdge (es.drop i)) ?_ (k := es.length) ?_
    ·rintro k1 fr n1 E1 ⟨i, hn1, hE1, s0, s3, hk, hM⟩
     have hz1 : n1 ≠ 0 := by omega
     refine Runs.cseq ?_; refine Runs.cseq ?_; refine Runs.regO (.inl rfl) nzc (fun R hR => ?_); simp (disch := omega) [if_t, hn, s0, s3]; refine hR _ _ _ (by simp) ?_; clear hR R; refine Runs.condI fun d hd => ?_; simp (disch := omega) [if_t, hn, s0, s3] at hd; subst hd; refine cond_b (fun hc => ?_) (fun hc => ?_)
     ·first | (simp at hc; done) |
       (
       (try simp at hc); (try have hcx0 := inR_t.1 hc); (try have hcx1 := isV_t.1 hc); have hsz := siz_ix hc
       (try simp at hsz); rw [drop_ix hc] at hM; rw [allEdge] at hM; refine Runs.skip ?_; refine Runs.cseq ?_; refine Runs.cblock ?_; refine Runs.cseq ?_; refine Runs.regO (.inl rfl) nzc (fun R hR => ?_); simp (disch := omega) [if_t, hn, s0, s3]; refine hR _ _ _ (by simp) ?_; clear hR R; refine Runs.cseq ?_; refine Runs.regO (.inl rfl) nzc (fun R hR => ?_); repeat' (first | (simp (disch := omega) [if_t, hn, s0, s3]) | (with_reducible refine RunsW.splitN (fun hb => ?_) (fun hb => ?_) <;> (try simp only [hb]) <;> (try simp at hb) <;> (try have hx0 := inR_t.1 hb) <;> (try have hx1 := isV_t.1 hb)) | (with_reducible refine RunsW.split (fun hb => ?_) (fun hb => ?_) <;> (try simp only [hb]) <;> (try simp at hb) <;> (try have hx0 := inR_t.1 hb) <;> (try have hx1 := isV_t.1 hb)))
       all_goals (
        refine hR _ _ _ (by simp) ?_; clear hR R; refine Runs.condI fun d hd => ?_; simp (disch := omega) [if_t, hn, s0, s3] at hd; subst hd; refine cond_b (fun hc => ?_) (fun hc => ?_)
        ·first | (simp at hc; done) |
          (
          (try simp at hc); (try have hcx0 := inR_t.1 hc); (try have hcx1 := isV_t.1 hc); have ho : okEdge (ix es i) = false := by clear hM; simp_all [okEdge, isV] <;> omega
          have hM : allEdge es = false := by rw [hM, ho]; rfl
          refine Runs.cseq ?_; refine Runs.regO (.inl rfl) nzc (fun R hR => ?_); simp (disch := omega) [if_t, hn, s0, s3]; refine hR _ _ _ (by simp) ?_; clear hR R; refine Runs.ret ?_; dsimp only [thenQ, blockQ]; refine ⟨by simp, by simp (disch := omega) [hE1] <;> omega, ?_⟩
          simp (disch := omega) [if_t, hn, s0, s3, resD, resL, resV] <;> (first | omega | (simp_all [validE, allEdge]; done) | (simp_all [validE, allEdge] <;> omega)))
        ·first | (simp at hc; done) |
          (
          (try simp at hc); (try have hcx0 := inR_t.1 hc); (try have hcx1 := isV_t.1 hc); have ho : okEdge (ix es i) = true := by clear hM; simp_all [okEdge, isV] <;> omega
          rw [ho, Bool.true_and] at hM; refine Runs.skip ?_; refine Runs.regO (.inl rfl) nzc (fun R hR => ?_); simp (disch := omega) [if_t, hn, s0, s3]; refine hR _ _ _ (by simp) ?_; clear hR R; dsimp only [thenQ, blockQ]; refine ⟨k1 - 1, by omega, i + 1, ?_, ?_, ?_, ?_, ?_, ?_⟩
          ·omega
          ·simp (disch := omega) [hE1] <;> omega
          ·simp (disch := omega) [if_t, hn, s0, s3]
          ·simp (disch := omega) [if_t, hn, s0, s3]
          ·first | omega | assumption
          ·rw [hM])))
     ·first | (simp at hc; done) |
       (
       (try simp at hc); (try have hcx0 := inR_t.1 hc); (try have hcx1 := isV_t.1 hc); rw [List.drop_of_length_le (by omega)] at hM; refine Runs.exit ?_; refine Runs.cseq ?_; refine Runs.regO (.inl rfl) nzc (fun R hR => ?_); simp (disch := omega) [if_t, hn, s0, s3]; refine hR _ _ _ (by simp) ?_; clear hR R; refine Runs.ret ?_; dsimp only [thenQ, blockQ]; refine ⟨by simp, by simp (disch := omega) [hE1] <;> omega, ?_⟩
       simp (disch := omega) [if_t, hn, s0, s3, resD, resL, resV] <;> (first | omega | (simp_all [validE, allEdge]; done) | (simp_all [validE, allEdge] <;> omega)))
    ·skip
     refine ⟨0, ?_, ?_, ?_, ?_, ?_, ?_⟩
     ·omega
     ·simp
     ·simp (disch := omega) [if_t, hn]
     ·simp (disch := omega) [if_t, hn]
     ·first | omega | simp | rfl
     ·rfl))

def edgesOk (es : List Ent) : List Int → Bool
  | a :: b :: rest => !(decide (wOf es [a, b] = 0)) && edgesOk es (b :: rest)
  | _ => true
def preP (es : List Ent) (p : List Int) (x y : Int) : Bool := validE es && (inR p.length 2 60 && (decide (ix p 0 = x) && decide (ix p (p.length - 1) = y)))
def pathOk (es : List Ent) (x y : Int) (p : List Int) : Bool := preP es p x y && edgesOk es p
theorem two_slice {xs : List Int} {i : Nat} (h : i + 1 < xs.length) : (xs.take (i + 2)).drop i = [ix xs i, ix xs (i + 1)] := by
  rw [List.drop_take, show i + 2 - i = 2 by omega, drop_ix (by omega), drop_ix h]; rfl

/-- cmp.isNaN[int] -/
@[simp] theorem c_cmp_isNaN_int (x : Int) (n : Nat) (hn : n ≠ 0)  : cfg.call 108 [ci x] n = some (bi false, n, []) := by
 refine call_runs0 rfl Try.func108 rfl (by kernel_rfl) rfl (by simp (disch := omega) [low_agg, low_pt, low_fn]) ?_; refine Runs.cseq ?_; refine Runs.regO (.inl rfl) nzc (fun R hR => ?_); simp (disch := omega) [if_t, hn]; refine hR _ _ _ (by simp) ?_; clear hR R; refine Runs.cseq ?_; refine Runs.regO (.inl rfl) nzc (fun R hR => ?_); simp (disch := omega) [if_t, hn]; refine hR _ _ _ (by simp) ?_; clear hR R; refine Runs.ret ?_; dsimp only [thenQ, blockQ]; refine ⟨by simp, by simp (disch := omega) <;> omega, ?_⟩
 simp (disch := omega) [if_t, hn, resD, resL, resV] <;> (first | omega | (simp_all; done) | (simp_all <;> omega))

def cmpI (x y : Int) : Int := if x < y then -1 else if y < x then 1 else 0
def cmpL : List Int → List Int → Int
  | [], [] => 0
  | [], _ :: _ => -1
  | _ :: _, [] => 1
  | x :: xs, y :: ys => if cmpI x y = 0 then cmpL xs ys else cmpI x y

/-- cmp.Compare[int] -/
@[simp] theorem c_cmp_Compare_int (x y : Int) (n : Nat) (hn : n ≠ 0)  : cfg.call 103 [ci x, ci y] n = some (ci (cmpI x y), n, []) := by
 refine call_runs0 rfl Try.func103 rfl (by kernel_rfl) rfl (by simp (disch := omega) [low_agg, low_pt, low_fn]) ?_; refine Runs.cseq ?_; refine Runs.regO (.inl rfl) nzc (fun R hR => ?_); simp (disch := omega) [if_t, hn]; refine hR _ _ _ (by simp) ?_; clear hR R; refine Runs.cseq ?_; refine Runs.regO (.inl rfl) nzc (fun R hR => ?_); simp (disch := omega) [if_t, hn]; refine hR _ _ _ (by simp) ?_; clear hR R; refine Runs.cseq ?_; refine Runs.regO (.inl rfl) nzc (fun R hR => ?_); simp (disch := omega) [if_t, hn]; refine hR _ _ _ (by simp) ?_; clear hR R; refine Runs.cseq ?_; refine Runs.cseq ?_; refine Runs.regO (.inl rfl) nzc (fun R hR => ?_); simp (disch := omega) [if_t, hn]; refine hR _ _ _ (by simp) ?_; clear hR R; refine Runs.condI fun d hd => ?_; simp (disch := omega) [if_t, hn] at hd; subst hd; refine cond_b (fun hc => ?_) (fun hc => ?_)
 ·first | (simp at hc; done) |
   (
   (try simp at hc); (try have hcx0 := inR_t.1 hc); (try have hcx1 := isV_t.1 hc); refine Runs.cseq ?_; refine Runs.cseq ?_; refine Runs.regO (.inl rfl) nzc (fun R hR => ?_); simp (disch := omega) [if_t, hn]; refine hR _ _ _ (by simp) ?_; clear hR R; refine Runs.condI fun d hd => ?_; simp (disch := omega) [if_t, hn] at hd; subst hd; refine cond_b (fun hc => ?_) (fun hc => ?_)
   ·first | (simp at hc; done) |
     (
     (try simp at hc); (try have hcx0 := inR_t.1 hc); (try have hcx1 := isV_t.1 hc); refine Runs.cseq ?_; refine Runs.regO (.inl rfl) nzc (fun R hR => ?_); simp (disch := omega) [if_t, hn]; refine hR _ _ _ (by simp) ?_; clear hR R; refine Runs.ret ?_; dsimp only [thenQ, blockQ]; refine ⟨by simp, by simp (disch := omega) <;> omega, ?_⟩
     simp (disch := omega) [if_t, hn, resD, resL, resV] <;> (first | omega | (simp_all [cmpI]; done) | (simp_all [cmpI] <;> omega)))
   ·first | (simp at hc; done) |
     (
     (try simp at hc); (try have hcx0 := inR_t.1 hc); (try have hcx1 := isV_t.1 hc); refine Runs.skip ?_; refine Runs.cseq ?_; refine Runs.regO (.inl rfl) nzc (fun R hR => ?_); simp (disch := omega) [if_t, hn]; refine hR _ _ _ (by simp) ?_; clear hR R; refine Runs.ret ?_; dsimp only [thenQ, blockQ]; refine ⟨by simp, by simp (disch := omega) <;> omega, ?_⟩
     simp (disch := omega) [if_t, hn, resD, resL, resV] <;> (first | omega | (simp_all [cmpI]; done) | (simp_all [cmpI] <;> omega))))
 ·first | (simp at hc; done) |
   (
   (try simp at hc); (try have hcx0 := inR_t.1 hc); (try have hcx1 := isV_t.1 hc); refine Runs.skip ?_; refine Runs.cseq ?_; refine Runs.cseq ?_; refine Runs.regO (.inl rfl) nzc (fun R hR => ?_); simp (disch := omega) [if_t, hn]; refine hR _ _ _ (by simp) ?_; clear hR R; refine Runs.condI fun d hd => ?_; simp (disch := omega) [if_t, hn] at hd; subst hd; refine cond_b (fun hc => ?_) (fun hc => ?_)
   ·first | (simp at hc; done) |
     (
     (try simp at hc); (try have hcx0 := inR_t.1 hc); (try have hcx1 := isV_t.1 hc); refine Runs.cseq ?_; refine Runs.regO (.inl rfl) nzc (fun R hR => ?_); simp (disch := omega) [if_t, hn]; refine hR _ _ _ (by simp) ?_; clear hR R; refine Runs.ret ?_; dsimp only [thenQ, blockQ]; refine ⟨by simp, by simp (disch := omega) <;> omega, ?_⟩
     simp (disch := omega) [if_t, hn, resD, resL, resV] <;> (first | omega | (simp_all [cmpI]; done) | (simp_all [cmpI] <;> omega)))
   ·first | (simp at hc; done) |
     (
     (try simp at hc); (try have hcx0 := inR_t.1 hc); (try have hcx1 := isV_t.1 hc); refine Runs.skip ?_; refine Runs.cseq ?_; refine Runs.cseq ?_; refine Runs.regO (.inl rfl) nzc (fun R hR => ?_); simp (disch := omega) [if_t, hn]; refine hR _ _ _ (by simp) ?_; clear hR R; refine Runs.condI fun d hd => ?_; simp (disch := omega) [if_t, hn] at hd; subst hd; refine cond_b (fun hc => ?_) (fun hc => ?_)
     ·first | (simp at hc; done) |
       (
       (try simp at hc); (try have hcx0 := inR_t.1 hc); (try have hcx1 := isV_t.1 hc); refine Runs.cseq ?_; refine Runs.regO (.inl rfl) nzc (fun R hR => ?_); simp (disch := omega) [if_t, hn]; refine hR _ _ _ (by simp) ?_; clear hR R; refine Runs.ret ?_; dsimp only [thenQ, blockQ]; refine ⟨by simp, by simp (disch := omega) <;> omega, ?_⟩
       simp (disch := omega) [if_t, hn, resD, resL, resV] <;> (first | omega | (simp_all [cmpI]; done) | (simp_all [cmpI] <;> omega)))
     ·first | (simp at hc; done) |
       (
       (try simp at hc); (try have hcx0 := inR_t.1 hc); (try have hcx1 := isV_t.1 hc); refine Runs.skip ?_; refine Runs.cseq ?_; refine Runs.cseq ?_; refine Runs.regO (.inl rfl) nzc (fun R hR => ?_); simp (disch := omega) [if_t, hn]; refine hR _ _ _ (by simp) ?_; clear hR R; refine Runs.condI fun d hd => ?_; simp (disch := omega) [if_t, hn] at hd; subst hd; refine cond_b (fun hc => ?_) (fun hc => ?_)
       ·first | (simp at hc; done) |
         (
         (try simp at hc); (try have hcx0 := inR_t.1 hc); (try have hcx1 := isV_t.1 hc); refine Runs.cseq ?_; refine Runs.regO (.inl rfl) nzc (fun R hR => ?_); simp (disch := omega) [if_t, hn]; refine hR _ _ _ (by simp) ?_; clear hR R; refine Runs.ret ?_; dsimp only [thenQ, blockQ]; refine ⟨by simp, by simp (disch := omega) <;> omega, ?_⟩
         simp (disch := omega) [if_t, hn, resD, resL, resV] <;> (first | omega | (simp_all [cmpI]; done) | (simp_all [cmpI] <;> omega)))
       ·first | (simp at hc; done) |
         (
         (try simp at hc); (try have hcx0 := inR_t.1 hc); (try have hcx1 := isV_t.1 hc); refine Runs.skip ?_; refine Runs.cseq ?_; refine Runs.regO (.inl rfl) nzc (fun R hR => ?_); simp (disch := omega) [if_t, hn]; refine hR _ _ _ (by simp) ?_; clear hR R; refine Runs.ret ?_; dsimp only [thenQ, blockQ]; refine ⟨by simp, by simp (disch := omega) <;> omega, ?_⟩
         simp (disch := omega) [if_t, hn, resD, resL, resV] <;> (first | omega | (simp_all [cmpI]; done) | (simp_all [cmpI] <;> omega))))))

/-- slices.Compare[[]int,int] -/
@[simp] theorem c_slices_Compare_sint_int (xs ys : List Int) (n : Nat) (hn : n ≠ 0) (p0 : sizL xs ≤ 1152921504606846976) : cfg.call 97 [cl xs, cl ys] n = some (ci (cmpL xs ys), n, []) := by
 refine call_runs0 rfl Try.func97 rfl (by kernel_rfl) rfl (by simp (disch := omega) [low_agg, low_pt, low_fn]) ?_; have hl_xs := len_siz xs
 refine Runs.cseq ?_; refine Runs.regO (.inl rfl) nzc (fun R hR => ?_); simp (disch := omega) [if_t, hn]; refine hR _ _ _ (by simp) ?_; clear hR R; refine Runs.cseq ?_; refine Runs.cseq ?_; refine Runs.regO (.inl rfl) nzc (fun R hR => ?_); simp (disch := omega) [if_t, hn]; refine hR _ _ _ (by simp) ?_; clear hR R; refine Runs.cblock ?_; refine Runs.loop (fun k fr n' E => ∃ (i : Nat), n ≤ n' ∧ Go.Cv.Loc n E ∧ fr 0 = cl xs ∧ fr 1 = cl ys ∧ fr 9 = cl xs ∧ fr 10 = ci (xs.length : Int) ∧ fr 11 = ci (i : Int) ∧ i + k = xs.length ∧ cmpL xs ys = cmpL (xs.drop i) (ys.drop i) ∧ i ≤ ys.length) ?_ (k := xs.length) ?_
 ·rintro k1 fr n1 E1 ⟨i, hn1, hE1, s0, s1, s9, s10, s11, hk, hM, hi⟩
  have hz1 : n1 ≠ 0 := by omega
  refine Runs.cseq ?_; refine Runs.regO (.inl rfl) nzc (fun R hR => ?_); simp (disch := omega) [if_t, hn, s0, s1, s9, s10, s11]; refine hR _ _ _ (by simp) ?_; clear hR R; refine Runs.cseq ?_; refine Runs.condI fun d hd => ?_; simp (disch := omega) [if_t, hn, s0, s1, s9, s10, s11] at hd; subst hd; refine cond_b (fun hc => ?_) (fun hc => ?_)
  ·first | (simp at hc; done) |
    (
    (try simp at hc); (try have hcx0 := inR_t.1 hc); (try have hcx1 := isV_t.1 hc); have hsz := siz_ix hc
    (try simp at hsz); rw [drop_ix hc] at hM; refine Runs.skip ?_; refine Runs.cseq ?_; refine Runs.cblock ?_; refine Runs.cseq ?_; refine Runs.regO (.inl rfl) nzc (fun R hR => ?_); simp (disch := omega) [if_t, hn, s0, s1, s9, s10, s11]; refine hR _ _ _ (by simp) ?_; clear hR R; refine Runs.cseq ?_; refine Runs.cseq ?_; refine Runs.regO (.inl rfl) nzc (fun R hR => ?_); simp (disch := omega) [if_t, hn, s0, s1, s9, s10, s11]; refine hR _ _ _ (by simp) ?_; clear hR R; refine Runs.condI fun d hd => ?_; simp (disch := omega) [if_t, hn, s0, s1, s9, s10, s11] at hd; subst hd; refine cond_b (fun hc => ?_) (fun hc => ?_)
    ·first | (simp at hc; done) |
      (
      (try simp at hc); (try have hcx0 := inR_t.1 hc); (try have hcx1 := isV_t.1 hc); rw [List.drop_of_length_le (l := ys) (i := i) (by omega), cmpL] at hM; refine Runs.cseq ?_; refine Runs.regO (.inl rfl) nzc (fun R hR => ?_); simp (disch := omega) [if_t, hn, s0, s1, s9, s10, s11]; refine hR _ _ _ (by simp) ?_; clear hR R; refine Runs.ret ?_; dsimp only [thenQ, blockQ]; refine ⟨by simp, by simp (disch := omega) [hE1] <;> omega, ?_⟩
      simp (disch := omega) [if_t, hn, s0, s1, s9, s10, s11, resD, resL, resV] <;> (first | omega | (simp_all; done) | (simp_all <;> omega)))
    ·first | (simp at hc; done) |
      (
      (try simp at hc); (try have hcx0 := inR_t.1 hc); (try have hcx1 := isV_t.1 hc); rw [drop_ix (xs := ys) (i := i) (by omega), cmpL] at hM; refine Runs.skip ?_; refine Runs.cseq ?_; refine Runs.regO (.inl rfl) nzc (fun R hR => ?_); simp (disch := omega) [if_t, hn, s0, s1, s9, s10, s11]; refine hR _ _ _ (by simp) ?_; clear hR R; refine Runs.cseq ?_; refine Runs.regO (.inl rfl) nzc (fun R hR => ?_); simp (disch := omega) [if_t, hn, s0, s1, s9, s10, s11]; refine hR _ _ _ (by simp) ?_; clear hR R; refine Runs.cseq ?_; refine Runs.regO (.inl rfl) nzc (fun R hR => ?_); simp (disch := omega) [if_t, hn, s0, s1, s9, s10, s11]; refine hR _ _ _ (by simp) ?_; clear hR R; refine Runs.condI fun d hd => ?_; simp (disch := omega) [if_t, hn, s0, s1, s9, s10, s11] at hd; subst hd; refine cond_b (fun hc => ?_) (fun hc => ?_)
      ·first | (simp at hc; done) |
        (
        (try simp at hc); (try have hcx0 := inR_t.1 hc); (try have hcx1 := isV_t.1 hc); rw [if_neg hc] at hM; refine Runs.cseq ?_; refine Runs.regO (.inl rfl) nzc (fun R hR => ?_); simp (disch := omega) [if_t, hn, s0, s1, s9, s10, s11]; refine hR _ _ _ (by simp) ?_; clear hR R; refine Runs.ret ?_; dsimp only [thenQ, blockQ]; refine ⟨by simp, by simp (disch := omega) [hE1] <;> omega, ?_⟩
        simp (disch := omega) [if_t, hn, s0, s1, s9, s10, s11, resD, resL, resV] <;> (first | omega | (simp_all; done) | (simp_all <;> omega)))
      ·first | (simp at hc; done) |
        (
        (try simp at hc); (try have hcx0 := inR_t.1 hc); (try have hcx1 := isV_t.1 hc); rw [if_pos hc] at hM; refine Runs.skip ?_; refine Runs.regO (.inl rfl) nzc (fun R hR => ?_); simp (disch := omega) [if_t, hn, s0, s1, s9, s10, s11]; refine hR _ _ _ (by simp) ?_; clear hR R; dsimp only [thenQ, blockQ]; refine ⟨k1 - 1, by omega, i + 1, ?_, ?_, ?_, ?_, ?_, ?_, ?_, ?_, ?_, ?_⟩
        ·omega
        ·simp (disch := omega) [hE1] <;> omega
        ·simp (disch := omega) [if_t, hn, s0, s1, s9, s10, s11]
        ·simp (disch := omega) [if_t, hn, s0, s1, s9, s10, s11]
        ·simp (disch := omega) [if_t, hn, s0, s1, s9, s10, s11]
        ·simp (disch := omega) [if_t, hn, s0, s1, s9, s10, s11]
        ·simp (disch := omega) [if_t, hn, s0, s1, s9, s10, s11]
        ·first | omega | assumption
        ·rw [hM]
        ·first | omega | assumption)))
  ·first | (simp at hc; done) |
    (
    (try simp at hc); (try have hcx0 := inR_t.1 hc); (try have hcx1 := isV_t.1 hc); rw [List.drop_of_length_le (by omega)] at hM; refine Runs.exit ?_; refine Runs.cseq ?_; refine Runs.cseq ?_; refine Runs.regO (.inl rfl) nzc (fun R hR => ?_); simp (disch := omega) [if_t, hn, s0, s1, s9, s10, s11]; refine hR _ _ _ (by simp) ?_; clear hR R; refine Runs.condI fun d hd => ?_; simp (disch := omega) [if_t, hn, s0, s1, s9, s10, s11] at hd; subst hd; refine cond_b (fun hc => ?_) (fun hc => ?_)
    ·first | (simp at hc; done) |
      (
      (try simp at hc); (try have hcx0 := inR_t.1 hc); (try have hcx1 := isV_t.1 hc); rw [drop_ix (xs := ys) (i := i) (by omega), cmpL] at hM; refine Runs.cseq ?_; refine Runs.regO (.inl rfl) nzc (fun R hR => ?_); simp (disch := omega) [if_t, hn, s0, s1, s9, s10, s11]; refine hR _ _ _ (by simp) ?_; clear hR R; refine Runs.ret ?_; dsimp only [thenQ, blockQ]; refine ⟨by simp, by simp (disch := omega) [hE1] <;> omega, ?_⟩
      simp (disch := omega) [if_t, hn, s0, s1, s9, s10, s11, resD, resL, resV] <;> (first | omega | (simp_all; done) | (simp_all <;> omega)))
    ·first | (simp at hc; done) |
      (
      (try simp at hc); (try have hcx0 := inR_t.1 hc); (try have hcx1 := isV_t.1 hc); rw [List.drop_of_length_le (l := ys) (by omega), cmpL] at hM; refine Runs.skip ?_; refine Runs.cseq ?_; refine Runs.regO (.inl rfl) nzc (fun R hR => ?_); simp (disch := omega) [if_t, hn, s0, s1, s9, s10, s11]; refine hR _ _ _ (by simp) ?_; clear hR R; refine Runs.ret ?_; dsimp only [thenQ, blockQ]; refine ⟨by simp, by simp (disch := omega) [hE1] <;> omega, ?_⟩
      simp (disch := omega) [if_t, hn, s0, s1, s9, s10, s11, resD, resL, resV] <;> (first | omega | (simp_all; done) | (simp_all <;> omega))))
 ·skip
  refine ⟨0, ?_, ?_, ?_, ?_, ?_, ?_, ?_, ?_, ?_, ?_⟩
  ·omega
  ·simp
  ·simp (disch := omega) [if_t, hn]
  ·simp (disch := omega) [if_t, hn]
  ·simp (disch := omega) [if_t, hn]
  ·simp (disch := omega) [if_t, hn]
  ·simp (disch := omega) [if_t, hn]
  ·first | omega | simp | rfl
  ·rfl
  ·first | omega | simp | rfl

/-- impl.RowLess -/
@[simp] theorem c_impl_RowLess (xs ys : List Int) (n : Nat) (hn : n ≠ 0) (p0 : sizL xs ≤ 1152921504606846976) : cfg.call 90 [cl xs, cl ys] n = some (bi (decide (cmpL xs ys < 0)), n, []) := by
 refine call_runs0 rfl Try.func90 rfl (by kernel_rfl) rfl (by simp (disch := omega) [low_agg, low_pt, low_fn]) ?_; refine Runs.cseq ?_; refine Runs.regO (.inl rfl) nzc (fun R hR => ?_); simp (disch := omega) [if_t, hn]; refine hR _ _ _ (by simp) ?_; clear hR R; refine Runs.cseq ?_; refine Runs.regO (.inl rfl) nzc (fun R hR => ?_); simp (disch := omega) [if_t, hn]; refine hR _ _ _ (by simp) ?_; clear hR R; refine Runs.ret ?_; dsimp only [thenQ, blockQ]; refine ⟨by simp, by simp (disch := omega) <;> omega, ?_⟩
 simp (disch := omega) [if_t, hn, resD, resL, resV] <;> (first | omega | (simp_all; done) | (simp_all <;> omega))

theorem cmpL_lt : ∀ xs ys : List Int, decide (cmpL xs ys < 0) = rowLess xs ys
  | [], [] => by simp [cmpL, rowLess]
  | [], y :: ys => by simp [cmpL, rowLess]
  | x :: xs, [] => by simp [cmpL, rowLess]
  | x :: xs, y :: ys => by
    rw [cmpL, rowLess]
    by_cases h : x = y
    · subst h
      have h0 : cmpI x x = 0 := by simp [cmpI]
      rw [if_pos h0, if_pos rfl]
      exact cmpL_lt xs ys
    · by_cases h1 : x < y
      · simp [cmpI, h1, h]
      · have h2 : y < x := by omega
        simp [cmpI, h1, h2, h]
theorem cmpL_lt' (xs ys : List Int) : decide (cmpL xs ys < 0) = rowLess xs ys := cmpL_lt xs ys

/-- impl.ValidRow -/
@[simp] theorem c_impl_ValidRow (xs : List Int) (n : Nat) (hn : n ≠ 0) (p0 : sizL xs ≤ 1152921504606846976) : cfg.call 81 [cl xs] n = some (bi (validRow xs), n, []) := by
 refine call_runs0 rfl Try.func81 rfl (by kernel_rfl) rfl (by simp (disch := omega) [low_agg, low_pt, low_fn]) ?_; have hl_xs := len_siz xs
 refine Runs.cseq ?_; refine Runs.regO (.inl rfl) nzc (fun R hR => ?_); simp (disch := omega) [if_t, hn]; refine hR _ _ _ (by simp) ?_; clear hR R; refine Runs.cseq ?_; refine Runs.cseq ?_; refine Runs.regO (.inl rfl) nzc (fun R hR => ?_); simp (disch := omega) [if_t, hn]; refine hR _ _ _ (by simp) ?_; clear hR R; refine Runs.cblock ?_; refine Runs.loop (fun k fr n' E => ∃ (i : Nat), n ≤ n' ∧ Go.Cv.Loc n E ∧ fr 0 = cl xs ∧ fr 5 = cl xs ∧ fr 6 = ci (xs.length : Int) ∧ fr 7 = ci (i : Int) ∧ i + k = xs.length ∧ allOk xs = allOk (xs.drop i)) ?_ (k := xs.length) ?_
 ·rintro k1 fr n1 E1 ⟨i, hn1, hE1, s0, s5, s6, s7, hk, hM⟩
  have hz1 : n1 ≠ 0 := by omega
  refine Runs.cseq ?_; refine Runs.regO (.inl rfl) nzc (fun R hR => ?_); simp (disch := omega) [if_t, hn, s0, s5, s6, s7]; refine hR _ _ _ (by simp) ?_; clear hR R; refine Runs.cseq ?_; refine Runs.condI fun d hd => ?_; simp (disch := omega) [if_t, hn, s0, s5, s6, s7] at hd; subst hd; refine cond_b (fun hc => ?_) (fun hc => ?_)
  ·first | (simp at hc; done) |
    (
    (try simp at hc); (try have hcx0 := inR_t.1 hc); (try have hcx1 := isV_t.1 hc); have hsz := siz_ix hc
    (try simp at hsz); rw [drop_ix hc] at hM; rw [allOk] at hM; refine Runs.skip ?_; refine Runs.cseq ?_; refine Runs.cblock ?_; refine Runs.cseq ?_; refine Runs.regO (.inl rfl) nzc (fun R hR => ?_); simp (disch := omega) [if_t, hn, s0, s5, s6, s7]; refine hR _ _ _ (by simp) ?_; clear hR R; refine Runs.cseq ?_; refine Runs.regO (.inl rfl) nzc (fun R hR => ?_); repeat' (first | (simp (disch := omega) [if_t, hn, s0, s5, s6, s7]) | (with_reducible refine RunsW.splitN (fun hb => ?_) (fun hb => ?_) <;> (try simp only [hb]) <;> (try simp at hb) <;> (try have hx0 := inR_t.1 hb) <;> (try have hx1 := isV_t.1 hb)) | (with_reducible refine RunsW.split (fun hb => ?_) (fun hb => ?_) <;> (try simp only [hb]) <;> (try simp at hb) <;> (try have hx0 := inR_t.1 hb) <;> (try have hx1 := isV_t.1 hb)))
    all_goals (
     refine hR _ _ _ (by simp) ?_; clear hR R; refine Runs.condI fun d hd => ?_; simp (disch := omega) [if_t, hn, s0, s5, s6, s7] at hd; subst hd; refine cond_b (fun hc => ?_) (fun hc => ?_)
     ·first | (simp at hc; done) |
       (
       (try simp at hc); (try have hcx0 := inR_t.1 hc); (try have hcx1 := isV_t.1 hc); have ho : okNum (ix xs i) = false := by clear hM; simp_all [okNum, inR] <;> omega
       have hM : allOk xs = false := by rw [hM, ho]; rfl
       refine Runs.cseq ?_; refine Runs.regO (.inl rfl) nzc (fun R hR => ?_); simp (disch := omega) [if_t, hn, s0, s5, s6, s7]; refine hR _ _ _ (by simp) ?_; clear hR R; refine Runs.ret ?_; dsimp only [thenQ, blockQ]; refine ⟨by simp, by simp (disch := omega) [hE1] <;> omega, ?_⟩
       simp (disch := omega) [if_t, hn, s0, s5, s6, s7, resD, resL, resV] <;> (first | omega | (simp_all [validRow, allOk, inR]; done) | (simp_all [validRow, allOk, inR] <;> omega)))
     ·first | (simp at hc; done) |
       (
       (try simp at hc); (try have hcx0 := inR_t.1 hc); (try have hcx1 := isV_t.1 hc); have ho : okNum (ix xs i) = true := by clear hM; simp_all [okNum, inR] <;> omega
       rw [ho, Bool.true_and] at hM; refine Runs.skip ?_; refine Runs.regO (.inl rfl) nzc (fun R hR => ?_); simp (disch := omega) [if_t, hn, s0, s5, s6, s7]; refine hR _ _ _ (by simp) ?_; clear hR R; dsimp only [thenQ, blockQ]; refine ⟨k1 - 1, by omega, i + 1, ?_, ?_, ?_, ?_, ?_, ?_, ?_, ?_⟩
       ·omega
       ·simp (disch := omega) [hE1] <;> omega
       ·simp (disch := omega) [if_t, hn, s0, s5, s6, s7]
       ·simp (disch := omega) [if_t, hn, s0, s5, s6, s7]
       ·simp (disch := omega) [if_t, hn, s0, s5, s6, s7]
       ·simp (disch := omega) [if_t, hn, s0, s5, s6, s7]
       ·first | omega | assumption
       ·rw [hM])))
  ·first | (simp at hc; done) |
    (
    (try simp at hc); (try have hcx0 := inR_t.1 hc); (try have hcx1 := isV_t.1 hc); rw [List.drop_of_length_le (by omega)] at hM; refine Runs.exit ?_; refine Runs.cseq ?_; refine Runs.regO (.inl rfl) nzc (fun R hR => ?_); repeat' (first | (simp (disch := omega) [if_t, hn, s0, s5, s6, s7]) | (with_reducible refine RunsW.splitN (fun hb => ?_) (fun hb => ?_) <;> (try simp only [hb]) <;> (try simp at hb) <;> (try have hx0 := inR_t.1 hb) <;> (try have hx1 := isV_t.1 hb)) | (with_reducible refine RunsW.split (fun hb => ?_) (fun hb => ?_) <;> (try simp only [hb]) <;> (try simp at hb) <;> (try have hx0 := inR_t.1 hb) <;> (try have hx1 := isV_t.1 hb)))
    all_goals (
     refine hR _ _ _ (by simp) ?_; clear hR R; refine Runs.ret ?_; dsimp only [thenQ, blockQ]; refine ⟨by simp, by simp (disch := omega) [hE1] <;> omega, ?_⟩
     simp (disch := omega) [if_t, hn, s0, s5, s6, s7, resD, resL, resV] <;> (first | omega | (simp_all [validRow, allOk, inR]; done) | (simp_all [validRow, allOk, inR] <;> omega))))
 ·skip
  refine ⟨0, ?_, ?_, ?_, ?_, ?_, ?_, ?_, ?_⟩
  ·omega
  ·simp
  ·simp (disch := omega) [if_t, hn]
  ·simp (disch := omega) [if_t, hn]
  ·simp (disch := omega) [if_t, hn]
  ·simp (disch := omega) [if_t, hn]
  ·first | omega | simp | rfl
  ·rfl

/-- impl.ValidZSet -/
@[simp] theorem c_impl_ValidZSet (es : List Ent) (n : Nat) (hn : n ≠ 0) (p0 : sizL es ≤ 1152921504606846976) : cfg.call 72 [cl es] n = some (bi (validZ es), n, []) := by
 refine call_runs0 rfl Try.func72 rfl (by kernel_rfl) rfl (by simp (disch := omega) [low_agg, low_pt, low_fn]) ?_; have hl_es := len_siz es
 refine Runs.cseq ?_; refine Runs.regO (.inl rfl) nzc (fun R hR => ?_); simp (disch := omega) [if_t, hn, cmpL_lt']; refine hR _ _ _ (by simp) ?_; clear hR R; refine Runs.cseq ?_; refine Runs.cseq ?_; refine Runs.regO (.inl rfl) nzc (fun R hR => ?_); simp (disch := omega) [if_t, hn, cmpL_lt']; refine hR _ _ _ (by simp) ?_; clear hR R; refine Runs.cblock ?_; refine Runs.loop (fun k fr n' E => ∃ (i : Nat), n ≤ n' ∧ Go.Cv.Loc n E ∧ fr 0 = cl es ∧ fr 5 = cl es ∧ fr 6 = ci (es.length : Int) ∧ fr 7 = ci (i : Int) ∧ i + k = es.length ∧ okFrom es 0 es.length = okFrom es i k) ?_ (k := es.length) ?_
 ·rintro k1 fr n1 E1 ⟨i, hn1, hE1, s0, s5, s6, s7, hk, hM⟩
  have hz1 : n1 ≠ 0 := by omega
  refine Runs.cseq ?_; refine Runs.regO (.inl rfl) nzc (fun R hR => ?_); simp (disch := omega) [if_t, hn, s0, s5, s6, s7, cmpL_lt']; refine hR _ _ _ (by simp) ?_; clear hR R; refine Runs.cseq ?_; refine Runs.condI fun d hd => ?_; simp (disch := omega) [if_t, hn, s0, s5, s6, s7, cmpL_lt'] at hd; subst hd; refine cond_b (fun hc => ?_) (fun hc => ?_)
  ·first | (simp at hc; done) |
    (
    (try simp at hc); (try have hcx0 := inR_t.1 hc); (try have hcx1 := isV_t.1 hc); have hsz := siz_ix hc
    simp at hsz; have hs0 := siz_ix (xs := es) (i := 0) (by omega)
    simp at hs0; have hs1 := siz_ix (xs := es) (i := i - 1) (by omega)
    simp at hs1; obtain ⟨k1, rfl⟩ : ∃ j, k1 = j + 1 := ⟨k1 - 1, by omega⟩
    rw [okFrom] at hM; refine Runs.skip ?_; refine Runs.cseq ?_; refine Runs.cblock ?_; refine Runs.cseq ?_; refine Runs.regO (.inl rfl) nzc (fun R hR => ?_); simp (disch := omega) [if_t, hn, s0, s5, s6, s7, cmpL_lt']; refine hR _ _ _ (by simp) ?_; clear hR R; refine Runs.cseq ?_; refine Runs.regO (.inr (by kernel_rfl)) nzc (fun R hR => ?_); repeat' (first | (simp (disch := omega) [if_t, hn, s0, s5, s6, s7, cmpL_lt']) | (with_reducible refine RunsW.splitN (fun hb => ?_) (fun hb => ?_) <;> (try simp only [hb]) <;> (try simp at hb) <;> (try have hx0 := inR_t.1 hb) <;> (try have hx1 := isV_t.1 hb)) | (with_reducible refine RunsW.split (fun hb => ?_) (fun hb => ?_) <;> (try simp only [hb]) <;> (try simp at hb) <;> (try have hx0 := inR_t.1 hb) <;> (try have hx1 := isV_t.1 hb)))
    all_goals (
     refine hR _ _ _ (by simp) ?_; clear hR R; refine Runs.condI fun d hd => ?_; simp (disch := omega) [if_t, hn, s0, s5, s6, s7, cmpL_lt'] at hd; subst hd; refine cond_b (fun hc => ?_) (fun hc => ?_)
     ·first | (simp at hc; done) |
       (
       (try simp at hc); (try have hcx0 := inR_t.1 hc); (try have hcx1 := isV_t.1 hc); have ho : okEnt es i = false := by clear hM; simp_all [okEnt, inR] <;> omega
       have hM : okFrom es 0 es.length = false := by rw [hM, ho]; rfl
       refine Runs.cseq ?_; refine Runs.regO (.inl rfl) nzc (fun R hR => ?_); simp (disch := omega) [if_t, hn, s0, s5, s6, s7, cmpL_lt']; refine hR _ _ _ (by simp) ?_; clear hR R; refine Runs.ret ?_; dsimp only [thenQ, blockQ]; refine ⟨by simp, by simp (disch := omega) [hE1] <;> omega, ?_⟩
       simp (disch := omega) [if_t, hn, s0, s5, s6, s7, cmpL_lt', resD, resL, resV] <;> (first | omega | (simp_all [validZ]; done) | (simp_all [validZ] <;> omega)))
     ·first | (simp at hc; done) |
       (
       (try simp at hc); (try have hcx0 := inR_t.1 hc); (try have hcx1 := isV_t.1 hc); have ho : okEnt es i = true := by clear hM; simp_all [okEnt, inR] <;> omega
       rw [ho, Bool.true_and] at hM; refine Runs.skip ?_; refine Runs.regO (.inl rfl) nzc (fun R hR => ?_); simp (disch := omega) [if_t, hn, s0, s5, s6, s7, cmpL_lt']; refine hR _ _ _ (by simp) ?_; clear hR R; dsimp only [thenQ, blockQ]; refine ⟨k1, by omega, i + 1, ?_, ?_, ?_, ?_, ?_, ?_, ?_, ?_⟩
       ·omega
       ·simp (disch := omega) [hE1] <;> omega
       ·simp (disch := omega) [if_t, hn, s0, s5, s6, s7, cmpL_lt']
       ·simp (disch := omega) [if_t, hn, s0, s5, s6, s7, cmpL_lt']
       ·simp (disch := omega) [if_t, hn, s0, s5, s6, s7, cmpL_lt']
       ·simp (disch := omega) [if_t, hn, s0, s5, s6, s7, cmpL_lt']
       ·first | omega | assumption
       ·rw [hM])))
  ·first | (simp at hc; done) |
    (
    (try simp at hc); (try have hcx0 := inR_t.1 hc); (try have hcx1 := isV_t.1 hc); obtain rfl : k1 = 0 := by omega
    rw [okFrom] at hM; refine Runs.exit ?_; refine Runs.cseq ?_; refine Runs.regO (.inl rfl) nzc (fun R hR => ?_); simp (disch := omega) [if_t, hn, s0, s5, s6, s7, cmpL_lt']; refine hR _ _ _ (by simp) ?_; clear hR R; refine Runs.ret ?_; dsimp only [thenQ, blockQ]; refine ⟨by simp, by simp (disch := omega) [hE1] <;> omega, ?_⟩
    simp (disch := omega) [if_t, hn, s0, s5, s6, s7, cmpL_lt', resD, resL, resV] <;> (first | omega | (simp_all [validZ]; done) | (simp_all [validZ] <;> omega)))
 ·skip
  refine ⟨0, ?_, ?_, ?_, ?_, ?_, ?_, ?_, ?_⟩
  ·omega
  ·simp
  ·simp (disch := omega) [if_t, hn, cmpL_lt']
  ·simp (disch := omega) [if_t, hn, cmpL_lt']
  ·simp (disch := omega) [if_t, hn, cmpL_lt']
  ·simp (disch := omega) [if_t, hn, cmpL_lt']
  ·first | omega | simp | rfl
  ·rfl

/-- impl.IsSet -/
@[simp] theorem c_impl_IsSet (es : List Ent) (n : Nat) (hn : n ≠ 0) (p0 : sizL es ≤ 1152921504606846976) : cfg.call 55 [cl es] n = some (bi (allSet es && validZ es), n, []) := by
 refine call_runs0 rfl Try.func55 rfl (by kernel_rfl) rfl (by simp (disch := omega) [low_agg, low_pt, low_fn]) ?_; have hl_es := len_siz es
 refine Runs.cseq ?_; refine Runs.regO (.inl rfl) nzc (fun R hR => ?_); simp (disch := omega) [if_t, hn]; refine hR _ _ _ (by simp) ?_; clear hR R; refine Runs.cseq ?_; refine Runs.cseq ?_; refine Runs.regO (.inl rfl) nzc (fun R hR => ?_); simp (disch := omega) [if_t, hn]; refine hR _ _ _ (by simp) ?_; clear hR R; refine Runs.cblock ?_; refine Runs.loop (fun k fr n' E => ∃ (i : Nat), n ≤ n' ∧ Go.Cv.Loc n E ∧ fr 0 = cl es ∧ fr 5 = cl es ∧ fr 6 = ci (es.length : Int) ∧ fr 7 = ci (i : Int) ∧ i + k = es.length ∧ allSet es = allSet (es.drop i)) ?_ (k := es.length) ?_
 ·rintro k1 fr n1 E1 ⟨i, hn1, hE1, s0, s5, s6, s7, hk, hM⟩
  have hz1 : n1 ≠ 0 := by omega
  refine Runs.cseq ?_; refine Runs.regO (.inl rfl) nzc (fun R hR => ?_); simp (disch := omega) [if_t, hn, s0, s5, s6, s7]; refine hR _ _ _ (by simp) ?_; clear hR R; refine Runs.cseq ?_; refine Runs.condI fun d hd => ?_; simp (disch := omega) [if_t, hn, s0, s5, s6, s7] at hd; subst hd; refine cond_b (fun hc => ?_) (fun hc => ?_)
  ·first | (simp at hc; done) |
    (
    (try simp at hc); (try have hcx0 := inR_t.1 hc); (try have hcx1 := isV_t.1 hc); have hsz := siz_ix hc
    (try simp at hsz); rw [drop_ix hc] at hM; rw [allSet] at hM; refine Runs.skip ?_; refine Runs.cseq ?_; refine Runs.cblock ?_; refine Runs.cseq ?_; refine Runs.regO (.inl rfl) nzc (fun R hR => ?_); simp (disch := omega) [if_t, hn, s0, s5, s6, s7]; refine hR _ _ _ (by simp) ?_; clear hR R; refine Runs.cseq ?_; refine Runs.regO (.inl rfl) nzc (fun R hR => ?_); simp (disch := omega) [if_t, hn, s0, s5, s6, s7]; refine hR _ _ _ (by simp) ?_; clear hR R; refine Runs.condI fun d hd => ?_; simp (disch := omega) [if_t, hn, s0, s5, s6, s7] at hd; subst hd; refine cond_b (fun hc => ?_) (fun hc => ?_)
    ·first | (simp at hc; done) |
      (
      (try simp at hc); (try have hcx0 := inR_t.1 hc); (try have hcx1 := isV_t.1 hc); rw [decide_eq_false hc, Bool.false_and] at hM; refine Runs.cseq ?_; refine Runs.regO (.inl rfl) nzc (fun R hR => ?_); simp (disch := omega) [if_t, hn, s0, s5, s6, s7]; refine hR _ _ _ (by simp) ?_; clear hR R; refine Runs.ret ?_; dsimp only [thenQ, blockQ]; refine ⟨by simp, by simp (disch := omega) [hE1] <;> omega, ?_⟩
      simp (disch := omega) [if_t, hn, s0, s5, s6, s7, resD, resL, resV] <;> (first | omega | (simp_all [allSet]; done) | (simp_all [allSet] <;> omega)))
    ·first | (simp at hc; done) |
      (
      (try simp at hc); (try have hcx0 := inR_t.1 hc); (try have hcx1 := isV_t.1 hc); rw [decide_eq_true hc, Bool.true_and] at hM; refine Runs.skip ?_; refine Runs.regO (.inl rfl) nzc (fun R hR => ?_); simp (disch := omega) [if_t, hn, s0, s5, s6, s7]; refine hR _ _ _ (by simp) ?_; clear hR R; dsimp only [thenQ, blockQ]; refine ⟨k1 - 1, by omega, i + 1, ?_, ?_, ?_, ?_, ?_, ?_, ?_, ?_⟩
      ·omega
      ·simp (disch := omega) [hE1] <;> omega
      ·simp (disch := omega) [if_t, hn, s0, s5, s6, s7]
      ·simp (disch := omega) [if_t, hn, s0, s5, s6, s7]
      ·simp (disch := omega) [if_t, hn, s0, s5, s6, s7]
      ·simp (disch := omega) [if_t, hn, s0, s5, s6, s7]
      ·first | omega | assumption
      ·rw [hM]))
  ·first | (simp at hc; done) |
    (
    (try simp at hc); (try have hcx0 := inR_t.1 hc); (try have hcx1 := isV_t.1 hc); rw [List.drop_of_length_le (by omega)] at hM; refine Runs.exit ?_; refine Runs.cseq ?_; refine Runs.regO (.inl rfl) nzc (fun R hR => ?_); simp (disch := omega) [if_t, hn, s0, s5, s6, s7]; refine hR _ _ _ (by simp) ?_; clear hR R; refine Runs.ret ?_; dsimp only [thenQ, blockQ]; refine ⟨by simp, by simp (disch := omega) [hE1] <;> omega, ?_⟩
    simp (disch := omega) [if_t, hn, s0, s5, s6, s7, resD, resL, resV] <;> (first | omega | (simp_all [allSet]; done) | (simp_all [allSet] <;> omega)))
 ·skip
  refine ⟨0, ?_, ?_, ?_, ?_, ?_, ?_, ?_, ?_⟩
  ·omega
  ·simp
  ·simp (disch := omega) [if_t, hn]
  ·simp (disch := omega) [if_t, hn]
  ·simp (disch := omega) [if_t, hn]
  ·simp (disch := omega) [if_t, hn]
  ·first | omega | simp | rfl
  ·rfl

/-- impl.ValidEdges -/
@[simp] theorem c_impl_ValidEdges (es : List Ent) (n : Nat) (hn : n ≠ 0) (p0 : sizL es ≤ 1152921504606846976) : cfg.call 46 [cl es] n = some (bi (validE es), n, []) := by
 refine call_runs0 rfl Try.func46 rfl (by kernel_rfl) rfl (by simp (disch := omega) [low_agg, low_pt, low_fn]) ?_; have hl_es := len_siz es
 refine Runs.cseq ?_; refine Runs.regO (.inl rfl) nzc (fun R hR => ?_); simp (disch := omega) [if_t, hn]; refine hR _ _ _ (by simp) ?_; clear hR R; refine Runs.cseq ?_; refine Runs.cseq ?_; refine Runs.regO (.inl rfl) nzc (fun R hR => ?_); simp (disch := omega) [if_t, hn]; refine hR _ _ _ (by simp) ?_; clear hR R; refine Runs.cblock ?_; refine Runs.loop (fun k fr n' E => ∃ (i : Nat), n ≤ n' ∧ Go.Cv.Loc n E ∧ fr 0 = cl es ∧ fr 5 = cl es ∧ fr 6 = ci (es.length : Int) ∧ fr 7 = ci (i : Int) ∧ i + k = es.length ∧ allEdge es = allEdge (es.drop i)) ?_ (k := es.length) ?_
 ·rintro k1 fr n1 E1 ⟨i, hn1, hE1, s0, s5, s6, s7, hk, hM⟩
  have hz1 : n1 ≠ 0 := by omega
  refine Runs.cseq ?_; refine Runs.regO (.inl rfl) nzc (fun R hR => ?_); simp (disch := omega) [if_t, hn, s0, s5, s6, s7]; refine hR _ _ _ (by simp) ?_; clear hR R; refine Runs.cseq ?_; refine Runs.condI fun d hd => ?_; simp (disch := omega) [if_t, hn, s0, s5, s6, s7] at hd; subst hd; refine cond_b (fun hc => ?_) (fun hc => ?_)
  ·first | (simp at hc; done) |
    (
    (try simp at hc); (try have hcx0 := inR_t.1 hc); (try have hcx1 := isV_t.1 hc); have hsz := siz_ix hc
    (try simp at hsz); rw [drop_ix hc] at hM; rw [allEdge] at hM; refine Runs.skip ?_; refine Runs.cseq ?_; refine Runs.cblock ?_; refine Runs.cseq ?_; refine Runs.regO (.inl rfl) nzc (fun R hR => ?_); simp (disch := omega) [if_t, hn, s0, s5, s6, s7]; refine hR _ _ _ (by simp) ?_; clear hR R; refine Runs.cseq ?_; refine Runs.regO (.inl rfl) nzc (fun R hR => ?_); repeat' (first | (simp (disch := omega) [if_t, hn, s0, s5, s6, s7]) | (with_reducible refine RunsW.splitN (fun hb => ?_) (fun hb => ?_) <;> (try simp only [hb]) <;> (try simp at hb) <;> (try have hx0 := inR_t.1 hb) <;> (try have hx1 := isV_t.1 hb)) | (with_reducible refine RunsW.split (fun hb => ?_) (fun hb => ?_) <;> (try simp only [hb]) <;> (try simp at hb) <;> (try have hx0 := inR_t.1 hb) <;> (try have hx1 := isV_t.1 hb)))
    all_goals (
     refine hR _ _ _ (by simp) ?_; clear hR R; refine Runs.condI fun d hd => ?_; simp (disch := omega) [if_t, hn, s0, s5, s6, s7] at hd; subst hd; refine cond_b (fun hc => ?_) (fun hc => ?_)
     ·first | (simp at hc; done) |
       (
       (try simp at hc); (try have hcx0 := inR_t.1 hc); (try have hcx1 := isV_t.1 hc); have ho : okEdge (ix es i) = false := by clear hM; simp_all [okEdge, isV] <;> omega
       have hM : allEdge es = false := by rw [hM, ho]; rfl
       refine Runs.cseq ?_; refine Runs.regO (.inl rfl) nzc (fun R hR => ?_); simp (disch := omega) [if_t, hn, s0, s5, s6, s7]; refine hR _ _ _ (by simp) ?_; clear hR R; refine Runs.ret ?_; dsimp only [thenQ, blockQ]; refine ⟨by simp, by simp (disch := omega) [hE1] <;> omega, ?_⟩
       simp (disch := omega) [if_t, hn, s0, s5, s6, s7, resD, resL, resV] <;> (first | omega | (simp [validE, hM, allEdge]; cases allSet es <;> cases validZ es <;> simp) | (simp_all [validE, allEdge]; done) | (simp_all [validE, allEdge] <;> omega)))
     ·first | (simp at hc; done) |
       (
       (try simp at hc); (try have hcx0 := inR_t.1 hc); (try have hcx1 := isV_t.1 hc); have ho : okEdge (ix es i) = true := by clear hM; simp_all [okEdge, isV] <;> omega
       rw [ho, Bool.true_and] at hM; refine Runs.skip ?_; refine Runs.regO (.inl rfl) nzc (fun R hR => ?_); simp (disch := omega) [if_t, hn, s0, s5, s6, s7]; refine hR _ _ _ (by simp) ?_; clear hR R; dsimp only [thenQ, blockQ]; refine ⟨k1 - 1, by omega, i + 1, ?_, ?_, ?_, ?_, ?_, ?_, ?_, ?_⟩
       ·omega
       ·simp (disch := omega) [hE1] <;> omega
       ·simp (disch := omega) [if_t, hn, s0, s5, s6, s7]
       ·simp (disch := omega) [if_t, hn, s0, s5, s6, s7]
       ·simp (disch := omega) [if_t, hn, s0, s5, s6, s7]
       ·simp (disch := omega) [if_t, hn, s0, s5, s6, s7]
       ·first | omega | assumption
       ·rw [hM])))
  ·first | (simp at hc; done) |
    (
    (try simp at hc); (try have hcx0 := inR_t.1 hc); (try have hcx1 := isV_t.1 hc); rw [List.drop_of_length_le (by omega)] at hM; refine Runs.exit ?_; refine Runs.cseq ?_; refine Runs.regO (.inl rfl) nzc (fun R hR => ?_); simp (disch := omega) [if_t, hn, s0, s5, s6, s7]; refine hR _ _ _ (by simp) ?_; clear hR R; refine Runs.ret ?_; dsimp only [thenQ, blockQ]; refine ⟨by simp, by simp (disch := omega) [hE1] <;> omega, ?_⟩
    simp (disch := omega) [if_t, hn, s0, s5, s6, s7, resD, resL, resV] <;> (first | omega | (simp [validE, hM, allEdge]; cases allSet es <;> cases validZ es <;> simp) | (simp_all [validE, allEdge]; done) | (simp_all [validE, allEdge] <;> omega)))
 ·skip
  refine ⟨0, ?_, ?_, ?_, ?_, ?_, ?_, ?_, ?_⟩
  ·omega
  ·simp
  ·simp (disch := omega) [if_t, hn]
  ·simp (disch := omega) [if_t, hn]
  ·simp (disch := omega) [if_t, hn]
  ·simp (disch := omega) [if_t, hn]
  ·first | omega | simp | rfl
  ·rfl

def adjF : List Ent → (Nat → Nat → Bool) → Nat → Nat → Bool
  | [], g => g
  | e :: es, g => adjF es (upd2 g (ix e.row 0).toNat (ix e.row 1).toNat true)
def adjG (es : List Ent) : Nat → Nat → Bool := adjF es (fun _ _ => false)
theorem okEdge_iff {e : Ent} : okEdge e = true ↔ e.row.length = 2 ∧ (0 ≤ ix e.row 0 ∧ ix e.row 0 ≤ 19) ∧ (0 ≤ ix e.row 1 ∧ ix e.row 1 ≤ 19) := by simp [okEdge, isV, inR]
theorem allEdge_ix : ∀ {es : List Ent} {i : Nat}, allEdge es = true → i < es.length → okEdge (ix es i) = true
  | e :: es, 0, h, _ => by simp only [allEdge, Bool.and_eq_true] at h; exact h.1
  | e :: es, i + 1, h, hi => by simp only [allEdge, Bool.and_eq_true] at h; rw [ix_succ]; exact allEdge_ix h.2 (by simpa using hi)

/-- spec.CheckPath -/
@[simp] theorem c_spec_CheckPath (es : List Ent) (x y : Int) (p : List Int) (n : Nat) (hn : n ≠ 0) (p0 : sizL es ≤ 1152921504606846976) (p1 : sizL p ≤ 1152921504606846976) : cfg.call 15 [cl es, ci x, ci y, cl p] n = some (bi (pathOk es x y p), n, []) := by
 refine call_runs0 rfl Try.func15 rfl (by kernel_rfl) rfl (by simp (disch := omega) [low_agg, low_pt, low_fn]) ?_; have hl_es := len_siz es
 have hl_p := len_siz p
 refine Runs.cseq ?_; refine Runs.regO (.inl rfl) nzc (fun R hR => ?_); simp (disch := omega) [if_t, hn]; refine hR _ _ _ (by simp) ?_; clear hR R; refine Runs.cseq ?_; refine Runs.cseq ?_; refine Runs.regO (.inl rfl) nzc (fun R hR => ?_); repeat' (first | (simp (disch := omega) [if_t, hn]) | (with_reducible refine RunsW.splitN (fun hb => ?_) (fun hb => ?_) <;> (try simp only [hb]) <;> (try simp at hb) <;> (try have hx0 := inR_t.1 hb) <;> (try have hx1 := isV_t.1 hb)) | (with_reducible refine RunsW.split (fun hb => ?_) (fun hb => ?_) <;> (try simp only [hb]) <;> (try simp at hb) <;> (try have hx0 := inR_t.1 hb) <;> (try have hx1 := isV_t.1 hb)))
 all_goals (
  refine hR _ _ _ (by simp) ?_; clear hR R; refine Runs.condI fun d hd => ?_; simp (disch := omega) [if_t, hn] at hd; subst hd; refine cond_b (fun hc => ?_) (fun hc => ?_)
  ·first | (simp at hc; done) |
    (
    (try simp at hc); (try have hcx0 := inR_t.1 hc); (try have hcx1 := isV_t.1 hc); have ho : preP es p x y = false := by simp_all [preP] <;> omega
    refine Runs.cseq ?_; refine Runs.regO (.inl rfl) nzc (fun R hR => ?_); simp (disch := omega) [if_t, hn]; refine hR _ _ _ (by simp) ?_; clear hR R; refine Runs.ret ?_; dsimp only [thenQ, blockQ]; refine ⟨by simp, by simp (disch := omega) <;> omega, ?_⟩
    simp (disch := omega) [if_t, hn, resD, resL, resV] <;> (first | omega | (simp_all [pathOk]; done) | (simp_all [pathOk] <;> omega)))
  ·first | (simp at hc; done) |
    (
    (try simp at hc); (try have hcx0 := inR_t.1 hc); (try have hcx1 := isV_t.1 hc); have ho : preP es p x y = true := by simp_all [preP] <;> omega
    refine Runs.skip ?_; refine Runs.cseq ?_; refine Runs.cseq ?_; refine Runs.regO (.inl rfl) nzc (fun R hR => ?_); simp (disch := omega) [if_t, hn]; refine hR _ _ _ (by simp) ?_; clear hR R; refine Runs.cblock ?_; refine Runs.loop (fun k fr n' E => ∃ (i : Nat), n ≤ n' ∧ Go.Cv.Loc n E ∧ fr 0 = cl es ∧ fr 3 = cl p ∧ fr 9 = ci ((i : Int) + 1) ∧ i + 1 + k = p.length ∧ edgesOk es p = edgesOk es (p.drop i)) ?_ (k := p.length - 1) ?_
    ·rintro k1 fr n1 E1 ⟨i, hn1, hE1, s0, s3, s9, hk, hM⟩
     have hz1 : n1 ≠ 0 := by omega
     refine Runs.cseq ?_; refine Runs.cseq ?_; refine Runs.regO (.inl rfl) nzc (fun R hR => ?_); simp (disch := omega) [if_t, hn, s0, s3, s9]; refine hR _ _ _ (by simp) ?_; clear hR R; refine Runs.condI fun d hd => ?_; simp (disch := omega) [if_t, hn, s0, s3, s9] at hd; subst hd; refine cond_b (fun hc => ?_) (fun hc => ?_)
     ·first | (simp at hc; done) |
       (
       (try simp at hc); (try have hcx0 := inR_t.1 hc); (try have hcx1 := isV_t.1 hc); rw [drop_ix (xs := p) (i := i) (by omega), drop_ix (xs := p) (i := i + 1) (by omega), edgesOk, ← drop_ix (xs := p) (i := i + 1) (by omega)] at hM; have ht : ((i : Int) + 1 + 1).toNat = i + 2 := by omega
       refine Runs.skip ?_; refine Runs.cseq ?_; refine Runs.cblock ?_; refine Runs.cseq ?_; refine Runs.regO (.inl rfl) nzc (fun R hR => ?_); simp (disch := omega) [if_t, hn, s0, s3, s9]; refine hR _ _ _ (by simp) ?_; clear hR R; refine Runs.condI fun d hd => ?_; simp (disch := omega) [if_t, hn, s0, s3, s9] at hd; subst hd; refine cond_b (fun hc => ?_) (fun hc => ?_)
       ·first | (simp at hc; done) |
         (
         (try simp at hc); (try have hcx0 := inR_t.1 hc); (try have hcx1 := isV_t.1 hc); rw [ht, two_slice (by omega)] at hc; rw [hc] at hM; refine Runs.cseq ?_; refine Runs.regO (.inl rfl) nzc (fun R hR => ?_); simp (disch := omega) [if_t, hn, s0, s3, s9]; refine hR _ _ _ (by simp) ?_; clear hR R; refine Runs.ret ?_; dsimp only [thenQ, blockQ]; refine ⟨by simp, by simp (disch := omega) [hE1] <;> omega, ?_⟩
         simp (disch := omega) [if_t, hn, s0, s3, s9, resD, resL, resV] <;> (first | omega | (simp_all [pathOk]; done) | (simp_all [pathOk] <;> omega)))
       ·first | (simp at hc; done) |
         (
         (try simp at hc); (try have hcx0 := inR_t.1 hc); (try have hcx1 := isV_t.1 hc); rw [ht, two_slice (by omega)] at hc; rw [decide_eq_false hc, Bool.not_false, Bool.true_and] at hM; refine Runs.skip ?_; refine Runs.regO (.inl rfl) nzc (fun R hR => ?_); simp (disch := omega) [if_t, hn, s0, s3, s9]; refine hR _ _ _ (by simp) ?_; clear hR R; dsimp only [thenQ, blockQ]; refine ⟨k1 - 1, by omega, i + 1, ?_, ?_, ?_, ?_, ?_, ?_, ?_⟩
         ·omega
         ·simp (disch := omega) [hE1] <;> omega
         ·simp (disch := omega) [if_t, hn, s0, s3, s9]
         ·simp (disch := omega) [if_t, hn, s0, s3, s9]
         ·simp (disch := omega) [if_t, hn, s0, s3, s9]
         ·first | omega | assumption
         ·rw [hM]))
     ·first | (simp at hc; done) |
       (
       (try simp at hc); (try have hcx0 := inR_t.1 hc); (try have hcx1 := isV_t.1 hc); have hM : edgesOk es p = true := by
        rw [hM, drop_ix (xs := p) (i := i) (by omega), List.drop_of_length_le (by omega)]; rfl
       refine Runs.exit ?_; refine Runs.cseq ?_; refine Runs.regO (.inl rfl) nzc (fun R hR => ?_); simp (disch := omega) [if_t, hn, s0, s3, s9]; refine hR _ _ _ (by simp) ?_; clear hR R; refine Runs.ret ?_; dsimp only [thenQ, blockQ]; refine ⟨by simp, by simp (disch := omega) [hE1] <;> omega, ?_⟩
       simp (disch := omega) [if_t, hn, s0, s3, s9, resD, resL, resV] <;> (first | omega | (simp_all [pathOk]; done) | (simp_all [pathOk] <;> omega)))
    ·skip
     refine ⟨0, ?_, ?_, ?_, ?_, ?_, ?_, ?_⟩
     ·omega
     ·simp
     ·simp (disch := omega) [if_t, hn]
     ·simp (disch := omega) [if_t, hn]
     ·simp (disch := omega) [if_t, hn]
     ·first | omega | simp | rfl
     ·rfl))

def impOk (g : Nat → Nat → Bool) : List Int → Bool
  | a :: b :: rest => (isV a && isV b && g a.toNat b.toNat) && impOk g (b :: rest)
  | _ => true

/-- impl.adjacency -/
@[simp] theorem c_impl_adjacency (es : List Ent) (n : Nat) (hn : n ≠ 0) (p0 : sizL es ≤ 1152921504606846976) (p1 : allEdge es = true) : cfg.call 47 [cl es] n = some (.agg (mat (adjG es)), n, []) := by
 refine call_runs0 rfl Try.func47 rfl (by kernel_rfl) rfl (by simp (disch := omega) [low_agg, low_pt, low_fn]) ?_; have hl_es := len_siz es
 refine Runs.cseq ?_; refine Runs.regO (.inl rfl) nzc (fun R hR => ?_); simp (disch := omega) [if_t, hn]; refine hR _ _ _ (by simp) ?_; clear hR R; refine Runs.cseq ?_; refine Runs.regO (.inl rfl) nzc (fun R hR => ?_); simp (disch := omega) [if_t, hn]; refine hR _ _ _ (by simp) ?_; clear hR R; refine Runs.cseq ?_; refine Runs.cseq ?_; refine Runs.regO (.inl rfl) nzc (fun R hR => ?_); simp (disch := omega) [if_t, hn]; refine hR _ _ _ (by simp) ?_; clear hR R; refine Runs.cblock ?_; refine Runs.loop (fun k fr n' E => ∃ (i : Nat) (g : Nat → Nat → Bool), n + 2 ≤ n' ∧ Go.Cv.Loc n E ∧ fr 2 = .pt n 0 (mat (fun _ _ => false)) ∧ fr 3 = .pt (n + 1) 0 (mat g) ∧ fr 7 = cl es ∧ fr 8 = ci (es.length : Int) ∧ fr 9 = ci (i : Int) ∧ i + k = es.length ∧ adjG es = adjF (es.drop i) g) ?_ (k := es.length) ?_
 ·rintro k1 fr n1 E1 ⟨i, g, hn1, hE1, s2, s3, s7, s8, s9, hk, hM⟩
  have hz1 : n1 ≠ 0 := by omega
  refine Runs.cseq ?_; refine Runs.regO (.inl rfl) nzc (fun R hR => ?_); simp (disch := omega) [if_t, hn, s2, s3, s7, s8, s9]; refine hR _ _ _ (by simp) ?_; clear hR R; refine Runs.cseq ?_; refine Runs.condI fun d hd => ?_; simp (disch := omega) [if_t, hn, s2, s3, s7, s8, s9] at hd; subst hd; refine cond_b (fun hc => ?_) (fun hc => ?_)
  ·first | (simp at hc; done) |
    (
    (try simp at hc); (try have hcx0 := inR_t.1 hc); (try have hcx1 := isV_t.1 hc); have hsz := siz_ix hc
    (try simp at hsz); rw [drop_ix hc] at hM; rw [adjF] at hM; have ho := okEdge_iff.1 (allEdge_ix p1 hc)
    obtain ⟨ho1, ho2, ho3⟩ := ho
    refine Runs.skip ?_; refine Runs.cseq ?_; refine Runs.cblock ?_; refine Runs.cseq ?_; refine Runs.regO (.inl rfl) nzc (fun R hR => ?_); simp (disch := omega) [if_t, hn, s2, s3, s7, s8, s9]; refine hR _ _ _ (by simp) ?_; clear hR R; refine Runs.regO (.inr (by kernel_rfl)) nzc (fun R hR => ?_); simp (disch := omega) [if_t, hn, s2, s3, s7, s8, s9]; refine hR _ _ _ (by simp) ?_; clear hR R; refine Runs.regO (.inl rfl) nzc (fun R hR => ?_); simp (disch := omega) [if_t, hn, s2, s3, s7, s8, s9]; refine hR _ _ _ (by simp) ?_; clear hR R; dsimp only [thenQ, blockQ]; refine ⟨k1 - 1, by omega, i + 1, upd2 g (ix (ix es i).row 0).toNat (ix (ix es i).row 1).toNat true, ?_, ?_, ?_, ?_, ?_, ?_, ?_, ?_, ?_⟩
    ·omega
    ·simp (disch := omega) [hE1] <;> omega
    ·simp (disch := omega) [if_t, hn, s2, s3, s7, s8, s9]
    ·simp (disch := omega) [if_t, hn, s2, s3, s7, s8, s9]
    ·simp (disch := omega) [if_t, hn, s2, s3, s7, s8, s9]
    ·simp (disch := omega) [if_t, hn, s2, s3, s7, s8, s9]
    ·simp (disch := omega) [if_t, hn, s2, s3, s7, s8, s9]
    ·first | omega | assumption
    ·rw [hM])
  ·first | (simp at hc; done) |
    (
    (try simp at hc); (try have hcx0 := inR_t.1 hc); (try have hcx1 := isV_t.1 hc); rw [List.drop_of_length_le (by omega)] at hM; refine Runs.exit ?_; refine Runs.cseq ?_; refine Runs.regO (.inl rfl) nzc (fun R hR => ?_); simp (disch := omega) [if_t, hn, s2, s3, s7, s8, s9]; refine hR _ _ _ (by simp) ?_; clear hR R; refine Runs.ret ?_; dsimp only [thenQ, blockQ]; refine ⟨by simp, by simp (disch := omega) [hE1] <;> omega, ?_⟩
    simp (disch := omega) [if_t, hn, s2, s3, s7, s8, s9, resD, resL, resV] <;> (first | omega | (simp_all [adjF]; done) | (simp_all [adjF] <;> omega)))
 ·skip
  refine ⟨0, fun _ _ => false, ?_, ?_, ?_, ?_, ?_, ?_, ?_, ?_, ?_⟩
  ·omega
  ·simp
  ·simp (disch := omega) [if_t, hn]
  ·simp (disch := omega) [if_t, hn]
  ·simp (disch := omega) [if_t, hn]
  ·simp (disch := omega) [if_t, hn]
  ·simp (disch := omega) [if_t, hn]
  ·first | omega | simp | rfl
  ·rfl

def preI (es : List Ent) (p : List Int) (x y : Int) : Bool := validE es && (inR p.length 2 60 && (decide (ix p 0 = x) && decide (ix p (p.length - 1) = y)))

/-- impl.CheckPath -/
@[simp] theorem c_impl_CheckPath (es : List Ent) (x y : Int) (p : List Int) (n : Nat) (hn : n ≠ 0) (p0 : sizL es ≤ 1152921504606846976) (p1 : sizL p ≤ 1152921504606846976) : cfg.call 18 [cl es, ci x, ci y, cl p] n = some (bi (preP es p x y && impOk (adjG es) p), n, []) := by
 refine call_runs0 rfl Try.func18 rfl (by kernel_rfl) rfl (by simp (disch := omega) [low_agg, low_pt, low_fn]) ?_; have hl_es := len_siz es
 have hl_p := len_siz p
 refine Runs.cseq ?_; refine Runs.regO (.inl rfl) nzc (fun R hR => ?_); simp (disch := omega) [if_t, hn]; refine hR _ _ _ (by simp) ?_; clear hR R; refine Runs.cseq ?_; refine Runs.cseq ?_; refine Runs.regO (.inl rfl) nzc (fun R hR => ?_); repeat' (first | (simp (disch := omega) [if_t, hn]) | (with_reducible refine RunsW.splitN (fun hb => ?_) (fun hb => ?_) <;> (try simp only [hb]) <;> (try simp at hb) <;> (try have hx0 := inR_t.1 hb) <;> (try have hx1 := isV_t.1 hb)) | (with_reducible refine RunsW.split (fun hb => ?_) (fun hb => ?_) <;> (try simp only [hb]) <;> (try simp at hb) <;> (try have hx0 := inR_t.1 hb) <;> (try have hx1 := isV_t.1 hb)))
 all_goals (
  refine hR _ _ _ (by simp) ?_; clear hR R; refine Runs.condI fun d hd => ?_; simp (disch := omega) [if_t, hn] at hd; subst hd; refine cond_b (fun hc => ?_) (fun hc => ?_)
  ·first | (simp at hc; done) |
    (
    (try simp at hc); (try have hcx0 := inR_t.1 hc); (try have hcx1 := isV_t.1 hc); have ho : preP es p x y = false := by simp_all [preP, inR] <;> omega
    refine Runs.cseq ?_; refine Runs.regO (.inl rfl) nzc (fun R hR => ?_); simp (disch := omega) [if_t, hn]; refine hR _ _ _ (by simp) ?_; clear hR R; refine Runs.ret ?_; dsimp only [thenQ, blockQ]; refine ⟨by simp, by simp (disch := omega) <;> omega, ?_⟩
    simp (disch := omega) [if_t, hn, resD, resL, resV] <;> (first | omega | (simp_all; done) | (simp_all <;> omega)))
  ·first | (simp at hc; done) |
    (
    (try simp at hc); (try have hcx0 := inR_t.1 hc); (try have hcx1 := isV_t.1 hc); have ho : preP es p x y = true := by simp_all [preP, inR] <;> omega
    refine Runs.skip ?_; refine Runs.cseq ?_; refine Runs.regO (.inl rfl) nzc (fun R hR => ?_); simp (disch := omega) [if_t, hn, c_impl_adjacency es _ hn p0 (by simp_all [validE])]; refine hR _ _ _ (by simp) ?_; clear hR R; refine Runs.cseq ?_; refine Runs.cseq ?_; refine Runs.regO (.inl rfl) nzc (fun R hR => ?_); simp (disch := omega) [if_t, hn]; refine hR _ _ _ (by simp) ?_; clear hR R; refine Runs.cblock ?_; refine Runs.loop (fun k fr n' E => ∃ (i : Nat), n + 1 ≤ n' ∧ Go.Cv.Loc n E ∧ fr 3 = cl p ∧ fr 9 = .pt n 0 (mat (adjG es)) ∧ fr 10 = ci ((i : Int) + 1) ∧ i + 1 + k = p.length ∧ impOk (adjG es) p = impOk (adjG es) (p.drop i)) ?_ (k := p.length - 1) ?_
    ·rintro k1 fr n1 E1 ⟨i, hn1, hE1, s3, s9, s10, hk, hM⟩
     have hz1 : n1 ≠ 0 := by omega
     refine Runs.cseq ?_; refine Runs.cseq ?_; refine Runs.regO (.inl rfl) nzc (fun R hR => ?_); simp (disch := omega) [if_t, hn, s3, s9, s10]; refine hR _ _ _ (by simp) ?_; clear hR R; refine Runs.condI fun d hd => ?_; simp (disch := omega) [if_t, hn, s3, s9, s10] at hd; subst hd; refine cond_b (fun hc => ?_) (fun hc => ?_)
     ·first | (simp at hc; done) |
       (
       (try simp at hc); (try have hcx0 := inR_t.1 hc); (try have hcx1 := isV_t.1 hc); rw [drop_ix (xs := p) (i := i) (by omega), drop_ix (xs := p) (i := i + 1) (by omega), impOk, ← drop_ix (xs := p) (i := i + 1) (by omega)] at hM; refine Runs.skip ?_; refine Runs.cseq ?_; refine Runs.cblock ?_; refine Runs.cseq ?_; refine Runs.regO (.inr (by kernel_rfl)) nzc (fun R hR => ?_); repeat' (first | (simp (disch := omega) [if_t, hn, s3, s9, s10]) | (with_reducible refine RunsW.splitN (fun hb => ?_) (fun hb => ?_) <;> (try simp only [hb]) <;> (try simp at hb) <;> (try have hx0 := inR_t.1 hb) <;> (try have hx1 := isV_t.1 hb)) | (with_reducible refine RunsW.split (fun hb => ?_) (fun hb => ?_) <;> (try simp only [hb]) <;> (try simp at hb) <;> (try have hx0 := inR_t.1 hb) <;> (try have hx1 := isV_t.1 hb)))
       all_goals (
        refine hR _ _ _ (by simp) ?_; clear hR R; refine Runs.condI fun d hd => ?_; simp (disch := omega) [if_t, hn, s3, s9, s10] at hd; subst hd; refine cond_b (fun hc => ?_) (fun hc => ?_)
        ·first | (simp at hc; done) |
          (
          (try simp at hc); (try have hcx0 := inR_t.1 hc); (try have hcx1 := isV_t.1 hc); refine Runs.cseq ?_; refine Runs.regO (.inl rfl) nzc (fun R hR => ?_); simp (disch := omega) [if_t, hn, s3, s9, s10]; refine hR _ _ _ (by simp) ?_; clear hR R; refine Runs.ret ?_; dsimp only [thenQ, blockQ]; refine ⟨by simp, by simp (disch := omega) [hE1] <;> omega, ?_⟩
          simp (disch := omega) [if_t, hn, s3, s9, s10, resD, resL, resV] <;> (first | omega | (simp_all; done) | (simp_all <;> omega)))
        ·first | (simp at hc; done) |
          (
          (try simp at hc); (try have hcx0 := inR_t.1 hc); (try have hcx1 := isV_t.1 hc); refine Runs.skip ?_; refine Runs.regO (.inl rfl) nzc (fun R hR => ?_); simp (disch := omega) [if_t, hn, s3, s9, s10]; refine hR _ _ _ (by simp) ?_; clear hR R; dsimp only [thenQ, blockQ]; refine ⟨k1 - 1, by omega, i + 1, ?_, ?_, ?_, ?_, ?_, ?_, ?_⟩
          ·omega
          ·simp (disch := omega) [hE1] <;> omega
          ·simp (disch := omega) [if_t, hn, s3, s9, s10]
          ·simp (disch := omega) [if_t, hn, s3, s9, s10]
          ·simp (disch := omega) [if_t, hn, s3, s9, s10]
          ·first | omega | assumption
          ·rw [hM]; try simp_all)))
     ·first | (simp at hc; done) |
       (
       (try simp at hc); (try have hcx0 := inR_t.1 hc); (try have hcx1 := isV_t.1 hc); have hM : impOk (adjG es) p = true := by
        rw [hM, drop_ix (xs := p) (i := i) (by omega), List.drop_of_length_le (by omega)]; rfl
       refine Runs.exit ?_; refine Runs.cseq ?_; refine Runs.regO (.inl rfl) nzc (fun R hR => ?_); simp (disch := omega) [if_t, hn, s3, s9, s10]; refine hR _ _ _ (by simp) ?_; clear hR R; refine Runs.ret ?_; dsimp only [thenQ, blockQ]; refine ⟨by simp, by simp (disch := omega) [hE1] <;> omega, ?_⟩
       simp (disch := omega) [if_t, hn, s3, s9, s10, resD, resL, resV] <;> (first | omega | (simp_all; done) | (simp_all <;> omega)))
    ·skip
     refine ⟨0, ?_, ?_, ?_, ?_, ?_, ?_, ?_⟩
     ·omega
     ·simp
     ·simp (disch := omega) [if_t, hn]
     ·simp (disch := omega) [if_t, hn]
     ·simp (disch := omega) [if_t, hn]
     ·first | omega | simp | rfl
     ·rfl))

def szI (m : Nat) (left : Int) : Int := if left - m < 0 then -1 else left - m
theorem szI_le {m : Nat} {l : Int} (h : l ≤ 1048576) : szI m l ≤ 1048576 := by unfold szI; split <;> omega
theorem szI_ge (m : Nat) (l : Int) : -1 ≤ szI m l := by unfold szI; split <;> omega
theorem szI_neg {m : Nat} {l : Int} (h : szI m l < 0) : szI m l = -1 := by unfold szI at *; split at h <;> simp_all <;> omega
def szRows : List Ent → Int → Int
  | [], l => l
  | e :: es, l => if szI e.row.length l < 0 then -1 else szRows es (szI e.row.length l)
def szEs (es : List Ent) (left : Int) : Int := if left - (es.length : Int) < 0 then -1 else szRows es (left - (es.length : Int))
theorem szRows_siz : ∀ (es : List Ent) (l : Int), 0 ≤ szRows es l → 0 ≤ l → (sizL es : Int) ≤ l + es.length - szRows es l
  | [], l, h, h0 => by simp [szRows, sizL]
  | e :: es, l, h, h0 => by
    rw [szRows] at h ⊢
    by_cases hc : szI e.row.length l < 0
    · rw [if_pos hc] at h; omega
    · rw [if_neg hc] at h ⊢
      have ih := szRows_siz es _ h (by omega)
      have e1 : szI e.row.length l = l - e.row.length := by unfold szI at hc ⊢; split at hc <;> simp_all <;> omega
      have e2 : ∀ xs : List Int, sizL xs = xs.length := by
        intro xs; induction xs with
        | nil => rfl
        | cons x xs ih => simp [ih]; omega
      simp only [sizL_cons, siz_ent, e2, List.length_cons]
      rw [e1] at ih ⊢
      omega
theorem szEs_siz {es : List Ent} {l : Int} (h : 0 ≤ szEs es l) : (sizL es : Int) ≤ l - szEs es l := by
  unfold szEs at h ⊢
  by_cases hc : l - (es.length : Int) < 0
  · rw [if_pos hc] at h; omega
  · rw [if_neg hc] at h ⊢
    have := szRows_siz es _ h (by omega)
    omega

/-- laws.szIntS -/
@[simp] theorem c_laws_szIntS (xs : List Int) (left : Int) (n : Nat) (hn : n ≠ 0) (p0 : xs.length ≤ 140737488355328) (p1 : left ≤ 1048576) (p2 : -1 ≤ left) : cfg.call 69 [cl xs, ci left] n = some (ci (szI xs.length left), n, []) := by
 refine call_runs0 rfl Try.func69 rfl (by kernel_rfl) rfl (by simp (disch := omega) [low_agg, low_pt, low_fn]) ?_; refine Runs.cseq ?_; refine Runs.regO (.inl rfl) nzc (fun R hR => ?_); simp (disch := omega) [if_t, hn]; refine hR _ _ _ (by simp) ?_; clear hR R; refine Runs.cseq ?_; refine Runs.regO (.inl rfl) nzc (fun R hR => ?_); simp (disch := omega) [if_t, hn]; refine hR _ _ _ (by simp) ?_; clear hR R; refine Runs.cseq ?_; refine Runs.cseq ?_; refine Runs.regO (.inl rfl) nzc (fun R hR => ?_); simp (disch := omega) [if_t, hn]; refine hR _ _ _ (by simp) ?_; clear hR R; refine Runs.condI fun d hd => ?_; simp (disch := omega) [if_t, hn] at hd; subst hd; refine cond_b (fun hc => ?_) (fun hc => ?_)
 ·first | (simp at hc; done) |
   (
   (try simp at hc); (try have hcx0 := inR_t.1 hc); (try have hcx1 := isV_t.1 hc); refine Runs.cseq ?_; refine Runs.regO (.inl rfl) nzc (fun R hR => ?_); simp (disch := omega) [if_t, hn]; refine hR _ _ _ (by simp) ?_; clear hR R; refine Runs.ret ?_; dsimp only [thenQ, blockQ]; refine ⟨by simp, by simp (disch := omega) <;> omega, ?_⟩
   simp (disch := omega) [if_t, hn, resD, resL, resV] <;> (first | omega | (simp_all [szI]; done) | (simp_all [szI] <;> omega)))
 ·first | (simp at hc; done) |
   (
   (try simp at hc); (try have hcx0 := inR_t.1 hc); (try have hcx1 := isV_t.1 hc); refine Runs.skip ?_; refine Runs.cseq ?_; refine Runs.regO (.inl rfl) nzc (fun R hR => ?_); simp (disch := omega) [if_t, hn]; refine hR _ _ _ (by simp) ?_; clear hR R; refine Runs.ret ?_; dsimp only [thenQ, blockQ]; refine ⟨by simp, by simp (disch := omega) <;> omega, ?_⟩
   simp (disch := omega) [if_t, hn, resD, resL, resV] <;> (first | omega | (simp_all [szI]; done) | (simp_all [szI] <;> omega)))

/-- laws.szEntry -/
@[simp] theorem c_laws_szEntry (e : Ent) (left : Int) (n : Nat) (hn : n ≠ 0) (p0 : e.row.length ≤ 140737488355328) (p1 : left ≤ 1048576) (p2 : -1 ≤ left) : cfg.call 41 [.agg [cl e.row, ci e.w], ci left] n = some (ci (szI e.row.length left), n, []) := by
 refine call_runs0 rfl Try.func41 rfl (by kernel_rfl) rfl (by simp (disch := omega) [low_agg, low_pt, low_fn]) ?_; refine Runs.cseq ?_; refine Runs.regO (.inl rfl) nzc (fun R hR => ?_); simp (disch := omega) [if_t, hn]; refine hR _ _ _ (by simp) ?_; clear hR R; refine Runs.cseq ?_; refine Runs.regO (.inl rfl) nzc (fun R hR => ?_); simp (disch := omega) [if_t, hn]; refine hR _ _ _ (by simp) ?_; clear hR R; refine Runs.cseq ?_; refine Runs.cseq ?_; refine Runs.regO (.inl rfl) nzc (fun R hR => ?_); simp (disch := omega) [if_t, hn]; refine hR _ _ _ (by simp) ?_; clear hR R; refine Runs.condI fun d hd => ?_; simp (disch := omega) [if_t, hn] at hd; subst hd; refine cond_b (fun hc => ?_) (fun hc => ?_)
 ·first | (simp at hc; done) |
   (
   (try simp at hc); (try have hcx0 := inR_t.1 hc); (try have hcx1 := isV_t.1 hc); have hv := szI_neg hc
   refine Runs.cseq ?_; refine Runs.regO (.inl rfl) nzc (fun R hR => ?_); simp (disch := omega) [if_t, hn]; refine hR _ _ _ (by simp) ?_; clear hR R; refine Runs.ret ?_; dsimp only [thenQ, blockQ]; refine ⟨by simp, by simp (disch := omega) <;> omega, ?_⟩
   simp (disch := omega) [if_t, hn, resD, resL, resV] <;> (first | omega | (simp_all; done) | (simp_all <;> omega)))
 ·first | (simp at hc; done) |
   (
   (try simp at hc); (try have hcx0 := inR_t.1 hc); (try have hcx1 := isV_t.1 hc); refine Runs.skip ?_; refine Runs.cseq ?_; refine Runs.regO (.inl rfl) nzc (fun R hR => ?_); simp (disch := omega) [if_t, hn]; refine hR _ _ _ (by simp) ?_; clear hR R; refine Runs.ret ?_; dsimp only [thenQ, blockQ]; refine ⟨by simp, by simp (disch := omega) <;> omega, ?_⟩
   simp (disch := omega) [if_t, hn, resD, resL, resV] <;> (first | omega | (simp_all; done) | (simp_all <;> omega)))

/-- laws.szEntryS -/
@[simp] theorem c_laws_szEntryS (es : List Ent) (left : Int) (n : Nat) (hn : n ≠ 0) (p0 : es.length ≤ 140737488355328) (p1 : ∀ e ∈ es, e.row.length ≤ 140737488355328) (p2 : left ≤ 1048576) (p3 : 0 ≤ left) : cfg.call 14 [cl es, ci left] n = some (ci (szEs es left), n, []) := by
 refine call_runs0 rfl Try.func14 rfl (by kernel_rfl) rfl (by simp (disch := omega) [low_agg, low_pt, low_fn]) ?_; refine Runs.cseq ?_; refine Runs.regO (.inl rfl) nzc (fun R hR => ?_); simp (disch := omega) [if_t, hn]; refine hR _ _ _ (by simp) ?_; clear hR R; refine Runs.cseq ?_; refine Runs.regO (.inl rfl) nzc (fun R hR => ?_); simp (disch := omega) [if_t, hn]; refine hR _ _ _ (by simp) ?_; clear hR R; refine Runs.cseq ?_; refine Runs.cseq ?_; refine Runs.regO (.inl rfl) nzc (fun R hR => ?_); simp (disch := omega) [if_t, hn]; refine hR _ _ _ (by simp) ?_; clear hR R; refine Runs.condI fun d hd => ?_; simp (disch := omega) [if_t, hn] at hd; subst hd; refine cond_b (fun hc => ?_) (fun hc => ?_)
 ·first | (simp at hc; done) |
   (
   (try simp at hc); (try have hcx0 := inR_t.1 hc); (try have hcx1 := isV_t.1 hc); have hv : szEs es left = -1 := by rw [szEs, if_pos (by omega)]
   refine Runs.cseq ?_; refine Runs.regO (.inl rfl) nzc (fun R hR => ?_); simp (disch := omega) [if_t, hn]; refine hR _ _ _ (by simp) ?_; clear hR R; refine Runs.ret ?_; dsimp only [thenQ, blockQ]; refine ⟨by simp, by simp (disch := omega) <;> omega, ?_⟩
   simp (disch := omega) [if_t, hn, resD, resL, resV] <;> (first | omega | (simp_all [szRows]; done) | (simp_all [szRows] <;> omega)))
 ·first | (simp at hc; done) |
   (
   (try simp at hc); (try have hcx0 := inR_t.1 hc); (try have hcx1 := isV_t.1 hc); have hc0 : ¬ left - (es.length : Int) < 0 := by omega
   refine Runs.skip ?_; refine Runs.cseq ?_; refine Runs.cseq ?_; refine Runs.regO (.inl rfl) nzc (fun R hR => ?_); simp (disch := omega) [if_t, hn]; refine hR _ _ _ (by simp) ?_; clear hR R; refine Runs.cblock ?_; refine Runs.loop (fun k fr n' E => ∃ (i : Nat) (l : Int), n ≤ n' ∧ Go.Cv.Loc n E ∧ fr 0 = cl es ∧ fr 1 = ci l ∧ fr 5 = ci (i : Int) ∧ i + k = es.length ∧ 0 ≤ l ∧ l ≤ 1048576 ∧ szEs es left = szRows (es.drop i) l) ?_ (k := es.length) ?_
   ·rintro k1 fr n1 E1 ⟨i, l, hn1, hE1, s0, s1, s5, hk, ha, hb, hM⟩
    have hz1 : n1 ≠ 0 := by omega
    refine Runs.cseq ?_; refine Runs.cseq ?_; refine Runs.regO (.inl rfl) nzc (fun R hR => ?_); simp (disch := omega) [if_t, hn, s0, s1, s5]; refine hR _ _ _ (by simp) ?_; clear hR R; refine Runs.condI fun d hd => ?_; simp (disch := omega) [if_t, hn, s0, s1, s5] at hd; subst hd; refine cond_b (fun hc => ?_) (fun hc => ?_)
    ·first | (simp at hc; done) |
      (
      (try simp at hc); (try have hcx0 := inR_t.1 hc); (try have hcx1 := isV_t.1 hc); have hr := p1 _ (ix_mem hc)
      have hle := szI_le (m := (ix es i).row.length) hb
      rw [drop_ix hc, szRows] at hM; refine Runs.skip ?_; refine Runs.cseq ?_; refine Runs.cblock ?_; refine Runs.cseq ?_; refine Runs.regO (.inl rfl) nzc (fun R hR => ?_); simp (disch := omega) [if_t, hn, s0, s1, s5]; refine hR _ _ _ (by simp) ?_; clear hR R; refine Runs.cseq ?_; refine Runs.regO (.inl rfl) nzc (fun R hR => ?_); simp (disch := omega) [if_t, hn, s0, s1, s5]; refine hR _ _ _ (by simp) ?_; clear hR R; refine Runs.condI fun d hd => ?_; simp (disch := omega) [if_t, hn, s0, s1, s5] at hd; subst hd; refine cond_b (fun hc => ?_) (fun hc => ?_)
      ·first | (simp at hc; done) |
        (
        (try simp at hc); (try have hcx0 := inR_t.1 hc); (try have hcx1 := isV_t.1 hc); rw [if_pos hc] at hM; refine Runs.cseq ?_; refine Runs.regO (.inl rfl) nzc (fun R hR => ?_); simp (disch := omega) [if_t, hn, s0, s1, s5]; refine hR _ _ _ (by simp) ?_; clear hR R; refine Runs.ret ?_; dsimp only [thenQ, blockQ]; refine ⟨by simp, by simp (disch := omega) [hE1] <;> omega, ?_⟩
        simp (disch := omega) [if_t, hn, s0, s1, s5, resD, resL, resV] <;> (first | omega | (simp_all [szRows]; done) | (simp_all [szRows] <;> omega)))
      ·first | (simp at hc; done) |
        (
        (try simp at hc); (try have hcx0 := inR_t.1 hc); (try have hcx1 := isV_t.1 hc); rw [if_neg (by omega)] at hM; refine Runs.skip ?_; refine Runs.regO (.inl rfl) nzc (fun R hR => ?_); simp (disch := omega) [if_t, hn, s0, s1, s5]; refine hR _ _ _ (by simp) ?_; clear hR R; dsimp only [thenQ, blockQ]; refine ⟨k1 - 1, by omega, i + 1, szI (ix es i).row.length l, ?_, ?_, ?_, ?_, ?_, ?_, ?_, ?_, ?_⟩
        ·omega
        ·simp (disch := omega) [hE1] <;> omega
        ·simp (disch := omega) [if_t, hn, s0, s1, s5]
        ·simp (disch := omega) [if_t, hn, s0, s1, s5]
        ·simp (disch := omega) [if_t, hn, s0, s1, s5]
        ·first | omega | assumption
        ·first | omega | assumption
        ·first | omega | assumption
        ·rw [hM]; try simp_all))
    ·first | (simp at hc; done) |
      (
      (try simp at hc); (try have hcx0 := inR_t.1 hc); (try have hcx1 := isV_t.1 hc); rw [List.drop_of_length_le (by omega)] at hM; refine Runs.exit ?_; refine Runs.cseq ?_; refine Runs.regO (.inl rfl) nzc (fun R hR => ?_); simp (disch := omega) [if_t, hn, s0, s1, s5]; refine hR _ _ _ (by simp) ?_; clear hR R; refine Runs.ret ?_; dsimp only [thenQ, blockQ]; refine ⟨by simp, by simp (disch := omega) [hE1] <;> omega, ?_⟩
      simp (disch := omega) [if_t, hn, s0, s1, s5, resD, resL, resV] <;> (first | omega | (simp_all [szRows]; done) | (simp_all [szRows] <;> omega)))
   ·skip
    refine ⟨0, left - (es.length : Int), ?_, ?_, ?_, ?_, ?_, ?_, ?_, ?_, ?_⟩
    ·omega
    ·simp
    ·simp (disch := omega) [if_t, hn]
    ·simp (disch := omega) [if_t, hn]
    ·simp (disch := omega) [if_t, hn]
    ·first | omega | simp | rfl
    ·first | omega | simp | rfl
    ·first | omega | simp | rfl
    ·rw [szEs, if_neg hc0]; rfl)

/-- laws.eqEntry -/
@[simp] theorem c_laws_eqEntry (a b : Ent) (n : Nat) (hn : n ≠ 0) (p0 : sizL a.row ≤ 1152921504606846976) : cfg.call 49 [.agg [cl a.row, ci a.w], .agg [cl b.row, ci b.w]] n = some (bi (decide (a = b)), n, []) := by
 refine call_runs0 rfl Try.func49 rfl (by kernel_rfl) rfl (by simp (disch := omega) [low_agg, low_pt, low_fn]) ?_; obtain ⟨ar, aw⟩ := a
 obtain ⟨br, bw⟩ := b
 simp at p0; refine Runs.cseq ?_; refine Runs.regO (.inl rfl) nzc (fun R hR => ?_); simp (disch := omega) [if_t, hn]; refine hR _ _ _ (by simp) ?_; clear hR R; refine Runs.cseq ?_; refine Runs.cseq ?_; refine Runs.regO (.inl rfl) nzc (fun R hR => ?_); simp (disch := omega) [if_t, hn]; refine hR _ _ _ (by simp) ?_; clear hR R; refine Runs.condI fun d hd => ?_; simp (disch := omega) [if_t, hn] at hd; subst hd; refine cond_b (fun hc => ?_) (fun hc => ?_)
 ·first | (simp at hc; done) |
   (
   (try simp at hc); (try have hcx0 := inR_t.1 hc); (try have hcx1 := isV_t.1 hc); refine Runs.cseq ?_; refine Runs.regO (.inl rfl) nzc (fun R hR => ?_); simp (disch := omega) [if_t, hn]; refine hR _ _ _ (by simp) ?_; clear hR R; refine Runs.ret ?_; dsimp only [thenQ, blockQ]; refine ⟨by simp, by simp (disch := omega) <;> omega, ?_⟩
   simp (disch := omega) [if_t, hn, resD, resL, resV] <;> (first | omega | (simp_all; done) | (simp_all <;> omega)))
 ·first | (simp at hc; done) |
   (
   (try simp at hc); (try have hcx0 := inR_t.1 hc); (try have hcx1 := isV_t.1 hc); refine Runs.skip ?_; refine Runs.cseq ?_; refine Runs.cseq ?_; refine Runs.regO (.inl rfl) nzc (fun R hR => ?_); simp (disch := omega) [if_t, hn]; refine hR _ _ _ (by simp) ?_; clear hR R; refine Runs.condI fun d hd => ?_; simp (disch := omega) [if_t, hn] at hd; subst hd; refine cond_b (fun hc => ?_) (fun hc => ?_)
   ·first | (simp at hc; done) |
     (
     (try simp at hc); (try have hcx0 := inR_t.1 hc); (try have hcx1 := isV_t.1 hc); refine Runs.cseq ?_; refine Runs.regO (.inl rfl) nzc (fun R hR => ?_); simp (disch := omega) [if_t, hn]; refine hR _ _ _ (by simp) ?_; clear hR R; refine Runs.ret ?_; dsimp only [thenQ, blockQ]; refine ⟨by simp, by simp (disch := omega) <;> omega, ?_⟩
     simp (disch := omega) [if_t, hn, resD, resL, resV] <;> (first | omega | (simp_all; done) | (simp_all <;> omega)))
   ·first | (simp at hc; done) |
     (
     (try simp at hc); (try have hcx0 := inR_t.1 hc); (try have hcx1 := isV_t.1 hc); refine Runs.skip ?_; refine Runs.cseq ?_; refine Runs.regO (.inl rfl) nzc (fun R hR => ?_); simp (disch := omega) [if_t, hn]; refine hR _ _ _ (by simp) ?_; clear hR R; refine Runs.ret ?_; dsimp only [thenQ, blockQ]; refine ⟨by simp, by simp (disch := omega) <;> omega, ?_⟩
     simp (disch := omega) [if_t, hn, resD, resL, resV] <;> (first | omega | (simp_all; done) | (simp_all <;> omega))))

/-- laws.eqEntryS -/
@[simp] theorem c_laws_eqEntryS (xs ys : List Ent) (n : Nat) (hn : n ≠ 0) (p0 : sizL xs ≤ 1152921504606846976) : cfg.call 19 [cl xs, cl ys] n = some (bi (decide (xs = ys)), n, []) := by
 refine call_runs0 rfl Try.func19 rfl (by kernel_rfl) rfl (by simp (disch := omega) [low_agg, low_pt, low_fn]) ?_; have hl_xs := len_siz xs
 refine Runs.cseq ?_; refine Runs.regO (.inl rfl) nzc (fun R hR => ?_); simp (disch := omega) [if_t, hn]; refine hR _ _ _ (by simp) ?_; clear hR R; refine Runs.cseq ?_; refine Runs.cseq ?_; refine Runs.regO (.inl rfl) nzc (fun R hR => ?_); simp (disch := omega) [if_t, hn]; refine hR _ _ _ (by simp) ?_; clear hR R; refine Runs.condI fun d hd => ?_; simp (disch := omega) [if_t, hn] at hd; subst hd; refine cond_b (fun hc => ?_) (fun hc => ?_)
 ·first | (simp at hc; done) |
   (
   (try simp at hc); (try have hcx0 := inR_t.1 hc); (try have hcx1 := isV_t.1 hc); have hne : ¬ xs = ys := fun h => hc (by rw [h])
   refine Runs.cseq ?_; refine Runs.regO (.inl rfl) nzc (fun R hR => ?_); simp (disch := omega) [if_t, hn]; refine hR _ _ _ (by simp) ?_; clear hR R; refine Runs.ret ?_; dsimp only [thenQ, blockQ]; refine ⟨by simp, by simp (disch := omega) <;> omega, ?_⟩
   simp (disch := omega) [if_t, hn, resD, resL, resV] <;> (first | omega | (simp_all; done) | (simp_all <;> omega)))
 ·first | (simp at hc; done) |
   (
   (try simp at hc); (try have hcx0 := inR_t.1 hc); (try have hcx1 := isV_t.1 hc); have hle : xs.length = ys.length := by omega
   refine Runs.skip ?_; refine Runs.cseq ?_; refine Runs.cseq ?_; refine Runs.regO (.inl rfl) nzc (fun R hR => ?_); simp (disch := omega) [if_t, hn]; refine hR _ _ _ (by simp) ?_; clear hR R; refine Runs.cblock ?_; refine Runs.loop (fun k fr n' E => ∃ (i : Nat), n ≤ n' ∧ Go.Cv.Loc n E ∧ fr 0 = cl xs ∧ fr 1 = cl ys ∧ fr 5 = ci (i : Int) ∧ i + k = xs.length ∧ decide (xs = ys) = decide (xs.drop i = ys.drop i)) ?_ (k := xs.length) ?_
   ·rintro k1 fr n1 E1 ⟨i, hn1, hE1, s0, s1, s5, hk, hM⟩
    have hz1 : n1 ≠ 0 := by omega
    refine Runs.cseq ?_; refine Runs.cseq ?_; refine Runs.regO (.inl rfl) nzc (fun R hR => ?_); simp (disch := omega) [if_t, hn, s0, s1, s5]; refine hR _ _ _ (by simp) ?_; clear hR R; refine Runs.condI fun d hd => ?_; simp (disch := omega) [if_t, hn, s0, s1, s5] at hd; subst hd; refine cond_b (fun hc => ?_) (fun hc => ?_)
    ·first | (simp at hc; done) |
      (
      (try simp at hc); (try have hcx0 := inR_t.1 hc); (try have hcx1 := isV_t.1 hc); have hsz := siz_ix hc
      (try simp at hsz); rw [drop_ix hc] at hM; rw [drop_ix (xs := ys) (i := i) (by omega), cons_eq] at hM; refine Runs.skip ?_; refine Runs.cseq ?_; refine Runs.cblock ?_; refine Runs.cseq ?_; refine Runs.regO (.inr (by kernel_rfl)) nzc (fun R hR => ?_); simp (disch := omega) [if_t, hn, s0, s1, s5]; refine hR _ _ _ (by simp) ?_; clear hR R; refine Runs.condI fun d hd => ?_; simp (disch := omega) [if_t, hn, s0, s1, s5] at hd; subst hd; refine cond_b (fun hc => ?_) (fun hc => ?_)
      ·first | (simp at hc; done) |
        (
        (try simp at hc); (try have hcx0 := inR_t.1 hc); (try have hcx1 := isV_t.1 hc); rw [decide_eq_false hc, Bool.false_and] at hM; refine Runs.cseq ?_; refine Runs.regO (.inl rfl) nzc (fun R hR => ?_); simp (disch := omega) [if_t, hn, s0, s1, s5]; refine hR _ _ _ (by simp) ?_; clear hR R; refine Runs.ret ?_; dsimp only [thenQ, blockQ]; refine ⟨by simp, by simp (disch := omega) [hE1] <;> omega, ?_⟩
        simp (disch := omega) [if_t, hn, s0, s1, s5, resD, resL, resV] <;> (first | omega | (simp_all; done) | (simp_all <;> omega)))
      ·first | (simp at hc; done) |
        (
        (try simp at hc); (try have hcx0 := inR_t.1 hc); (try have hcx1 := isV_t.1 hc); rw [decide_eq_true hc, Bool.true_and] at hM; refine Runs.skip ?_; refine Runs.regO (.inl rfl) nzc (fun R hR => ?_); simp (disch := omega) [if_t, hn, s0, s1, s5]; refine hR _ _ _ (by simp) ?_; clear hR R; dsimp only [thenQ, blockQ]; refine ⟨k1 - 1, by omega, i + 1, ?_, ?_, ?_, ?_, ?_, ?_, ?_⟩
        ·omega
        ·simp (disch := omega) [hE1] <;> omega
        ·simp (disch := omega) [if_t, hn, s0, s1, s5]
        ·simp (disch := omega) [if_t, hn, s0, s1, s5]
        ·simp (disch := omega) [if_t, hn, s0, s1, s5]
        ·first | omega | assumption
        ·rw [hM]))
    ·first | (simp at hc; done) |
      (
      (try simp at hc); (try have hcx0 := inR_t.1 hc); (try have hcx1 := isV_t.1 hc); rw [List.drop_of_length_le (by omega), List.drop_of_length_le (by omega)] at hM; refine Runs.exit ?_; refine Runs.cseq ?_; refine Runs.regO (.inl rfl) nzc (fun R hR => ?_); simp (disch := omega) [if_t, hn, s0, s1, s5]; refine hR _ _ _ (by simp) ?_; clear hR R; refine Runs.ret ?_; dsimp only [thenQ, blockQ]; refine ⟨by simp, by simp (disch := omega) [hE1] <;> omega, ?_⟩
      simp (disch := omega) [if_t, hn, s0, s1, s5, resD, resL, resV] <;> (first | omega | (simp_all; done) | (simp_all <;> omega)))
   ·skip
    refine ⟨0, ?_, ?_, ?_, ?_, ?_, ?_, ?_⟩
    ·omega
    ·simp
    ·simp (disch := omega) [if_t, hn]
    ·simp (disch := omega) [if_t, hn]
    ·simp (disch := omega) [if_t, hn]
    ·first | omega | simp | rfl
    ·rfl)

/-- laws.toIntS -/
@[simp] theorem c_laws_toIntS (xs : List Int) (n : Nat) (hn : n ≠ 0) (p0 : sizL xs ≤ 1048576) : cfg.call 17 [cl xs] n = some (cl xs, n, []) := by
 refine call_runs0 rfl Try.func17 rfl (by kernel_rfl) rfl (by simp (disch := omega) [low_agg, low_pt, low_fn]) ?_; have hl_xs := len_siz xs
 refine Runs.cseq ?_; refine Runs.regO (.inl rfl) nzc (fun R hR => ?_); simp (disch := omega) [if_t, hn]; refine hR _ _ _ (by simp) ?_; clear hR R; refine Runs.cseq ?_; refine Runs.regO (.inl rfl) nzc (fun R hR => ?_); simp (disch := omega) [if_t, hn]; refine hR _ _ _ (by simp) ?_; clear hR R; refine Runs.cseq ?_; refine Runs.cseq ?_; refine Runs.regO (.inl rfl) nzc (fun R hR => ?_); simp (disch := omega) [if_t, hn]; refine hR _ _ _ (by simp) ?_; clear hR R; refine Runs.cblock ?_; refine Runs.loop (fun k fr n' E => ∃ (i : Nat), n + 1 ≤ n' ∧ Go.Cv.Loc n E ∧ fr 0 = cl xs ∧ fr 3 = .sl n 0 (some xs.length) 1 (lst (xs.take i ++ List.replicate k 0)) ∧ fr 4 = ci (i : Int) ∧ i + k = xs.length) ?_ (k := xs.length) ?_
 ·rintro k1 fr n1 E1 ⟨i, hn1, hE1, s0, s3, s4, hk⟩
  have hz1 : n1 ≠ 0 := by omega
  refine Runs.cseq ?_; refine Runs.cseq ?_; refine Runs.regO (.inl rfl) nzc (fun R hR => ?_); simp (disch := omega) [if_t, hn, s0, s3, s4]; refine hR _ _ _ (by simp) ?_; clear hR R; refine Runs.condI fun d hd => ?_; simp (disch := omega) [if_t, hn, s0, s3, s4] at hd; subst hd; refine cond_b (fun hc => ?_) (fun hc => ?_)
  ·first | (simp at hc; done) |
    (
    (try simp at hc); (try have hcx0 := inR_t.1 hc); (try have hcx1 := isV_t.1 hc); obtain ⟨k1, rfl⟩ : ∃ j, k1 = j + 1 := ⟨k1 - 1, by omega⟩
    refine Runs.skip ?_; refine Runs.cseq ?_; refine Runs.cblock ?_; refine Runs.regO (.inl rfl) nzc (fun R hR => ?_); simp (disch := omega) [if_t, hn, s0, s3, s4]; refine hR _ _ _ (by simp) ?_; clear hR R; refine Runs.regO (.inl rfl) nzc (fun R hR => ?_); simp (disch := omega) [if_t, hn, s0, s3, s4]; refine hR _ _ _ (by simp) ?_; clear hR R; dsimp only [thenQ, blockQ]; refine ⟨k1, by omega, i + 1, ?_, ?_, ?_, ?_, ?_, ?_⟩
    ·omega
    ·simp (disch := omega) [hE1] <;> omega
    ·simp (disch := omega) [if_t, hn, s0, s3, s4]
    ·simp (disch := omega) [if_t, hn, s0, s3, s4]
    ·simp (disch := omega) [if_t, hn, s0, s3, s4]
    ·first | omega | assumption)
  ·first | (simp at hc; done) |
    (
    (try simp at hc); (try have hcx0 := inR_t.1 hc); (try have hcx1 := isV_t.1 hc); obtain rfl : k1 = 0 := by omega
    obtain rfl : i = xs.length := by omega
    simp at s3; refine Runs.exit ?_; refine Runs.cseq ?_; refine Runs.regO (.inl rfl) nzc (fun R hR => ?_); simp (disch := omega) [if_t, hn, s0, s3, s4]; refine hR _ _ _ (by simp) ?_; clear hR R; refine Runs.ret ?_; dsimp only [thenQ, blockQ]; refine ⟨by simp, by simp (disch := omega) [hE1] <;> omega, ?_⟩
    simp (disch := omega) [if_t, hn, s0, s3, s4, resD, resL, resV] <;> (first | omega | (simp_all; done) | (simp_all <;> omega)))
 ·skip
  refine ⟨0, ?_, ?_, ?_, ?_, ?_, ?_⟩
  ·omega
  ·simp
  ·simp (disch := omega) [if_t, hn]
  ·simp (disch := omega) [if_t, hn]
  ·simp (disch := omega) [if_t, hn]
  ·first | omega | simp | rfl

/-- laws.toEntry -/
@[simp] theorem c_laws_toEntry (e : Ent) (n : Nat) (hn : n ≠ 0) (p0 : sizL e.row ≤ 1048576) : cfg.call 45 [.agg [cl e.row, ci e.w]] n = some (.agg [cl e.row, ci e.w], n, []) := by
 refine call_runs0 rfl Try.func45 rfl (by kernel_rfl) rfl (by simp (disch := omega) [low_agg, low_pt, low_fn]) ?_; refine Runs.cseq ?_; refine Runs.regO (.inl rfl) nzc (fun R hR => ?_); simp (disch := omega) [if_t, hn]; refine hR _ _ _ (by simp) ?_; clear hR R; refine Runs.cseq ?_; refine Runs.regO (.inl rfl) nzc (fun R hR => ?_); simp (disch := omega) [if_t, hn]; refine hR _ _ _ (by simp) ?_; clear hR R; refine Runs.cseq ?_; refine Runs.regO (.inl rfl) nzc (fun R hR => ?_); simp (disch := omega) [if_t, hn]; refine hR _ _ _ (by simp) ?_; clear hR R; refine Runs.cseq ?_; refine Runs.regO (.inl rfl) nzc (fun R hR => ?_); simp (disch := omega) [if_t, hn]; refine hR _ _ _ (by simp) ?_; clear hR R; refine Runs.cseq ?_; refine Runs.regO (.inl rfl) nzc (fun R hR => ?_); simp (disch := omega) [if_t, hn]; refine hR _ _ _ (by simp) ?_; clear hR R; refine Runs.ret ?_; dsimp only [thenQ, blockQ]; refine ⟨by simp, by simp (disch := omega) <;> omega, ?_⟩
 simp (disch := omega) [if_t, hn, resD, resL, resV] <;> (first | omega | (simp_all; done) | (simp_all <;> omega))

/-- laws.toEntryS -/
@[simp] theorem c_laws_toEntryS (es : List Ent) (n : Nat) (hn : n ≠ 0) (p0 : sizL es ≤ 1048576) : cfg.call 16 [cl es] n = some (cl es, n, []) := by
 refine call_runs0 rfl Try.func16 rfl (by kernel_rfl) rfl (by simp (disch := omega) [low_agg, low_pt, low_fn]) ?_; have hl_es := len_siz es
 refine Runs.cseq ?_; refine Runs.regO (.inl rfl) nzc (fun R hR => ?_); simp (disch := omega) [if_t, hn]; refine hR _ _ _ (by simp) ?_; clear hR R; refine Runs.cseq ?_; refine Runs.regO (.inl rfl) nzc (fun R hR => ?_); simp (disch := omega) [if_t, hn]; refine hR _ _ _ (by simp) ?_; clear hR R; refine Runs.cseq ?_; refine Runs.cseq ?_; refine Runs.regO (.inl rfl) nzc (fun R hR => ?_); simp (disch := omega) [if_t, hn]; refine hR _ _ _ (by simp) ?_; clear hR R; refine Runs.cblock ?_; refine Runs.loop (fun k fr n' E => ∃ (i : Nat) (acc : List Ent), n + 1 ≤ n' ∧ Go.Cv.Loc n E ∧ fr 0 = cl es ∧ fr 3 = .sl n 0 (some es.length) 2 (lst acc ++ List.replicate k (.agg [nilD, ci 0])) ∧ fr 4 = ci (i : Int) ∧ i + k = es.length ∧ acc.length = i ∧ acc = es.take i) ?_ (k := es.length) ?_
 ·rintro k1 fr n1 E1 ⟨i, acc, hn1, hE1, s0, s3, s4, hk, hl, hM⟩
  have hz1 : n1 ≠ 0 := by omega
  refine Runs.cseq ?_; refine Runs.cseq ?_; refine Runs.regO (.inl rfl) nzc (fun R hR => ?_); simp (disch := omega) [if_t, hn, s0, s3, s4]; refine hR _ _ _ (by simp) ?_; clear hR R; refine Runs.condI fun d hd => ?_; simp (disch := omega) [if_t, hn, s0, s3, s4] at hd; subst hd; refine cond_b (fun hc => ?_) (fun hc => ?_)
  ·first | (simp at hc; done) |
    (
    (try simp at hc); (try have hcx0 := inR_t.1 hc); (try have hcx1 := isV_t.1 hc); obtain ⟨k1, rfl⟩ : ∃ j, k1 = j + 1 := ⟨k1 - 1, by omega⟩
    have hsz := siz_ix hc
    simp at hsz; refine Runs.skip ?_; refine Runs.cseq ?_; refine Runs.cblock ?_; refine Runs.regO (.inl rfl) nzc (fun R hR => ?_); simp (disch := omega) [if_t, hn, s0, s3, s4]; refine hR _ _ _ (by simp) ?_; clear hR R; refine Runs.regO (.inl rfl) nzc (fun R hR => ?_); simp (disch := omega) [if_t, hn, s0, s3, s4]; refine hR _ _ _ (by simp) ?_; clear hR R; dsimp only [thenQ, blockQ]; refine ⟨k1, by omega, i + 1, acc ++ [ix es i], ?_, ?_, ?_, ?_, ?_, ?_, ?_, ?_⟩
    ·omega
    ·simp (disch := omega) [hE1] <;> omega
    ·simp (disch := omega) [if_t, hn, s0, s3, s4]
    ·simp (disch := omega) [if_t, hn, s0, s3, s4, List.replicate_succ, setFlat_cons, hl]
     rw [lst_append, List.append_assoc]; simp
    ·simp (disch := omega) [if_t, hn, s0, s3, s4]
    ·first | omega | assumption
    ·simp [hl]
    ·rw [hM, take_ix hc])
  ·first | (simp at hc; done) |
    (
    (try simp at hc); (try have hcx0 := inR_t.1 hc); (try have hcx1 := isV_t.1 hc); obtain rfl : k1 = 0 := by omega
    obtain rfl : i = es.length := by omega
    simp [hM] at s3; refine Runs.exit ?_; refine Runs.cseq ?_; refine Runs.regO (.inl rfl) nzc (fun R hR => ?_); simp (disch := omega) [if_t, hn, s0, s3, s4]; refine hR _ _ _ (by simp) ?_; clear hR R; refine Runs.ret ?_; dsimp only [thenQ, blockQ]; refine ⟨by simp, by simp (disch := omega) [hE1] <;> omega, ?_⟩
    simp (disch := omega) [if_t, hn, s0, s3, s4, resD, resL, resV] <;> (first | omega | (simp_all; done) | (simp_all <;> omega)))
 ·skip
  refine ⟨0, [], ?_, ?_, ?_, ?_, ?_, ?_, ?_, ?_⟩
  ·omega
  ·simp
  ·simp (disch := omega) [if_t, hn]
  ·simp (disch := omega) [if_t, hn]
  ·simp (disch := omega) [if_t, hn]
  ·first | omega | simp | rfl
  ·first | omega | simp | rfl
  ·simp

theorem adjF_iff : ∀ (es : List Ent) (g : Nat → Nat → Bool) (a b : Nat), adjF es g a b = true ↔ g a b = true ∨ ∃ e ∈ es, (ix e.row 0).toNat = a ∧ (ix e.row 1).toNat = b
  | [], g, a, b => by simp [adjF]
  | e :: es, g, a, b => by
    rw [adjF, adjF_iff es]
    simp only [upd2, List.mem_cons, exists_eq_or_imp]
    by_cases h : a = (ix e.row 0).toNat ∧ b = (ix e.row 1).toNat
    · simp [h]
    · rw [if_neg h]
      constructor
      · rintro (h1 | h1)
        · exact .inl h1
        · exact .inr (.inr h1)
      · rintro (h1 | ⟨h1, h2⟩ | h1)
        · exact .inl h1
        · exact absurd ⟨h1.symm, h2.symm⟩ h
        · exact .inr h1
theorem allEdge_mem {es : List Ent} (h : allEdge es = true) : ∀ e ∈ es, okEdge e = true := by
  induction es with
  | nil => simp
  | cons x xs ih =>
    simp only [allEdge, Bool.and_eq_true] at h
    intro e he
    rcases List.mem_cons.1 he with rfl | he
    · exact h.1
    · exact ih h.2 e he
theorem allSet_mem {es : List Ent} (h : allSet es = true) : ∀ e ∈ es, e.w = 1 := by
  induction es with
  | nil => simp
  | cons x xs ih =>
    simp only [allSet, Bool.and_eq_true, decide_eq_true_eq] at h
    intro e he
    rcases List.mem_cons.1 he with rfl | he
    · exact h.1
    · exact ih h.2 e he
theorem wOf_ne {es : List Ent} (h : ∀ e ∈ es, e.w = 1) (r : List Int) : wOf es r ≠ 0 ↔ ∃ e ∈ es, e.row = r := by
  induction es with
  | nil => simp [wOf]
  | cons x xs ih =>
    have h1 := h x (by simp)
    have ih := ih (fun e he => h e (by simp [he]))
    rw [wOf]
    by_cases hr : x.row = r
    · simp [hr, h1]
    · rw [if_neg hr, ih]; simp [hr]
theorem two_row {r : List Int} (h : r.length = 2) : r = [ix r 0, ix r 1] := by
  match r, h with
  | [a, b], _ => rfl
theorem adj_w {es : List Ent} (hv : validE es = true) {a b : Int} (ha : isV a = true) (hb : isV b = true) : adjG es a.toNat b.toNat = !decide (wOf es [a, b] = 0) := by
  simp only [validE, Bool.and_eq_true] at hv
  obtain ⟨_, h1, h2⟩ := hv
  have hw := wOf_ne (allSet_mem h1) [a, b]
  have ha := isV_t.1 ha
  have hb := isV_t.1 hb
  have key : adjG es a.toNat b.toNat = true ↔ wOf es [a, b] ≠ 0 := by
    rw [adjG, adjF_iff, hw]
    simp only [Bool.false_eq_true, false_or]
    constructor
    · rintro ⟨e, he, e1, e2⟩
      obtain ⟨hl, ⟨p1, p2⟩, ⟨q1, q2⟩⟩ := okEdge_iff.1 (allEdge_mem h2 e he)
      refine ⟨e, he, ?_⟩
      rw [two_row hl]
      congr 1
      · omega
      · congr 1; omega
    · rintro ⟨e, he, hr⟩
      exact ⟨e, he, by rw [hr]; simp⟩
  cases h : adjG es a.toNat b.toNat
  · simp only [h, Bool.false_eq_true, false_iff] at key; simp [Classical.not_not.1 key]
  · simp only [h, true_iff] at key; simp [key]
theorem w_out {es : List Ent} (hv : validE es = true) {a b : Int} (h : (isV a && isV b) = false) : wOf es [a, b] = 0 := by
  simp only [validE, Bool.and_eq_true] at hv
  obtain ⟨_, h1, h2⟩ := hv
  have hw := wOf_ne (allSet_mem h1) [a, b]
  refine Classical.byContradiction fun hne => ?_
  obtain ⟨e, he, hr⟩ := hw.1 hne
  obtain ⟨hl, hp, hq⟩ := okEdge_iff.1 (allEdge_mem h2 e he)
  rw [hr] at hp hq
  simp only [ix_zero, ix_succ] at hp hq
  have := isV_t.2 hp
  have := isV_t.2 hq
  simp_all
theorem impOk_eq {es : List Ent} (hv : validE es = true) : ∀ p : List Int, impOk (adjG es) p = edgesOk es p
  | [] => rfl
  | [_] => rfl
  | a :: b :: rest => by
    rw [impOk, edgesOk, impOk_eq hv (b :: rest)]
    congr 1
    cases h : (isV a && isV b)
    · rw [w_out hv h]; simp
    · simp only [Bool.and_eq_true] at h
      rw [adj_w hv h.1 h.2]; simp
theorem checkPath_law (es : List Ent) (p : List Int) (x y : Int) : (preP es p x y && impOk (adjG es) p) = pathOk es x y p := by
  unfold pathOk
  cases h : preP es p x y
  · rfl
  · have hv : validE es = true := by unfold preP at h; simp only [Bool.and_eq_true] at h; exact h.1
    rw [impOk_eq hv]

/-- laws.FnExactCheckPath -/
@[simp] theorem c_laws_FnExactCheckPath (es : List Ent) (x y : Int) (p : List Int) (n : Nat) (hn : n ≠ 0) (p0 : es.length ≤ 140737488355328) (p1 : ∀ e ∈ es, e.row.length ≤ 140737488355328) (p2 : p.length ≤ 140737488355328) : cfg.call 4 [cl es, ci x, ci y, cl p] n = some (bi true, n, []) := by
 refine call_runs0 rfl Try.func4 rfl (by kernel_rfl) rfl (by simp (disch := omega) [low_agg, low_pt, low_fn]) ?_; have hp := sizL_int p
 refine Runs.cseq ?_; refine Runs.regO (.inl rfl) nzc (fun R hR => ?_); simp (disch := omega) [if_t, hn, checkPath_law]; refine hR _ _ _ (by simp) ?_; clear hR R; refine Runs.cseq ?_; refine Runs.cseq ?_; refine Runs.regO (.inl rfl) nzc (fun R hR => ?_); simp (disch := omega) [if_t, hn, checkPath_law]; refine hR _ _ _ (by simp) ?_; clear hR R; refine Runs.condI fun d hd => ?_; simp (disch := omega) [if_t, hn, checkPath_law] at hd; subst hd; refine cond_b (fun hc => ?_) (fun hc => ?_)
 ·first | (simp at hc; done) |
   (
   (try simp at hc); (try have hcx0 := inR_t.1 hc); (try have hcx1 := isV_t.1 hc); refine Runs.cseq ?_; refine Runs.regO (.inl rfl) nzc (fun R hR => ?_); simp (disch := omega) [if_t, hn, checkPath_law]; refine hR _ _ _ (by simp) ?_; clear hR R; refine Runs.ret ?_; dsimp only [thenQ, blockQ]; refine ⟨by simp, by simp (disch := omega) <;> omega, ?_⟩
   simp (disch := omega) [if_t, hn, checkPath_law, resD, resL, resV] <;> (first | omega | (simp_all; done) | (simp_all <;> omega)))
 ·first | (simp at hc; done) |
   (
   (try simp at hc); (try have hcx0 := inR_t.1 hc); (try have hcx1 := isV_t.1 hc); refine Runs.skip ?_; refine Runs.cseq ?_; refine Runs.regO (.inl rfl) nzc (fun R hR => ?_); simp (disch := omega) [if_t, hn, checkPath_law]; refine hR _ _ _ (by simp) ?_; clear hR R; refine Runs.cseq ?_; refine Runs.regO (.inl rfl) nzc (fun R hR => ?_); simp (disch := omega) [if_t, hn, checkPath_law, c_laws_szEntryS es 1048576 n hn p0 p1]; refine hR _ _ _ (by simp) ?_; clear hR R; refine Runs.cseq ?_; refine Runs.cseq ?_; refine Runs.regO (.inl rfl) nzc (fun R hR => ?_); simp (disch := omega) [if_t, hn, checkPath_law]; refine hR _ _ _ (by simp) ?_; clear hR R; refine Runs.condI fun d hd => ?_; simp (disch := omega) [if_t, hn, checkPath_law] at hd; subst hd; refine cond_b (fun hc => ?_) (fun hc => ?_)
   ·first | (simp at hc; done) |
     (
     (try simp at hc); (try have hcx0 := inR_t.1 hc); (try have hcx1 := isV_t.1 hc); refine Runs.cseq ?_; refine Runs.regO (.inl rfl) nzc (fun R hR => ?_); simp (disch := omega) [if_t, hn, checkPath_law]; refine hR _ _ _ (by simp) ?_; clear hR R; refine Runs.ret ?_; dsimp only [thenQ, blockQ]; refine ⟨by simp, by simp (disch := omega) <;> omega, ?_⟩
     simp (disch := omega) [if_t, hn, checkPath_law, resD, resL, resV] <;> (first | omega | (simp_all; done) | (simp_all <;> omega)))
   ·first | (simp at hc; done) |
     (
     (try simp at hc); (try have hcx0 := inR_t.1 hc); (try have hcx1 := isV_t.1 hc); have hz := szEs_siz (es := es) (l := 1048576) (by omega)
     have hz2 : sizL es ≤ 1048576 := by omega
     refine Runs.skip ?_; refine Runs.cseq ?_; refine Runs.regO (.inl rfl) nzc (fun R hR => ?_); simp (disch := omega) [if_t, hn, checkPath_law]; refine hR _ _ _ (by simp) ?_; clear hR R; refine Runs.cseq ?_; refine Runs.regO (.inl rfl) nzc (fun R hR => ?_); simp (disch := omega) [if_t, hn, checkPath_law]; refine hR _ _ _ (by simp) ?_; clear hR R; refine Runs.cseq ?_; refine Runs.regO (.inl rfl) nzc (fun R hR => ?_); simp (disch := omega) [if_t, hn, checkPath_law]; refine hR _ _ _ (by simp) ?_; clear hR R; refine Runs.cseq ?_; refine Runs.regO (.inl rfl) nzc (fun R hR => ?_); simp (disch := omega) [if_t, hn, checkPath_law]; refine hR _ _ _ (by simp) ?_; clear hR R; refine Runs.cseq ?_; refine Runs.cseq ?_; refine Runs.regO (.inl rfl) nzc (fun R hR => ?_); simp (disch := omega) [if_t, hn, checkPath_law]; refine hR _ _ _ (by simp) ?_; clear hR R; refine Runs.condI fun d hd => ?_; simp (disch := omega) [if_t, hn, checkPath_law] at hd; subst hd; refine cond_b (fun hc => ?_) (fun hc => ?_)
     ·first | (simp at hc; done) |
       (
       (try simp at hc); (try have hcx0 := inR_t.1 hc); (try have hcx1 := isV_t.1 hc); refine Runs.cseq ?_; refine Runs.regO (.inl rfl) nzc (fun R hR => ?_); simp (disch := omega) [if_t, hn, checkPath_law]; refine hR _ _ _ (by simp) ?_; clear hR R; refine Runs.ret ?_; dsimp only [thenQ, blockQ]; refine ⟨by simp, by simp (disch := omega) <;> omega, ?_⟩
       simp (disch := omega) [if_t, hn, checkPath_law, resD, resL, resV] <;> (first | omega | (simp_all; done) | (simp_all <;> omega)))
     ·first | (simp at hc; done) |
       (
       (try simp at hc); (try have hcx0 := inR_t.1 hc); (try have hcx1 := isV_t.1 hc); refine Runs.skip ?_; refine Runs.cseq ?_; refine Runs.cseq ?_; refine Runs.regO (.inl rfl) nzc (fun R hR => ?_); simp (disch := omega) [if_t, hn, checkPath_law]; refine hR _ _ _ (by simp) ?_; clear hR R; refine Runs.condI fun d hd => ?_; simp (disch := omega) [if_t, hn, checkPath_law] at hd; subst hd; refine cond_b (fun hc => ?_) (fun hc => ?_)
       ·first | (simp at hc; done) |
         (
         (try simp at hc); (try have hcx0 := inR_t.1 hc); (try have hcx1 := isV_t.1 hc); refine Runs.cseq ?_; refine Runs.regO (.inl rfl) nzc (fun R hR => ?_); simp (disch := omega) [if_t, hn, checkPath_law]; refine hR _ _ _ (by simp) ?_; clear hR R; refine Runs.ret ?_; dsimp only [thenQ, blockQ]; refine ⟨by simp, by simp (disch := omega) <;> omega, ?_⟩
         simp (disch := omega) [if_t, hn, checkPath_law, resD, resL, resV] <;> (first | omega | (simp_all; done) | (simp_all <;> omega)))
       ·first | (simp at hc; done) |
         (
         (try simp at hc); (try have hcx0 := inR_t.1 hc); (try have hcx1 := isV_t.1 hc); refine Runs.skip ?_; refine Runs.cseq ?_; refine Runs.cseq ?_; refine Runs.regO (.inl rfl) nzc (fun R hR => ?_); simp (disch := omega) [if_t, hn, checkPath_law]; refine hR _ _ _ (by simp) ?_; clear hR R; refine Runs.condI fun d hd => ?_; simp (disch := omega) [if_t, hn, checkPath_law] at hd; subst hd; refine cond_b (fun hc => ?_) (fun hc => ?_)
         ·first | (simp at hc; done) |
           (
           (try simp at hc); (try have hcx0 := inR_t.1 hc); (try have hcx1 := isV_t.1 hc); refine Runs.cseq ?_; refine Runs.regO (.inl rfl) nzc (fun R hR => ?_); simp (disch := omega) [if_t, hn, checkPath_law]; refine hR _ _ _ (by simp) ?_; clear hR R; refine Runs.ret ?_; dsimp only [thenQ, blockQ]; refine ⟨by simp, by simp (disch := omega) <;> omega, ?_⟩
           simp (disch := omega) [if_t, hn, checkPath_law, resD, resL, resV] <;> (first | omega | (simp_all; done) | (simp_all <;> omega)))
         ·first | (simp at hc; done) |
           (
           (try simp at hc); (try have hcx0 := inR_t.1 hc); (try have hcx1 := isV_t.1 hc); refine Runs.skip ?_; refine Runs.cseq ?_; refine Runs.regO (.inl rfl) nzc (fun R hR => ?_); simp (disch := omega) [if_t, hn, checkPath_law]; refine hR _ _ _ (by simp) ?_; clear hR R; refine Runs.ret ?_; dsimp only [thenQ, blockQ]; refine ⟨by simp, by simp (disch := omega) <;> omega, ?_⟩
           simp (disch := omega) [if_t, hn, checkPath_law, resD, resL, resV] <;> (first | omega | (simp_all; done) | (simp_all <;> omega)))))))


end Go.Proofs.Ytlokmogjbpcmgaa.Cv
