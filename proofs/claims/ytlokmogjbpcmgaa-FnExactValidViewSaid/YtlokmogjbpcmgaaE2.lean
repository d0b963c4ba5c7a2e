/- What the functions of the program compute (part 2). No condition. -/
import Derived.Test.YtlokmogjbpcmgaaRows
import Derived.Test.YtlokmogjbpcmgaaE1
set_option linter.unusedVariables false
set_option linter.unusedSimpArgs false
namespace Go.Proofs.Ytlokmogjbpcmgaa.Cv
open Go Go.Cv Go.Proofs Go.Cv.Enc Go.Cv.Own
/-- laws.szTimeS -/
@[simp] theorem c_laws_szTimeS (xs : List Tim) (left : Int) (n : Nat) (hn : n ≠ 0) (p0 : xs.length ≤ 140737488355328) (p1 : left ≤ 1048576) (p2 : -1 ≤ left) : cfg.call 56 [cl xs, ci left] n = some (ci (szI xs.length left), n, []) := by
 refine call_runs0 rfl Try.func56 rfl (by kernel_rfl) rfl (by simp (disch := omega) [low_agg, low_pt, low_fn]) ?_; refine Runs.cseq ?_; refine Runs.regO (.inl rfl) nzc (fun R hR => ?_); simp (disch := omega) [if_t, hn]; refine hR _ _ _ (by simp) ?_; clear hR R; refine Runs.cseq ?_; refine Runs.regO (.inl rfl) nzc (fun R hR => ?_); simp (disch := omega) [if_t, hn]; refine hR _ _ _ (by simp) ?_; clear hR R; refine Runs.cseq ?_; refine Runs.cseq ?_; refine Runs.regO (.inl rfl) nzc (fun R hR => ?_); simp (disch := omega) [if_t, hn]; refine hR _ _ _ (by simp) ?_; clear hR R; refine Runs.condI fun d hd => ?_; simp (disch := omega) [if_t, hn] at hd; subst hd; refine cond_b (fun hc => ?_) (fun hc => ?_)
 ·first | (simp at hc; done) |
   (
   (try simp at hc); (try have hcx0 := inR_t.1 hc); (try have hcx1 := isV_t.1 hc); refine Runs.cseq ?_; refine Runs.regO (.inl rfl) nzc (fun R hR => ?_); simp (disch := omega) [if_t, hn]; refine hR _ _ _ (by simp) ?_; clear hR R; refine Runs.ret ?_; dsimp only [thenQ, blockQ]; refine ⟨by simp, by simp (disch := omega) <;> omega, ?_⟩
   simp (disch := omega) [if_t, hn, resD, resL, resV] <;> (first | omega | (simp_all [szI]; done) | (simp_all [szI] <;> omega)))
 ·first | (simp at hc; done) |
   (
   (try simp at hc); (try have hcx0 := inR_t.1 hc); (try have hcx1 := isV_t.1 hc); refine Runs.skip ?_; refine Runs.cseq ?_; refine Runs.regO (.inl rfl) nzc (fun R hR => ?_); simp (disch := omega) [if_t, hn]; refine hR _ _ _ (by simp) ?_; clear hR R; refine Runs.ret ?_; dsimp only [thenQ, blockQ]; refine ⟨by simp, by simp (disch := omega) <;> omega, ?_⟩
   simp (disch := omega) [if_t, hn, resD, resL, resV] <;> (first | omega | (simp_all [szI]; done) | (simp_all [szI] <;> omega)))

def szRowsU : List Upd → Int → Int
  | [], l => l
  | e :: es, l => if szI e.row.length l < 0 then -1 else szRowsU es (szI e.row.length l)
def szEsU (es : List Upd) (left : Int) : Int := if left - (es.length : Int) < 0 then -1 else szRowsU es (left - (es.length : Int))
theorem szRowsU_siz : ∀ (es : List Upd) (l : Int), 0 ≤ szRowsU es l → 0 ≤ l → (sizL es : Int) ≤ l + es.length - szRowsU es l
  | [], l, h, h0 => by simp [szRowsU, sizL]
  | e :: es, l, h, h0 => by
    rw [szRowsU] at h ⊢
    by_cases hc : szI e.row.length l < 0
    · rw [if_pos hc] at h; omega
    · rw [if_neg hc] at h ⊢
      have ih := szRowsU_siz es _ h (by omega)
      have e1 : szI e.row.length l = l - e.row.length := by unfold szI at hc ⊢; split at hc <;> simp_all <;> omega
      have e2 := sizL_int e.row
      simp only [sizL_cons, siz_upd, e2, List.length_cons]
      rw [e1] at ih ⊢
      omega
theorem szEsU_siz {es : List Upd} {l : Int} (h : 0 ≤ szEsU es l) : (sizL es : Int) ≤ l - szEsU es l := by
  unfold szEsU at h ⊢
  by_cases hc : l - (es.length : Int) < 0
  · rw [if_pos hc] at h; omega
  · rw [if_neg hc] at h ⊢
    have := szRowsU_siz es _ h (by omega)
    omega
theorem szRowsU_le : ∀ (es : List Upd) (l : Int), l ≤ 1048576 → -1 ≤ l → szRowsU es l ≤ 1048576 ∧ -1 ≤ szRowsU es l
  | [], l, h, h0 => by simp [szRowsU]; omega
  | e :: es, l, h, h0 => by
    rw [szRowsU]
    split
    · omega
    · exact szRowsU_le es _ (szI_le h) (szI_ge _ _)
theorem szEsU_le (es : List Upd) {l : Int} (h : l ≤ 1048576) (h0 : -1 ≤ l) : szEsU es l ≤ 1048576 ∧ -1 ≤ szEsU es l := by
  unfold szEsU
  split
  · omega
  · exact szRowsU_le es _ (by omega) (by omega)

/-- laws.szUpdate -/
@[simp] theorem c_laws_szUpdate (e : Upd) (left : Int) (n : Nat) (hn : n ≠ 0) (p0 : e.row.length ≤ 140737488355328) (p1 : left ≤ 1048576) (p2 : -1 ≤ left) : cfg.call 73 [.agg [cl e.row, ci e.t.e, ci e.t.r, ci e.w], ci left] n = some (ci (szI e.row.length left), n, []) := by
 refine call_runs0 rfl Try.func73 rfl (by kernel_rfl) rfl (by simp (disch := omega) [low_agg, low_pt, low_fn]) ?_; refine Runs.cseq ?_; refine Runs.regO (.inl rfl) nzc (fun R hR => ?_); simp (disch := omega) [if_t, hn]; refine hR _ _ _ (by simp) ?_; clear hR R; refine Runs.cseq ?_; refine Runs.regO (.inl rfl) nzc (fun R hR => ?_); simp (disch := omega) [if_t, hn]; refine hR _ _ _ (by simp) ?_; clear hR R; refine Runs.cseq ?_; refine Runs.cseq ?_; refine Runs.regO (.inl rfl) nzc (fun R hR => ?_); simp (disch := omega) [if_t, hn]; refine hR _ _ _ (by simp) ?_; clear hR R; refine Runs.condI fun d hd => ?_; simp (disch := omega) [if_t, hn] at hd; subst hd; refine cond_b (fun hc => ?_) (fun hc => ?_)
 ·first | (simp at hc; done) |
   (
   (try simp at hc); (try have hcx0 := inR_t.1 hc); (try have hcx1 := isV_t.1 hc); have hv := szI_neg hc
   refine Runs.cseq ?_; refine Runs.regO (.inl rfl) nzc (fun R hR => ?_); simp (disch := omega) [if_t, hn]; refine hR _ _ _ (by simp) ?_; clear hR R; refine Runs.ret ?_; dsimp only [thenQ, blockQ]; refine ⟨by simp, by simp (disch := omega) <;> omega, ?_⟩
   simp (disch := omega) [if_t, hn, resD, resL, resV] <;> (first | omega | (simp_all; done) | (simp_all <;> omega)))
 ·first | (simp at hc; done) |
   (
   (try simp at hc); (try have hcx0 := inR_t.1 hc); (try have hcx1 := isV_t.1 hc); refine Runs.skip ?_; refine Runs.cseq ?_; refine Runs.regO (.inl rfl) nzc (fun R hR => ?_); simp (disch := omega) [if_t, hn]; refine hR _ _ _ (by simp) ?_; clear hR R; refine Runs.ret ?_; dsimp only [thenQ, blockQ]; refine ⟨by simp, by simp (disch := omega) <;> omega, ?_⟩
   simp (disch := omega) [if_t, hn, resD, resL, resV] <;> (first | omega | (simp_all; done) | (simp_all <;> omega)))

/-- laws.szUpdateS -/
@[simp] theorem c_laws_szUpdateS (es : List Upd) (left : Int) (n : Nat) (hn : n ≠ 0) (p0 : es.length ≤ 140737488355328) (p1 : ∀ e ∈ es, e.row.length ≤ 140737488355328) (p2 : left ≤ 1048576) (p3 : 0 ≤ left) : cfg.call 57 [cl es, ci left] n = some (ci (szEsU es left), n, []) := by
 refine call_runs0 rfl Try.func57 rfl (by kernel_rfl) rfl (by simp (disch := omega) [low_agg, low_pt, low_fn]) ?_; refine Runs.cseq ?_; refine Runs.regO (.inl rfl) nzc (fun R hR => ?_); simp (disch := omega) [if_t, hn]; refine hR _ _ _ (by simp) ?_; clear hR R; refine Runs.cseq ?_; refine Runs.regO (.inl rfl) nzc (fun R hR => ?_); simp (disch := omega) [if_t, hn]; refine hR _ _ _ (by simp) ?_; clear hR R; refine Runs.cseq ?_; refine Runs.cseq ?_; refine Runs.regO (.inl rfl) nzc (fun R hR => ?_); simp (disch := omega) [if_t, hn]; refine hR _ _ _ (by simp) ?_; clear hR R; refine Runs.condI fun d hd => ?_; simp (disch := omega) [if_t, hn] at hd; subst hd; refine cond_b (fun hc => ?_) (fun hc => ?_)
 ·first | (simp at hc; done) |
   (
   (try simp at hc); (try have hcx0 := inR_t.1 hc); (try have hcx1 := isV_t.1 hc); have hv : szEsU es left = -1 := by rw [szEsU, if_pos (by omega)]
   refine Runs.cseq ?_; refine Runs.regO (.inl rfl) nzc (fun R hR => ?_); simp (disch := omega) [if_t, hn]; refine hR _ _ _ (by simp) ?_; clear hR R; refine Runs.ret ?_; dsimp only [thenQ, blockQ]; refine ⟨by simp, by simp (disch := omega) <;> omega, ?_⟩
   simp (disch := omega) [if_t, hn, resD, resL, resV] <;> (first | omega | (simp_all [szRowsU]; done) | (simp_all [szRowsU] <;> omega)))
 ·first | (simp at hc; done) |
   (
   (try simp at hc); (try have hcx0 := inR_t.1 hc); (try have hcx1 := isV_t.1 hc); have hc0 : ¬ left - (es.length : Int) < 0 := by omega
   refine Runs.skip ?_; refine Runs.cseq ?_; refine Runs.cseq ?_; refine Runs.regO (.inl rfl) nzc (fun R hR => ?_); simp (disch := omega) [if_t, hn]; refine hR _ _ _ (by simp) ?_; clear hR R; refine Runs.cblock ?_; refine Runs.loop (fun k fr n' E => ∃ (i : Nat) (l : Int), n ≤ n' ∧ Go.Cv.Loc n E ∧ fr 0 = cl es ∧ fr 1 = ci l ∧ fr 5 = ci (i : Int) ∧ i + k = es.length ∧ 0 ≤ l ∧ l ≤ 1048576 ∧ szEsU es left = szRowsU (es.drop i) l) ?_ (k := es.length) ?_
   ·rintro k1 fr n1 E1 ⟨i, l, hn1, hE1, s0, s1, s5, hk, ha, hb, hM⟩
    have hz1 : n1 ≠ 0 := by omega
    refine Runs.cseq ?_; refine Runs.cseq ?_; refine Runs.regO (.inl rfl) nzc (fun R hR => ?_); simp (disch := omega) [if_t, hn, s0, s1, s5]; refine hR _ _ _ (by simp) ?_; clear hR R; refine Runs.condI fun d hd => ?_; simp (disch := omega) [if_t, hn, s0, s1, s5] at hd; subst hd; refine cond_b (fun hc => ?_) (fun hc => ?_)
    ·first | (simp at hc; done) |
      (
      (try simp at hc); (try have hcx0 := inR_t.1 hc); (try have hcx1 := isV_t.1 hc); have hr := p1 _ (ix_mem hc)
      have hle := szI_le (m := (ix es i).row.length) hb
      rw [drop_ix hc, szRowsU] at hM; refine Runs.skip ?_; refine Runs.cseq ?_; refine Runs.cblock ?_; refine Runs.cseq ?_; refine Runs.regO (.inl rfl) nzc (fun R hR => ?_); simp (disch := omega) [if_t, hn, s0, s1, s5]; refine hR _ _ _ (by simp) ?_; clear hR R; refine Runs.cseq ?_; refine Runs.regO (.inl rfl) nzc (fun R hR => ?_); simp (disch := omega) [if_t, hn, s0, s1, s5]; refine hR _ _ _ (by simp) ?_; clear hR R; refine Runs.condI fun d hd => ?_; simp (disch := omega) [if_t, hn, s0, s1, s5] at hd; subst hd; refine cond_b (fun hc => ?_) (fun hc => ?_)
      ·first | (simp at hc; done) |
        (
        (try simp at hc); (try have hcx0 := inR_t.1 hc); (try have hcx1 := isV_t.1 hc); rw [if_pos hc] at hM; refine Runs.cseq ?_; refine Runs.regO (.inl rfl) nzc (fun R hR => ?_); simp (disch := omega) [if_t, hn, s0, s1, s5]; refine hR _ _ _ (by simp) ?_; clear hR R; refine Runs.ret ?_; dsimp only [thenQ, blockQ]; refine ⟨by simp, by simp (disch := omega) [hE1] <;> omega, ?_⟩
        simp (disch := omega) [if_t, hn, s0, s1, s5, resD, resL, resV] <;> (first | omega | (simp_all [szRowsU]; done) | (simp_all [szRowsU] <;> omega)))
      ·first | (simp at hc; done) |
        (
        (try simp at hc); (try have hcx0 := inR_t.1 hc); (try have hcx1 := isV_t.1 hc); rw [if_neg (by omega)] at hM; refine Runs.skip ?_; refine Runs.regO (.inl rfl) nzc (fun R hR => ?_); simp (disch := omega) [if_t, hn, s0, s1, s5]; refine hR _ _ _ (by simp) ?_; clear hR R; dsimp only [thenQ, blockQ]; refine ⟨k1 - 1, by omega, i + 1, szI (ix es i).row.length l, ?_, ?_, ?_, ?_, ?_, ?_, ?_, ?_, ?_⟩
        ·omega
        ·simp (disch := omega) [hE1] <;> omega
        ·simp (disch := omega) [if_t, hn, s0, s1, s5]
        ·simp (disch := omega) [if_t, hn, s0, s1, s5]
        ·simp (disch := omega) [if_t, hn, s0, s1, s5]
        ·first | omega | assumption
        ·first | omega | assumption
        ·first | omega | assumption
        ·rw [hM]; try simp_all))
    ·first | (simp at hc; done) |
      (
      (try simp at hc); (try have hcx0 := inR_t.1 hc); (try have hcx1 := isV_t.1 hc); rw [List.drop_of_length_le (by omega)] at hM; refine Runs.exit ?_; refine Runs.cseq ?_; refine Runs.regO (.inl rfl) nzc (fun R hR => ?_); simp (disch := omega) [if_t, hn, s0, s1, s5]; refine hR _ _ _ (by simp) ?_; clear hR R; refine Runs.ret ?_; dsimp only [thenQ, blockQ]; refine ⟨by simp, by simp (disch := omega) [hE1] <;> omega, ?_⟩
      simp (disch := omega) [if_t, hn, s0, s1, s5, resD, resL, resV] <;> (first | omega | (simp_all [szRowsU]; done) | (simp_all [szRowsU] <;> omega)))
   ·skip
    refine ⟨0, left - (es.length : Int), ?_, ?_, ?_, ?_, ?_, ?_, ?_, ?_, ?_⟩
    ·omega
    ·simp
    ·simp (disch := omega) [if_t, hn]
    ·simp (disch := omega) [if_t, hn]
    ·simp (disch := omega) [if_t, hn]
    ·first | omega | simp | rfl
    ·first | omega | simp | rfl
    ·first | omega | simp | rfl
    ·rw [szEsU, if_neg hc0]; rfl)

def szV (v : Vw) (left : Int) : Int :=
  if szI v.since.length left < 0 then -1 else if szI v.upper.length (szI v.since.length left) < 0 then -1 else
  if szEsU v.tr (szI v.upper.length (szI v.since.length left)) < 0 then -1 else szEsU v.tr (szI v.upper.length (szI v.since.length left))
theorem sizL_tim (xs : List Tim) : sizL xs = xs.length := by
  induction xs with
  | nil => rfl
  | cons x xs ih => simp [ih]; omega
theorem szI_sub {m : Nat} {l : Int} (h : 0 ≤ szI m l) : szI m l = l - m := by unfold szI at *; split at h <;> simp_all <;> omega
theorem szV_siz {v : Vw} {l : Int} (h : 0 ≤ szV v l) : (siz v : Int) ≤ l - szV v l := by
  unfold szV at h ⊢
  split at h
  · omega
  · split at h
    · omega
    · split at h
      · omega
      · rename_i h1 h2 h3
        rw [if_neg h1, if_neg h2, if_neg h3]
        have e1 := szI_sub (by omega : 0 ≤ szI v.since.length l)
        have e2 := szI_sub (by omega : 0 ≤ szI v.upper.length (szI v.since.length l))
        have := szEsU_siz h
        simp only [siz_vw, sizL_tim]
        omega
theorem szV_le (v : Vw) {l : Int} (h : l ≤ 1048576) (h0 : -1 ≤ l) : szV v l ≤ 1048576 ∧ -1 ≤ szV v l := by
  unfold szV
  split
  · omega
  · split
    · omega
    · split
      · omega
      · exact szEsU_le _ (szI_le (szI_le h)) (szI_ge _ _)

/-- laws.szView -/
@[simp] theorem c_laws_szView (v : Vw) (left : Int) (n : Nat) (hn : n ≠ 0) (p0 : v.since.length ≤ 140737488355328) (p1 : v.upper.length ≤ 140737488355328) (p2 : v.tr.length ≤ 140737488355328) (p3 : ∀ e ∈ v.tr, e.row.length ≤ 140737488355328) (p4 : left ≤ 1048576) (p5 : -1 ≤ left) : cfg.call 23 [.agg [cl v.since, cl v.upper, cl v.tr], ci left] n = some (ci (szV v left), n, []) := by
 refine call_runs0 rfl Try.func23 rfl (by kernel_rfl) rfl (by simp (disch := omega) [low_agg, low_pt, low_fn]) ?_; have q1 := szI_le (m := v.since.length) p4
 have q2 := szI_ge v.since.length left
 have q3 := szI_le (m := v.upper.length) q1
 refine Runs.cseq ?_; refine Runs.regO (.inl rfl) nzc (fun R hR => ?_); simp (disch := omega) [if_t, hn]; refine hR _ _ _ (by simp) ?_; clear hR R; refine Runs.cseq ?_; refine Runs.regO (.inl rfl) nzc (fun R hR => ?_); simp (disch := omega) [if_t, hn]; refine hR _ _ _ (by simp) ?_; clear hR R; refine Runs.cseq ?_; refine Runs.cseq ?_; refine Runs.regO (.inl rfl) nzc (fun R hR => ?_); simp (disch := omega) [if_t, hn]; refine hR _ _ _ (by simp) ?_; clear hR R; refine Runs.condI fun d hd => ?_; simp (disch := omega) [if_t, hn] at hd; subst hd; refine cond_b (fun hc => ?_) (fun hc => ?_)
 ·first | (simp at hc; done) |
   (
   (try simp at hc); (try have hcx0 := inR_t.1 hc); (try have hcx1 := isV_t.1 hc); refine Runs.cseq ?_; refine Runs.regO (.inl rfl) nzc (fun R hR => ?_); simp (disch := omega) [if_t, hn]; refine hR _ _ _ (by simp) ?_; clear hR R; refine Runs.ret ?_; dsimp only [thenQ, blockQ]; refine ⟨by simp, by simp (disch := omega) <;> omega, ?_⟩
   simp (disch := omega) [if_t, hn, resD, resL, resV] <;> (first | omega | (simp_all [szV]; done) | (simp_all [szV] <;> omega)))
 ·first | (simp at hc; done) |
   (
   (try simp at hc); (try have hcx0 := inR_t.1 hc); (try have hcx1 := isV_t.1 hc); refine Runs.skip ?_; refine Runs.cseq ?_; refine Runs.regO (.inl rfl) nzc (fun R hR => ?_); simp (disch := omega) [if_t, hn]; refine hR _ _ _ (by simp) ?_; clear hR R; refine Runs.cseq ?_; refine Runs.cseq ?_; refine Runs.regO (.inl rfl) nzc (fun R hR => ?_); simp (disch := omega) [if_t, hn]; refine hR _ _ _ (by simp) ?_; clear hR R; refine Runs.condI fun d hd => ?_; simp (disch := omega) [if_t, hn] at hd; subst hd; refine cond_b (fun hc => ?_) (fun hc => ?_)
   ·first | (simp at hc; done) |
     (
     (try simp at hc); (try have hcx0 := inR_t.1 hc); (try have hcx1 := isV_t.1 hc); refine Runs.cseq ?_; refine Runs.regO (.inl rfl) nzc (fun R hR => ?_); simp (disch := omega) [if_t, hn]; refine hR _ _ _ (by simp) ?_; clear hR R; refine Runs.ret ?_; dsimp only [thenQ, blockQ]; refine ⟨by simp, by simp (disch := omega) <;> omega, ?_⟩
     simp (disch := omega) [if_t, hn, resD, resL, resV] <;> (first | omega | (simp_all [szV]; done) | (simp_all [szV] <;> omega)))
   ·first | (simp at hc; done) |
     (
     (try simp at hc); (try have hcx0 := inR_t.1 hc); (try have hcx1 := isV_t.1 hc); refine Runs.skip ?_; refine Runs.cseq ?_; refine Runs.regO (.inl rfl) nzc (fun R hR => ?_); simp (disch := omega) [if_t, hn, c_laws_szUpdateS v.tr _ _ (by omega) p2 p3 q3]; refine hR _ _ _ (by simp) ?_; clear hR R; refine Runs.cseq ?_; refine Runs.cseq ?_; refine Runs.regO (.inl rfl) nzc (fun R hR => ?_); simp (disch := omega) [if_t, hn]; refine hR _ _ _ (by simp) ?_; clear hR R; refine Runs.condI fun d hd => ?_; simp (disch := omega) [if_t, hn] at hd; subst hd; refine cond_b (fun hc => ?_) (fun hc => ?_)
     ·first | (simp at hc; done) |
       (
       (try simp at hc); (try have hcx0 := inR_t.1 hc); (try have hcx1 := isV_t.1 hc); refine Runs.cseq ?_; refine Runs.regO (.inl rfl) nzc (fun R hR => ?_); simp (disch := omega) [if_t, hn]; refine hR _ _ _ (by simp) ?_; clear hR R; refine Runs.ret ?_; dsimp only [thenQ, blockQ]; refine ⟨by simp, by simp (disch := omega) <;> omega, ?_⟩
       simp (disch := omega) [if_t, hn, resD, resL, resV] <;> (first | omega | (simp_all [szV]; done) | (simp_all [szV] <;> omega)))
     ·first | (simp at hc; done) |
       (
       (try simp at hc); (try have hcx0 := inR_t.1 hc); (try have hcx1 := isV_t.1 hc); refine Runs.skip ?_; refine Runs.cseq ?_; refine Runs.regO (.inl rfl) nzc (fun R hR => ?_); simp (disch := omega) [if_t, hn]; refine hR _ _ _ (by simp) ?_; clear hR R; refine Runs.ret ?_; dsimp only [thenQ, blockQ]; refine ⟨by simp, by simp (disch := omega) <;> omega, ?_⟩
       simp (disch := omega) [if_t, hn, resD, resL, resV] <;> (first | omega | (simp_all [szV]; done) | (simp_all [szV] <;> omega)))))

/-- laws.toTime -/
@[simp] theorem c_laws_toTime (t : Tim) (n : Nat) (hn : n ≠ 0)  : cfg.call 78 [.agg [ci t.e, ci t.r]] n = some (.agg [ci t.e, ci t.r], n, []) := by
 refine call_runs0 rfl Try.func78 rfl (by kernel_rfl) rfl (by simp (disch := omega) [low_agg, low_pt, low_fn]) ?_; refine Runs.cseq ?_; refine Runs.regO (.inl rfl) nzc (fun R hR => ?_); simp (disch := omega) [if_t, hn]; refine hR _ _ _ (by simp) ?_; clear hR R; refine Runs.cseq ?_; refine Runs.regO (.inl rfl) nzc (fun R hR => ?_); simp (disch := omega) [if_t, hn]; refine hR _ _ _ (by simp) ?_; clear hR R; refine Runs.cseq ?_; refine Runs.regO (.inl rfl) nzc (fun R hR => ?_); simp (disch := omega) [if_t, hn]; refine hR _ _ _ (by simp) ?_; clear hR R; refine Runs.cseq ?_; refine Runs.regO (.inl rfl) nzc (fun R hR => ?_); simp (disch := omega) [if_t, hn]; refine hR _ _ _ (by simp) ?_; clear hR R; refine Runs.cseq ?_; refine Runs.regO (.inl rfl) nzc (fun R hR => ?_); simp (disch := omega) [if_t, hn]; refine hR _ _ _ (by simp) ?_; clear hR R; refine Runs.ret ?_; dsimp only [thenQ, blockQ]; refine ⟨by simp, by simp (disch := omega) <;> omega, ?_⟩
 simp (disch := omega) [if_t, hn, resD, resL, resV] <;> (first | omega | (simp_all; done) | (simp_all <;> omega))

/-- laws.toTimeS -/
@[simp] theorem c_laws_toTimeS (es : List Tim) (n : Nat) (hn : n ≠ 0) (p0 : sizL es ≤ 1048576) : cfg.call 59 [cl es] n = some (own n es, n + cnt es, []) := by
 refine call_runs1 rfl Try.func59 rfl (by kernel_rfl) rfl (by simp (disch := omega) [low_agg, low_pt, low_fn]) ?_; have hl_es := len_siz es
 refine Runs.cseq ?_; refine Runs.regO (.inl rfl) nzc (fun R hR => ?_); simp (disch := omega) [if_t, hn]; refine hR _ _ _ (by simp) ?_; clear hR R; refine Runs.cseq ?_; refine Runs.regO (.inl rfl) nzc (fun R hR => ?_); simp (disch := omega) [if_t, hn]; refine hR _ _ _ (by simp) ?_; clear hR R; refine Runs.cseq ?_; refine Runs.cseq ?_; refine Runs.regO (.inl rfl) nzc (fun R hR => ?_); simp (disch := omega) [if_t, hn]; refine hR _ _ _ (by simp) ?_; clear hR R; refine Runs.cblock ?_; refine Runs.loop (fun k fr n' E => ∃ (i : Nat) (acc : List Tim), n + 1 ≤ n' ∧ Go.Cv.Loc n E ∧ fr 0 = cl es ∧ fr 3 = .sl n 0 none 2 (lst acc ++ List.replicate k (.agg [ci 0, ci 0])) ∧ fr 4 = ci (i : Int) ∧ i + k = es.length ∧ acc.length = i ∧ acc = es.take i) ?_ (k := es.length) ?_
 ·rintro k1 fr n1 E1 ⟨i, acc, hn1, hE1, s0, s3, s4, hk, hl, hM⟩
  have hz1 : n1 ≠ 0 := by omega
  refine Runs.cseq ?_; refine Runs.cseq ?_; refine Runs.regO (.inl rfl) nzc (fun R hR => ?_); simp (disch := omega) [if_t, hn, s0, s3, s4]; refine hR _ _ _ (by simp) ?_; clear hR R; refine Runs.condI fun d hd => ?_; simp (disch := omega) [if_t, hn, s0, s3, s4] at hd; subst hd; refine cond_b (fun hc => ?_) (fun hc => ?_)
  ·first | (simp at hc; done) |
    (
    (try simp at hc); (try have hcx0 := inR_t.1 hc); (try have hcx1 := isV_t.1 hc); obtain ⟨k1, rfl⟩ : ∃ j, k1 = j + 1 := ⟨k1 - 1, by omega⟩
    have hsz := siz_ix hc
    simp at hsz; refine Runs.skip ?_; refine Runs.cseq ?_; refine Runs.cblock ?_; refine Runs.regO (.inl rfl) nzc (fun R hR => ?_); simp (disch := omega) [if_t, hn, s0, s3, s4]; refine hR _ _ _ (by simp) ?_; clear hR R; refine Runs.regO (.inl rfl) nzc (fun R hR => ?_); simp (disch := omega) [if_t, hn, s0, s3, s4]; refine hR _ _ _ (by simp) ?_; clear hR R; dsimp only [thenQ, blockQ]; refine ⟨k1, by omega, i + 1, acc ++ [ix es i], ?_, ?_, ?_, ?_, ?_, ?_, ?_, ?_⟩
    ·omega
    ·simp (disch := omega) [hE1] <;> omega
    ·simp (disch := omega) [if_t, hn, s0, s3, s4]
    ·simp (disch := omega) [if_t, hn, s0, s3, s4, List.replicate_succ, setFlat_cons, hl]
     rw [lst_append, List.append_assoc]; simp
    ·simp (disch := omega) [if_t, hn, s0, s3, s4]
    ·first | omega | assumption
    ·simp [hl]
    ·rw [hM, take_ix hc])
  ·first | (simp at hc; done) |
    (
    (try simp at hc); (try have hcx0 := inR_t.1 hc); (try have hcx1 := isV_t.1 hc); obtain rfl : k1 = 0 := by omega
    obtain rfl : i = es.length := by omega
    simp [hM] at s3; refine Runs.exit ?_; refine Runs.cseq ?_; refine Runs.regO (.inl rfl) nzc (fun R hR => ?_); simp (disch := omega) [if_t, hn, s0, s3, s4]; refine hR _ _ _ (by simp) ?_; clear hR R; refine Runs.ret ?_; dsimp only [thenQ, blockQ]; refine ⟨by simp, by simp (disch := omega) [hE1] <;> omega, ?_⟩
    simp (disch := omega) [if_t, hn, s0, s3, s4, resD, resL, resV] <;> (first | omega | (simp_all; done) | (simp_all <;> omega)))
 ·skip
  refine ⟨0, [], ?_, ?_, ?_, ?_, ?_, ?_, ?_, ?_⟩
  ·omega
  ·simp
  ·simp (disch := omega) [if_t, hn]
  ·simp (disch := omega) [if_t, hn]
  ·simp (disch := omega) [if_t, hn]
  ·first | omega | simp | rfl
  ·first | omega | simp | rfl
  ·simp

/-- laws.toUpdate -/
@[simp] theorem c_laws_toUpdate (e : Upd) (n : Nat) (hn : n ≠ 0) (p0 : sizL e.row ≤ 1048576) : cfg.call 79 [.agg [cl e.row, ci e.t.e, ci e.t.r, ci e.w]] n = some (own n e, n + 1, []) := by
 refine call_runs1 rfl Try.func79 rfl (by kernel_rfl) rfl (by simp (disch := omega) [low_agg, low_pt, low_fn]) ?_; refine Runs.cseq ?_; refine Runs.regO (.inl rfl) nzc (fun R hR => ?_); simp (disch := omega) [if_t, hn]; refine hR _ _ _ (by simp) ?_; clear hR R; refine Runs.cseq ?_; refine Runs.regO (.inl rfl) nzc (fun R hR => ?_); simp (disch := omega) [if_t, hn]; refine hR _ _ _ (by simp) ?_; clear hR R; refine Runs.cseq ?_; refine Runs.regO (.inl rfl) nzc (fun R hR => ?_); simp (disch := omega) [if_t, hn]; refine hR _ _ _ (by simp) ?_; clear hR R; refine Runs.cseq ?_; refine Runs.regO (.inl rfl) nzc (fun R hR => ?_); simp (disch := omega) [if_t, hn]; refine hR _ _ _ (by simp) ?_; clear hR R; refine Runs.cseq ?_; refine Runs.regO (.inl rfl) nzc (fun R hR => ?_); simp (disch := omega) [if_t, hn]; refine hR _ _ _ (by simp) ?_; clear hR R; refine Runs.cseq ?_; refine Runs.regO (.inl rfl) nzc (fun R hR => ?_); simp (disch := omega) [if_t, hn]; refine hR _ _ _ (by simp) ?_; clear hR R; refine Runs.ret ?_; dsimp only [thenQ, blockQ]; refine ⟨by simp, by simp (disch := omega) <;> omega, ?_⟩
 simp (disch := omega) [if_t, hn, resD, resL, resV, keptD_upd_row] <;> (first | omega | (simp_all; done) | (simp_all <;> omega))

/-- laws.toUpdateS -/
@[simp] theorem c_laws_toUpdateS (es : List Upd) (n : Nat) (hn : n ≠ 0) (p0 : sizL es ≤ 1048576) : cfg.call 60 [cl es] n = some (own n es, n + cnt es, []) := by
 refine call_runs1 rfl Try.func60 rfl (by kernel_rfl) rfl (by simp (disch := omega) [low_agg, low_pt, low_fn]) ?_; have hl_es := len_siz es
 refine Runs.cseq ?_; refine Runs.regO (.inl rfl) nzc (fun R hR => ?_); simp (disch := omega) [if_t, hn]; refine hR _ _ _ (by simp) ?_; clear hR R; refine Runs.cseq ?_; refine Runs.regO (.inl rfl) nzc (fun R hR => ?_); simp (disch := omega) [if_t, hn]; refine hR _ _ _ (by simp) ?_; clear hR R; refine Runs.cseq ?_; refine Runs.cseq ?_; refine Runs.regO (.inl rfl) nzc (fun R hR => ?_); simp (disch := omega) [if_t, hn]; refine hR _ _ _ (by simp) ?_; clear hR R; refine Runs.cblock ?_; refine Runs.loop (fun k fr n' E => ∃ (i : Nat) (ts : List (Nat × Upd)), n + 1 ≤ n' ∧ Go.Cv.Loc n E ∧ fr 0 = cl es ∧ fr 3 = .sl n 0 none 4 (tl ts ++ List.replicate k (.agg [nilD, ci 0, ci 0, ci 0])) ∧ fr 4 = ci (i : Int) ∧ i + k = es.length ∧ ts.length = i ∧ vals ts = es.take i ∧ Sep (n + 1) n' ts) ?_ (k := es.length) ?_
 ·rintro k1 fr n1 E1 ⟨i, ts, hn1, hE1, s0, s3, s4, hk, hl, hM, hS⟩
  have hz1 : n1 ≠ 0 := by omega
  refine Runs.cseq ?_; refine Runs.cseq ?_; refine Runs.regO (.inl rfl) nzc (fun R hR => ?_); simp (disch := omega) [if_t, hn, s0, s3, s4]; refine hR _ _ _ (by simp) ?_; clear hR R; refine Runs.condI fun d hd => ?_; simp (disch := omega) [if_t, hn, s0, s3, s4] at hd; subst hd; refine cond_b (fun hc => ?_) (fun hc => ?_)
  ·first | (simp at hc; done) |
    (
    (try simp at hc); (try have hcx0 := inR_t.1 hc); (try have hcx1 := isV_t.1 hc); obtain ⟨k1, rfl⟩ : ∃ j, k1 = j + 1 := ⟨k1 - 1, by omega⟩
    have hsz := siz_ix hc
    simp at hsz; refine Runs.skip ?_; refine Runs.cseq ?_; refine Runs.cblock ?_; refine Runs.regO (.inl rfl) nzc (fun R hR => ?_); simp (disch := omega) [if_t, hn, s0, s3, s4, index_tl, hl]; refine hR _ _ _ (by simp) ?_; clear hR R; refine Runs.regO (.inl rfl) nzc (fun R hR => ?_); simp (disch := omega) [if_t, hn, s0, s3, s4]; refine hR _ _ _ (by simp) ?_; clear hR R; dsimp only [thenQ, blockQ]; refine ⟨k1, by omega, i + 1, ts ++ [(n1, ix es i)], ?_, ?_, ?_, ?_, ?_, ?_, ?_, ?_, ?_⟩
    ·omega
    ·simp (disch := omega) [hE1] <;> omega
    ·simp (disch := omega) [if_t, hn, s0, s3, s4]
    ·simp (disch := omega) [if_t, hn, s0, s3, s4, List.replicate_succ, setFlat_cons, hl, hS.wrlo, Nat.add_assoc, sfl_tlu]
     simp [tl]
    ·simp (disch := omega) [if_t, hn, s0, s3, s4]
    ·first | omega | assumption
    ·simp [hl]
    ·rw [take_ix hc, ← hM]; simp
    ·exact hS.snoc (by omega) (Nat.le_refl _) (by simp))
  ·first | (simp at hc; done) |
    (
    (try simp at hc); (try have hcx0 := inR_t.1 hc); (try have hcx1 := isV_t.1 hc); obtain rfl : k1 = 0 := by omega
    obtain rfl : i = es.length := by omega
    simp at s3; refine Runs.exit ?_; refine Runs.cseq ?_; refine Runs.regO (.inl rfl) nzc (fun R hR => ?_); simp (disch := omega) [if_t, hn, s0, s3, s4]; refine hR _ _ _ (by simp) ?_; clear hR R; refine Runs.ret ?_; dsimp only [thenQ, blockQ]; refine ⟨by simp, by simp (disch := omega) [hE1] <;> omega, ?_⟩
    have hlo : n ≤ n + 1 := by omega
    have hS2 : Sep n n1 ts := ⟨fun q hq => ⟨by have := (hS.rng q hq).1; omega, (hS.rng q hq).2⟩, hS.nd⟩
    have hkp := keptD_tl hn hS2 (Nat.le_refl n) (fun hm => by have := (hS.rng n hm).1; omega)
    rw [hM, List.take_length] at hkp; simp (disch := omega) [resD, resL, resV, s3]; simpa using hkp)
 ·skip
  refine ⟨0, [], ?_, ?_, ?_, ?_, ?_, ?_, ?_, ?_, ?_⟩
  ·omega
  ·simp
  ·simp (disch := omega) [if_t, hn]
  ·simp (disch := omega) [if_t, hn]
  ·simp (disch := omega) [if_t, hn]
  ·first | omega | simp | rfl
  ·first | omega | simp | rfl
  ·simp
  ·exact Sep.nil _ _

/-- laws.eqTime -/
@[simp] theorem c_laws_eqTime (a b : Tim) (n : Nat) (hn : n ≠ 0)  : cfg.call 67 [.agg [ci a.e, ci a.r], .agg [ci b.e, ci b.r]] n = some (bi (decide (a = b)), n, []) := by
 refine call_runs0 rfl Try.func67 rfl (by kernel_rfl) rfl (by simp (disch := omega) [low_agg, low_pt, low_fn]) ?_; obtain ⟨ae, ar⟩ := a
 obtain ⟨be, br⟩ := b
 refine Runs.cseq ?_; refine Runs.regO (.inl rfl) nzc (fun R hR => ?_); simp (disch := omega) [if_t, hn]; refine hR _ _ _ (by simp) ?_; clear hR R; refine Runs.cseq ?_; refine Runs.cseq ?_; refine Runs.regO (.inl rfl) nzc (fun R hR => ?_); simp (disch := omega) [if_t, hn]; refine hR _ _ _ (by simp) ?_; clear hR R; refine Runs.condI fun d hd => ?_; simp (disch := omega) [if_t, hn] at hd; subst hd; refine cond_b (fun hc => ?_) (fun hc => ?_)
 ·first | (simp at hc; done) |
   (
   (try simp at hc); (try have hcx0 := inR_t.1 hc); (try have hcx1 := isV_t.1 hc); refine Runs.cseq ?_; refine Runs.regO (.inl rfl) nzc (fun R hR => ?_); simp (disch := omega) [if_t, hn]; refine hR _ _ _ (by simp) ?_; clear hR R; refine Runs.ret ?_; dsimp only [thenQ, blockQ]; refine ⟨by simp, by simp (disch := omega) <;> omega, ?_⟩
   simp (disch := omega) [if_t, hn, resD, resL, resV] <;> (first | omega | (simp_all; done) | (simp_all <;> omega)))
 ·first | (simp at hc; done) |
   (
   (try simp at hc); (try have hcx0 := inR_t.1 hc); (try have hcx1 := isV_t.1 hc); refine Runs.skip ?_; refine Runs.cseq ?_; refine Runs.cseq ?_; refine Runs.regO (.inl rfl) nzc (fun R hR => ?_); simp (disch := omega) [if_t, hn]; refine hR _ _ _ (by simp) ?_; clear hR R; refine Runs.condI fun d hd => ?_; simp (disch := omega) [if_t, hn] at hd; subst hd; refine cond_b (fun hc => ?_) (fun hc => ?_)
   ·first | (simp at hc; done) |
     (
     (try simp at hc); (try have hcx0 := inR_t.1 hc); (try have hcx1 := isV_t.1 hc); refine Runs.cseq ?_; refine Runs.regO (.inl rfl) nzc (fun R hR => ?_); simp (disch := omega) [if_t, hn]; refine hR _ _ _ (by simp) ?_; clear hR R; refine Runs.ret ?_; dsimp only [thenQ, blockQ]; refine ⟨by simp, by simp (disch := omega) <;> omega, ?_⟩
     simp (disch := omega) [if_t, hn, resD, resL, resV] <;> (first | omega | (simp_all; done) | (simp_all <;> omega)))
   ·first | (simp at hc; done) |
     (
     (try simp at hc); (try have hcx0 := inR_t.1 hc); (try have hcx1 := isV_t.1 hc); refine Runs.skip ?_; refine Runs.cseq ?_; refine Runs.regO (.inl rfl) nzc (fun R hR => ?_); simp (disch := omega) [if_t, hn]; refine hR _ _ _ (by simp) ?_; clear hR R; refine Runs.ret ?_; dsimp only [thenQ, blockQ]; refine ⟨by simp, by simp (disch := omega) <;> omega, ?_⟩
     simp (disch := omega) [if_t, hn, resD, resL, resV] <;> (first | omega | (simp_all; done) | (simp_all <;> omega))))

/-- laws.eqTimeS -/
@[simp] theorem c_laws_eqTimeS (xs ys : List Tim) (n : Nat) (hn : n ≠ 0) (p0 : sizL xs ≤ 1152921504606846976) : cfg.call 35 [cl xs, cl ys] n = some (bi (decide (xs = ys)), n, []) := by
 refine call_runs0 rfl Try.func35 rfl (by kernel_rfl) rfl (by simp (disch := omega) [low_agg, low_pt, low_fn]) ?_; have hl_xs := len_siz xs
 refine Runs.cseq ?_; refine Runs.regO (.inl rfl) nzc (fun R hR => ?_); simp (disch := omega) [if_t, hn]; refine hR _ _ _ (by simp) ?_; clear hR R; refine Runs.cseq ?_; refine Runs.cseq ?_; refine Runs.regO (.inl rfl) nzc (fun R hR => ?_); simp (disch := omega) [if_t, hn]; refine hR _ _ _ (by simp) ?_; clear hR R; refine Runs.condI fun d hd => ?_; simp (disch := omega) [if_t, hn] at hd; subst hd; refine cond_b (fun hc => ?_) (fun hc => ?_)
 ·first | (simp at hc; done) |
   (
   (try simp at hc); (try have hcx0 := inR_t.1 hc); (try have hcx1 := isV_t.1 hc); have hne : ¬ xs = ys := fun h => hc (by rw [h])
   refine Runs.cseq ?_; refine Runs.regO (.inl rfl) nzc (fun R hR => ?_); simp (disch := omega) [if_t, hn]; refine hR _ _ _ (by simp) ?_; clear hR R; refine Runs.ret ?_; dsimp only [thenQ, blockQ]; refine ⟨by simp, by simp (disch := omega) <;> omega, ?_⟩
   simp (disch := omega) [if_t, hn, resD, resL, resV] <;> (first | omega | (simp_all; done) | (simp_all <;> omega)))
 ·first | (simp at hc; done) |
   (
   (try simp at hc); (try have hcx0 := inR_t.1 hc); (try have hcx1 := isV_t.1 hc); have hle : xs.length = ys.length := by omega
   refine Runs.skip ?_; refine Runs.cseq ?_; refine Runs.cseq ?_; refine Runs.regO (.inl rfl) nzc (fun R hR => ?_); simp (disch := omega) [if_t, hn]; refine hR _ _ _ (by simp) ?_; clear hR R; refine Runs.cblock ?_; refine Runs.loop (fun k fr n' E => ∃ (i : Nat), n ≤ n' ∧ Go.Cv.Loc n E ∧ fr 0 = cl xs ∧ fr 1 = cl ys ∧ fr 5 = ci (i : Int) ∧ i + k = xs.length ∧ decide (xs = ys) = decide (xs.drop i = ys.drop i)) ?_ (k := xs.length) ?_
   ·rintro k1 fr n1 E1 ⟨i, hn1, hE1, s0, s1, s5, hk, hM⟩
    have hz1 : n1 ≠ 0 := by omega
    refine Runs.cseq ?_; refine Runs.cseq ?_; refine Runs.regO (.inl rfl) nzc (fun R hR => ?_); simp (disch := omega) [if_t, hn, s0, s1, s5]; refine hR _ _ _ (by simp) ?_; clear hR R; refine Runs.condI fun d hd => ?_; simp (disch := omega) [if_t, hn, s0, s1, s5] at hd; subst hd; refine cond_b (fun hc => ?_) (fun hc => ?_)
    ·first | (simp at hc; done) |
      (
      (try simp at hc); (try have hcx0 := inR_t.1 hc); (try have hcx1 := isV_t.1 hc); have hsz := siz_ix hc
      (try simp at hsz); rw [drop_ix hc] at hM; rw [drop_ix (xs := ys) (i := i) (by omega), cons_eq] at hM; refine Runs.skip ?_; refine Runs.cseq ?_; refine Runs.cblock ?_; refine Runs.cseq ?_; refine Runs.regO (.inr (by kernel_rfl)) nzc (fun R hR => ?_); simp (disch := omega) [if_t, hn, s0, s1, s5]; refine hR _ _ _ (by simp) ?_; clear hR R; refine Runs.condI fun d hd => ?_; simp (disch := omega) [if_t, hn, s0, s1, s5] at hd; subst hd; refine cond_b (fun hc => ?_) (fun hc => ?_)
      ·first | (simp at hc; done) |
        (
        (try simp at hc); (try have hcx0 := inR_t.1 hc); (try have hcx1 := isV_t.1 hc); rw [decide_eq_false hc, Bool.false_and] at hM; refine Runs.cseq ?_; refine Runs.regO (.inl rfl) nzc (fun R hR => ?_); simp (disch := omega) [if_t, hn, s0, s1, s5]; refine hR _ _ _ (by simp) ?_; clear hR R; refine Runs.ret ?_; dsimp only [thenQ, blockQ]; refine ⟨by simp, by simp (disch := omega) [hE1] <;> omega, ?_⟩
        simp (disch := omega) [if_t, hn, s0, s1, s5, resD, resL, resV] <;> (first | omega | (simp_all; done) | (simp_all <;> omega)))
      ·first | (simp at hc; done) |
        (
        (try simp at hc); (try have hcx0 := inR_t.1 hc); (try have hcx1 := isV_t.1 hc); rw [decide_eq_true hc, Bool.true_and] at hM; refine Runs.skip ?_; refine Runs.regO (.inl rfl) nzc (fun R hR => ?_); simp (disch := omega) [if_t, hn, s0, s1, s5]; refine hR _ _ _ (by simp) ?_; clear hR R; dsimp only [thenQ, blockQ]; refine ⟨k1 - 1, by omega, i + 1, ?_, ?_, ?_, ?_, ?_, ?_, ?_⟩
        ·omega
        ·simp (disch := omega) [hE1] <;> omega
        ·simp (disch := omega) [if_t, hn, s0, s1, s5]
        ·simp (disch := omega) [if_t, hn, s0, s1, s5]
        ·simp (disch := omega) [if_t, hn, s0, s1, s5]
        ·first | omega | assumption
        ·rw [hM]))
    ·first | (simp at hc; done) |
      (
      (try simp at hc); (try have hcx0 := inR_t.1 hc); (try have hcx1 := isV_t.1 hc); rw [List.drop_of_length_le (by omega), List.drop_of_length_le (by omega)] at hM; refine Runs.exit ?_; refine Runs.cseq ?_; refine Runs.regO (.inl rfl) nzc (fun R hR => ?_); simp (disch := omega) [if_t, hn, s0, s1, s5]; refine hR _ _ _ (by simp) ?_; clear hR R; refine Runs.ret ?_; dsimp only [thenQ, blockQ]; refine ⟨by simp, by simp (disch := omega) [hE1] <;> omega, ?_⟩
      simp (disch := omega) [if_t, hn, s0, s1, s5, resD, resL, resV] <;> (first | omega | (simp_all; done) | (simp_all <;> omega)))
   ·skip
    refine ⟨0, ?_, ?_, ?_, ?_, ?_, ?_, ?_⟩
    ·omega
    ·simp
    ·simp (disch := omega) [if_t, hn]
    ·simp (disch := omega) [if_t, hn]
    ·simp (disch := omega) [if_t, hn]
    ·first | omega | simp | rfl
    ·rfl)

/-- laws.eqUpdate -/
@[simp] theorem c_laws_eqUpdate (a b : Upd) (n : Nat) (hn : n ≠ 0) (p0 : sizL a.row ≤ 1152921504606846976) : cfg.call 68 [.agg [cl a.row, ci a.t.e, ci a.t.r, ci a.w], .agg [cl b.row, ci b.t.e, ci b.t.r, ci b.w]] n = some (bi (decide (a = b)), n, []) := by
 refine call_runs0 rfl Try.func68 rfl (by kernel_rfl) rfl (by simp (disch := omega) [low_agg, low_pt, low_fn]) ?_; refine Runs.cseq ?_; refine Runs.regO (.inl rfl) nzc (fun R hR => ?_); simp (disch := omega) [if_t, hn, upd_eq]; refine hR _ _ _ (by simp) ?_; clear hR R; refine Runs.cseq ?_; refine Runs.cseq ?_; refine Runs.regO (.inl rfl) nzc (fun R hR => ?_); simp (disch := omega) [if_t, hn, upd_eq]; refine hR _ _ _ (by simp) ?_; clear hR R; refine Runs.condI fun d hd => ?_; simp (disch := omega) [if_t, hn, upd_eq] at hd; subst hd; refine cond_b (fun hc => ?_) (fun hc => ?_)
 ·first | (simp at hc; done) |
   (
   (try simp at hc); (try have hcx0 := inR_t.1 hc); (try have hcx1 := isV_t.1 hc); refine Runs.cseq ?_; refine Runs.regO (.inl rfl) nzc (fun R hR => ?_); simp (disch := omega) [if_t, hn, upd_eq]; refine hR _ _ _ (by simp) ?_; clear hR R; refine Runs.ret ?_; dsimp only [thenQ, blockQ]; refine ⟨by simp, by simp (disch := omega) <;> omega, ?_⟩
   simp (disch := omega) [if_t, hn, upd_eq, resD, resL, resV] <;> (first | omega | (simp_all; done) | (simp_all <;> omega)))
 ·first | (simp at hc; done) |
   (
   (try simp at hc); (try have hcx0 := inR_t.1 hc); (try have hcx1 := isV_t.1 hc); refine Runs.skip ?_; refine Runs.cseq ?_; refine Runs.cseq ?_; refine Runs.regO (.inl rfl) nzc (fun R hR => ?_); simp (disch := omega) [if_t, hn, upd_eq]; refine hR _ _ _ (by simp) ?_; clear hR R; refine Runs.condI fun d hd => ?_; simp (disch := omega) [if_t, hn, upd_eq] at hd; subst hd; refine cond_b (fun hc => ?_) (fun hc => ?_)
   ·first | (simp at hc; done) |
     (
     (try simp at hc); (try have hcx0 := inR_t.1 hc); (try have hcx1 := isV_t.1 hc); refine Runs.cseq ?_; refine Runs.regO (.inl rfl) nzc (fun R hR => ?_); simp (disch := omega) [if_t, hn, upd_eq]; refine hR _ _ _ (by simp) ?_; clear hR R; refine Runs.ret ?_; dsimp only [thenQ, blockQ]; refine ⟨by simp, by simp (disch := omega) <;> omega, ?_⟩
     simp (disch := omega) [if_t, hn, upd_eq, resD, resL, resV] <;> (first | omega | (simp_all; done) | (simp_all <;> omega)))
   ·first | (simp at hc; done) |
     (
     (try simp at hc); (try have hcx0 := inR_t.1 hc); (try have hcx1 := isV_t.1 hc); refine Runs.skip ?_; refine Runs.cseq ?_; refine Runs.cseq ?_; refine Runs.regO (.inl rfl) nzc (fun R hR => ?_); simp (disch := omega) [if_t, hn, upd_eq]; refine hR _ _ _ (by simp) ?_; clear hR R; refine Runs.condI fun d hd => ?_; simp (disch := omega) [if_t, hn, upd_eq] at hd; subst hd; refine cond_b (fun hc => ?_) (fun hc => ?_)
     ·first | (simp at hc; done) |
       (
       (try simp at hc); (try have hcx0 := inR_t.1 hc); (try have hcx1 := isV_t.1 hc); refine Runs.cseq ?_; refine Runs.regO (.inl rfl) nzc (fun R hR => ?_); simp (disch := omega) [if_t, hn, upd_eq]; refine hR _ _ _ (by simp) ?_; clear hR R; refine Runs.ret ?_; dsimp only [thenQ, blockQ]; refine ⟨by simp, by simp (disch := omega) <;> omega, ?_⟩
       simp (disch := omega) [if_t, hn, upd_eq, resD, resL, resV] <;> (first | omega | (simp_all; done) | (simp_all <;> omega)))
     ·first | (simp at hc; done) |
       (
       (try simp at hc); (try have hcx0 := inR_t.1 hc); (try have hcx1 := isV_t.1 hc); refine Runs.skip ?_; refine Runs.cseq ?_; refine Runs.regO (.inl rfl) nzc (fun R hR => ?_); simp (disch := omega) [if_t, hn, upd_eq]; refine hR _ _ _ (by simp) ?_; clear hR R; refine Runs.ret ?_; dsimp only [thenQ, blockQ]; refine ⟨by simp, by simp (disch := omega) <;> omega, ?_⟩
       simp (disch := omega) [if_t, hn, upd_eq, resD, resL, resV] <;> (first | omega | (simp_all; done) | (simp_all <;> omega)))))

/-- laws.eqUpdateS -/
@[simp] theorem c_laws_eqUpdateS (xs ys : List Upd) (n : Nat) (hn : n ≠ 0) (p0 : sizL xs ≤ 1152921504606846976) : cfg.call 36 [cl xs, cl ys] n = some (bi (decide (xs = ys)), n, []) := by
 refine call_runs0 rfl Try.func36 rfl (by kernel_rfl) rfl (by simp (disch := omega) [low_agg, low_pt, low_fn]) ?_; have hl_xs := len_siz xs
 refine Runs.cseq ?_; refine Runs.regO (.inl rfl) nzc (fun R hR => ?_); simp (disch := omega) [if_t, hn]; refine hR _ _ _ (by simp) ?_; clear hR R; refine Runs.cseq ?_; refine Runs.cseq ?_; refine Runs.regO (.inl rfl) nzc (fun R hR => ?_); simp (disch := omega) [if_t, hn]; refine hR _ _ _ (by simp) ?_; clear hR R; refine Runs.condI fun d hd => ?_; simp (disch := omega) [if_t, hn] at hd; subst hd; refine cond_b (fun hc => ?_) (fun hc => ?_)
 ·first | (simp at hc; done) |
   (
   (try simp at hc); (try have hcx0 := inR_t.1 hc); (try have hcx1 := isV_t.1 hc); have hne : ¬ xs = ys := fun h => hc (by rw [h])
   refine Runs.cseq ?_; refine Runs.regO (.inl rfl) nzc (fun R hR => ?_); simp (disch := omega) [if_t, hn]; refine hR _ _ _ (by simp) ?_; clear hR R; refine Runs.ret ?_; dsimp only [thenQ, blockQ]; refine ⟨by simp, by simp (disch := omega) <;> omega, ?_⟩
   simp (disch := omega) [if_t, hn, resD, resL, resV] <;> (first | omega | (simp_all; done) | (simp_all <;> omega)))
 ·first | (simp at hc; done) |
   (
   (try simp at hc); (try have hcx0 := inR_t.1 hc); (try have hcx1 := isV_t.1 hc); have hle : xs.length = ys.length := by omega
   refine Runs.skip ?_; refine Runs.cseq ?_; refine Runs.cseq ?_; refine Runs.regO (.inl rfl) nzc (fun R hR => ?_); simp (disch := omega) [if_t, hn]; refine hR _ _ _ (by simp) ?_; clear hR R; refine Runs.cblock ?_; refine Runs.loop (fun k fr n' E => ∃ (i : Nat), n ≤ n' ∧ Go.Cv.Loc n E ∧ fr 0 = cl xs ∧ fr 1 = cl ys ∧ fr 5 = ci (i : Int) ∧ i + k = xs.length ∧ decide (xs = ys) = decide (xs.drop i = ys.drop i)) ?_ (k := xs.length) ?_
   ·rintro k1 fr n1 E1 ⟨i, hn1, hE1, s0, s1, s5, hk, hM⟩
    have hz1 : n1 ≠ 0 := by omega
    refine Runs.cseq ?_; refine Runs.cseq ?_; refine Runs.regO (.inl rfl) nzc (fun R hR => ?_); simp (disch := omega) [if_t, hn, s0, s1, s5]; refine hR _ _ _ (by simp) ?_; clear hR R; refine Runs.condI fun d hd => ?_; simp (disch := omega) [if_t, hn, s0, s1, s5] at hd; subst hd; refine cond_b (fun hc => ?_) (fun hc => ?_)
    ·first | (simp at hc; done) |
      (
      (try simp at hc); (try have hcx0 := inR_t.1 hc); (try have hcx1 := isV_t.1 hc); have hsz := siz_ix hc
      (try simp at hsz); rw [drop_ix hc] at hM; rw [drop_ix (xs := ys) (i := i) (by omega), cons_eq] at hM; refine Runs.skip ?_; refine Runs.cseq ?_; refine Runs.cblock ?_; refine Runs.cseq ?_; refine Runs.regO (.inr (by kernel_rfl)) nzc (fun R hR => ?_); simp (disch := omega) [if_t, hn, s0, s1, s5]; refine hR _ _ _ (by simp) ?_; clear hR R; refine Runs.condI fun d hd => ?_; simp (disch := omega) [if_t, hn, s0, s1, s5] at hd; subst hd; refine cond_b (fun hc => ?_) (fun hc => ?_)
      ·first | (simp at hc; done) |
        (
        (try simp at hc); (try have hcx0 := inR_t.1 hc); (try have hcx1 := isV_t.1 hc); rw [decide_eq_false hc, Bool.false_and] at hM; refine Runs.cseq ?_; refine Runs.regO (.inl rfl) nzc (fun R hR => ?_); simp (disch := omega) [if_t, hn, s0, s1, s5]; refine hR _ _ _ (by simp) ?_; clear hR R; refine Runs.ret ?_; dsimp only [thenQ, blockQ]; refine ⟨by simp, by simp (disch := omega) [hE1] <;> omega, ?_⟩
        simp (disch := omega) [if_t, hn, s0, s1, s5, resD, resL, resV] <;> (first | omega | (simp_all; done) | (simp_all <;> omega)))
      ·first | (simp at hc; done) |
        (
        (try simp at hc); (try have hcx0 := inR_t.1 hc); (try have hcx1 := isV_t.1 hc); rw [decide_eq_true hc, Bool.true_and] at hM; refine Runs.skip ?_; refine Runs.regO (.inl rfl) nzc (fun R hR => ?_); simp (disch := omega) [if_t, hn, s0, s1, s5]; refine hR _ _ _ (by simp) ?_; clear hR R; dsimp only [thenQ, blockQ]; refine ⟨k1 - 1, by omega, i + 1, ?_, ?_, ?_, ?_, ?_, ?_, ?_⟩
        ·omega
        ·simp (disch := omega) [hE1] <;> omega
        ·simp (disch := omega) [if_t, hn, s0, s1, s5]
        ·simp (disch := omega) [if_t, hn, s0, s1, s5]
        ·simp (disch := omega) [if_t, hn, s0, s1, s5]
        ·first | omega | assumption
        ·rw [hM]))
    ·first | (simp at hc; done) |
      (
      (try simp at hc); (try have hcx0 := inR_t.1 hc); (try have hcx1 := isV_t.1 hc); rw [List.drop_of_length_le (by omega), List.drop_of_length_le (by omega)] at hM; refine Runs.exit ?_; refine Runs.cseq ?_; refine Runs.regO (.inl rfl) nzc (fun R hR => ?_); simp (disch := omega) [if_t, hn, s0, s1, s5]; refine hR _ _ _ (by simp) ?_; clear hR R; refine Runs.ret ?_; dsimp only [thenQ, blockQ]; refine ⟨by simp, by simp (disch := omega) [hE1] <;> omega, ?_⟩
      simp (disch := omega) [if_t, hn, s0, s1, s5, resD, resL, resV] <;> (first | omega | (simp_all; done) | (simp_all <;> omega)))
   ·skip
    refine ⟨0, ?_, ?_, ?_, ?_, ?_, ?_, ?_⟩
    ·omega
    ·simp
    ·simp (disch := omega) [if_t, hn]
    ·simp (disch := omega) [if_t, hn]
    ·simp (disch := omega) [if_t, hn]
    ·first | omega | simp | rfl
    ·rfl)

/-- laws.eqView -/
@[simp] theorem c_laws_eqView (a b : Vw) (n : Nat) (hn : n ≠ 0) (p0 : sizL a.since ≤ 1152921504606846976) (p1 : sizL a.upper ≤ 1152921504606846976) (p2 : sizL a.tr ≤ 1152921504606846976) : cfg.call 11 [.agg [cl a.since, cl a.upper, cl a.tr], .agg [cl b.since, cl b.upper, cl b.tr]] n = some (bi (decide (a = b)), n, []) := by
 refine call_runs0 rfl Try.func11 rfl (by kernel_rfl) rfl (by simp (disch := omega) [low_agg, low_pt, low_fn]) ?_; refine Runs.cseq ?_; refine Runs.regO (.inl rfl) nzc (fun R hR => ?_); simp (disch := omega) [if_t, hn, vw_eq]; refine hR _ _ _ (by simp) ?_; clear hR R; refine Runs.cseq ?_; refine Runs.cseq ?_; refine Runs.regO (.inl rfl) nzc (fun R hR => ?_); simp (disch := omega) [if_t, hn, vw_eq]; refine hR _ _ _ (by simp) ?_; clear hR R; refine Runs.condI fun d hd => ?_; simp (disch := omega) [if_t, hn, vw_eq] at hd; subst hd; refine cond_b (fun hc => ?_) (fun hc => ?_)
 ·first | (simp at hc; done) |
   (
   (try simp at hc); (try have hcx0 := inR_t.1 hc); (try have hcx1 := isV_t.1 hc); refine Runs.cseq ?_; refine Runs.regO (.inl rfl) nzc (fun R hR => ?_); simp (disch := omega) [if_t, hn, vw_eq]; refine hR _ _ _ (by simp) ?_; clear hR R; refine Runs.ret ?_; dsimp only [thenQ, blockQ]; refine ⟨by simp, by simp (disch := omega) <;> omega, ?_⟩
   simp (disch := omega) [if_t, hn, vw_eq, resD, resL, resV] <;> (first | omega | (simp_all; done) | (simp_all <;> omega)))
 ·first | (simp at hc; done) |
   (
   (try simp at hc); (try have hcx0 := inR_t.1 hc); (try have hcx1 := isV_t.1 hc); refine Runs.skip ?_; refine Runs.cseq ?_; refine Runs.cseq ?_; refine Runs.regO (.inl rfl) nzc (fun R hR => ?_); simp (disch := omega) [if_t, hn, vw_eq]; refine hR _ _ _ (by simp) ?_; clear hR R; refine Runs.condI fun d hd => ?_; simp (disch := omega) [if_t, hn, vw_eq] at hd; subst hd; refine cond_b (fun hc => ?_) (fun hc => ?_)
   ·first | (simp at hc; done) |
     (
     (try simp at hc); (try have hcx0 := inR_t.1 hc); (try have hcx1 := isV_t.1 hc); refine Runs.cseq ?_; refine Runs.regO (.inl rfl) nzc (fun R hR => ?_); simp (disch := omega) [if_t, hn, vw_eq]; refine hR _ _ _ (by simp) ?_; clear hR R; refine Runs.ret ?_; dsimp only [thenQ, blockQ]; refine ⟨by simp, by simp (disch := omega) <;> omega, ?_⟩
     simp (disch := omega) [if_t, hn, vw_eq, resD, resL, resV] <;> (first | omega | (simp_all; done) | (simp_all <;> omega)))
   ·first | (simp at hc; done) |
     (
     (try simp at hc); (try have hcx0 := inR_t.1 hc); (try have hcx1 := isV_t.1 hc); refine Runs.skip ?_; refine Runs.cseq ?_; refine Runs.cseq ?_; refine Runs.regO (.inl rfl) nzc (fun R hR => ?_); simp (disch := omega) [if_t, hn, vw_eq]; refine hR _ _ _ (by simp) ?_; clear hR R; refine Runs.condI fun d hd => ?_; simp (disch := omega) [if_t, hn, vw_eq] at hd; subst hd; refine cond_b (fun hc => ?_) (fun hc => ?_)
     ·first | (simp at hc; done) |
       (
       (try simp at hc); (try have hcx0 := inR_t.1 hc); (try have hcx1 := isV_t.1 hc); refine Runs.cseq ?_; refine Runs.regO (.inl rfl) nzc (fun R hR => ?_); simp (disch := omega) [if_t, hn, vw_eq]; refine hR _ _ _ (by simp) ?_; clear hR R; refine Runs.ret ?_; dsimp only [thenQ, blockQ]; refine ⟨by simp, by simp (disch := omega) <;> omega, ?_⟩
       simp (disch := omega) [if_t, hn, vw_eq, resD, resL, resV] <;> (first | omega | (simp_all; done) | (simp_all <;> omega)))
     ·first | (simp at hc; done) |
       (
       (try simp at hc); (try have hcx0 := inR_t.1 hc); (try have hcx1 := isV_t.1 hc); refine Runs.skip ?_; refine Runs.cseq ?_; refine Runs.regO (.inl rfl) nzc (fun R hR => ?_); simp (disch := omega) [if_t, hn, vw_eq]; refine hR _ _ _ (by simp) ?_; clear hR R; refine Runs.ret ?_; dsimp only [thenQ, blockQ]; refine ⟨by simp, by simp (disch := omega) <;> omega, ?_⟩
       simp (disch := omega) [if_t, hn, vw_eq, resD, resL, resV] <;> (first | omega | (simp_all; done) | (simp_all <;> omega)))))

/-- spec.validView -/
@[simp] theorem c_spec_validView (v : Vw) (n : Nat) (hn : n ≠ 0) (p0 : sizL v.since ≤ 1152921504606846976) (p1 : sizL v.upper ≤ 1152921504606846976) (p2 : sizL v.tr ≤ 1152921504606846976) : cfg.call 58 [.agg [cl v.since, cl v.upper, cl v.tr]] n = some (bi (validVw v), n, []) := by
 refine call_runs0 rfl Try.func58 rfl (by kernel_rfl) rfl (by simp (disch := omega) [low_agg, low_pt, low_fn]) ?_; have hl := len_siz v.tr
 refine Runs.cseq ?_; refine Runs.regO (.inl rfl) nzc (fun R hR => ?_); simp (disch := omega) [if_t, hn]; refine hR _ _ _ (by simp) ?_; clear hR R; refine Runs.cseq ?_; refine Runs.cseq ?_; refine Runs.regO (.inl rfl) nzc (fun R hR => ?_); repeat' (first | (simp (disch := omega) [if_t, hn]) | (with_reducible refine RunsW.splitN (fun hb => ?_) (fun hb => ?_) <;> (try simp only [hb]) <;> (try simp at hb) <;> (try have hx0 := inR_t.1 hb) <;> (try have hx1 := isV_t.1 hb)) | (with_reducible refine RunsW.split (fun hb => ?_) (fun hb => ?_) <;> (try simp only [hb]) <;> (try simp at hb) <;> (try have hx0 := inR_t.1 hb) <;> (try have hx1 := isV_t.1 hb)))
 all_goals (
  refine hR _ _ _ (by simp) ?_; clear hR R; refine Runs.condI fun d hd => ?_; simp (disch := omega) [if_t, hn] at hd; subst hd; refine cond_b (fun hc => ?_) (fun hc => ?_)
  ·first | (simp at hc; done) |
    (
    (try simp at hc); (try have hcx0 := inR_t.1 hc); (try have hcx1 := isV_t.1 hc); refine Runs.cseq ?_; refine Runs.regO (.inl rfl) nzc (fun R hR => ?_); simp (disch := omega) [if_t, hn]; refine hR _ _ _ (by simp) ?_; clear hR R; refine Runs.ret ?_; dsimp only [thenQ, blockQ]; refine ⟨by simp, by simp (disch := omega) <;> omega, ?_⟩
    simp (disch := omega) [if_t, hn, resD, resL, resV] <;> (first | omega | (simp_all [validVw, noCov, fle]; done) | (simp_all [validVw, noCov, fle] <;> omega)))
  ·first | (simp at hc; done) |
    (
    (try simp at hc); (try have hcx0 := inR_t.1 hc); (try have hcx1 := isV_t.1 hc); have hf : fle v.since v.upper = true := by unfold fle; simp_all
    refine Runs.skip ?_; refine Runs.cseq ?_; refine Runs.cseq ?_; refine Runs.regO (.inl rfl) nzc (fun R hR => ?_); simp (disch := omega) [if_t, hn]; refine hR _ _ _ (by simp) ?_; clear hR R; refine Runs.cblock ?_; refine Runs.loop (fun k fr n' E => ∃ (i : Nat), n + 1 ≤ n' ∧ Go.Cv.Loc n E ∧ fr 1 = .pt n 0 [cl v.since, cl v.upper, cl v.tr] ∧ fr 3 = ci (i : Int) ∧ i + k = v.tr.length ∧ noCov v.upper v.tr = noCov v.upper (v.tr.drop i)) ?_ (k := v.tr.length) ?_
    ·rintro k1 fr n1 E1 ⟨i, hn1, hE1, s1, s3, hk, hM⟩
     have hz1 : n1 ≠ 0 := by omega
     refine Runs.cseq ?_; refine Runs.cseq ?_; refine Runs.regO (.inl rfl) nzc (fun R hR => ?_); simp (disch := omega) [if_t, hn, s1, s3]; refine hR _ _ _ (by simp) ?_; clear hR R; refine Runs.condI fun d hd => ?_; simp (disch := omega) [if_t, hn, s1, s3] at hd; subst hd; refine cond_b (fun hc => ?_) (fun hc => ?_)
     ·first | (simp at hc; done) |
       (
       (try simp at hc); (try have hcx0 := inR_t.1 hc); (try have hcx1 := isV_t.1 hc); rw [drop_ix hc] at hM; rw [noCov] at hM; refine Runs.skip ?_; refine Runs.cseq ?_; refine Runs.cblock ?_; refine Runs.cseq ?_; refine Runs.regO (.inr (by kernel_rfl)) nzc (fun R hR => ?_); simp (disch := omega) [if_t, hn, s1, s3]; refine hR _ _ _ (by simp) ?_; clear hR R; refine Runs.condI fun d hd => ?_; simp (disch := omega) [if_t, hn, s1, s3] at hd; subst hd; refine cond_b (fun hc => ?_) (fun hc => ?_)
       ·first | (simp at hc; done) |
         (
         (try simp at hc); (try have hcx0 := inR_t.1 hc); (try have hcx1 := isV_t.1 hc); rw [hc, Bool.not_true, Bool.false_and] at hM; refine Runs.cseq ?_; refine Runs.regO (.inl rfl) nzc (fun R hR => ?_); simp (disch := omega) [if_t, hn, s1, s3]; refine hR _ _ _ (by simp) ?_; clear hR R; refine Runs.ret ?_; dsimp only [thenQ, blockQ]; refine ⟨by simp, by simp (disch := omega) [hE1] <;> omega, ?_⟩
         simp (disch := omega) [if_t, hn, s1, s3, resD, resL, resV] <;> (first | omega | (simp_all [validVw, noCov, fle]; done) | (simp_all [validVw, noCov, fle] <;> omega)))
       ·first | (simp at hc; done) |
         (
         (try simp at hc); (try have hcx0 := inR_t.1 hc); (try have hcx1 := isV_t.1 hc); rw [hc, Bool.not_false, Bool.true_and] at hM; refine Runs.skip ?_; refine Runs.regO (.inl rfl) nzc (fun R hR => ?_); simp (disch := omega) [if_t, hn, s1, s3]; refine hR _ _ _ (by simp) ?_; clear hR R; dsimp only [thenQ, blockQ]; refine ⟨k1 - 1, by omega, i + 1, ?_, ?_, ?_, ?_, ?_, ?_⟩
         ·omega
         ·simp (disch := omega) [hE1] <;> omega
         ·simp (disch := omega) [if_t, hn, s1, s3]
         ·simp (disch := omega) [if_t, hn, s1, s3]
         ·first | omega | assumption
         ·rw [hM]))
     ·first | (simp at hc; done) |
       (
       (try simp at hc); (try have hcx0 := inR_t.1 hc); (try have hcx1 := isV_t.1 hc); rw [List.drop_of_length_le (by omega)] at hM; refine Runs.exit ?_; refine Runs.cseq ?_; refine Runs.regO (.inl rfl) nzc (fun R hR => ?_); simp (disch := omega) [if_t, hn, s1, s3]; refine hR _ _ _ (by simp) ?_; clear hR R; refine Runs.ret ?_; dsimp only [thenQ, blockQ]; refine ⟨by simp, by simp (disch := omega) [hE1] <;> omega, ?_⟩
       simp (disch := omega) [if_t, hn, s1, s3, resD, resL, resV] <;> (first | omega | (simp_all [validVw, noCov, fle]; done) | (simp_all [validVw, noCov, fle] <;> omega)))
    ·skip
     refine ⟨0, ?_, ?_, ?_, ?_, ?_, ?_⟩
     ·omega
     ·simp
     ·simp (disch := omega) [if_t, hn]
     ·simp (disch := omega) [if_t, hn]
     ·first | omega | simp | rfl
     ·rfl))

/-- spec.ValidView -/
@[simp] theorem c_spec_ValidView (v : Vw) (n : Nat) (hn : n ≠ 0) (p0 : sizL v.since ≤ 1152921504606846976) (p1 : sizL v.upper ≤ 1152921504606846976) (p2 : sizL v.tr ≤ 1152921504606846976) : cfg.call 24 [.agg [cl v.since, cl v.upper, cl v.tr]] n = some (bi (validVw v), n, []) := by
 refine call_runs0 rfl Try.func24 rfl (by kernel_rfl) rfl (by simp (disch := omega) [low_agg, low_pt, low_fn]) ?_; refine Runs.cseq ?_; refine Runs.regO (.inl rfl) nzc (fun R hR => ?_); simp (disch := omega) [if_t, hn]; refine hR _ _ _ (by simp) ?_; clear hR R; refine Runs.cseq ?_; refine Runs.regO (.inl rfl) nzc (fun R hR => ?_); simp (disch := omega) [if_t, hn]; refine hR _ _ _ (by simp) ?_; clear hR R; refine Runs.ret ?_; dsimp only [thenQ, blockQ]; refine ⟨by simp, by simp (disch := omega) <;> omega, ?_⟩
 simp (disch := omega) [if_t, hn, resD, resL, resV] <;> (first | omega | (simp_all; done) | (simp_all <;> omega))

/-- laws.toView -/
@[simp] theorem c_laws_toView (v : Vw) (n : Nat) (hn : n ≠ 0) (p0 : siz v ≤ 1048576) : cfg.call 25 [.agg [cl v.since, cl v.upper, cl v.tr]] n = some (own n v, n + 3 + v.tr.length, []) := by
 refine call_runs1 rfl Try.func25 rfl (by kernel_rfl) rfl (by simp (disch := omega) [low_agg, low_pt, low_fn]) ?_; simp at p0; refine Runs.cseq ?_; refine Runs.regO (.inl rfl) nzc (fun R hR => ?_); simp (disch := omega) [if_t, hn]; refine hR _ _ _ (by simp) ?_; clear hR R; refine Runs.cseq ?_; refine Runs.regO (.inl rfl) nzc (fun R hR => ?_); simp (disch := omega) [if_t, hn]; refine hR _ _ _ (by simp) ?_; clear hR R; refine Runs.cseq ?_; refine Runs.regO (.inl rfl) nzc (fun R hR => ?_); simp (disch := omega) [if_t, hn]; refine hR _ _ _ (by simp) ?_; clear hR R; refine Runs.cseq ?_; refine Runs.regO (.inl rfl) nzc (fun R hR => ?_); simp (disch := omega) [if_t, hn]; refine hR _ _ _ (by simp) ?_; clear hR R; refine Runs.cseq ?_; refine Runs.regO (.inl rfl) nzc (fun R hR => ?_); simp (disch := omega) [if_t, hn]; refine hR _ _ _ (by simp) ?_; clear hR R; refine Runs.cseq ?_; refine Runs.regO (.inl rfl) nzc (fun R hR => ?_); simp (disch := omega) [if_t, hn]; refine hR _ _ _ (by simp) ?_; clear hR R; refine Runs.ret ?_; dsimp only [thenQ, blockQ]; refine ⟨by simp, by simp (disch := omega) <;> omega, ?_⟩
 simp (disch := omega) [resD, resL, resV]; have hk := keptD_vw (v := v) (n := n) (a := n + 1 + 1 + 1) (b := n + 1 + 1 + 1 + 1) (c := n + 1 + 1 + 1 + 1 + 1) hn (by omega) (by omega) (by omega) (by omega) (by omega) (by omega)
 simpa using hk

/-- laws.FnExactValidView -/
@[simp] theorem c_laws_FnExactValidView (v : Vw) (n : Nat) (hn : n ≠ 0) (p0 : v.since.length ≤ 140737488355328) (p1 : v.upper.length ≤ 140737488355328) (p2 : v.tr.length ≤ 140737488355328) (p3 : ∀ e ∈ v.tr, e.row.length ≤ 140737488355328) : cfg.call 6 [.agg [cl v.since, cl v.upper, cl v.tr]] n = some (bi true, n, []) := by
 refine call_runs0 rfl Try.func6 rfl (by kernel_rfl) rfl (by simp (disch := omega) [low_agg, low_pt, low_fn]) ?_; have hcnt := cnt_upds v.tr
 refine Runs.cseq ?_; refine Runs.regO (.inl rfl) nzc (fun R hR => ?_); simp (disch := omega) [if_t, hn, own_vw]; refine hR _ _ _ (by simp) ?_; clear hR R; refine Runs.cseq ?_; refine Runs.regO (.inl rfl) nzc (fun R hR => ?_); simp (disch := omega) [if_t, hn, own_vw]; refine hR _ _ _ (by simp) ?_; clear hR R; refine Runs.cseq ?_; refine Runs.regO (.inl rfl) nzc (fun R hR => ?_); simp (disch := omega) [if_t, hn, own_vw]; refine hR _ _ _ (by simp) ?_; clear hR R; refine Runs.cseq ?_; refine Runs.cseq ?_; refine Runs.regO (.inl rfl) nzc (fun R hR => ?_); simp (disch := omega) [if_t, hn, own_vw]; refine hR _ _ _ (by simp) ?_; clear hR R; refine Runs.condI fun d hd => ?_; simp (disch := omega) [if_t, hn, own_vw] at hd; subst hd; refine cond_b (fun hc => ?_) (fun hc => ?_)
 ·first | (simp at hc; done) |
   (
   (try simp at hc); (try have hcx0 := inR_t.1 hc); (try have hcx1 := isV_t.1 hc); refine Runs.cseq ?_; refine Runs.regO (.inl rfl) nzc (fun R hR => ?_); simp (disch := omega) [if_t, hn, own_vw]; refine hR _ _ _ (by simp) ?_; clear hR R; refine Runs.ret ?_; dsimp only [thenQ, blockQ]; refine ⟨by simp, by simp (disch := omega) <;> omega, ?_⟩
   simp (disch := omega) [if_t, hn, own_vw, resD, resL, resV] <;> (first | omega | (simp_all; done) | (simp_all <;> omega)))
 ·first | (simp at hc; done) |
   (
   (try simp at hc); (try have hcx0 := inR_t.1 hc); (try have hcx1 := isV_t.1 hc); have hz := szV_siz (v := v) (l := 1048576) (by omega)
   have hz2 : siz v ≤ 1048576 := by omega
   have hz3 := hz2
   simp at hz3; refine Runs.skip ?_; refine Runs.cseq ?_; refine Runs.regO (.inl rfl) nzc (fun R hR => ?_); simp (disch := omega) [if_t, hn, own_vw]; refine hR _ _ _ (by simp) ?_; clear hR R; refine Runs.cseq ?_; refine Runs.regO (.inl rfl) nzc (fun R hR => ?_); simp (disch := omega) [if_t, hn, own_vw]; refine hR _ _ _ (by simp) ?_; clear hR R; refine Runs.cseq ?_; refine Runs.regO (.inl rfl) nzc (fun R hR => ?_); simp (disch := omega) [if_t, hn, own_vw]; refine hR _ _ _ (by simp) ?_; clear hR R; refine Runs.cseq ?_; refine Runs.cseq ?_; refine Runs.regO (.inl rfl) nzc (fun R hR => ?_); simp (disch := omega) [if_t, hn, own_vw]; refine hR _ _ _ (by simp) ?_; clear hR R; refine Runs.condI fun d hd => ?_; simp (disch := omega) [if_t, hn, own_vw] at hd; subst hd; refine cond_b (fun hc => ?_) (fun hc => ?_)
   ·first | (simp at hc; done) |
     (
     (try simp at hc); (try have hcx0 := inR_t.1 hc); (try have hcx1 := isV_t.1 hc); refine Runs.cseq ?_; refine Runs.regO (.inl rfl) nzc (fun R hR => ?_); simp (disch := omega) [if_t, hn, own_vw]; refine hR _ _ _ (by simp) ?_; clear hR R; refine Runs.ret ?_; dsimp only [thenQ, blockQ]; refine ⟨by simp, by simp (disch := omega) <;> omega, ?_⟩
     simp (disch := omega) [if_t, hn, own_vw, resD, resL, resV] <;> (first | omega | (simp_all; done) | (simp_all <;> omega)))
   ·first | (simp at hc; done) |
     (
     (try simp at hc); (try have hcx0 := inR_t.1 hc); (try have hcx1 := isV_t.1 hc); refine Runs.skip ?_; refine Runs.cseq ?_; refine Runs.cseq ?_; refine Runs.regE (fun R hR => ?_); simp (disch := omega) [if_t, hn, own_vw]; refine hR _ _ _ (by simp) ?_; clear hR R; refine Runs.condI fun d hd => ?_; simp (disch := omega) [if_t, hn, own_vw] at hd; subst hd; refine cond_b (fun hc => ?_) (fun hc => ?_)
     ·first | (simp at hc; done) |
       (
       (try simp at hc); (try have hcx0 := inR_t.1 hc); (try have hcx1 := isV_t.1 hc); refine Runs.cseq ?_; refine Runs.regO (.inl rfl) nzc (fun R hR => ?_); simp (disch := omega) [if_t, hn, own_vw]; refine hR _ _ _ (by simp) ?_; clear hR R; refine Runs.ret ?_; dsimp only [thenQ, blockQ]; refine ⟨by simp, by simp (disch := omega) <;> omega, ?_⟩
       simp (disch := omega) [if_t, hn, own_vw, resD, resL, resV] <;> (first | omega | (simp_all; done) | (simp_all <;> omega)))
     ·first | (simp at hc; done) |
       (
       (try simp at hc); (try have hcx0 := inR_t.1 hc); (try have hcx1 := isV_t.1 hc); refine Runs.skip ?_; refine Runs.cseq ?_; refine Runs.regO (.inl rfl) nzc (fun R hR => ?_); simp (disch := omega) [if_t, hn, own_vw]; refine hR _ _ _ (by simp) ?_; clear hR R; refine Runs.ret ?_; dsimp only [thenQ, blockQ]; refine ⟨by simp, by simp (disch := omega) <;> omega, ?_⟩
       simp (disch := omega) [if_t, hn, own_vw, resD, resL, resV] <;> (first | omega | (simp_all; done) | (simp_all <;> omega)))))

end Go.Proofs.Ytlokmogjbpcmgaa.Cv
