/- What the functions of the program compute (part 2). No condition. -/
import Derived.Test.YtlokmogjbpcmgaaRows
import Derived.Test.YtlokmogjbpcmgaaE1
set_option linter.unusedVariables false
set_option linter.unusedSimpArgs false
namespace Go.Proofs.Ytlokmogjbpcmgaa.Cv
open Go Go.Cv Go.Proofs Go.Cv.Enc Go.Cv.Own
set_option maxHeartbeats 1000000 in
/-- laws.szTimeS -/
@[simp] theorem c_laws_szTimeS (xs : List Tim) (left : Int) (n : Nat) (hn : n ≠ 0) (p0 : xs.length ≤ 140737488355328) (p1 : left ≤ 1048576) (p2 : -1 ≤ left) : cfg.call 56 [cl xs, ci left] n = some (ci (szI xs.length left), n, []) := by
 refine call_runs0 rfl Try.func56 rfl (by kernel_rfl) rfl (by simp (disch := omega) [low_agg, low_pt, low_fn]) ?_; refine Runs.cseq ?_; refine Runs.regO (.inl rfl) nzc (fun R hR => ?_); simp (disch := omega) [if_t, hn]; refine hR _ _ _ (by simp) ?_; clear hR R; refine Runs.cseq ?_; refine Runs.regO (.inl rfl) nzc (fun R hR => ?_); simp (disch := omega) [if_t, hn]; refine hR _ _ _ (by simp) ?_; clear hR R; refine Runs.cseq ?_; refine Runs.cseq ?_; refine Runs.regO (.inl rfl) nzc (fun R hR => ?_); simp (disch := omega) [if_t, hn]; refine hR _ _ _ (by simp) ?_; clear hR R; refine Runs.condI fun d hd => ?_; simp (disch := omega) [if_t, hn] at hd; subst hd; refine cond_b (fun hc => ?_) (fun hc => ?_)
 ·first | (simp at hc; done) |
   (
   (try simp at hc); (try have hcx0 := inR_t.1 hc); (try have hcx1 := isV_t.1 hc); refine Runs.cseq ?_; refine Runs.regO (.inl rfl) nzc (fun R hR => ?_); simp (disch := omega) [if_t, hn]; refine hR _ _ _ (by simp) ?_; clear hR R; refine Runs.ret ?_; dsimp only [thenQ, blockQ]; refine ⟨by simp, by simp (disch := omega) <;> omega, ?_⟩
   simp (disch := omega) [if_t, hn, resD, resL, resV] <;> (first | omega | (simp_all [szI]; done) | (simp_all [szI] <;> omega)))
 ·first | (simp at hc; done) |
   (
   (try simp at hc); (try have hcx0 := inR_t.1 hc); (try have hcx1 := isV_t.1 hc); refine Runs.skip ?_; refine Runs.cseq ?_; refine Runs.regO (.inl rfl) nzc (fun R hR => ?_); simp (disch := omega) [if_t, hn]; refine hR _ _ _ (by simp) ?_; clear hR R; refine Runs.ret ?_; dsimp only [thenQ, blockQ]; refine ⟨by simp, by simp (disch := omega) <;> omega, ?_⟩
   simp (disch := omega) [if_t, hn, resD, resL, resV] <;> (first | omega | (simp_all [szI]; done) | (simp_all [szI] <;> omega)))

def szRowsU : List Upd → Int → Int
  | [], l => l
  | e :: es, l => if szI e.row.length l < 0 then -1 else szRowsU es (szI e.row.length l)
def szEsU (es : List Upd) (left : Int) : Int := if left - (es.length : Int) < 0 then -1 else szRowsU es (left - (es.length : Int))
theorem szRowsU_siz : ∀ (es : List Upd) (l : Int), 0 ≤ szRowsU es l → 0 ≤ l → (sizL es : Int) ≤ l + es.length - szRowsU es l
  | [], l, h, h0 => by simp [szRowsU, sizL]
  | e :: es, l, h, h0 => by
    rw [szRowsU] at h ⊢
    by_cases hc : szI e.row.length l < 0
    · rw [if_pos hc] at h; omega
    · rw [if_neg hc] at h ⊢
      have ih := szRowsU_siz es _ h (by omega)
      have e1 : szI e.row.length l = l - e.row.length := by unfold szI at hc ⊢; split at hc <;> simp_all <;> omega
      have e2 := sizL_int e.row
      simp only [sizL_cons, siz_upd, e2, List.length_cons]
      rw [e1] at ih ⊢
      omega
theorem szEsU_siz {es : List Upd} {l : Int} (h : 0 ≤ szEsU es l) : (sizL es : Int) ≤ l - szEsU es l := by
  unfold szEsU at h ⊢
  by_cases hc : l - (es.length : Int) < 0
  · rw [if_pos hc] at h; omega
  · rw [if_neg hc] at h ⊢
    have := szRowsU_siz es _ h (by omega)
    omega
theorem szRowsU_le : ∀ (es : List Upd) (l : Int), l ≤ 1048576 → -1 ≤ l → szRowsU es l ≤ 1048576 ∧ -1 ≤ szRowsU es l
  | [], l, h, h0 => by simp [szRowsU]; omega
  | e :: es, l, h, h0 => by
    rw [szRowsU]
    split
    · omega
    · exact szRowsU_le es _ (szI_le h) (szI_ge _ _)
theorem szEsU_le (es : List Upd) {l : Int} (h : l ≤ 1048576) (h0 : -1 ≤ l) : szEsU es l ≤ 1048576 ∧ -1 ≤ szEsU es l := by
  unfold szEsU
  split
  · omega
  · exact szRowsU_le es _ (by omega) (by omega)

set_option maxHeartbeats 1000000 in
/-- laws.szUpdate -/
@[simp] theorem c_laws_szUpdate (e : Upd) (left : Int) (n : Nat) (hn : n ≠ 0) (p0 : e.row.length ≤ 140737488355328) (p1 : left ≤ 1048576) (p2 : -1 ≤ left) : cfg.call 73 [.agg [cl e.row, ci e.t.e, ci e.t.r, ci e.w], ci left] n = some (ci (szI e.row.length left), n, []) := by
 refine call_runs0 rfl Try.func73 rfl (by kernel_rfl) rfl (by simp (disch := omega) [low_agg, low_pt, low_fn]) ?_; refine Runs.cseq ?_; refine Runs.regO (.inl rfl) nzc (fun R hR => ?_); simp (disch := omega) [if_t, hn]; refine hR _ _ _ (by simp) ?_; clear hR R; refine Runs.cseq ?_; refine Runs.regO (.inl rfl) nzc (fun R hR => ?_); simp (disch := omega) [if_t, hn]; refine hR _ _ _ (by simp) ?_; clear hR R; refine Runs.cseq ?_; refine Runs.cseq ?_; refine Runs.regO (.inl rfl) nzc (fun R hR => ?_); simp (disch := omega) [if_t, hn]; refine hR _ _ _ (by simp) ?_; clear hR R; refine Runs.condI fun d hd => ?_; simp (disch := omega) [if_t, hn] at hd; subst hd; refine cond_b (fun hc => ?_) (fun hc => ?_)
 ·first | (simp at hc; done) |
   (
   (try simp at hc); (try have hcx0 := inR_t.1 hc); (try have hcx1 := isV_t.1 hc); have hv := szI_neg hc
   refine Runs.cseq ?_; refine Runs.regO (.inl rfl) nzc (fun R hR => ?_); simp (disch := omega) [if_t, hn]; refine hR _ _ _ (by simp) ?_; clear hR R; refine Runs.ret ?_; dsimp only [thenQ, blockQ]; refine ⟨by simp, by simp (disch := omega) <;> omega, ?_⟩
   simp (disch := omega) [if_t, hn, resD, resL, resV] <;> (first | omega | (simp_all; done) | (simp_all <;> omega)))
 ·first | (simp at hc; done) |
   (
   (try simp at hc); (try have hcx0 := inR_t.1 hc); (try have hcx1 := isV_t.1 hc); refine Runs.skip ?_; refine Runs.cseq ?_; refine Runs.regO (.inl rfl) nzc (fun R hR => ?_); simp (disch := omega) [if_t, hn]; refine hR _ _ _ (by simp) ?_; clear hR R; refine Runs.ret ?_; dsimp only [thenQ, blockQ]; refine ⟨by simp, by simp (disch := omega) <;> omega, ?_⟩
   simp (disch := omega) [if_t, hn, resD, resL, resV] <;> (first | omega | (simp_all; done) | (simp_all <;> omega)))

set_option maxHeartbeats 1000000 in
/-- laws.szUpdateS -/
@[simp] theorem c_laws_szUpdateS (es : List Upd) (left : Int) (n : Nat) (hn : n ≠ 0) (p0 : es.length ≤ 140737488355328) (p1 : ∀ e ∈ es, e.row.length ≤ 140737488355328) (p2 : left ≤ 1048576) (p3 : 0 ≤ left) : cfg.call 57 [cl es, ci left] n = some (ci (szEsU es left), n, []) := by
 refine call_runs0 rfl Try.func57 rfl (by kernel_rfl) rfl (by simp (disch := omega) [low_agg, low_pt, low_fn]) ?_; refine Runs.cseq ?_; refine Runs.regO (.inl rfl) nzc (fun R hR => ?_); simp (disch := omega) [if_t, hn]; refine hR _ _ _ (by simp) ?_; clear hR R; refine Runs.cseq ?_; refine Runs.regO (.inl rfl) nzc (fun R hR => ?_); simp (disch := omega) [if_t, hn]; refine hR _ _ _ (by simp) ?_; clear hR R; refine Runs.cseq ?_; refine Runs.cseq ?_; refine Runs.regO (.inl rfl) nzc (fun R hR => ?_); simp (disch := omega) [if_t, hn]; refine hR _ _ _ (by simp) ?_; clear hR R; refine Runs.condI fun d hd => ?_; simp (disch := omega) [if_t, hn] at hd; subst hd; refine cond_b (fun hc => ?_) (fun hc => ?_)
 ·first | (simp at hc; done) |
   (
   (try simp at hc); (try have hcx0 := inR_t.1 hc); (try have hcx1 := isV_t.1 hc); have hv : szEsU es left = -1 := by rw [szEsU, if_pos (by omega)]
   refine Runs.cseq ?_; refine Runs.regO (.inl rfl) nzc (fun R hR => ?_); simp (disch := omega) [if_t, hn]; refine hR _ _ _ (by simp) ?_; clear hR R; refine Runs.ret ?_; dsimp only [thenQ, blockQ]; refine ⟨by simp, by simp (disch := omega) <;> omega, ?_⟩
   simp (disch := omega) [if_t, hn, resD, resL, resV] <;> (first | omega | (simp_all [szRowsU]; done) | (simp_all [szRowsU] <;> omega)))
 ·first | (simp at hc; done) |
   (
   (try simp at hc); (try have hcx0 := inR_t.1 hc); (try have hcx1 := isV_t.1 hc); have hc0 : ¬ left - (es.length : Int) < 0 := by omega
   refine Runs.skip ?_; refine Runs.cseq ?_; refine Runs.cseq ?_; refine Runs.regO (.inl rfl) nzc (fun R hR => ?_); simp (disch := omega) [if_t, hn]; refine hR _ _ _ (by simp) ?_; clear hR R; refine Runs.cblock ?_; refine Runs.loop (fun k fr n' E => ∃ (i : Nat) (l : Int), n ≤ n' ∧ Go.Cv.Loc n E ∧ fr 0 = cl es ∧ fr 1 = ci l ∧ fr 5 = ci (i : Int) ∧ i + k = es.length ∧ 0 ≤ l ∧ l ≤ 1048576 ∧ szEsU es left = szRowsU (es.drop i) l) ?_ (k := es.length) ?_
   ·rintro k1 fr n1 E1 ⟨i, l, hn1, hE1, s0, s1, s5, hk, ha, hb, hM⟩
    have hz1 : n1 ≠ 0 := by omega
    refine Runs.cseq ?_; refine Runs.cseq ?_; refine Runs.regO (.inl rfl) nzc (fun R hR => ?_); simp (disch := omega) [if_t, hn, s0, s1, s5]; refine hR _ _ _ (by simp) ?_; clear hR R; refine Runs.condI fun d hd => ?_; simp (disch := omega) [if_t, hn, s0, s1, s5] at hd; subst hd; refine cond_b (fun hc => ?_) (fun hc => ?_)
    ·first | (simp at hc; done) |
      (
      (try simp at hc); (try have hcx0 := inR_t.1 hc); (try have hcx1 := isV_t.1 hc); have hr := p1 _ (ix_mem hc)
      have hle := szI_le (m := (ix es i).row.length) hb
      rw [drop_ix hc, szRowsU] at hM; refine Runs.skip ?_; refine Runs.cseq ?_; refine Runs.cblock ?_; refine Runs.cseq ?_; refine Runs.regO (.inl rfl) nzc (fun R hR => ?_); simp (disch := omega) [if_t, hn, s0, s1, s5]; refine hR _ _ _ (by simp) ?_; clear hR R; refine Runs.cseq ?_; refine Runs.regO (.inl rfl) nzc (fun R hR => ?_); simp (disch := omega) [if_t, hn, s0, s1, s5]; refine hR _ _ _ (by simp) ?_; clear hR R; refine Runs.condI fun d hd => ?_; simp (disch := omega) [if_t, hn, s0, s1, s5] at hd; subst hd; refine cond_b (fun hc => ?_) (fun hc => ?_)
      ·first | (simp at hc; done) |
        (
        (try simp at hc); (try have hcx0 := inR_t.1 hc); (try have hcx1 := isV_t.1 hc); rw [if_pos hc] at hM; refine Runs.cseq ?_; refine Runs.regO (.inl rfl) nzc (fun R hR => ?_); simp (disch := omega) [if_t, hn, s0, s1, s5]; refine hR _ _ _ (by simp) ?_; clear hR R; refine Runs.ret ?_; dsimp only [thenQ, blockQ]; refine ⟨by simp, by simp (disch := omega) [hE1] <;> omega, ?_⟩
        simp (disch := omega) [if_t, hn, s0, s1, s5, resD, resL, resV] <;> (first | omega | (simp_all [szRowsU]; done) | (simp_all [szRowsU] <;> omega)))
      ·first | (simp at hc; done) |
        (
        (try simp at hc); (try have hcx0 := inR_t.1 hc); (try have hcx1 := isV_t.1 hc); rw [if_neg (by omega)] at hM; refine Runs.skip ?_; refine Runs.regO (.inl rfl) nzc (fun R hR => ?_); simp (disch := omega) [if_t, hn, s0, s1, s5]; refine hR _ _ _ (by simp) ?_; clear hR R; dsimp only [thenQ, blockQ]; refine ⟨k1 - 1, by omega, i + 1, szI (ix es i).row.length l, ?_, ?_, ?_, ?_, ?_, ?_, ?_, ?_, ?_⟩
        ·omega
        ·simp (disch := omega) [hE1] <;> omega
        ·simp (disch := omega) [if_t, hn, s0, s1, s5]
        ·simp (disch := omega) [if_t, hn, s0, s1, s5]
        ·simp (disch := omega) [if_t, hn, s0, s1, s5]
        ·first | omega | assumption
        ·first | omega | assumption
        ·first | omega | assumption
        ·rw [hM]; try simp_all))
    ·first | (simp at hc; done) |
      (
      (try simp at hc); (try have hcx0 := inR_t.1 hc); (try have hcx1 := isV_t.1 hc); rw [List.drop_of_length_le (by omega)] at hM; refine Runs.exit ?_; refine Runs.cseq ?_; refine Runs.regO (.inl rfl) nzc (fun R hR => ?_); simp (disch := omega) [if_t, hn, s0, s1, s5]; refine hR _ _ _ (by simp) ?_; clear hR R; refine Runs.ret ?_; dsimp only [thenQ, blockQ]; refine ⟨by simp, by simp (disch := omega) [hE1] <;> omega, ?_⟩
      simp (disch := omega) [if_t, hn, s0, s1, s5, resD, resL, resV] <;> (first | omega | (simp_all [szRowsU]; done) | (simp_all [szRowsU] <;> omega)))
   ·skip
    refine ⟨0, left - (es.length : Int), ?_, ?_, ?_, ?_, ?_, ?_, ?_, ?_, ?_⟩
    ·omega
    ·simp
    ·simp (disch := omega) [if_t, hn]
    ·simp (disch := omega) [if_t, hn]
    ·simp (disch := omega) [if_t, hn]
    ·first | omega | simp | rfl
    ·first | omega | simp | rfl
    ·first | omega | simp | rfl
    ·rw [szEsU, if_neg hc0]; rfl)

def szV (v : Vw) (left : Int) : Int :=
  if szI v.since.length left < 0 then -1 else if szI v.upper.length (szI v.since.length left) < 0 then -1 else
  if szEsU v.tr (szI v.upper.length (szI v.since.length left)) < 0 then -1 else szEsU v.tr (szI v.upper.length (szI v.since.length left))
theorem sizL_tim (xs : List Tim) : sizL xs = xs.length := by
  induction xs with
  | nil => rfl
  | cons x xs ih => simp [ih]; omega
theorem szI_sub {m : Nat} {l : Int} (h : 0 ≤ szI m l) : szI m l = l - m := by unfold szI at *; split at h <;> simp_all <;> omega
theorem szV_siz {v : Vw} {l : Int} (h : 0 ≤ szV v l) : (siz v : Int) ≤ l - szV v l := by
  unfold szV at h ⊢
  split at h
  · omega
  · split at h
    · omega
    · split at h
      · omega
      · rename_i h1 h2 h3
        rw [if_neg h1, if_neg h2, if_neg h3]
        have e1 := szI_sub (by omega : 0 ≤ szI v.since.length l)
        have e2 := szI_sub (by omega : 0 ≤ szI v.upper.length (szI v.since.length l))
        have := szEsU_siz h
        simp only [siz_vw, sizL_tim]
        omega
theorem szV_le (v : Vw) {l : Int} (h : l ≤ 1048576) (h0 : -1 ≤ l) : szV v l ≤ 1048576 ∧ -1 ≤ szV v l := by
  unfold szV
  split
  · omega
  · split
    · omega
    · split
      · omega
      · exact szEsU_le _ (szI_le (szI_le h)) (szI_ge _ _)

set_option maxHeartbeats 1000000 in
/-- laws.szView -/
@[simp] theorem c_laws_szView (v : Vw) (left : Int) (n : Nat) (hn : n ≠ 0) (p0 : v.since.length ≤ 140737488355328) (p1 : v.upper.length ≤ 140737488355328) (p2 : v.tr.length ≤ 140737488355328) (p3 : ∀ e ∈ v.tr, e.row.length ≤ 140737488355328) (p4 : left ≤ 1048576) (p5 : -1 ≤ left) : cfg.call 23 [.agg [cl v.since, cl v.upper, cl v.tr], ci left] n = some (ci (szV v left), n, []) := by
 refine call_runs0 rfl Try.func23 rfl (by kernel_rfl) rfl (by simp (disch := omega) [low_agg, low_pt, low_fn]) ?_; have q1 := szI_le (m := v.since.length) p4
 have q2 := szI_ge v.since.length left
 have q3 := szI_le (m := v.upper.length) q1
 refine Runs.cseq ?_; refine Runs.regO (.inl rfl) nzc (fun R hR => ?_); simp (disch := omega) [if_t, hn]; refine hR _ _ _ (by simp) ?_; clear hR R; refine Runs.cseq ?_; refine Runs.regO (.inl rfl) nzc (fun R hR => ?_); simp (disch := omega) [if_t, hn]; refine hR _ _ _ (by simp) ?_; clear hR R; refine Runs.cseq ?_; refine Runs.cseq ?_; refine Runs.regO (.inl rfl) nzc (fun R hR => ?_); simp (disch := omega) [if_t, hn]; refine hR _ _ _ (by simp) ?_; clear hR R; refine Runs.condI fun d hd => ?_; simp (disch := omega) [if_t, hn] at hd; subst hd; refine cond_b (fun hc => ?_) (fun hc => ?_)
 ·first | (simp at hc; done) |
   (
   (try simp at hc); (try have hcx0 := inR_t.1 hc); (try have hcx1 := isV_t.1 hc); refine Runs.cseq ?_; refine Runs.regO (.inl rfl) nzc (fun R hR => ?_); simp (disch := omega) [if_t, hn]; refine hR _ _ _ (by simp) ?_; clear hR R; refine Runs.ret ?_; dsimp only [thenQ, blockQ]; refine ⟨by simp, by simp (disch := omega) <;> omega, ?_⟩
   simp (disch := omega) [if_t, hn, resD, resL, resV] <;> (first | omega | (simp_all [szV]; done) | (simp_all [szV] <;> omega)))
 ·first | (simp at hc; done) |
   (
   (try simp at hc); (try have hcx0 := inR_t.1 hc); (try have hcx1 := isV_t.1 hc); refine Runs.skip ?_; refine Runs.cseq ?_; refine Runs.regO (.inl rfl) nzc (fun R hR => ?_); simp (disch := omega) [if_t, hn]; refine hR _ _ _ (by simp) ?_; clear hR R; refine Runs.cseq ?_; refine Runs.cseq ?_; refine Runs.regO (.inl rfl) nzc (fun R hR => ?_); simp (disch := omega) [if_t, hn]; refine hR _ _ _ (by simp) ?_; clear hR R; refine Runs.condI fun d hd => ?_; simp (disch := omega) [if_t, hn] at hd; subst hd; refine cond_b (fun hc => ?_) (fun hc => ?_)
   ·first | (simp at hc; done) |
     (
     (try simp at hc); (try have hcx0 := inR_t.1 hc); (try have hcx1 := isV_t.1 hc); refine Runs.cseq ?_; refine Runs.regO (.inl rfl) nzc (fun R hR => ?_); simp (disch := omega) [if_t, hn]; refine hR _ _ _ (by simp) ?_; clear hR R; refine Runs.ret ?_; dsimp only [thenQ, blockQ]; refine ⟨by simp, by simp (disch := omega) <;> omega, ?_⟩
     simp (disch := omega) [if_t, hn, resD, resL, resV] <;> (first | omega | (simp_all [szV]; done) | (simp_all [szV] <;> omega)))
   ·first | (simp at hc; done) |
     (
     (try simp at hc); (try have hcx0 := inR_t.1 hc); (try have hcx1 := isV_t.1 hc); refine Runs.skip ?_; refine Runs.cseq ?_; refine Runs.regO (.inl rfl) nzc (fun R hR => ?_); simp (disch := omega) [if_t, hn, c_laws_szUpdateS v.tr _ _ (by omega) p2 p3 q3]; refine hR _ _ _ (by simp) ?_; clear hR R; refine Runs.cseq ?_; refine Runs.cseq ?_; refine Runs.regO (.inl rfl) nzc (fun R hR => ?_); simp (disch := omega) [if_t, hn]; refine hR _ _ _ (by simp) ?_; clear hR R; refine Runs.condI fun d hd => ?_; simp (disch := omega) [if_t, hn] at hd; subst hd; refine cond_b (fun hc => ?_) (fun hc => ?_)
     ·first | (simp at hc; done) |
       (
       (try simp at hc); (try have hcx0 := inR_t.1 hc); (try have hcx1 := isV_t.1 hc); refine Runs.cseq ?_; refine Runs.regO (.inl rfl) nzc (fun R hR => ?_); simp (disch := omega) [if_t, hn]; refine hR _ _ _ (by simp) ?_; clear hR R; refine Runs.ret ?_; dsimp only [thenQ, blockQ]; refine ⟨by simp, by simp (disch := omega) <;> omega, ?_⟩
       simp (disch := omega) [if_t, hn, resD, resL, resV] <;> (first | omega | (simp_all [szV]; done) | (simp_all [szV] <;> omega)))
     ·first | (simp at hc; done) |
       (
       (try simp at hc); (try have hcx0 := inR_t.1 hc); (try have hcx1 := isV_t.1 hc); refine Runs.skip ?_; refine Runs.cseq ?_; refine Runs.regO (.inl rfl) nzc (fun R hR => ?_); simp (disch := omega) [if_t, hn]; refine hR _ _ _ (by simp) ?_; clear hR R; refine Runs.ret ?_; dsimp only [thenQ, blockQ]; refine ⟨by simp, by simp (disch := omega) <;> omega, ?_⟩
       simp (disch := omega) [if_t, hn, resD, resL, resV] <;> (first | omega | (simp_all [szV]; done) | (simp_all [szV] <;> omega)))))

set_option maxHeartbeats 1000000 in
/-- laws.toTime -/
@[simp] theorem c_laws_toTime (t : Tim) (n : Nat) (hn : n ≠ 0)  : cfg.call 78 [.agg [ci t.e, ci t.r]] n = some (.agg [ci t.e, ci t.r], n, []) := by
 refine call_runs0 rfl Try.func78 rfl (by kernel_rfl) rfl (by simp (disch := omega) [low_agg, low_pt, low_fn]) ?_; refine Runs.cseq ?_; refine Runs.regO (.inl rfl) nzc (fun R hR => ?_); simp (disch := omega) [if_t, hn]; refine hR _ _ _ (by simp) ?_; clear hR R; refine Runs.cseq ?_; refine Runs.regO (.inl rfl) nzc (fun R hR => ?_); simp (disch := omega) [if_t, hn]; refine hR _ _ _ (by simp) ?_; clear hR R; refine Runs.cseq ?_; refine Runs.regO (.inl rfl) nzc (fun R hR => ?_); simp (disch := omega) [if_t, hn]; refine hR _ _ _ (by simp) ?_; clear hR R; refine Runs.cseq ?_; refine Runs.regO (.inl rfl) nzc (fun R hR => ?_); simp (disch := omega) [if_t, hn]; refine hR _ _ _ (by simp) ?_; clear hR R; refine Runs.cseq ?_; refine Runs.regO (.inl rfl) nzc (fun R hR => ?_); simp (disch := omega) [if_t, hn]; refine hR _ _ _ (by simp) ?_; clear hR R; refine Runs.ret ?_; dsimp only [thenQ, blockQ]; refine ⟨by simp, by simp (disch := omega) <;> omega, ?_⟩
 simp (disch := omega) [if_t, hn, resD, resL, resV] <;> (first | omega | (simp_all; done) | (simp_all <;> omega))

set_option maxHeartbeats 1000000 in
/-- laws.toTimeS -/
@[simp] theorem c_laws_toTimeS (es : List Tim) (n : Nat) (hn : n ≠ 0) (p0 : sizL es ≤ 1048576) : cfg.call 59 [cl es] n = some (own n es, n + cnt es, []) := by
 refine call_runs1 rfl Try.func59 rfl (by kernel_rfl) rfl (by simp (disch := omega) [low_agg, low_pt, low_fn]) ?_; have hl_es := len_siz es
 refine Runs.cseq ?_; refine Runs.regO (.inl rfl) nzc (fun R hR => ?_); simp (disch := omega) [if_t, hn]; refine hR _ _ _ (by simp) ?_; clear hR R; refine Runs.cseq ?_; refine Runs.regO (.inl rfl) nzc (fun R hR => ?_); simp (disch := omega) [if_t, hn]; refine hR _ _ _ (by simp) ?_; clear hR R; refine Runs.cseq ?_; refine Runs.cseq ?_; refine Runs.regO (.inl rfl) nzc (fun R hR => ?_); simp (disch := omega) [if_t, hn]; refine hR _ _ _ (by simp) ?_; clear hR R; refine Runs.cblock ?_; refine Runs.loop (fun k fr n' E => ∃ (i : Nat) (acc : List Tim), n + 1 ≤ n' ∧ Go.Cv.Loc n E ∧ fr 0 = cl es ∧ fr 3 = .sl n 0 none 2 (lst acc ++ List.replicate k (.agg [ci 0, ci 0])) ∧ fr 4 = ci (i : Int) ∧ i + k = es.length ∧ acc.length = i ∧ acc = es.take i) ?_ (k := es.length) ?_
 ·rintro k1 fr n1 E1 ⟨i, acc, hn1, hE1, s0, s3, s4, hk, hl, hM⟩
  have hz1 : n1 ≠ 0 := by omega
  refine Runs.cseq ?_; refine Runs.cseq ?_; refine Runs.regO (.inl rfl) nzc (fun R hR => ?_); simp (disch := omega) [if_t, hn, s0, s3, s4]; refine hR _ _ _ (by simp) ?_; clear hR R; refine Runs.condI fun d hd => ?_; simp (disch := omega) [if_t, hn, s0, s3, s4] at hd; subst hd; refine cond_b (fun hc => ?_) (fun hc => ?_)
  ·first | (simp at hc; done) |
    (
    (try simp at hc); (try have hcx0 := inR_t.1 hc); (try have hcx1 := isV_t.1 hc); obtain ⟨k1, rfl⟩ : ∃ j, k1 = j + 1 := ⟨k1 - 1, by omega⟩
    have hsz := siz_ix hc
    simp at hsz; refine Runs.skip ?_; refine Runs.cseq ?_; refine Runs.cblock ?_; refine Runs.regO (.inl rfl) nzc (fun R hR => ?_); simp (disch := omega) [if_t, hn, s0, s3, s4]; refine hR _ _ _ (by simp) ?_; clear hR R; refine Runs.regO (.inl rfl) nzc (fun R hR => ?_); simp (disch := omega) [if_t, hn, s0, s3, s4]; refine hR _ _ _ (by simp) ?_; clear hR R; dsimp only [thenQ, blockQ]; refine ⟨k1, by omega, i + 1, acc ++ [ix es i], ?_, ?_, ?_, ?_, ?_, ?_, ?_, ?_⟩
    ·omega
    ·simp (disch := omega) [hE1] <;> omega
    ·simp (disch := omega) [if_t, hn, s0, s3, s4]
    ·simp (disch := omega) [if_t, hn, s0, s3, s4, List.replicate_succ, setFlat_cons, hl]
     rw [lst_append, List.append_assoc]; simp
    ·simp (disch := omega) [if_t, hn, s0, s3, s4]
    ·first | omega | assumption
    ·simp [hl]
    ·rw [hM, take_ix hc])
  ·first | (simp at hc; done) |
    (
    (try simp at hc); (try have hcx0 := inR_t.1 hc); (try have hcx1 := isV_t.1 hc); obtain rfl : k1 = 0 := by omega
    obtain rfl : i = es.length := by omega
    simp [hM] at s3; refine Runs.exit ?_; refine Runs.cseq ?_; refine Runs.regO (.inl rfl) nzc (fun R hR => ?_); simp (disch := omega) [if_t, hn, s0, s3, s4]; refine hR _ _ _ (by simp) ?_; clear hR R; refine Runs.ret ?_; dsimp only [thenQ, blockQ]; refine ⟨by simp, by simp (disch := omega) [hE1] <;> omega, ?_⟩
    simp (disch := omega) [if_t, hn, s0, s3, s4, resD, resL, resV] <;> (first | omega | (simp_all; done) | (simp_all <;> omega)))
 ·skip
  refine ⟨0, [], ?_, ?_, ?_, ?_, ?_, ?_, ?_, ?_⟩
  ·omega
  ·simp
  ·simp (disch := omega) [if_t, hn]
  ·simp (disch := omega) [if_t, hn]
  ·simp (disch := omega) [if_t, hn]
  ·first | omega | simp | rfl
  ·first | omega | simp | rfl
  ·simp

set_option maxHeartbeats 1000000 in
/-- laws.toUpdate -/
@[simp] theorem c_laws_toUpdate (e : Upd) (n : Nat) (hn : n ≠ 0) (p0 : sizL e.row ≤ 1048576) : cfg.call 79 [.agg [cl e.row, ci e.t.e, ci e.t.r, ci e.w]] n = some (own n e, n + 1, []) := by
 refine call_runs1 rfl Try.func79 rfl (by kernel_rfl) rfl (by simp (disch := omega) [low_agg, low_pt, low_fn]) ?_; refine Runs.cseq ?_; refine Runs.regO (.inl rfl) nzc (fun R hR => ?_); simp (disch := omega) [if_t, hn]; refine hR _ _ _ (by simp) ?_; clear hR R; refine Runs.cseq ?_; refine Runs.regO (.inl rfl) nzc (fun R hR => ?_); simp (disch := omega) [if_t, hn]; refine hR _ _ _ (by simp) ?_; clear hR R; refine Runs.cseq ?_; refine Runs.regO (.inl rfl) nzc (fun R hR => ?_); simp (disch := omega) [if_t, hn]; refine hR _ _ _ (by simp) ?_; clear hR R; refine Runs.cseq ?_; refine Runs.regO (.inl rfl) nzc (fun R hR => ?_); simp (disch := omega) [if_t, hn]; refine hR _ _ _ (by simp) ?_; clear hR R; refine Runs.cseq ?_; refine Runs.regO (.inl rfl) nzc (fun R hR => ?_); simp (disch := omega) [if_t, hn]; refine hR _ _ _ (by simp) ?_; clear hR R; refine Runs.cseq ?_; refine Runs.regO (.inl rfl) nzc (fun R hR => ?_); simp (disch := omega) [if_t, hn]; refine hR _ _ _ (by simp) ?_; clear hR R; refine Runs.ret ?_; dsimp only [thenQ, blockQ]; refine ⟨by simp, by simp (disch := omega) <;> omega, ?_⟩
 simp (disch := omega) [if_t, hn, resD, resL, resV, keptD_upd_row] <;> (first | omega | (simp_all; done) | (simp_all <;> omega))

set_option maxHeartbeats 1000000 in
/-- laws.toUpdateS -/
@[simp] theorem c_laws_toUpdateS (es : List Upd) (n : Nat) (hn : n ≠ 0) (p0 : sizL es ≤ 1048576) : cfg.call 60 [cl es] n = some (own n es, n + cnt es, []) := by
 refine call_runs1 rfl Try.func60 rfl (by kernel_rfl) rfl (by simp (disch := omega) [low_agg, low_pt, low_fn]) ?_; have hl_es := len_siz es
 refine Runs.cseq ?_; refine Runs.regO (.inl rfl) nzc (fun R hR => ?_); simp (disch := omega) [if_t, hn]; refine hR _ _ _ (by simp) ?_; clear hR R; refine Runs.cseq ?_; refine Runs.regO (.inl rfl) nzc (fun R hR => ?_); simp (disch := omega) [if_t, hn]; refine hR _ _ _ (by simp) ?_; clear hR R; refine Runs.cseq ?_; refine Runs.cseq ?_; refine Runs.regO (.inl rfl) nzc (fun R hR => ?_); simp (disch := omega) [if_t, hn]; refine hR _ _ _ (by simp) ?_; clear hR R; refine Runs.cblock ?_; refine Runs.loop (fun k fr n' E => ∃ (i : Nat) (ts : List (Nat × Upd)), n + 1 ≤ n' ∧ Go.Cv.Loc n E ∧ fr 0 = cl es ∧ fr 3 = .sl n 0 none 4 (tl ts ++ List.replicate k (.agg [nilD, ci 0, ci 0, ci 0])) ∧ fr 4 = ci (i : Int) ∧ i + k = es.length ∧ ts.length = i ∧ vals ts = es.take i ∧ Sep (n + 1) n' ts) ?_ (k := es.length) ?_
 ·rintro k1 fr n1 E1 ⟨i, ts, hn1, hE1, s0, s3, s4, hk, hl, hM, hS⟩
  have hz1 : n1 ≠ 0 := by omega
  refine Runs.cseq ?_; refine Runs.cseq ?_; refine Runs.regO (.inl rfl) nzc (fun R hR => ?_); simp (disch := omega) [if_t, hn, s0, s3, s4]; refine hR _ _ _ (by simp) ?_; clear hR R; refine Runs.condI fun d hd => ?_; simp (disch := omega) [if_t, hn, s0, s3, s4] at hd; subst hd; refine cond_b (fun hc => ?_) (fun hc => ?_)
  ·first | (simp at hc; done) |
    (
    (try simp at hc); (try have hcx0 := inR_t.1 hc); (try have hcx1 := isV_t.1 hc); obtain ⟨k1, rfl⟩ : ∃ j, k1 = j + 1 := ⟨k1 - 1, by omega⟩
    have hsz := siz_ix hc
    simp at hsz; refine Runs.skip ?_; refine Runs.cseq ?_; refine Runs.cblock ?_; refine Runs.regO (.inl rfl) nzc (fun R hR => ?_); simp (disch := omega) [if_t, hn, s0, s3, s4, index_tl, hl]; refine hR _ _ _ (by simp) ?_; clear hR R; refine Runs.regO (.inl rfl) nzc (fun R hR => ?_); simp (disch := omega) [if_t, hn, s0, s3, s4]; refine hR _ _ _ (by simp) ?_; clear hR R; dsimp only [thenQ, blockQ]; refine ⟨k1, by omega, i + 1, ts ++ [(n1, ix es i)], ?_, ?_, ?_, ?_, ?_, ?_, ?_, ?_, ?_⟩
    ·omega
    ·simp (disch := omega) [hE1] <;> omega
    ·simp (disch := omega) [if_t, hn, s0, s3, s4]
    ·simp (disch := omega) [if_t, hn, s0, s3, s4, List.replicate_succ, setFlat_cons, hl, hS.wrlo, Nat.add_assoc, sfl_tlu]
     simp [tl]
    ·simp (disch := omega) [if_t, hn, s0, s3, s4]
    ·first | omega | assumption
    ·simp [hl]
    ·rw [take_ix hc, ← hM]; simp
    ·exact hS.snoc (by omega) (Nat.le_refl _) (by simp))
  ·first | (simp at hc; done) |
    (
    (try simp at hc); (try have hcx0 := inR_t.1 hc); (try have hcx1 := isV_t.1 hc); obtain rfl : k1 = 0 := by omega
    obtain rfl : i = es.length := by omega
    simp at s3; refine Runs.exit ?_; refine Runs.cseq ?_; refine Runs.regO (.inl rfl) nzc (fun R hR => ?_); simp (disch := omega) [if_t, hn, s0, s3, s4]; refine hR _ _ _ (by simp) ?_; clear hR R; refine Runs.ret ?_; dsimp only [thenQ, blockQ]; refine ⟨by simp, by simp (disch := omega) [hE1] <;> omega, ?_⟩
    have hlo : n ≤ n + 1 := by omega
    have hS2 : Sep n n1 ts := ⟨fun q hq => ⟨by have := (hS.rng q hq).1; omega, (hS.rng q hq).2⟩, hS.nd⟩
    have hkp := keptD_tl hn hS2 (Nat.le_refl n) (fun hm => by have := (hS.rng n hm).1; omega)
    rw [hM, List.take_length] at hkp; simp (disch := omega) [resD, resL, resV, s3]; simpa using hkp)
 ·skip
  refine ⟨0, [], ?_, ?_, ?_, ?_, ?_, ?_, ?_, ?_, ?_⟩
  ·omega
  ·simp
  ·simp (disch := omega) [if_t, hn]
  ·simp (disch := omega) [if_t, hn]
  ·simp (disch := omega) [if_t, hn]
  ·first | omega | simp | rfl
  ·first | omega | simp | rfl
  ·simp
  ·exact Sep.nil _ _

set_option maxHeartbeats 1000000 in
/-- laws.eqTime -/
@[simp] theorem c_laws_eqTime (a b : Tim) (n : Nat) (hn : n ≠ 0)  : cfg.call 67 [.agg [ci a.e, ci a.r], .agg [ci b.e, ci b.r]] n = some (bi (decide (a = b)), n, []) := by
 refine call_runs0 rfl Try.func67 rfl (by kernel_rfl) rfl (by simp (disch := omega) [low_agg, low_pt, low_fn]) ?_; obtain ⟨ae, ar⟩ := a
 obtain ⟨be, br⟩ := b
 refine Runs.cseq ?_; refine Runs.regO (.inl rfl) nzc (fun R hR => ?_); simp (disch := omega) [if_t, hn]; refine hR _ _ _ (by simp) ?_; clear hR R; refine Runs.cseq ?_; refine Runs.cseq ?_; refine Runs.regO (.inl rfl) nzc (fun R hR => ?_); simp (disch := omega) [if_t, hn]; refine hR _ _ _ (by simp) ?_; clear hR R; refine Runs.condI fun d hd => ?_; simp (disch := omega) [if_t, hn] at hd; subst hd; refine cond_b (fun hc => ?_) (fun hc => ?_)
 ·first | (simp at hc; done) |
   (
   (try simp at hc); (try have hcx0 := inR_t.1 hc); (try have hcx1 := isV_t.1 hc); refine Runs.cseq ?_; refine Runs.regO (.inl rfl) nzc (fun R hR => ?_); simp (disch := omega) [if_t, hn]; refine hR _ _ _ (by simp) ?_; clear hR R; refine Runs.ret ?_; dsimp only [thenQ, blockQ]; refine ⟨by simp, by simp (disch := omega) <;> omega, ?_⟩
   simp (disch := omega) [if_t, hn, resD, resL, resV] <;> (first | omega | (simp_all; done) | (simp_all <;> omega)))
 ·first | (simp at hc; done) |
   (
   (try simp at hc); (try have hcx0 := inR_t.1 hc); (try have hcx1 := isV_t.1 hc); refine Runs.skip ?_; refine Runs.cseq ?_; refine Runs.cseq ?_; refine Runs.regO (.inl rfl) nzc (fun R hR => ?_); simp (disch := omega) [if_t, hn]; refine hR _ _ _ (by simp) ?_; clear hR R; refine Runs.condI fun d hd => ?_; simp (disch := omega) [if_t, hn] at hd; subst hd; refine cond_b (fun hc => ?_) (fun hc => ?_)
   ·first | (simp at hc; done) |
     (
     (try simp at hc); (try have hcx0 := inR_t.1 hc); (try have hcx1 := isV_t.1 hc); refine Runs.cseq ?_; refine Runs.regO (.inl rfl) nzc (fun R hR => ?_); simp (disch := omega) [if_t, hn]; refine hR _ _ _ (by simp) ?_; clear hR R; refine Runs.ret ?_; dsimp only [thenQ, blockQ]; refine ⟨by simp, by simp (disch := omega) <;> omega, ?_⟩
     simp (disch := omega) [if_t, hn, resD, resL, resV] <;> (first | omega | (simp_all; done) | (simp_all <;> omega)))
   ·first | (simp at hc; done) |
     (
     (try simp at hc); (try have hcx0 := inR_t.1 hc); (try have hcx1 := isV_t.1 hc); refine Runs.skip ?_; refine Runs.cseq ?_; refine Runs.regO (.inl rfl) nzc (fun R hR => ?_); simp (disch := omega) [if_t, hn]; refine hR _ _ _ (by simp) ?_; clear hR R; refine Runs.ret ?_; dsimp only [thenQ, blockQ]; refine ⟨by simp, by simp (disch := omega) <;> omega, ?_⟩
     simp (disch := omega) [if_t, hn, resD, resL, resV] <;> (first | omega | (simp_all; done) | (simp_all <;> omega))))

set_option maxHeartbeats 1000000 in
/-- laws.eqTimeS -/
@[simp] theorem c_laws_eqTimeS (xs ys : List Tim) (n : Nat) (hn : n ≠ 0) (p0 : sizL xs ≤ 1152921504606846976) : cfg.call 35 [cl xs, cl ys] n = some (bi (decide (xs = ys)), n, []) := by
 refine call_runs0 rfl Try.func35 rfl (by kernel_rfl) rfl (by simp (disch := omega) [low_agg, low_pt, low_fn]) ?_; have hl_xs := len_siz xs
 refine Runs.cseq ?_; refine Runs.regO (.inl rfl) nzc (fun R hR => ?_); simp (disch := omega) [if_t, hn]; refine hR _ _ _ (by simp) ?_; clear hR R; refine Runs.cseq ?_; refine Runs.cseq ?_; refine Runs.regO (.inl rfl) nzc (fun R hR => ?_); simp (disch := omega) [if_t, hn]; refine hR _ _ _ (by simp) ?_; clear hR R; refine Runs.condI fun d hd => ?_; simp (disch := omega) [if_t, hn] at hd; subst hd; refine cond_b (fun hc => ?_) (fun hc => ?_)
 ·first | (simp at hc; done) |
   (
   (try simp at hc); (try have hcx0 := inR_t.1 hc); (try have hcx1 := isV_t.1 hc); have hne : ¬ xs = ys := fun h => hc (by rw [h])
   refine Runs.cseq ?_; refine Runs.regO (.inl rfl) nzc (fun R hR => ?_); simp (disch := omega) [if_t, hn]; refine hR _ _ _ (by simp) ?_; clear hR R; refine Runs.ret ?_; dsimp only [thenQ, blockQ]; refine ⟨by simp, by simp (disch := omega) <;> omega, ?_⟩
   simp (disch := omega) [if_t, hn, resD, resL, resV] <;> (first | omega | (simp_all; done) | (simp_all <;> omega)))
 ·first | (simp at hc; done) |
   (
   (try simp at hc); (try have hcx0 := inR_t.1 hc); (try have hcx1 := isV_t.1 hc); have hle : xs.length = ys.length := by omega
   refine Runs.skip ?_; refine Runs.cseq ?_; refine Runs.cseq ?_; refine Runs.regO (.inl rfl) nzc (fun R hR => ?_); simp (disch := omega) [if_t, hn]; refine hR _ _ _ (by simp) ?_; clear hR R; refine Runs.cblock ?_; refine Runs.loop (fun k fr n' E => ∃ (i : Nat), n ≤ n' ∧ Go.Cv.Loc n E ∧ fr 0 = cl xs ∧ fr 1 = cl ys ∧ fr 5 = ci (i : Int) ∧ i + k = xs.length ∧ decide (xs = ys) = decide (xs.drop i = ys.drop i)) ?_ (k := xs.length) ?_
   ·rintro k1 fr n1 E1 ⟨i, hn1, hE1, s0, s1, s5, hk, hM⟩
    have hz1 : n1 ≠ 0 := by omega
    refine Runs.cseq ?_; refine Runs.cseq ?_; refine Runs.regO (.inl rfl) nzc (fun R hR => ?_); simp (disch := omega) [if_t, hn, s0, s1, s5]; refine hR _ _ _ (by simp) ?_; clear hR R; refine Runs.condI fun d hd => ?_; simp (disch := omega) [if_t, hn, s0, s1, s5] at hd; subst hd; refine cond_b (fun hc => ?_) (fun hc => ?_)
    ·first | (simp at hc; done) |
      (
      (try simp at hc); (try have hcx0 := inR_t.1 hc); (try have hcx1 := isV_t.1 hc); have hsz := siz_ix hc
      (try simp at hsz); rw [drop_ix hc] at hM; rw [drop_ix (xs := ys) (i := i) (by omega), cons_eq] at hM; refine Runs.skip ?_; refine Runs.cseq ?_; refine Runs.cblock ?_; refine Runs.cseq ?_; refine Runs.regO (.inr (by kernel_rfl)) nzc (fun R hR => ?_); simp (disch := omega) [if_t, hn, s0, s1, s5]; refine hR _ _ _ (by simp) ?_; clear hR R; refine Runs.condI fun d hd => ?_; simp (disch := omega) [if_t, hn, s0, s1, s5] at hd; subst hd; refine cond_b (fun hc => ?_) (fun hc => ?_)
      ·first | (simp at hc; done) |
        (
        (try simp at hc); (try have hcx0 := inR_t.1 hc); (try have hcx1 := isV_t.1 hc); rw [decide_eq_false hc, Bool.false_and] at hM; refine Runs.cseq ?_; refine Runs.regO (.inl rfl) nzc (fun R hR => ?_); simp (disch := omega) [if_t, hn, s0, s1, s5]; refine hR _ _ _ (by simp) ?_; clear hR R; refine Runs.ret ?_; dsimp only [thenQ, blockQ]; refine ⟨by simp, by simp (disch := omega) [hE1] <;> omega, ?_⟩
        simp (disch := omega) [if_t, hn, s0, s1, s5, resD, resL, resV] <;> (first | omega | (simp_all; done) | (simp_all <;> omega)))
      ·first | (simp at hc; done) |
        (
        (try simp at hc); (try have hcx0 := inR_t.1 hc); (try have hcx1 := isV_t.1 hc); rw [decide_eq_true hc, Bool.true_and] at hM; refine Runs.skip ?_; refine Runs.regO (.inl rfl) nzc (fun R hR => ?_); simp (disch := omega) [if_t, hn, s0, s1, s5]; refine hR _ _ _ (by simp) ?_; clear hR R; dsimp only [thenQ, blockQ]; refine ⟨k1 - 1, by omega, i + 1, ?_, ?_, ?_, ?_, ?_, ?_, ?_⟩
        ·omega
        ·simp (disch := omega) [hE1] <;> omega
        ·simp (disch := omega) [if_t, hn, s0, s1, s5]
        ·simp (disch := omega) [if_t, hn, s0, s1, s5]
        ·simp (disch := omega) [if_t, hn, s0, s1, s5]
        ·first | omega | assumption
        ·rw [hM]))
    ·first | (simp at hc; done) |
      (
      (try simp at hc); (try have hcx0 := inR_t.1 hc); (try have hcx1 := isV_t.1 hc); rw [List.drop_of_length_le (by omega), List.drop_of_length_le (by omega)] at hM; refine Runs.exit ?_; refine Runs.cseq ?_; refine Runs.regO (.inl rfl) nzc (fun R hR => ?_); simp (disch := omega) [if_t, hn, s0, s1, s5]; refine hR _ _ _ (by simp) ?_; clear hR R; refine Runs.ret ?_; dsimp only [thenQ, blockQ]; refine ⟨by simp, by simp (disch := omega) [hE1] <;> omega, ?_⟩
      simp (disch := omega) [if_t, hn, s0, s1, s5, resD, resL, resV] <;> (first | omega | (simp_all; done) | (simp_all <;> omega)))
   ·skip
    refine ⟨0, ?_, ?_, ?_, ?_, ?_, ?_, ?_⟩
    ·omega
    ·simp
    ·simp (disch := omega) [if_t, hn]
    ·simp (disch := omega) [if_t, hn]
    ·simp (disch := omega) [if_t, hn]
    ·first | omega | simp | rfl
    ·rfl)

set_option maxHeartbeats 1000000 in
/-- laws.eqUpdate -/
@[simp] theorem c_laws_eqUpdate (a b : Upd) (n : Nat) (hn : n ≠ 0) (p0 : sizL a.row ≤ 1152921504606846976) : cfg.call 68 [.agg [cl a.row, ci a.t.e, ci a.t.r, ci a.w], .agg [cl b.row, ci b.t.e, ci b.t.r, ci b.w]] n = some (bi (decide (a = b)), n, []) := by
 refine call_runs0 rfl Try.func68 rfl (by kernel_rfl) rfl (by simp (disch := omega) [low_agg, low_pt, low_fn]) ?_; refine Runs.cseq ?_; refine Runs.regO (.inl rfl) nzc (fun R hR => ?_); simp (disch := omega) [if_t, hn, upd_eq]; refine hR _ _ _ (by simp) ?_; clear hR R; refine Runs.cseq ?_; refine Runs.cseq ?_; refine Runs.regO (.inl rfl) nzc (fun R hR => ?_); simp (disch := omega) [if_t, hn, upd_eq]; refine hR _ _ _ (by simp) ?_; clear hR R; refine Runs.condI fun d hd => ?_; simp (disch := omega) [if_t, hn, upd_eq] at hd; subst hd; refine cond_b (fun hc => ?_) (fun hc => ?_)
 ·first | (simp at hc; done) |
   (
   (try simp at hc); (try have hcx0 := inR_t.1 hc); (try have hcx1 := isV_t.1 hc); refine Runs.cseq ?_; refine Runs.regO (.inl rfl) nzc (fun R hR => ?_); simp (disch := omega) [if_t, hn, upd_eq]; refine hR _ _ _ (by simp) ?_; clear hR R; refine Runs.ret ?_; dsimp only [thenQ, blockQ]; refine ⟨by simp, by simp (disch := omega) <;> omega, ?_⟩
   simp (disch := omega) [if_t, hn, upd_eq, resD, resL, resV] <;> (first | omega | (simp_all; done) | (simp_all <;> omega)))
 ·first | (simp at hc; done) |
   (
   (try simp at hc); (try have hcx0 := inR_t.1 hc); (try have hcx1 := isV_t.1 hc); refine Runs.skip ?_; refine Runs.cseq ?_; refine Runs.cseq ?_; refine Runs.regO (.inl rfl) nzc (fun R hR => ?_); simp (disch := omega) [if_t, hn, upd_eq]; refine hR _ _ _ (by simp) ?_; clear hR R; refine Runs.condI fun d hd => ?_; simp (disch := omega) [if_t, hn, upd_eq] at hd; subst hd; refine cond_b (fun hc => ?_) (fun hc => ?_)
   ·first | (simp at hc; done) |
     (
     (try simp at hc); (try have hcx0 := inR_t.1 hc); (try have hcx1 := isV_t.1 hc); refine Runs.cseq ?_; refine Runs.regO (.inl rfl) nzc (fun R hR => ?_); simp (disch := omega) [if_t, hn, upd_eq]; refine hR _ _ _ (by simp) ?_; clear hR R; refine Runs.ret ?_; dsimp only [thenQ, blockQ]; refine ⟨by simp, by simp (disch := omega) <;> omega, ?_⟩
     simp (disch := omega) [if_t, hn, upd_eq, resD, resL, resV] <;> (first | omega | (simp_all; done) | (simp_all <;> omega)))
   ·first | (simp at hc; done) |
     (
     (try simp at hc); (try have hcx0 := inR_t.1 hc); (try have hcx1 := isV_t.1 hc); refine Runs.skip ?_; refine Runs.cseq ?_; refine Runs.cseq ?_; refine Runs.regO (.inl rfl) nzc (fun R hR => ?_); simp (disch := omega) [if_t, hn, upd_eq]; refine hR _ _ _ (by simp) ?_; clear hR R; refine Runs.condI fun d hd => ?_; simp (disch := omega) [if_t, hn, upd_eq] at hd; subst hd; refine cond_b (fun hc => ?_) (fun hc => ?_)
     ·first | (simp at hc; done) |
       (
       (try simp at hc); (try have hcx0 := inR_t.1 hc); (try have hcx1 := isV_t.1 hc); refine Runs.cseq ?_; refine Runs.regO (.inl rfl) nzc (fun R hR => ?_); simp (disch := omega) [if_t, hn, upd_eq]; refine hR _ _ _ (by simp) ?_; clear hR R; refine Runs.ret ?_; dsimp only [thenQ, blockQ]; refine ⟨by simp, by simp (disch := omega) <;> omega, ?_⟩
       simp (disch := omega) [if_t, hn, upd_eq, resD, resL, resV] <;> (first | omega | (simp_all; done) | (simp_all <;> omega)))
     ·first | (simp at hc; done) |
       (
       (try simp at hc); (try have hcx0 := inR_t.1 hc); (try have hcx1 := isV_t.1 hc); refine Runs.skip ?_; refine Runs.cseq ?_; refine Runs.regO (.inl rfl) nzc (fun R hR => ?_); simp (disch := omega) [if_t, hn, upd_eq]; refine hR _ _ _ (by simp) ?_; clear hR R; refine Runs.ret ?_; dsimp only [thenQ, blockQ]; refine ⟨by simp, by simp (disch := omega) <;> omega, ?_⟩
       simp (disch := omega) [if_t, hn, upd_eq, resD, resL, resV] <;> (first | omega | (simp_all; done) | (simp_all <;> omega)))))

set_option maxHeartbeats 1000000 in
/-- laws.eqUpdateS -/
@[simp] theorem c_laws_eqUpdateS (xs ys : List Upd) (n : Nat) (hn : n ≠ 0) (p0 : sizL xs ≤ 1152921504606846976) : cfg.call 36 [cl xs, cl ys] n = some (bi (decide (xs = ys)), n, []) := by
 refine call_runs0 rfl Try.func36 rfl (by kernel_rfl) rfl (by simp (disch := omega) [low_agg, low_pt, low_fn]) ?_; have hl_xs := len_siz xs
 refine Runs.cseq ?_; refine Runs.regO (.inl rfl) nzc (fun R hR => ?_); simp (disch := omega) [if_t, hn]; refine hR _ _ _ (by simp) ?_; clear hR R; refine Runs.cseq ?_; refine Runs.cseq ?_; refine Runs.regO (.inl rfl) nzc (fun R hR => ?_); simp (disch := omega) [if_t, hn]; refine hR _ _ _ (by simp) ?_; clear hR R; refine Runs.condI fun d hd => ?_; simp (disch := omega) [if_t, hn] at hd; subst hd; refine cond_b (fun hc => ?_) (fun hc => ?_)
 ·first | (simp at hc; done) |
   (
   (try simp at hc); (try have hcx0 := inR_t.1 hc); (try have hcx1 := isV_t.1 hc); have hne : ¬ xs = ys := fun h => hc (by rw [h])
   refine Runs.cseq ?_; refine Runs.regO (.inl rfl) nzc (fun R hR => ?_); simp (disch := omega) [if_t, hn]; refine hR _ _ _ (by simp) ?_; clear hR R; refine Runs.ret ?_; dsimp only [thenQ, blockQ]; refine ⟨by simp, by simp (disch := omega) <;> omega, ?_⟩
   simp (disch := omega) [if_t, hn, resD, resL, resV] <;> (first | omega | (simp_all; done) | (simp_all <;> omega)))
 ·first | (simp at hc; done) |
   (
   (try simp at hc); (try have hcx0 := inR_t.1 hc); (try have hcx1 := isV_t.1 hc); have hle : xs.length = ys.length := by omega
   refine Runs.skip ?_; refine Runs.cseq ?_; refine Runs.cseq ?_; refine Runs.regO (.inl rfl) nzc (fun R hR => ?_); simp (disch := omega) [if_t, hn]; refine hR _ _ _ (by simp) ?_; clear hR R; refine Runs.cblock ?_; refine Runs.loop (fun k fr n' E => ∃ (i : Nat), n ≤ n' ∧ Go.Cv.Loc n E ∧ fr 0 = cl xs ∧ fr 1 = cl ys ∧ fr 5 = ci (i : Int) ∧ i + k = xs.length ∧ decide (xs = ys) = decide (xs.drop i = ys.drop i)) ?_ (k := xs.length) ?_
   ·rintro k1 fr n1 E1 ⟨i, hn1, hE1, s0, s1, s5, hk, hM⟩
    have hz1 : n1 ≠ 0 := by omega
    refine Runs.cseq ?_; refine Runs.cseq ?_; refine Runs.regO (.inl rfl) nzc (fun R hR => ?_); simp (disch := omega) [if_t, hn, s0, s1, s5]; refine hR _ _ _ (by simp) ?_; clear hR R; refine Runs.condI fun d hd => ?_; simp (disch := omega) [if_t, hn, s0, s1, s5] at hd; subst hd; refine cond_b (fun hc => ?_) (fun hc => ?_)
    ·first | (simp at hc; done) |
      (
      (try simp at hc); (try have hcx0 := inR_t.1 hc); (try have hcx1 := isV_t.1 hc); have hsz := siz_ix hc
      (try simp at hsz); rw [drop_ix hc] at hM; rw [drop_ix (xs := ys) (i := i) (by omega), cons_eq] at hM; refine Runs.skip ?_; refine Runs.cseq ?_; refine Runs.cblock ?_; refine Runs.cseq ?_; refine Runs.regO (.inr (by kernel_rfl)) nzc (fun R hR => ?_); simp (disch := omega) [if_t, hn, s0, s1, s5]; refine hR _ _ _ (by simp) ?_; clear hR R; refine Runs.condI fun d hd => ?_; simp (disch := omega) [if_t, hn, s0, s1, s5] at hd; subst hd; refine cond_b (fun hc => ?_) (fun hc => ?_)
      ·first | (simp at hc; done) |
        (
        (try simp at hc); (try have hcx0 := inR_t.1 hc); (try have hcx1 := isV_t.1 hc); rw [decide_eq_false hc, Bool.false_and] at hM; refine Runs.cseq ?_; refine Runs.regO (.inl rfl) nzc (fun R hR => ?_); simp (disch := omega) [if_t, hn, s0, s1, s5]; refine hR _ _ _ (by simp) ?_; clear hR R; refine Runs.ret ?_; dsimp only [thenQ, blockQ]; refine ⟨by simp, by simp (disch := omega) [hE1] <;> omega, ?_⟩
        simp (disch := omega) [if_t, hn, s0, s1, s5, resD, resL, resV] <;> (first | omega | (simp_all; done) | (simp_all <;> omega)))
      ·first | (simp at hc; done) |
        (
        (try simp at hc); (try have hcx0 := inR_t.1 hc); (try have hcx1 := isV_t.1 hc); rw [decide_eq_true hc, Bool.true_and] at hM; refine Runs.skip ?_; refine Runs.regO (.inl rfl) nzc (fun R hR => ?_); simp (disch := omega) [if_t, hn, s0, s1, s5]; refine hR _ _ _ (by simp) ?_; clear hR R; dsimp only [thenQ, blockQ]; refine ⟨k1 - 1, by omega, i + 1, ?_, ?_, ?_, ?_, ?_, ?_, ?_⟩
        ·omega
        ·simp (disch := omega) [hE1] <;> omega
        ·simp (disch := omega) [if_t, hn, s0, s1, s5]
        ·simp (disch := omega) [if_t, hn, s0, s1, s5]
        ·simp (disch := omega) [if_t, hn, s0, s1, s5]
        ·first | omega | assumption
        ·rw [hM]))
    ·first | (simp at hc; done) |
      (
      (try simp at hc); (try have hcx0 := inR_t.1 hc); (try have hcx1 := isV_t.1 hc); rw [List.drop_of_length_le (by omega), List.drop_of_length_le (by omega)] at hM; refine Runs.exit ?_; refine Runs.cseq ?_; refine Runs.regO (.inl rfl) nzc (fun R hR => ?_); simp (disch := omega) [if_t, hn, s0, s1, s5]; refine hR _ _ _ (by simp) ?_; clear hR R; refine Runs.ret ?_; dsimp only [thenQ, blockQ]; refine ⟨by simp, by simp (disch := omega) [hE1] <;> omega, ?_⟩
      simp (disch := omega) [if_t, hn, s0, s1, s5, resD, resL, resV] <;> (first | omega | (simp_all; done) | (simp_all <;> omega)))
   ·skip
    refine ⟨0, ?_, ?_, ?_, ?_, ?_, ?_, ?_⟩
    ·omega
    ·simp
    ·simp (disch := omega) [if_t, hn]
    ·simp (disch := omega) [if_t, hn]
    ·simp (disch := omega) [if_t, hn]
    ·first | omega | simp | rfl
    ·rfl)

set_option maxHeartbeats 1000000 in
/-- laws.eqView -/
@[simp] theorem c_laws_eqView (a b : Vw) (n : Nat) (hn : n ≠ 0) (p0 : sizL a.since ≤ 1152921504606846976) (p1 : sizL a.upper ≤ 1152921504606846976) (p2 : sizL a.tr ≤ 1152921504606846976) : cfg.call 11 [.agg [cl a.since, cl a.upper, cl a.tr], .agg [cl b.since, cl b.upper, cl b.tr]] n = some (bi (decide (a = b)), n, []) := by
 refine call_runs0 rfl Try.func11 rfl (by kernel_rfl) rfl (by simp (disch := omega) [low_agg, low_pt, low_fn]) ?_; refine Runs.cseq ?_; refine Runs.regO (.inl rfl) nzc (fun R hR => ?_); simp (disch := omega) [if_t, hn, vw_eq]; refine hR _ _ _ (by simp) ?_; clear hR R; refine Runs.cseq ?_; refine Runs.cseq ?_; refine Runs.regO (.inl rfl) nzc (fun R hR => ?_); simp (disch := omega) [if_t, hn, vw_eq]; refine hR _ _ _ (by simp) ?_; clear hR R; refine Runs.condI fun d hd => ?_; simp (disch := omega) [if_t, hn, vw_eq] at hd; subst hd; refine cond_b (fun hc => ?_) (fun hc => ?_)
 ·first | (simp at hc; done) |
   (
   (try simp at hc); (try have hcx0 := inR_t.1 hc); (try have hcx1 := isV_t.1 hc); refine Runs.cseq ?_; refine Runs.regO (.inl rfl) nzc (fun R hR => ?_); simp (disch := omega) [if_t, hn, vw_eq]; refine hR _ _ _ (by simp) ?_; clear hR R; refine Runs.ret ?_; dsimp only [thenQ, blockQ]; refine ⟨by simp, by simp (disch := omega) <;> omega, ?_⟩
   simp (disch := omega) [if_t, hn, vw_eq, resD, resL, resV] <;> (first | omega | (simp_all; done) | (simp_all <;> omega)))
 ·first | (simp at hc; done) |
   (
   (try simp at hc); (try have hcx0 := inR_t.1 hc); (try have hcx1 := isV_t.1 hc); refine Runs.skip ?_; refine Runs.cseq ?_; refine Runs.cseq ?_; refine Runs.regO (.inl rfl) nzc (fun R hR => ?_); simp (disch := omega) [if_t, hn, vw_eq]; refine hR _ _ _ (by simp) ?_; clear hR R; refine Runs.condI fun d hd => ?_; simp (disch := omega) [if_t, hn, vw_eq] at hd; subst hd; refine cond_b (fun hc => ?_) (fun hc => ?_)
   ·first | (simp at hc; done) |
     (
     (try simp at hc); (try have hcx0 := inR_t.1 hc); (try have hcx1 := isV_t.1 hc); refine Runs.cseq ?_; refine Runs.regO (.inl rfl) nzc (fun R hR => ?_); simp (disch := omega) [if_t, hn, vw_eq]; refine hR _ _ _ (by simp) ?_; clear hR R; refine Runs.ret ?_; dsimp only [thenQ, blockQ]; refine ⟨by simp, by simp (disch := omega) <;> omega, ?_⟩
     simp (disch := omega) [if_t, hn, vw_eq, resD, resL, resV] <;> (first | omega | (simp_all; done) | (simp_all <;> omega)))
   ·first | (simp at hc; done) |
     (
     (try simp at hc); (try have hcx0 := inR_t.1 hc); (try have hcx1 := isV_t.1 hc); refine Runs.skip ?_; refine Runs.cseq ?_; refine Runs.cseq ?_; refine Runs.regO (.inl rfl) nzc (fun R hR => ?_); simp (disch := omega) [if_t, hn, vw_eq]; refine hR _ _ _ (by simp) ?_; clear hR R; refine Runs.condI fun d hd => ?_; simp (disch := omega) [if_t, hn, vw_eq] at hd; subst hd; refine cond_b (fun hc => ?_) (fun hc => ?_)
     ·first | (simp at hc; done) |
       (
       (try simp at hc); (try have hcx0 := inR_t.1 hc); (try have hcx1 := isV_t.1 hc); refine Runs.cseq ?_; refine Runs.regO (.inl rfl) nzc (fun R hR => ?_); simp (disch := omega) [if_t, hn, vw_eq]; refine hR _ _ _ (by simp) ?_; clear hR R; refine Runs.ret ?_; dsimp only [thenQ, blockQ]; refine ⟨by simp, by simp (disch := omega) <;> omega, ?_⟩
       simp (disch := omega) [if_t, hn, vw_eq, resD, resL, resV] <;> (first | omega | (simp_all; done) | (simp_all <;> omega)))
     ·first | (simp at hc; done) |
       (
       (try simp at hc); (try have hcx0 := inR_t.1 hc); (try have hcx1 := isV_t.1 hc); refine Runs.skip ?_; refine Runs.cseq ?_; refine Runs.regO (.inl rfl) nzc (fun R hR => ?_); simp (disch := omega) [if_t, hn, vw_eq]; refine hR _ _ _ (by simp) ?_; clear hR R; refine Runs.ret ?_; dsimp only [thenQ, blockQ]; refine ⟨by simp, by simp (disch := omega) <;> omega, ?_⟩
       simp (disch := omega) [if_t, hn, vw_eq, resD, resL, resV] <;> (first | omega | (simp_all; done) | (simp_all <;> omega)))))

set_option maxHeartbeats 1000000 in
/-- spec.validView -/
@[simp] theorem c_spec_validView (v : Vw) (n : Nat) (hn : n ≠ 0) (p0 : sizL v.since ≤ 1152921504606846976) (p1 : sizL v.upper ≤ 1152921504606846976) (p2 : sizL v.tr ≤ 1152921504606846976) : cfg.call 58 [.agg [cl v.since, cl v.upper, cl v.tr]] n = some (bi (validVw v), n, []) := by
 refine call_runs0 rfl Try.func58 rfl (by kernel_rfl) rfl (by simp (disch := omega) [low_agg, low_pt, low_fn]) ?_; have hl := len_siz v.tr
 refine Runs.cseq ?_; refine Runs.regO (.inl rfl) nzc (fun R hR => ?_); simp (disch := omega) [if_t, hn]; refine hR _ _ _ (by simp) ?_; clear hR R; refine Runs.cseq ?_; refine Runs.cseq ?_; refine Runs.regO (.inl rfl) nzc (fun R hR => ?_); repeat' (first | (simp (disch := omega) [if_t, hn]) | (with_reducible refine RunsW.splitN (fun hb => ?_) (fun hb => ?_) <;> (try simp only [hb]) <;> (try simp at hb) <;> (try have hx0 := inR_t.1 hb) <;> (try have hx1 := isV_t.1 hb)) | (with_reducible refine RunsW.split (fun hb => ?_) (fun hb => ?_) <;> (try simp only [hb]) <;> (try simp at hb) <;> (try have hx0 := inR_t.1 hb) <;> (try have hx1 := isV_t.1 hb)))
 all_goals (
  refine hR _ _ _ (by simp) ?_; clear hR R; refine Runs.condI fun d hd => ?_; simp (disch := omega) [if_t, hn] at hd; subst hd; refine cond_b (fun hc => ?_) (fun hc => ?_)
  ·first | (simp at hc; done) |
    (
    (try simp at hc); (try have hcx0 := inR_t.1 hc); (try have hcx1 := isV_t.1 hc); refine Runs.cseq ?_; refine Runs.regO (.inl rfl) nzc (fun R hR => ?_); simp (disch := omega) [if_t, hn]; refine hR _ _ _ (by simp) ?_; clear hR R; refine Runs.ret ?_; dsimp only [thenQ, blockQ]; refine ⟨by simp, by simp (disch := omega) <;> omega, ?_⟩
    simp (disch := omega) [if_t, hn, resD, resL, resV] <;> (first | omega | (simp_all [validVw, noCov, fle]; done) | (simp_all [validVw, noCov, fle] <;> omega)))
  ·first | (simp at hc; done) |
    (
    (try simp at hc); (try have hcx0 := inR_t.1 hc); (try have hcx1 := isV_t.1 hc); have hf : fle v.since v.upper = true := by unfold fle; simp_all
    refine Runs.skip ?_; refine Runs.cseq ?_; refine Runs.cseq ?_; refine Runs.regO (.inl rfl) nzc (fun R hR => ?_); simp (disch := omega) [if_t, hn]; refine hR _ _ _ (by simp) ?_; clear hR R; refine Runs.cblock ?_; refine Runs.loop (fun k fr n' E => ∃ (i : Nat), n + 1 ≤ n' ∧ Go.Cv.Loc n E ∧ fr 1 = .pt n 0 [cl v.since, cl v.upper, cl v.tr] ∧ fr 3 = ci (i : Int) ∧ i + k = v.tr.length ∧ noCov v.upper v.tr = noCov v.upper (v.tr.drop i)) ?_ (k := v.tr.length) ?_
    ·rintro k1 fr n1 E1 ⟨i, hn1, hE1, s1, s3, hk, hM⟩
     have hz1 : n1 ≠ 0 := by omega
     refine Runs.cseq ?_; refine Runs.cseq ?_; refine Runs.regO (.inl rfl) nzc (fun R hR => ?_); simp (disch := omega) [if_t, hn, s1, s3]; refine hR _ _ _ (by simp) ?_; clear hR R; refine Runs.condI fun d hd => ?_; simp (disch := omega) [if_t, hn, s1, s3] at hd; subst hd; refine cond_b (fun hc => ?_) (fun hc => ?_)
     ·first | (simp at hc; done) |
       (
       (try simp at hc); (try have hcx0 := inR_t.1 hc); (try have hcx1 := isV_t.1 hc); rw [drop_ix hc] at hM; rw [noCov] at hM; refine Runs.skip ?_; refine Runs.cseq ?_; refine Runs.cblock ?_; refine Runs.cseq ?_; refine Runs.regO (.inr (by kernel_rfl)) nzc (fun R hR => ?_); simp (disch := omega) [if_t, hn, s1, s3]; refine hR _ _ _ (by simp) ?_; clear hR R; refine Runs.condI fun d hd => ?_; simp (disch := omega) [if_t, hn, s1, s3] at hd; subst hd; refine cond_b (fun hc => ?_) (fun hc => ?_)
       ·first | (simp at hc; done) |
         (
         (try simp at hc); (try have hcx0 := inR_t.1 hc); (try have hcx1 := isV_t.1 hc); rw [hc, Bool.not_true, Bool.false_and] at hM; refine Runs.cseq ?_; refine Runs.regO (.inl rfl) nzc (fun R hR => ?_); simp (disch := omega) [if_t, hn, s1, s3]; refine hR _ _ _ (by simp) ?_; clear hR R; refine Runs.ret ?_; dsimp only [thenQ, blockQ]; refine ⟨by simp, by simp (disch := omega) [hE1] <;> omega, ?_⟩
         simp (disch := omega) [if_t, hn, s1, s3, resD, resL, resV] <;> (first | omega | (simp_all [validVw, noCov, fle]; done) | (simp_all [validVw, noCov, fle] <;> omega)))
       ·first | (simp at hc; done) |
         (
         (try simp at hc); (try have hcx0 := inR_t.1 hc); (try have hcx1 := isV_t.1 hc); rw [hc, Bool.not_false, Bool.true_and] at hM; refine Runs.skip ?_; refine Runs.regO (.inl rfl) nzc (fun R hR => ?_); simp (disch := omega) [if_t, hn, s1, s3]; refine hR _ _ _ (by simp) ?_; clear hR R; dsimp only [thenQ, blockQ]; refine ⟨k1 - 1, by omega, i + 1, ?_, ?_, ?_, ?_, ?_, ?_⟩
         ·omega
         ·simp (disch := omega) [hE1] <;> omega
         ·simp (disch := omega) [if_t, hn, s1, s3]
         ·simp (disch := omega) [if_t, hn, s1, s3]
         ·first | omega | assumption
         ·rw [hM]))
     ·first | (simp at hc; done) |
       (
       (try simp at hc); (try have hcx0 := inR_t.1 hc); (try have hcx1 := isV_t.1 hc); rw [List.drop_of_length_le (by omega)] at hM; refine Runs.exit ?_; refine Runs.cseq ?_; refine Runs.regO (.inl rfl) nzc (fun R hR => ?_); simp (disch := omega) [if_t, hn, s1, s3]; refine hR _ _ _ (by simp) ?_; clear hR R; refine Runs.ret ?_; dsimp only [thenQ, blockQ]; refine ⟨by simp, by simp (disch := omega) [hE1] <;> omega, ?_⟩
       simp (disch := omega) [if_t, hn, s1, s3, resD, resL, resV] <;> (first | omega | (simp_all [validVw, noCov, fle]; done) | (simp_all [validVw, noCov, fle] <;> omega)))
    ·skip
     refine ⟨0, ?_, ?_, ?_, ?_, ?_, ?_⟩
     ·omega
     ·simp
     ·simp (disch := omega) [if_t, hn]
     ·simp (disch := omega) [if_t, hn]
     ·first | omega | simp | rfl
     ·rfl))

set_option maxHeartbeats 1000000 in
/-- spec.ValidView -/
@[simp] theorem c_spec_ValidView (v : Vw) (n : Nat) (hn : n ≠ 0) (p0 : sizL v.since ≤ 1152921504606846976) (p1 : sizL v.upper ≤ 1152921504606846976) (p2 : sizL v.tr ≤ 1152921504606846976) : cfg.call 24 [.agg [cl v.since, cl v.upper, cl v.tr]] n = some (bi (validVw v), n, []) := by
 refine call_runs0 rfl Try.func24 rfl (by kernel_rfl) rfl (by simp (disch := omega) [low_agg, low_pt, low_fn]) ?_; refine Runs.cseq ?_; refine Runs.regO (.inl rfl) nzc (fun R hR => ?_); simp (disch := omega) [if_t, hn]; refine hR _ _ _ (by simp) ?_; clear hR R; refine Runs.cseq ?_; refine Runs.regO (.inl rfl) nzc (fun R hR => ?_); simp (disch := omega) [if_t, hn]; refine hR _ _ _ (by simp) ?_; clear hR R; refine Runs.ret ?_; dsimp only [thenQ, blockQ]; refine ⟨by simp, by simp (disch := omega) <;> omega, ?_⟩
 simp (disch := omega) [if_t, hn, resD, resL, resV] <;> (first | omega | (simp_all; done) | (simp_all <;> omega))

set_option maxHeartbeats 1000000 in
/-- laws.toView -/
@[simp] theorem c_laws_toView (v : Vw) (n : Nat) (hn : n ≠ 0) (p0 : siz v ≤ 1048576) : cfg.call 25 [.agg [cl v.since, cl v.upper, cl v.tr]] n = some (own n v, n + 3 + v.tr.length, []) := by
 refine call_runs1 rfl Try.func25 rfl (by kernel_rfl) rfl (by simp (disch := omega) [low_agg, low_pt, low_fn]) ?_; simp at p0; refine Runs.cseq ?_; refine Runs.regO (.inl rfl) nzc (fun R hR => ?_); simp (disch := omega) [if_t, hn]; refine hR _ _ _ (by simp) ?_; clear hR R; refine Runs.cseq ?_; refine Runs.regO (.inl rfl) nzc (fun R hR => ?_); simp (disch := omega) [if_t, hn]; refine hR _ _ _ (by simp) ?_; clear hR R; refine Runs.cseq ?_; refine Runs.regO (.inl rfl) nzc (fun R hR => ?_); simp (disch := omega) [if_t, hn]; refine hR _ _ _ (by simp) ?_; clear hR R; refine Runs.cseq ?_; refine Runs.regO (.inl rfl) nzc (fun R hR => ?_); simp (disch := omega) [if_t, hn]; refine hR _ _ _ (by simp) ?_; clear hR R; refine Runs.cseq ?_; refine Runs.regO (.inl rfl) nzc (fun R hR => ?_); simp (disch := omega) [if_t, hn]; refine hR _ _ _ (by simp) ?_; clear hR R; refine Runs.cseq ?_; refine Runs.regO (.inl rfl) nzc (fun R hR => ?_); simp (disch := omega) [if_t, hn]; refine hR _ _ _ (by simp) ?_; clear hR R; refine Runs.ret ?_; dsimp only [thenQ, blockQ]; refine ⟨by simp, by simp (disch := omega) <;> omega, ?_⟩
 simp (disch := omega) [resD, resL, resV]; have hk := keptD_vw (v := v) (n := n) (a := n + 1 + 1 + 1) (b := n + 1 + 1 + 1 + 1) (c := n + 1 + 1 + 1 + 1 + 1) hn (by omega) (by omega) (by omega) (by omega) (by omega) (by omega)
 simpa using hk

set_option maxHeartbeats 1000000 in
/-- laws.FnExactValidView -/
@[simp] theorem c_laws_FnExactValidView (v : Vw) (n : Nat) (hn : n ≠ 0) (p0 : v.since.length ≤ 140737488355328) (p1 : v.upper.length ≤ 140737488355328) (p2 : v.tr.length ≤ 140737488355328) (p3 : ∀ e ∈ v.tr, e.row.length ≤ 140737488355328) : cfg.call 6 [.agg [cl v.since, cl v.upper, cl v.tr]] n = some (bi true, n, []) := by
 refine call_runs0 rfl Try.func6 rfl (by kernel_rfl) rfl (by simp (disch := omega) [low_agg, low_pt, low_fn]) ?_; have hcnt := cnt_upds v.tr
 refine Runs.cseq ?_; refine Runs.regO (.inl rfl) nzc (fun R hR => ?_); simp (disch := omega) [if_t, hn, own_vw]; refine hR _ _ _ (by simp) ?_; clear hR R; refine Runs.cseq ?_; refine Runs.regO (.inl rfl) nzc (fun R hR => ?_); simp (disch := omega) [if_t, hn, own_vw]; refine hR _ _ _ (by simp) ?_; clear hR R; refine Runs.cseq ?_; refine Runs.regO (.inl rfl) nzc (fun R hR => ?_); simp (disch := omega) [if_t, hn, own_vw]; refine hR _ _ _ (by simp) ?_; clear hR R; refine Runs.cseq ?_; refine Runs.cseq ?_; refine Runs.regO (.inl rfl) nzc (fun R hR => ?_); simp (disch := omega) [if_t, hn, own_vw]; refine hR _ _ _ (by simp) ?_; clear hR R; refine Runs.condI fun d hd => ?_; simp (disch := omega) [if_t, hn, own_vw] at hd; subst hd; refine cond_b (fun hc => ?_) (fun hc => ?_)
 ·first | (simp at hc; done) |
   (
   (try simp at hc); (try have hcx0 := inR_t.1 hc); (try have hcx1 := isV_t.1 hc); refine Runs.cseq ?_; refine Runs.regO (.inl rfl) nzc (fun R hR => ?_); simp (disch := omega) [if_t, hn, own_vw]; refine hR _ _ _ (by simp) ?_; clear hR R; refine Runs.ret ?_; dsimp only [thenQ, blockQ]; refine ⟨by simp, by simp (disch := omega) <;> omega, ?_⟩
   simp (disch := omega) [if_t, hn, own_vw, resD, resL, resV] <;> (first | omega | (simp_all; done) | (simp_all <;> omega)))
 ·first | (simp at hc; done) |
   (
   (try simp at hc); (try have hcx0 := inR_t.1 hc); (try have hcx1 := isV_t.1 hc); have hz := szV_siz (v := v) (l := 1048576) (by omega)
   have hz2 : siz v ≤ 1048576 := by omega
   have hz3 := hz2
   simp at hz3; refine Runs.skip ?_; refine Runs.cseq ?_; refine Runs.regO (.inl rfl) nzc (fun R hR => ?_); simp (disch := omega) [if_t, hn, own_vw]; refine hR _ _ _ (by simp) ?_; clear hR R; refine Runs.cseq ?_; refine Runs.regO (.inl rfl) nzc (fun R hR => ?_); simp (disch := omega) [if_t, hn, own_vw]; refine hR _ _ _ (by simp) ?_; clear hR R; refine Runs.cseq ?_; refine Runs.regO (.inl rfl) nzc (fun R hR => ?_); simp (disch := omega) [if_t, hn, own_vw]; refine hR _ _ _ (by simp) ?_; clear hR R; refine Runs.cseq ?_; refine Runs.cseq ?_; refine Runs.regO (.inl rfl) nzc (fun R hR => ?_); simp (disch := omega) [if_t, hn, own_vw]; refine hR _ _ _ (by simp) ?_; clear hR R; refine Runs.condI fun d hd => ?_; simp (disch := omega) [if_t, hn, own_vw] at hd; subst hd; refine cond_b (fun hc => ?_) (fun hc => ?_)
   ·first | (simp at hc; done) |
     (
     (try simp at hc); (try have hcx0 := inR_t.1 hc); (try have hcx1 := isV_t.1 hc); refine Runs.cseq ?_; refine Runs.regO (.inl rfl) nzc (fun R hR => ?_); simp (disch := omega) [if_t, hn, own_vw]; refine hR _ _ _ (by simp) ?_; clear hR R; refine Runs.ret ?_; dsimp only [thenQ, blockQ]; refine ⟨by simp, by simp (disch := omega) <;> omega, ?_⟩
     simp (disch := omega) [if_t, hn, own_vw, resD, resL, resV] <;> (first | omega | (simp_all; done) | (simp_all <;> omega)))
   ·first | (simp at hc; done) |
     (
     (try simp at hc); (try have hcx0 := inR_t.1 hc); (try have hcx1 := isV_t.1 hc); refine Runs.skip ?_; refine Runs.cseq ?_; refine Runs.cseq ?_; refine Runs.regE (fun R hR => ?_); simp (disch := omega) [if_t, hn, own_vw]; refine hR _ _ _ (by simp) ?_; clear hR R; refine Runs.condI fun d hd => ?_; simp (disch := omega) [if_t, hn, own_vw] at hd; subst hd; refine cond_b (fun hc => ?_) (fun hc => ?_)
     ·first | (simp at hc; done) |
       (
       (try simp at hc); (try have hcx0 := inR_t.1 hc); (try have hcx1 := isV_t.1 hc); refine Runs.cseq ?_; refine Runs.regO (.inl rfl) nzc (fun R hR => ?_); simp (disch := omega) [if_t, hn, own_vw]; refine hR _ _ _ (by simp) ?_; clear hR R; refine Runs.ret ?_; dsimp only [thenQ, blockQ]; refine ⟨by simp, by simp (disch := omega) <;> omega, ?_⟩
       simp (disch := omega) [if_t, hn, own_vw, resD, resL, resV] <;> (first | omega | (simp_all; done) | (simp_all <;> omega)))
     ·first | (simp at hc; done) |
       (
       (try simp at hc); (try have hcx0 := inR_t.1 hc); (try have hcx1 := isV_t.1 hc); refine Runs.skip ?_; refine Runs.cseq ?_; refine Runs.regO (.inl rfl) nzc (fun R hR => ?_); simp (disch := omega) [if_t, hn, own_vw]; refine hR _ _ _ (by simp) ?_; clear hR R; refine Runs.ret ?_; dsimp only [thenQ, blockQ]; refine ⟨by simp, by simp (disch := omega) <;> omega, ?_⟩
       simp (disch := omega) [if_t, hn, own_vw, resD, resL, resV] <;> (first | omega | (simp_all; done) | (simp_all <;> omega)))))

def dIn : List Ent → Int → Int → Int
  | [], _, _ => 0
  | e :: es, x, y => if ix e.row 0 = x ∧ ix e.row 1 = y then ix e.row 2 else dIn es x y
def anyF (p : Nat → Bool) (i : Nat) : Nat → Bool
  | 0 => false
  | m + 1 => p i || anyF p (i + 1) m
theorem anyF_iff (p : Nat → Bool) : ∀ (m i : Nat), anyF p i m = true ↔ ∃ j, i ≤ j ∧ j < i + m ∧ p j = true
  | 0, i => by simp [anyF]; intro j h1 h2; omega
  | m + 1, i => by
    rw [anyF, Bool.or_eq_true, anyF_iff p m (i + 1)]
    constructor
    · rintro (h | ⟨j, a, b, c⟩)
      · exact ⟨i, Nat.le_refl _, by omega, h⟩
      · exact ⟨j, by omega, by omega, c⟩
    · rintro ⟨j, a, b, c⟩
      by_cases hj : j = i
      · left; rw [← hj]; exact c
      · exact .inr ⟨j, by omega, by omega, c⟩
theorem anyF_s (p : Nat → Bool) (i m : Nat) : anyF p i (m + 1) = (p i || anyF p (i + 1) m) := rfl
theorem anyF_z (p : Nat → Bool) (i : Nat) : anyF p i 0 = false := rfl
theorem allF_s (p : Nat → Bool) (i m : Nat) : allF p i (m + 1) = (p i && allF p (i + 1) m) := rfl
theorem allF_z (p : Nat → Bool) (i : Nat) : allF p i 0 = true := rfl
def suppW (es d : List Ent) (r : List Int) (w : Nat) : Bool := decide (0 < wOf d [ix r 0, (w : Int), ix r 2 - 1]) && decide (0 < wOf es [(w : Int), ix r 1])
def supp (es d : List Ent) (r : List Int) : Bool := if ix r 2 = 1 then decide (0 < wOf es (r.take 2)) else anyF (suppW es d r) 0 20
def all3 : List Ent → Bool
  | [] => true
  | e :: es => decide (e.row.length = 3) && all3 es
theorem all3_ix : ∀ {es : List Ent} {i : Nat}, all3 es = true → i < es.length → (ix es i).row.length = 3
  | e :: es, 0, h, _ => by simp only [all3, Bool.and_eq_true, decide_eq_true_eq] at h; exact h.1
  | e :: es, i + 1, h, hi => by simp only [all3, Bool.and_eq_true] at h; rw [ix_succ]; exact all3_ix h.2 (by simpa using hi)

set_option maxHeartbeats 1000000 in
/-- spec.distanceIn -/
@[simp] theorem c_spec_distanceIn (d : List Ent) (x y : Int) (n : Nat) (hn : n ≠ 0) (p0 : sizL d ≤ 1152921504606846976) (p1 : all3 d = true) : cfg.call 54 [cl d, ci x, ci y] n = some (ci (dIn d x y), n, []) := by
 refine call_runs0 rfl Try.func54 rfl (by kernel_rfl) rfl (by simp (disch := omega) [low_agg, low_pt, low_fn]) ?_; have hl_d := len_siz d
 refine Runs.cseq ?_; refine Runs.regO (.inl rfl) nzc (fun R hR => ?_); simp (disch := omega) [if_t, hn]; refine hR _ _ _ (by simp) ?_; clear hR R; refine Runs.cseq ?_; refine Runs.cseq ?_; refine Runs.regO (.inl rfl) nzc (fun R hR => ?_); simp (disch := omega) [if_t, hn]; refine hR _ _ _ (by simp) ?_; clear hR R; refine Runs.cblock ?_; refine Runs.loop (fun k fr n' E => ∃ (i : Nat), n ≤ n' ∧ Go.Cv.Loc n E ∧ fr 0 = cl d ∧ fr 1 = ci x ∧ fr 2 = ci y ∧ fr 7 = ci (i : Int) ∧ i + k = d.length ∧ dIn d x y = dIn (d.drop i) x y) ?_ (k := d.length) ?_
 ·rintro k1 fr n1 E1 ⟨i, hn1, hE1, s0, s1, s2, s7, hk, hM⟩
  have hz1 : n1 ≠ 0 := by omega
  refine Runs.cseq ?_; refine Runs.cseq ?_; refine Runs.regO (.inl rfl) nzc (fun R hR => ?_); simp (disch := omega) [if_t, hn, s0, s1, s2, s7]; refine hR _ _ _ (by simp) ?_; clear hR R; refine Runs.condI fun d hd => ?_; simp (disch := omega) [if_t, hn, s0, s1, s2, s7] at hd; subst hd; refine cond_b (fun hc => ?_) (fun hc => ?_)
  ·first | (simp at hc; done) |
    (
    (try simp at hc); (try have hcx0 := inR_t.1 hc); (try have hcx1 := isV_t.1 hc); have hsz := siz_ix hc
    (try simp at hsz); rw [drop_ix hc] at hM; rw [dIn] at hM; have h3 := all3_ix p1 hc
    refine Runs.skip ?_; refine Runs.cseq ?_; refine Runs.cblock ?_; refine Runs.cseq ?_; refine Runs.regO (.inl rfl) nzc (fun R hR => ?_); repeat' (first | (simp (disch := omega) [if_t, hn, s0, s1, s2, s7]) | (with_reducible refine RunsW.splitN (fun hb => ?_) (fun hb => ?_) <;> (try simp only [hb]) <;> (try simp at hb) <;> (try have hx0 := inR_t.1 hb) <;> (try have hx1 := isV_t.1 hb)) | (with_reducible refine RunsW.split (fun hb => ?_) (fun hb => ?_) <;> (try simp only [hb]) <;> (try simp at hb) <;> (try have hx0 := inR_t.1 hb) <;> (try have hx1 := isV_t.1 hb)))
    all_goals (
     refine hR _ _ _ (by simp) ?_; clear hR R; refine Runs.condI fun d hd => ?_; simp (disch := omega) [if_t, hn, s0, s1, s2, s7] at hd; subst hd; refine cond_b (fun hc => ?_) (fun hc => ?_)
     ·first | (simp at hc; done) |
       (
       (try simp at hc); (try have hcx0 := inR_t.1 hc); (try have hcx1 := isV_t.1 hc); rw [if_pos (by simp_all)] at hM; refine Runs.cseq ?_; refine Runs.regO (.inl rfl) nzc (fun R hR => ?_); simp (disch := omega) [if_t, hn, s0, s1, s2, s7]; refine hR _ _ _ (by simp) ?_; clear hR R; refine Runs.ret ?_; dsimp only [thenQ, blockQ]; refine ⟨by simp, by simp (disch := omega) [hE1] <;> omega, ?_⟩
       simp (disch := omega) [if_t, hn, s0, s1, s2, s7, resD, resL, resV] <;> (first | omega | (simp_all [dIn]; done) | (simp_all [dIn] <;> omega)))
     ·first | (simp at hc; done) |
       (
       (try simp at hc); (try have hcx0 := inR_t.1 hc); (try have hcx1 := isV_t.1 hc); rw [if_neg (by simp_all)] at hM; refine Runs.skip ?_; refine Runs.regO (.inl rfl) nzc (fun R hR => ?_); simp (disch := omega) [if_t, hn, s0, s1, s2, s7]; refine hR _ _ _ (by simp) ?_; clear hR R; dsimp only [thenQ, blockQ]; refine ⟨k1 - 1, by omega, i + 1, ?_, ?_, ?_, ?_, ?_, ?_, ?_, ?_⟩
       ·omega
       ·simp (disch := omega) [hE1] <;> omega
       ·simp (disch := omega) [if_t, hn, s0, s1, s2, s7]
       ·simp (disch := omega) [if_t, hn, s0, s1, s2, s7]
       ·simp (disch := omega) [if_t, hn, s0, s1, s2, s7]
       ·simp (disch := omega) [if_t, hn, s0, s1, s2, s7]
       ·first | omega | assumption
       ·rw [hM])))
  ·first | (simp at hc; done) |
    (
    (try simp at hc); (try have hcx0 := inR_t.1 hc); (try have hcx1 := isV_t.1 hc); rw [List.drop_of_length_le (by omega)] at hM; refine Runs.exit ?_; refine Runs.cseq ?_; refine Runs.regO (.inl rfl) nzc (fun R hR => ?_); simp (disch := omega) [if_t, hn, s0, s1, s2, s7]; refine hR _ _ _ (by simp) ?_; clear hR R; refine Runs.ret ?_; dsimp only [thenQ, blockQ]; refine ⟨by simp, by simp (disch := omega) [hE1] <;> omega, ?_⟩
    simp (disch := omega) [if_t, hn, s0, s1, s2, s7, resD, resL, resV] <;> (first | omega | (simp_all [dIn]; done) | (simp_all [dIn] <;> omega)))
 ·skip
  refine ⟨0, ?_, ?_, ?_, ?_, ?_, ?_, ?_, ?_⟩
  ·omega
  ·simp
  ·simp (disch := omega) [if_t, hn]
  ·simp (disch := omega) [if_t, hn]
  ·simp (disch := omega) [if_t, hn]
  ·simp (disch := omega) [if_t, hn]
  ·first | omega | simp | rfl
  ·rfl

set_option maxHeartbeats 1000000 in
/-- spec.supported -/
@[simp] theorem c_spec_supported (es d : List Ent) (r : List Int) (n : Nat) (hn : n ≠ 0) (p0 : sizL es ≤ 1152921504606846976) (p1 : sizL d ≤ 1152921504606846976) (p2 : r.length = 3) (p3 : -9999 ≤ ix r 2) (p4 : ix r 2 ≤ 9999) : cfg.call 53 [cl es, cl d, cl r] n = some (bi (supp es d r), n, []) := by
 refine call_runs0 rfl Try.func53 rfl (by kernel_rfl) rfl (by simp (disch := omega) [low_agg, low_pt, low_fn]) ?_; refine Runs.cseq ?_; refine Runs.regO (.inl rfl) nzc (fun R hR => ?_); simp (disch := omega) [if_t, hn]; refine hR _ _ _ (by simp) ?_; clear hR R; refine Runs.cseq ?_; refine Runs.cseq ?_; refine Runs.regO (.inl rfl) nzc (fun R hR => ?_); simp (disch := omega) [if_t, hn]; refine hR _ _ _ (by simp) ?_; clear hR R; refine Runs.condI fun d hd => ?_; simp (disch := omega) [if_t, hn] at hd; subst hd; refine cond_b (fun hc => ?_) (fun hc => ?_)
 ·first | (simp at hc; done) |
   (
   (try simp at hc); (try have hcx0 := inR_t.1 hc); (try have hcx1 := isV_t.1 hc); have hv : supp es d r = decide (0 < wOf es (r.take 2)) := by rw [supp, if_pos hc]
   refine Runs.cseq ?_; refine Runs.regO (.inl rfl) nzc (fun R hR => ?_); simp (disch := omega) [if_t, hn]; refine hR _ _ _ (by simp) ?_; clear hR R; refine Runs.ret ?_; dsimp only [thenQ, blockQ]; refine ⟨by simp, by simp (disch := omega) <;> omega, ?_⟩
   simp (disch := omega) [if_t, hn, resD, resL, resV] <;> (first | omega | (simp_all; done) | (simp_all <;> omega)))
 ·first | (simp at hc; done) |
   (
   (try simp at hc); (try have hcx0 := inR_t.1 hc); (try have hcx1 := isV_t.1 hc); have hv : supp es d r = anyF (suppW es d r) 0 20 := by rw [supp, if_neg hc]
   refine Runs.skip ?_; refine Runs.cseq ?_; refine Runs.cseq ?_; refine Runs.regO (.inl rfl) nzc (fun R hR => ?_); simp (disch := omega) [if_t, hn]; refine hR _ _ _ (by simp) ?_; clear hR R; refine Runs.cblock ?_; refine Runs.loop (fun k fr n' E => ∃ (w : Nat), n ≤ n' ∧ Go.Cv.Loc n E ∧ fr 0 = cl es ∧ fr 1 = cl d ∧ fr 2 = cl r ∧ fr 7 = ci (w : Int) ∧ w + k = 20 ∧ anyF (suppW es d r) 0 20 = anyF (suppW es d r) w k) ?_ (k := 20) ?_
   ·rintro k1 fr n1 E1 ⟨w, hn1, hE1, s0, s1, s2, s7, hk, hM⟩
    have hz1 : n1 ≠ 0 := by omega
    refine Runs.cseq ?_; refine Runs.cseq ?_; refine Runs.regO (.inl rfl) nzc (fun R hR => ?_); simp (disch := omega) [if_t, hn, s0, s1, s2, s7]; refine hR _ _ _ (by simp) ?_; clear hR R; refine Runs.condI fun d hd => ?_; simp (disch := omega) [if_t, hn, s0, s1, s2, s7] at hd; subst hd; refine cond_b (fun hc => ?_) (fun hc => ?_)
    ·first | (simp at hc; done) |
      (
      (try simp at hc); (try have hcx0 := inR_t.1 hc); (try have hcx1 := isV_t.1 hc); obtain ⟨k1, rfl⟩ : ∃ j, k1 = j + 1 := ⟨k1 - 1, by omega⟩
      rw [anyF_s _ w] at hM; refine Runs.skip ?_; refine Runs.cseq ?_; refine Runs.cblock ?_; refine Runs.cseq ?_; refine Runs.regO (.inr (by kernel_rfl)) nzc (fun R hR => ?_); repeat' (first | (simp (disch := omega) [if_t, hn, s0, s1, s2, s7]) | (with_reducible refine RunsW.splitN (fun hb => ?_) (fun hb => ?_) <;> (try simp only [hb]) <;> (try simp at hb) <;> (try have hx0 := inR_t.1 hb) <;> (try have hx1 := isV_t.1 hb)) | (with_reducible refine RunsW.split (fun hb => ?_) (fun hb => ?_) <;> (try simp only [hb]) <;> (try simp at hb) <;> (try have hx0 := inR_t.1 hb) <;> (try have hx1 := isV_t.1 hb)))
      all_goals (
       refine hR _ _ _ (by simp) ?_; clear hR R; refine Runs.condI fun d hd => ?_; simp (disch := omega) [if_t, hn, s0, s1, s2, s7] at hd; subst hd; refine cond_b (fun hc => ?_) (fun hc => ?_)
       ·first | (simp at hc; done) |
         (
         (try simp at hc); (try have hcx0 := inR_t.1 hc); (try have hcx1 := isV_t.1 hc); have ho : suppW es d r w = true := by unfold suppW; simp_all
         rw [ho, Bool.true_or] at hM; refine Runs.cseq ?_; refine Runs.regO (.inl rfl) nzc (fun R hR => ?_); simp (disch := omega) [if_t, hn, s0, s1, s2, s7]; refine hR _ _ _ (by simp) ?_; clear hR R; refine Runs.ret ?_; dsimp only [thenQ, blockQ]; refine ⟨by simp, by simp (disch := omega) [hE1] <;> omega, ?_⟩
         simp (disch := omega) [if_t, hn, s0, s1, s2, s7, resD, resL, resV] <;> (first | omega | (simp_all; done) | (simp_all <;> omega)))
       ·first | (simp at hc; done) |
         (
         (try simp at hc); (try have hcx0 := inR_t.1 hc); (try have hcx1 := isV_t.1 hc); have ho : suppW es d r w = false := by unfold suppW; simp_all <;> omega
         rw [ho, Bool.false_or] at hM; refine Runs.skip ?_; refine Runs.regO (.inl rfl) nzc (fun R hR => ?_); simp (disch := omega) [if_t, hn, s0, s1, s2, s7]; refine hR _ _ _ (by simp) ?_; clear hR R; dsimp only [thenQ, blockQ]; refine ⟨k1, by omega, w + 1, ?_, ?_, ?_, ?_, ?_, ?_, ?_, ?_⟩
         ·omega
         ·simp (disch := omega) [hE1] <;> omega
         ·simp (disch := omega) [if_t, hn, s0, s1, s2, s7]
         ·simp (disch := omega) [if_t, hn, s0, s1, s2, s7]
         ·simp (disch := omega) [if_t, hn, s0, s1, s2, s7]
         ·simp (disch := omega) [if_t, hn, s0, s1, s2, s7]
         ·first | omega | assumption
         ·rw [hM])))
    ·first | (simp at hc; done) |
      (
      (try simp at hc); (try have hcx0 := inR_t.1 hc); (try have hcx1 := isV_t.1 hc); obtain rfl : k1 = 0 := by omega
      rw [anyF_z _ w] at hM; refine Runs.exit ?_; refine Runs.cseq ?_; refine Runs.regO (.inl rfl) nzc (fun R hR => ?_); simp (disch := omega) [if_t, hn, s0, s1, s2, s7]; refine hR _ _ _ (by simp) ?_; clear hR R; refine Runs.ret ?_; dsimp only [thenQ, blockQ]; refine ⟨by simp, by simp (disch := omega) [hE1] <;> omega, ?_⟩
      simp (disch := omega) [if_t, hn, s0, s1, s2, s7, resD, resL, resV] <;> (first | omega | (simp_all; done) | (simp_all <;> omega)))
   ·skip
    refine ⟨0, ?_, ?_, ?_, ?_, ?_, ?_, ?_, ?_⟩
    ·omega
    ·simp
    ·simp (disch := omega) [if_t, hn]
    ·simp (disch := omega) [if_t, hn]
    ·simp (disch := omega) [if_t, hn]
    ·simp (disch := omega) [if_t, hn]
    ·first | omega | simp | rfl
    ·rfl)

def cellV (G : Nat → Nat → Bool) (f : Nat → Nat → Int) (x y w : Nat) : Bool := !(G y w && (decide (f x w = 0) || decide (f x y + 1 < f x w)))
def cellS (G : Nat → Nat → Bool) (f : Nat → Nat → Int) (x y w : Nat) : Bool := decide (f x w = f x y - 1) && (decide (0 < f x w) && G w y)
def cellOk (G : Nat → Nat → Bool) (f : Nat → Nat → Int) (x y : Nat) : Bool :=
  (G x y == decide (f x y = 1)) && (decide (f x y = 0) || (allF (cellV G f x y) 0 20 && (decide (f x y = 1) || anyF (cellS G f x y) 0 20)))
def rowI (f : Nat → Nat → Int) (r : List Int) : Bool := decide (r.length = 3) && (isV (ix r 0) && (isV (ix r 1) && (decide (1 ≤ ix r 2) && decide (f (ix r 0).toNat (ix r 1).toNat = 0))))
def farF : List Ent → (Nat → Nat → Int) → Option (Nat → Nat → Int)
  | [], f => some f
  | e :: es, f => if rowI f e.row = true then farF es (upd2 f (ix e.row 0).toNat (ix e.row 1).toNat (ix e.row 2)) else none
def ccPre (es d : List Ent) : Bool := validE es && (allSet d && validZ d)
def ccI (es d : List Ent) : Bool := ccPre es d && (match farF d (fun _ _ => 0) with | some f => allF (fun x => allF (cellOk (adjG es) f x) 0 20) 0 20 | none => false)
def small (f : Nat → Nat → Int) : Prop := ∀ x y, 0 ≤ f x y ∧ f x y ≤ 9999
theorem small_upd {f : Nat → Nat → Int} (h : small f) {a b : Nat} {v : Int} (h0 : 0 ≤ v) (h1 : v ≤ 9999) : small (upd2 f a b v) := fun x y => by
  unfold upd2; split
  · exact ⟨h0, h1⟩
  · exact h x y
theorem allOk_ix : ∀ {xs : List Int} {j : Nat}, allOk xs = true → j < xs.length → -9999 ≤ ix xs j ∧ ix xs j ≤ 9999
  | x :: xs, 0, h, _ => by simp only [allOk, Bool.and_eq_true] at h; exact inR_t.1 h.1
  | x :: xs, j + 1, h, hj => by simp only [allOk, Bool.and_eq_true] at h; rw [ix_succ]; exact allOk_ix h.2 (by simpa using hj)
theorem okFrom_iff (es : List Ent) : ∀ (m i : Nat), okFrom es i m = true ↔ ∀ j, i ≤ j → j < i + m → okEnt es j = true
  | 0, i => by simp [okFrom]; intro j h1 h2; omega
  | m + 1, i => by
    rw [okFrom, Bool.and_eq_true, okFrom_iff es m (i + 1)]
    constructor
    · rintro ⟨h1, h2⟩ j a b
      by_cases hj : j = i
      · rw [hj]; exact h1
      · exact h2 j (by omega) (by omega)
    · intro h
      exact ⟨h i (Nat.le_refl _) (by omega), fun j a b => h j (by omega) (by omega)⟩
theorem validZ_ok {es : List Ent} (h : validZ es = true) {i : Nat} (hi : i < es.length) : okEnt es i = true := by
  simp only [validZ, Bool.and_eq_true] at h
  exact (okFrom_iff es es.length 0).1 h.1 i (by omega) (by omega)
theorem zval {es : List Ent} (h : validZ es = true) {i : Nat} (hi : i < es.length) {j : Nat} (hj : j < (ix es i).row.length) : -9999 ≤ ix (ix es i).row j ∧ ix (ix es i).row j ≤ 9999 := by
  have := validZ_ok h hi
  simp only [okEnt, validRow, Bool.and_eq_true] at this
  exact allOk_ix this.1.1 hj

set_option maxHeartbeats 1000000 in
/-- impl.CheckClosure -/
@[simp] theorem c_impl_CheckClosure (es d : List Ent) (n : Nat) (hn : n ≠ 0) (p0 : sizL es ≤ 1152921504606846976) (p1 : sizL d ≤ 1152921504606846976) : cfg.call 22 [cl es, cl d] n = some (bi (ccI es d), n, []) := by
 refine call_runs0 rfl Try.func22 rfl (by kernel_rfl) rfl (by simp (disch := omega) [low_agg, low_pt, low_fn]) ?_; have hl_es := len_siz es
 have hl_d := len_siz d
 refine Runs.cseq ?_; refine Runs.regO (.inl rfl) nzc (fun R hR => ?_); simp (disch := omega) [if_t, hn]; refine hR _ _ _ (by simp) ?_; clear hR R; refine Runs.cseq ?_; refine Runs.cseq ?_; refine Runs.regO (.inl rfl) nzc (fun R hR => ?_); repeat' (first | (simp (disch := omega) [if_t, hn]) | (with_reducible refine RunsW.splitN (fun hb => ?_) (fun hb => ?_) <;> (try simp only [hb]) <;> (try simp at hb) <;> (try have hx0 := inR_t.1 hb) <;> (try have hx1 := isV_t.1 hb)) | (with_reducible refine RunsW.split (fun hb => ?_) (fun hb => ?_) <;> (try simp only [hb]) <;> (try simp at hb) <;> (try have hx0 := inR_t.1 hb) <;> (try have hx1 := isV_t.1 hb)))
 all_goals (
  refine hR _ _ _ (by simp) ?_; clear hR R; refine Runs.condI fun d hd => ?_; simp (disch := omega) [if_t, hn] at hd; subst hd; refine cond_b (fun hc => ?_) (fun hc => ?_)
  ·first | (simp at hc; done) |
    (
    (try simp at hc); (try have hcx0 := inR_t.1 hc); (try have hcx1 := isV_t.1 hc); have hp : ccPre es d = false := by clear hl_es hl_d; simp_all [ccPre]; try (intro h; simp_all)
    have hv : ccI es d = false := by rw [ccI, hp]; rfl
    refine Runs.cseq ?_; refine Runs.regO (.inl rfl) nzc (fun R hR => ?_); simp (disch := omega) [if_t, hn]; refine hR _ _ _ (by simp) ?_; clear hR R; refine Runs.ret ?_; dsimp only [thenQ, blockQ]; refine ⟨by simp, by simp (disch := omega) <;> omega, ?_⟩
    simp (disch := omega) [if_t, hn, resD, resL, resV] <;> (first | omega | (simp_all; done) | (simp_all <;> omega)))
  ·first | (simp at hc; done) |
    (
    (try simp at hc); (try have hcx0 := inR_t.1 hc); (try have hcx1 := isV_t.1 hc); have hpz := hc
    have hp : ccPre es d = true := by simp_all [ccPre]
    refine Runs.skip ?_; refine Runs.cseq ?_; refine Runs.regO (.inl rfl) nzc (fun R hR => ?_); simp (disch := omega) [if_t, hn, c_impl_adjacency es _ hn p0 (by simp_all [validE])]; refine hR _ _ _ (by simp) ?_; clear hR R; refine Runs.cseq ?_; refine Runs.regO (.inl rfl) nzc (fun R hR => ?_); simp (disch := omega) [if_t, hn]; refine hR _ _ _ (by simp) ?_; clear hR R; refine Runs.cseq ?_; refine Runs.cseq ?_; refine Runs.regO (.inl rfl) nzc (fun R hR => ?_); simp (disch := omega) [if_t, hn]; refine hR _ _ _ (by simp) ?_; clear hR R; refine Runs.cblock ?_; refine Runs.loop (fun k fr n' E => ∃ (i : Nat) (f : Nat → Nat → Int), n + 2 ≤ n' ∧ Go.Cv.Loc n E ∧ fr 5 = .pt n 0 (mat (adjG es)) ∧ fr 6 = .pt (n + 1) 0 (mat f) ∧ fr 24 = cl d ∧ fr 25 = ci (d.length : Int) ∧ fr 26 = ci (i : Int) ∧ i + k = d.length ∧ farF d (fun _ _ => 0) = farF (d.drop i) f ∧ small f) ?_ (k := d.length) ?_
    ·rintro k1 fr n1 E1 ⟨i, f, hn1, hE1, s5, s6, s24, s25, s26, hk, hF, hs⟩
     have hz1 : n1 ≠ 0 := by omega
     refine Runs.cseq ?_; refine Runs.regO (.inl rfl) nzc (fun R hR => ?_); simp (disch := omega) [if_t, hn, s5, s6, s24, s25, s26]; refine hR _ _ _ (by simp) ?_; clear hR R; refine Runs.cseq ?_; refine Runs.condI fun d hd => ?_; simp (disch := omega) [if_t, hn, s5, s6, s24, s25, s26] at hd; subst hd; refine cond_b (fun hc => ?_) (fun hc => ?_)
     ·first | (simp at hc; done) |
       (
       (try simp at hc); (try have hcx0 := inR_t.1 hc); (try have hcx1 := isV_t.1 hc); have hdi := hc
       have hsz := siz_ix hc
       simp at hsz; rw [drop_ix hc, farF] at hF; refine Runs.skip ?_; refine Runs.cseq ?_; refine Runs.cblock ?_; refine Runs.cseq ?_; refine Runs.regO (.inl rfl) nzc (fun R hR => ?_); simp (disch := omega) [if_t, hn, s5, s6, s24, s25, s26]; refine hR _ _ _ (by simp) ?_; clear hR R; refine Runs.cseq ?_; refine Runs.cseq ?_; refine Runs.regO (.inr (by kernel_rfl)) nzc (fun R hR => ?_); repeat' (first | (simp (disch := omega) [if_t, hn, s5, s6, s24, s25, s26]) | (with_reducible refine RunsW.splitN (fun hb => ?_) (fun hb => ?_) <;> (try simp only [hb]) <;> (try simp at hb) <;> (try have hx0 := inR_t.1 hb) <;> (try have hx1 := isV_t.1 hb)) | (with_reducible refine RunsW.split (fun hb => ?_) (fun hb => ?_) <;> (try simp only [hb]) <;> (try simp at hb) <;> (try have hx0 := inR_t.1 hb) <;> (try have hx1 := isV_t.1 hb)))
       all_goals (
        refine hR _ _ _ (by simp) ?_; clear hR R; refine Runs.condI fun d hd => ?_; simp (disch := omega) [if_t, hn, s5, s6, s24, s25, s26] at hd; subst hd; refine cond_b (fun hc => ?_) (fun hc => ?_)
        ·first | (simp at hc; done) |
          (
          (try simp at hc); (try have hcx0 := inR_t.1 hc); (try have hcx1 := isV_t.1 hc); have ho : rowI f (ix d i).row = false := by clear hF; simp_all [rowI] <;> omega
          rw [if_neg (by simp [ho])] at hF; have hv : ccI es d = false := by rw [ccI, hF]; simp
          refine Runs.cseq ?_; refine Runs.regO (.inl rfl) nzc (fun R hR => ?_); simp (disch := omega) [if_t, hn, s5, s6, s24, s25, s26]; refine hR _ _ _ (by simp) ?_; clear hR R; refine Runs.ret ?_; dsimp only [thenQ, blockQ]; refine ⟨by simp, by simp (disch := omega) [hE1] <;> omega, ?_⟩
          simp (disch := omega) [if_t, hn, s5, s6, s24, s25, s26, resD, resL, resV] <;> (first | omega | (simp_all; done) | (simp_all <;> omega)))
        ·first | (simp at hc; done) |
          (
          (try simp at hc); (try have hcx0 := inR_t.1 hc); (try have hcx1 := isV_t.1 hc); have ho : rowI f (ix d i).row = true := by clear hF; simp_all [rowI] <;> omega
          rw [if_pos ho] at hF; refine Runs.skip ?_; refine Runs.regO (.inr (by kernel_rfl)) nzc (fun R hR => ?_); simp (disch := omega) [if_t, hn, s5, s6, s24, s25, s26]; refine hR _ _ _ (by simp) ?_; clear hR R; refine Runs.regO (.inl rfl) nzc (fun R hR => ?_); simp (disch := omega) [if_t, hn, s5, s6, s24, s25, s26]; refine hR _ _ _ (by simp) ?_; clear hR R; dsimp only [thenQ, blockQ]; refine ⟨k1 - 1, by omega, i + 1, upd2 f (ix (ix d i).row 0).toNat (ix (ix d i).row 1).toNat (ix (ix d i).row 2), ?_, ?_, ?_, ?_, ?_, ?_, ?_, ?_, ?_, ?_⟩
          ·omega
          ·simp (disch := omega) [hE1] <;> omega
          ·simp (disch := omega) [if_t, hn, s5, s6, s24, s25, s26]
          ·simp (disch := omega) [if_t, hn, s5, s6, s24, s25, s26]
          ·simp (disch := omega) [if_t, hn, s5, s6, s24, s25, s26]
          ·simp (disch := omega) [if_t, hn, s5, s6, s24, s25, s26]
          ·simp (disch := omega) [if_t, hn, s5, s6, s24, s25, s26]
          ·first | omega | assumption
          ·rw [hF]
          ·exact small_upd hs (by omega) (zval hpz.2 hdi (by omega)).2)))
     ·first | (simp at hc; done) |
       (
       (try simp at hc); (try have hcx0 := inR_t.1 hc); (try have hcx1 := isV_t.1 hc); rw [List.drop_of_length_le (by omega)] at hF; have hfar : farF d (fun _ _ => 0) = some f := by rw [hF]; rfl
       refine Runs.exit ?_; refine Runs.cseq ?_; refine Runs.cseq ?_; refine Runs.regO (.inl rfl) nzc (fun R hR => ?_); simp (disch := omega) [if_t, hn, s5, s6, s24, s25, s26]; refine hR _ _ _ (by simp) ?_; clear hR R; refine Runs.cblock ?_; refine Runs.loop (fun k fr n' E => ∃ (x : Nat), n + 2 ≤ n' ∧ Go.Cv.Loc n E ∧ fr 5 = .pt n 0 (mat (adjG es)) ∧ fr 6 = .pt (n + 1) 0 (mat f) ∧ fr 86 = ci (x : Int) ∧ x + k = 20 ∧ allF (fun x => allF (cellOk (adjG es) f x) 0 20) 0 20 = allF (fun x => allF (cellOk (adjG es) f x) 0 20) x k) ?_ (k := 20) ?_
       ·rintro k2 fr n2 E2 ⟨x, hn2, hE2, s5, s6, s86, hkx, hX⟩
        have hz2 : n2 ≠ 0 := by omega
        refine Runs.cseq ?_; refine Runs.regO (.inl rfl) nzc (fun R hR => ?_); simp (disch := omega) [if_t, hn, s5, s6, s86]; refine hR _ _ _ (by simp) ?_; clear hR R; refine Runs.cseq ?_; refine Runs.condI fun d hd => ?_; simp (disch := omega) [if_t, hn, s5, s6, s86] at hd; subst hd; refine cond_b (fun hc => ?_) (fun hc => ?_)
        ·first | (simp at hc; done) |
          (
          (try simp at hc); (try have hcx0 := inR_t.1 hc); (try have hcx1 := isV_t.1 hc); obtain ⟨k2, rfl⟩ : ∃ j, k2 = j + 1 := ⟨k2 - 1, by omega⟩
          rw [allF_s _ x] at hX; (try dsimp only at hX); refine Runs.skip ?_; refine Runs.cseq ?_; refine Runs.cblock ?_; refine Runs.cseq ?_; refine Runs.regO (.inl rfl) nzc (fun R hR => ?_); simp (disch := omega) [if_t, hn, s5, s6, s86]; refine hR _ _ _ (by simp) ?_; clear hR R; refine Runs.cseq ?_; refine Runs.regO (.inl rfl) nzc (fun R hR => ?_); simp (disch := omega) [if_t, hn, s5, s6, s86]; refine hR _ _ _ (by simp) ?_; clear hR R; refine Runs.cblock ?_; refine Runs.loop (fun k fr n' E => ∃ (y : Nat), n + 2 ≤ n' ∧ Go.Cv.Loc n E ∧ fr 5 = .pt n 0 (mat (adjG es)) ∧ fr 6 = .pt (n + 1) 0 (mat f) ∧ fr 9 = ci (x : Int) ∧ fr 86 = ci (x : Int) ∧ fr 89 = ci (y : Int) ∧ y + k = 20 ∧ allF (cellOk (adjG es) f x) 0 20 = allF (cellOk (adjG es) f x) y k) ?_ (k := 20) ?_
          ·rintro k3 fr n3 E3 ⟨y, hn3, hE3, s5, s6, s9, s86, s89, hky, hY⟩
           have hz3 : n3 ≠ 0 := by omega
           refine Runs.cseq ?_; refine Runs.regO (.inl rfl) nzc (fun R hR => ?_); simp (disch := omega) [if_t, hn, s5, s6, s9, s86, s89]; refine hR _ _ _ (by simp) ?_; clear hR R; refine Runs.cseq ?_; refine Runs.condI fun d hd => ?_; simp (disch := omega) [if_t, hn, s5, s6, s9, s86, s89] at hd; subst hd; refine cond_b (fun hc => ?_) (fun hc => ?_)
           ·first | (simp at hc; done) |
             (
             (try simp at hc); (try have hcx0 := inR_t.1 hc); (try have hcx1 := isV_t.1 hc); obtain ⟨k3, rfl⟩ : ∃ j, k3 = j + 1 := ⟨k3 - 1, by omega⟩
             rw [allF_s _ y] at hY; have hsy := hs x y
             refine Runs.skip ?_; refine Runs.cseq ?_; refine Runs.cblock ?_; refine Runs.cseq ?_; refine Runs.regO (.inl rfl) nzc (fun R hR => ?_); simp (disch := omega) [if_t, hn, s5, s6, s9, s86, s89]; refine hR _ _ _ (by simp) ?_; clear hR R; refine Runs.cseq ?_; refine Runs.cseq ?_; refine Runs.regO (.inr (by kernel_rfl)) nzc (fun R hR => ?_); simp (disch := omega) [if_t, hn, s5, s6, s9, s86, s89]; refine hR _ _ _ (by simp) ?_; clear hR R; refine Runs.condI fun d hd => ?_; simp (disch := omega) [if_t, hn, s5, s6, s9, s86, s89] at hd; subst hd; refine cond_b (fun hc => ?_) (fun hc => ?_)
             ·first | (simp at hc; done) |
               (
               (try simp at hc); (try have hcx0 := inR_t.1 hc); (try have hcx1 := isV_t.1 hc); have ho : cellOk (adjG es) f x y = false := by clear hX hY hF hfar; unfold cellOk; simp_all
               rw [ho, Bool.false_and] at hY; rw [hY, Bool.false_and] at hX; have hv : ccI es d = false := by rw [ccI, hfar]; simp only [hX, Bool.and_false]
               refine Runs.cseq ?_; refine Runs.regO (.inl rfl) nzc (fun R hR => ?_); simp (disch := omega) [if_t, hn, s5, s6, s9, s86, s89]; refine hR _ _ _ (by simp) ?_; clear hR R; refine Runs.ret ?_; dsimp only [thenQ, blockQ]; refine ⟨by simp, by simp (disch := omega) [hE1, hE2, hE3] <;> omega, ?_⟩
               simp (disch := omega) [if_t, hn, s5, s6, s9, s86, s89, resD, resL, resV] <;> (first | omega | (simp_all; done) | (simp_all <;> omega)))
             ·first | (simp at hc; done) |
               (
               (try simp at hc); (try have hcx0 := inR_t.1 hc); (try have hcx1 := isV_t.1 hc); have h5 := hc
               refine Runs.skip ?_; refine Runs.cseq ?_; refine Runs.cseq ?_; refine Runs.regO (.inl rfl) nzc (fun R hR => ?_); simp (disch := omega) [if_t, hn, s5, s6, s9, s86, s89]; refine hR _ _ _ (by simp) ?_; clear hR R; refine Runs.condI fun d hd => ?_; simp (disch := omega) [if_t, hn, s5, s6, s9, s86, s89] at hd; subst hd; refine cond_b (fun hc => ?_) (fun hc => ?_)
               ·first | (simp at hc; done) |
                 (
                 (try simp at hc); (try have hcx0 := inR_t.1 hc); (try have hcx1 := isV_t.1 hc); have ho : cellOk (adjG es) f x y = true := by clear hX hY hF hfar; unfold cellOk; simp_all
                 rw [ho, Bool.true_and] at hY; refine Runs.exit ?_; refine Runs.regO (.inl rfl) nzc (fun R hR => ?_); simp (disch := omega) [if_t, hn, s5, s6, s9, s86, s89]; refine hR _ _ _ (by simp) ?_; clear hR R; dsimp only [thenQ, blockQ]; refine ⟨k3, by omega, y + 1, ?_, ?_, ?_, ?_, ?_, ?_, ?_, ?_, ?_⟩
                 ·omega
                 ·simp (disch := omega) [hE1, hE2, hE3] <;> omega
                 ·simp (disch := omega) [if_t, hn, s5, s6, s9, s86, s89]
                 ·simp (disch := omega) [if_t, hn, s5, s6, s9, s86, s89]
                 ·simp (disch := omega) [if_t, hn, s5, s6, s9, s86, s89]
                 ·simp (disch := omega) [if_t, hn, s5, s6, s9, s86, s89]
                 ·simp (disch := omega) [if_t, hn, s5, s6, s9, s86, s89]
                 ·first | omega | assumption
                 ·rw [hY])
               ·first | (simp at hc; done) |
                 (
                 (try simp at hc); (try have hcx0 := inR_t.1 hc); (try have hcx1 := isV_t.1 hc); have hcell : cellOk (adjG es) f x y = (allF (cellV (adjG es) f x y) 0 20 && (decide (f x y = 1) || anyF (cellS (adjG es) f x y) 0 20)) := by clear hX hY hF hfar; unfold cellOk; simp_all
                 refine Runs.skip ?_; refine Runs.cseq ?_; refine Runs.regO (.inl rfl) nzc (fun R hR => ?_); simp (disch := omega) [if_t, hn, s5, s6, s9, s86, s89]; refine hR _ _ _ (by simp) ?_; clear hR R; refine Runs.cseq ?_; refine Runs.cseq ?_; refine Runs.regO (.inl rfl) nzc (fun R hR => ?_); simp (disch := omega) [if_t, hn, s5, s6, s9, s86, s89]; refine hR _ _ _ (by simp) ?_; clear hR R; refine Runs.cblock ?_; refine Runs.loop (fun k fr n' E => ∃ (w : Nat) (fd : Bool), n + 2 ≤ n' ∧ Go.Cv.Loc n E ∧ fr 5 = .pt n 0 (mat (adjG es)) ∧ fr 6 = .pt (n + 1) 0 (mat f) ∧ fr 9 = ci (x : Int) ∧ fr 10 = ci (y : Int) ∧ fr 11 = bi fd ∧ fr 86 = ci (x : Int) ∧ fr 89 = ci (y : Int) ∧ fr 116 = ci (w : Int) ∧ w + k = 20 ∧ cellOk (adjG es) f x y = (allF (cellV (adjG es) f x y) w k && (fd || anyF (cellS (adjG es) f x y) w k))) ?_ (k := 20) ?_
                 ·rintro k4 fr n4 E4 ⟨w, fd, hn4, hE4, s5, s6, s9, s10, s11, s86, s89, s116, hkw, hW⟩
                  have hz4 : n4 ≠ 0 := by omega
                  refine Runs.cseq ?_; refine Runs.regO (.inl rfl) nzc (fun R hR => ?_); simp (disch := omega) [if_t, hn, s5, s6, s9, s10, s11, s86, s89, s116]; refine hR _ _ _ (by simp) ?_; clear hR R; refine Runs.cseq ?_; refine Runs.condI fun d hd => ?_; simp (disch := omega) [if_t, hn, s5, s6, s9, s10, s11, s86, s89, s116] at hd; subst hd; refine cond_b (fun hc => ?_) (fun hc => ?_)
                  ·first | (simp at hc; done) |
                    (
                    (try simp at hc); (try have hcx0 := inR_t.1 hc); (try have hcx1 := isV_t.1 hc); obtain ⟨k4, rfl⟩ : ∃ j, k4 = j + 1 := ⟨k4 - 1, by omega⟩
                    rw [allF_s _ w, anyF_s _ w] at hW; have hsw := hs x w
                    refine Runs.skip ?_; refine Runs.cseq ?_; refine Runs.cblock ?_; refine Runs.cseq ?_; refine Runs.regO (.inl rfl) nzc (fun R hR => ?_); simp (disch := omega) [if_t, hn, s5, s6, s9, s10, s11, s86, s89, s116]; refine hR _ _ _ (by simp) ?_; clear hR R; refine Runs.cseq ?_; refine Runs.regO (.inr (by kernel_rfl)) nzc (fun R hR => ?_); repeat' (first | (simp (disch := omega) [if_t, hn, s5, s6, s9, s10, s11, s86, s89, s116]) | (with_reducible refine RunsW.splitN (fun hb => ?_) (fun hb => ?_) <;> (try simp only [hb]) <;> (try simp at hb) <;> (try have hx0 := inR_t.1 hb) <;> (try have hx1 := isV_t.1 hb)) | (with_reducible refine RunsW.split (fun hb => ?_) (fun hb => ?_) <;> (try simp only [hb]) <;> (try simp at hb) <;> (try have hx0 := inR_t.1 hb) <;> (try have hx1 := isV_t.1 hb)))
                    all_goals (
                     refine hR _ _ _ (by simp) ?_; clear hR R; refine Runs.cseq ?_; refine Runs.regO (.inr (by kernel_rfl)) nzc (fun R hR => ?_); repeat' (first | (simp (disch := omega) [if_t, hn, s5, s6, s9, s10, s11, s86, s89, s116]) | (with_reducible refine RunsW.splitN (fun hb => ?_) (fun hb => ?_) <;> (try simp only [hb]) <;> (try simp at hb) <;> (try have hx0 := inR_t.1 hb) <;> (try have hx1 := isV_t.1 hb)) | (with_reducible refine RunsW.split (fun hb => ?_) (fun hb => ?_) <;> (try simp only [hb]) <;> (try simp at hb) <;> (try have hx0 := inR_t.1 hb) <;> (try have hx1 := isV_t.1 hb)))
                     all_goals (
                      refine hR _ _ _ (by simp) ?_; clear hR R; refine Runs.condI fun d hd => ?_; simp (disch := omega) [if_t, hn, s5, s6, s9, s10, s11, s86, s89, s116] at hd; subst hd; refine cond_b (fun hc => ?_) (fun hc => ?_)
                      ·first | (simp at hc; done) |
                        (
                        (try simp at hc); (try have hcx0 := inR_t.1 hc); (try have hcx1 := isV_t.1 hc); have hv0 : cellV (adjG es) f x y w = false := by clear hX hY hF hfar hW hcell; unfold cellV; simp_all
                        rw [hv0, Bool.false_and, Bool.false_and] at hW; rw [hW, Bool.false_and] at hY; rw [hY, Bool.false_and] at hX; have hv : ccI es d = false := by rw [ccI, hfar]; simp only [hX, Bool.and_false]
                        refine Runs.cseq ?_; refine Runs.regO (.inl rfl) nzc (fun R hR => ?_); simp (disch := omega) [if_t, hn, s5, s6, s9, s10, s11, s86, s89, s116]; refine hR _ _ _ (by simp) ?_; clear hR R; refine Runs.ret ?_; dsimp only [thenQ, blockQ]; refine ⟨by simp, by simp (disch := omega) [hE1, hE2, hE3, hE4] <;> omega, ?_⟩
                        simp (disch := omega) [if_t, hn, s5, s6, s9, s10, s11, s86, s89, s116, resD, resL, resV] <;> (first | omega | (simp_all; done) | (simp_all <;> omega)))
                      ·first | (simp at hc; done) |
                        (
                        (try simp at hc); (try have hcx0 := inR_t.1 hc); (try have hcx1 := isV_t.1 hc); have hv0 : cellV (adjG es) f x y w = true := by clear hX hY hF hfar hW hcell; unfold cellV; simp_all
                        rw [hv0, Bool.true_and] at hW; refine Runs.skip ?_; refine Runs.regO (.inl rfl) nzc (fun R hR => ?_); simp (disch := omega) [if_t, hn, s5, s6, s9, s10, s11, s86, s89, s116]; refine hR _ _ _ (by simp) ?_; clear hR R; dsimp only [thenQ, blockQ]; refine ⟨k4, by omega, w + 1, fd || cellS (adjG es) f x y w, ?_, ?_, ?_, ?_, ?_, ?_, ?_, ?_, ?_, ?_, ?_, ?_⟩
                        ·omega
                        ·simp (disch := omega) [hE1, hE2, hE3, hE4] <;> omega
                        ·simp (disch := omega) [if_t, hn, s5, s6, s9, s10, s11, s86, s89, s116]
                        ·simp (disch := omega) [if_t, hn, s5, s6, s9, s10, s11, s86, s89, s116]
                        ·simp (disch := omega) [if_t, hn, s5, s6, s9, s10, s11, s86, s89, s116]
                        ·simp (disch := omega) [if_t, hn, s5, s6, s9, s10, s11, s86, s89, s116]
                        ·simp (disch := omega) [if_t, hn, s5, s6, s9, s10, s11, s86, s89, s116]
                         all_goals (simp_all [cellS] <;> (try (intro _; omega)))
                        ·simp (disch := omega) [if_t, hn, s5, s6, s9, s10, s11, s86, s89, s116]
                        ·simp (disch := omega) [if_t, hn, s5, s6, s9, s10, s11, s86, s89, s116]
                        ·simp (disch := omega) [if_t, hn, s5, s6, s9, s10, s11, s86, s89, s116]
                        ·first | omega | assumption
                        ·rw [hW, Bool.or_assoc]))))
                  ·first | (simp at hc; done) |
                    (
                    (try simp at hc); (try have hcx0 := inR_t.1 hc); (try have hcx1 := isV_t.1 hc); obtain rfl : k4 = 0 := by omega
                    rw [allF_z _ w, anyF_z _ w, Bool.true_and, Bool.or_false] at hW; refine Runs.exit ?_; refine Runs.cseq ?_; refine Runs.regO (.inl rfl) nzc (fun R hR => ?_); simp (disch := omega) [if_t, hn, s5, s6, s9, s10, s11, s86, s89, s116]; refine hR _ _ _ (by simp) ?_; clear hR R; refine Runs.condI fun d hd => ?_; simp (disch := omega) [if_t, hn, s5, s6, s9, s10, s11, s86, s89, s116] at hd; subst hd; refine cond_b (fun hc => ?_) (fun hc => ?_)
                    ·first | (simp at hc; done) |
                      (
                      (try simp at hc); (try have hcx0 := inR_t.1 hc); (try have hcx1 := isV_t.1 hc); rw [hc] at hW; rw [hW, Bool.false_and] at hY; rw [hY, Bool.false_and] at hX; have hv : ccI es d = false := by rw [ccI, hfar]; simp only [hX, Bool.and_false]
                      refine Runs.cseq ?_; refine Runs.regO (.inl rfl) nzc (fun R hR => ?_); simp (disch := omega) [if_t, hn, s5, s6, s9, s10, s11, s86, s89, s116]; refine hR _ _ _ (by simp) ?_; clear hR R; refine Runs.ret ?_; dsimp only [thenQ, blockQ]; refine ⟨by simp, by simp (disch := omega) [hE1, hE2, hE3, hE4] <;> omega, ?_⟩
                      simp (disch := omega) [if_t, hn, s5, s6, s9, s10, s11, s86, s89, s116, resD, resL, resV] <;> (first | omega | (simp_all; done) | (simp_all <;> omega)))
                    ·first | (simp at hc; done) |
                      (
                      (try simp at hc); (try have hcx0 := inR_t.1 hc); (try have hcx1 := isV_t.1 hc); rw [hc] at hW; rw [hW, Bool.true_and] at hY; refine Runs.skip ?_; refine Runs.regO (.inl rfl) nzc (fun R hR => ?_); simp (disch := omega) [if_t, hn, s5, s6, s9, s10, s11, s86, s89, s116]; refine hR _ _ _ (by simp) ?_; clear hR R; dsimp only [thenQ, blockQ]; refine ⟨k3, by omega, y + 1, ?_, ?_, ?_, ?_, ?_, ?_, ?_, ?_, ?_⟩
                      ·omega
                      ·simp (disch := omega) [hE1, hE2, hE3, hE4] <;> omega
                      ·simp (disch := omega) [if_t, hn, s5, s6, s9, s10, s11, s86, s89, s116]
                      ·simp (disch := omega) [if_t, hn, s5, s6, s9, s10, s11, s86, s89, s116]
                      ·simp (disch := omega) [if_t, hn, s5, s6, s9, s10, s11, s86, s89, s116]
                      ·simp (disch := omega) [if_t, hn, s5, s6, s9, s10, s11, s86, s89, s116]
                      ·simp (disch := omega) [if_t, hn, s5, s6, s9, s10, s11, s86, s89, s116]
                      ·first | omega | assumption
                      ·rw [hY]))
                 ·skip
                  refine ⟨0, decide (f x y = 1), ?_, ?_, ?_, ?_, ?_, ?_, ?_, ?_, ?_, ?_, ?_, ?_⟩
                  ·omega
                  ·simp
                  ·simp (disch := omega) [if_t, hn, s5, s6, s9, s86, s89]
                  ·simp (disch := omega) [if_t, hn, s5, s6, s9, s86, s89]
                  ·simp (disch := omega) [if_t, hn, s5, s6, s9, s86, s89]
                  ·simp (disch := omega) [if_t, hn, s5, s6, s9, s86, s89]
                  ·simp (disch := omega) [if_t, hn, s5, s6, s9, s86, s89]
                  ·simp (disch := omega) [if_t, hn, s5, s6, s9, s86, s89]
                  ·simp (disch := omega) [if_t, hn, s5, s6, s9, s86, s89]
                  ·simp (disch := omega) [if_t, hn, s5, s6, s9, s86, s89]
                  ·first | omega | simp | rfl
                  ·rw [hcell])))
           ·first | (simp at hc; done) |
             (
             (try simp at hc); (try have hcx0 := inR_t.1 hc); (try have hcx1 := isV_t.1 hc); obtain rfl : k3 = 0 := by omega
             rw [allF_z _ y] at hY; rw [hY, Bool.true_and] at hX; refine Runs.exit ?_; refine Runs.regO (.inl rfl) nzc (fun R hR => ?_); simp (disch := omega) [if_t, hn, s5, s6, s9, s86, s89]; refine hR _ _ _ (by simp) ?_; clear hR R; dsimp only [thenQ, blockQ]; refine ⟨k2, by omega, x + 1, ?_, ?_, ?_, ?_, ?_, ?_, ?_⟩
             ·omega
             ·simp (disch := omega) [hE1, hE2, hE3] <;> omega
             ·simp (disch := omega) [if_t, hn, s5, s6, s9, s86, s89]
             ·simp (disch := omega) [if_t, hn, s5, s6, s9, s86, s89]
             ·simp (disch := omega) [if_t, hn, s5, s6, s9, s86, s89]
             ·first | omega | assumption
             ·rw [hX])
          ·skip
           refine ⟨0, ?_, ?_, ?_, ?_, ?_, ?_, ?_, ?_, ?_⟩
           ·omega
           ·simp
           ·simp (disch := omega) [if_t, hn, s5, s6, s86]
           ·simp (disch := omega) [if_t, hn, s5, s6, s86]
           ·simp (disch := omega) [if_t, hn, s5, s6, s86]
           ·simp (disch := omega) [if_t, hn, s5, s6, s86]
           ·simp (disch := omega) [if_t, hn, s5, s6, s86]
           ·first | omega | simp | rfl
           ·rfl)
        ·first | (simp at hc; done) |
          (
          (try simp at hc); (try have hcx0 := inR_t.1 hc); (try have hcx1 := isV_t.1 hc); obtain rfl : k2 = 0 := by omega
          rw [allF_z _ x] at hX; have hv : ccI es d = true := by rw [ccI, hfar, hp]; exact hX
          refine Runs.exit ?_; refine Runs.cseq ?_; refine Runs.regO (.inl rfl) nzc (fun R hR => ?_); simp (disch := omega) [if_t, hn, s5, s6, s86]; refine hR _ _ _ (by simp) ?_; clear hR R; refine Runs.ret ?_; dsimp only [thenQ, blockQ]; refine ⟨by simp, by simp (disch := omega) [hE1, hE2] <;> omega, ?_⟩
          simp (disch := omega) [if_t, hn, s5, s6, s86, resD, resL, resV] <;> (first | omega | (simp_all; done) | (simp_all <;> omega)))
       ·skip
        refine ⟨0, ?_, ?_, ?_, ?_, ?_, ?_, ?_⟩
        ·omega
        ·simp
        ·simp (disch := omega) [if_t, hn, s5, s6, s24, s25, s26]
        ·simp (disch := omega) [if_t, hn, s5, s6, s24, s25, s26]
        ·simp (disch := omega) [if_t, hn, s5, s6, s24, s25, s26]
        ·first | omega | simp | rfl
        ·rfl)
    ·skip
     refine ⟨0, fun _ _ => 0, ?_, ?_, ?_, ?_, ?_, ?_, ?_, ?_, ?_, ?_⟩
     ·omega
     ·simp
     ·simp (disch := omega) [if_t, hn]
     ·simp (disch := omega) [if_t, hn]
     ·simp (disch := omega) [if_t, hn]
     ·simp (disch := omega) [if_t, hn]
     ·simp (disch := omega) [if_t, hn]
     ·first | omega | simp | rfl
     ·rfl
     ·exact fun _ _ => ⟨Int.le_refl _, by show (0 : Int) ≤ 9999; decide⟩))

def stepE (d : List Ent) (r : List Int) (e : Ent) : Bool := !(decide (ix e.row 0 = ix r 1) && (decide (dIn d (ix r 0) (ix e.row 1) = 0) || decide (ix r 2 + 1 < dIn d (ix r 0) (ix e.row 1))))
def stepsOk (d : List Ent) (r : List Int) : List Ent → Bool
  | [] => true
  | e :: es => stepE d r e && stepsOk d r es
def edge1 (d : List Ent) : List Ent → Bool
  | [] => true
  | e :: es => decide (dIn d (ix e.row 0) (ix e.row 1) = 1) && edge1 d es
def rowC (es d : List Ent) (i : Nat) : Bool := decide ((ix d i).row.length = 3) && (inR (ix (ix d i).row 0) 0 19 && (inR (ix (ix d i).row 1) 0 19 && (decide (1 ≤ ix (ix d i).row 2) &&
  ((decide (i = 0) || !decide ((ix d (i - 1)).row.take 2 = (ix d i).row.take 2)) && supp es d (ix d i).row))))
def rowAll (es d : List Ent) (i : Nat) : Bool := rowC es d i && stepsOk d (ix d i).row es
def ccS (es d : List Ent) : Bool := ccPre es d && (allF (rowAll es d) 0 d.length && edge1 d es)
theorem all3_of : ∀ {es : List Ent}, (∀ i, i < es.length → (ix es i).row.length = 3) → all3 es = true
  | [], _ => rfl
  | e :: es, h => by
    have h0 := h 0 (by simp)
    rw [all3, Bool.and_eq_true, decide_eq_true_eq]
    exact ⟨h0, all3_of fun i hi => by have := h (i + 1) (by simpa using hi); rwa [ix_succ] at this⟩
theorem zlen {es : List Ent} (h : validZ es = true) {i : Nat} (hi : i < es.length) : (ix es i).row.length = (ix es 0).row.length := by
  have := validZ_ok h hi
  simp only [okEnt, Bool.and_eq_true, decide_eq_true_eq] at this
  exact this.2.1
theorem all3_z {es : List Ent} (h : validZ es = true) {j : Nat} (hj : j < es.length) (h0 : (ix es j).row.length = 3) : all3 es = true :=
  all3_of fun i hi => by rw [zlen h hi, ← zlen h hj]; exact h0

set_option maxHeartbeats 1000000 in
/-- spec.CheckClosure -/
@[simp] theorem c_spec_CheckClosure (es d : List Ent) (n : Nat) (hn : n ≠ 0) (p0 : sizL es ≤ 1152921504606846976) (p1 : sizL d ≤ 1152921504606846976) : cfg.call 21 [cl es, cl d] n = some (bi (ccS es d), n, []) := by
 refine call_runs0 rfl Try.func21 rfl (by kernel_rfl) rfl (by simp (disch := omega) [low_agg, low_pt, low_fn]) ?_; have hl_es := len_siz es
 have hl_d := len_siz d
 refine Runs.cseq ?_; refine Runs.regO (.inl rfl) nzc (fun R hR => ?_); simp (disch := omega) [if_t, hn]; refine hR _ _ _ (by simp) ?_; clear hR R; refine Runs.cseq ?_; refine Runs.cseq ?_; refine Runs.regO (.inl rfl) nzc (fun R hR => ?_); repeat' (first | (simp (disch := omega) [if_t, hn]) | (with_reducible refine RunsW.splitN (fun hb => ?_) (fun hb => ?_) <;> (try simp only [hb]) <;> (try simp at hb) <;> (try have hx0 := inR_t.1 hb) <;> (try have hx1 := isV_t.1 hb)) | (with_reducible refine RunsW.split (fun hb => ?_) (fun hb => ?_) <;> (try simp only [hb]) <;> (try simp at hb) <;> (try have hx0 := inR_t.1 hb) <;> (try have hx1 := isV_t.1 hb)))
 all_goals (
  refine hR _ _ _ (by simp) ?_; clear hR R; refine Runs.condI fun d hd => ?_; simp (disch := omega) [if_t, hn] at hd; subst hd; refine cond_b (fun hc => ?_) (fun hc => ?_)
  ·first | (simp at hc; done) |
    (
    (try simp at hc); (try have hcx0 := inR_t.1 hc); (try have hcx1 := isV_t.1 hc); have hp : ccPre es d = false := by clear hl_es hl_d; simp_all [ccPre]; try (intro h; simp_all)
    have hv : ccS es d = false := by rw [ccS, hp]; rfl
    refine Runs.cseq ?_; refine Runs.regO (.inl rfl) nzc (fun R hR => ?_); simp (disch := omega) [if_t, hn]; refine hR _ _ _ (by simp) ?_; clear hR R; refine Runs.ret ?_; dsimp only [thenQ, blockQ]; refine ⟨by simp, by simp (disch := omega) <;> omega, ?_⟩
    simp (disch := omega) [if_t, hn, resD, resL, resV] <;> (first | omega | (simp_all; done) | (simp_all <;> omega)))
  ·first | (simp at hc; done) |
    (
    (try simp at hc); (try have hcx0 := inR_t.1 hc); (try have hcx1 := isV_t.1 hc); have hp : ccPre es d = true := by simp_all [ccPre]
    have hpz : validE es = true ∧ allSet d = true ∧ validZ d = true := by simpa [ccPre] using hp
    have hpe : allEdge es = true := by have := hpz.1; simp only [validE, Bool.and_eq_true] at this; exact this.2.2
    refine Runs.skip ?_; refine Runs.cseq ?_; refine Runs.cseq ?_; refine Runs.regO (.inl rfl) nzc (fun R hR => ?_); simp (disch := omega) [if_t, hn]; refine hR _ _ _ (by simp) ?_; clear hR R; refine Runs.cblock ?_; refine Runs.loop (fun k fr n' E => ∃ (i : Nat), n ≤ n' ∧ Go.Cv.Loc n E ∧ fr 0 = cl es ∧ fr 1 = cl d ∧ fr 5 = ci (i : Int) ∧ i + k = d.length ∧ allF (rowAll es d) 0 d.length = allF (rowAll es d) i k ∧ (0 < i → all3 d = true)) ?_ (k := d.length) ?_
    ·rintro k1 fr n1 E1 ⟨i, hn1, hE1, s0, s1, s5, hk, hM, h3⟩
     have hz1 : n1 ≠ 0 := by omega
     refine Runs.cseq ?_; refine Runs.cseq ?_; refine Runs.regO (.inl rfl) nzc (fun R hR => ?_); simp (disch := omega) [if_t, hn, s0, s1, s5]; refine hR _ _ _ (by simp) ?_; clear hR R; refine Runs.condI fun d hd => ?_; simp (disch := omega) [if_t, hn, s0, s1, s5] at hd; subst hd; refine cond_b (fun hc => ?_) (fun hc => ?_)
     ·first | (simp at hc; done) |
       (
       (try simp at hc); (try have hcx0 := inR_t.1 hc); (try have hcx1 := isV_t.1 hc); obtain ⟨k1, rfl⟩ : ∃ j, k1 = j + 1 := ⟨k1 - 1, by omega⟩
       rw [allF_s _ i] at hM; have hdi := hc
       have hsz := siz_ix hc
       simp at hsz; have hL := zlen hpz.2.2 hc
       have hL1 := zlen hpz.2.2 (i := i - 1) (by omega)
       have hsz1 := siz_ix (xs := d) (i := i - 1) (by omega)
       simp at hsz1; have ht1 : sizL ((ix d (i - 1)).row.take 2) ≤ 2 := by rw [sizL_int]; exact List.length_take_le _ _
       have ht2 : sizL ((ix d i).row.take 2) ≤ 2 := by rw [sizL_int]; exact List.length_take_le _ _
       have hz2 : (ix d i).row.length = 3 → -9999 ≤ ix (ix d i).row 2 ∧ ix (ix d i).row 2 ≤ 9999 := fun h => zval hpz.2.2 hdi (by omega)
       refine Runs.skip ?_; refine Runs.cseq ?_; refine Runs.cblock ?_; refine Runs.cseq ?_; refine Runs.regO (.inl rfl) nzc (fun R hR => ?_); simp (disch := omega) [if_t, hn, s0, s1, s5]; refine hR _ _ _ (by simp) ?_; clear hR R; refine Runs.cseq ?_; refine Runs.cseq ?_; refine Runs.regO (.inr (by kernel_rfl)) nzc (fun R hR => ?_); repeat' (first | (simp (disch := omega) [if_t, hn, s0, s1, s5]) | (with_reducible refine RunsW.splitN (fun hb => ?_) (fun hb => ?_) <;> (try simp only [hb]) <;> (try simp at hb) <;> (try have hx0 := inR_t.1 hb) <;> (try have hx1 := isV_t.1 hb)) | (with_reducible refine RunsW.split (fun hb => ?_) (fun hb => ?_) <;> (try simp only [hb]) <;> (try simp at hb) <;> (try have hx0 := inR_t.1 hb) <;> (try have hx1 := isV_t.1 hb)))
       all_goals (
        refine hR _ _ _ (by simp) ?_; clear hR R; refine Runs.condI fun d hd => ?_; simp (disch := omega) [if_t, hn, s0, s1, s5] at hd; subst hd; refine cond_b (fun hc => ?_) (fun hc => ?_)
        ·first | (simp at hc; done) |
          (
          (try simp at hc); (try have hcx0 := inR_t.1 hc); (try have hcx1 := isV_t.1 hc); have ho : rowC es d i = false := by clear hM; unfold rowC; simp_all <;> omega
          rw [rowAll, ho, Bool.false_and, Bool.false_and] at hM; have hv : ccS es d = false := by rw [ccS, hM]; simp
          refine Runs.cseq ?_; refine Runs.regO (.inl rfl) nzc (fun R hR => ?_); simp (disch := omega) [if_t, hn, s0, s1, s5]; refine hR _ _ _ (by simp) ?_; clear hR R; refine Runs.ret ?_; dsimp only [thenQ, blockQ]; refine ⟨by simp, by simp (disch := omega) [hE1] <;> omega, ?_⟩
          simp (disch := omega) [if_t, hn, s0, s1, s5, resD, resL, resV] <;> (first | omega | (simp_all; done) | (simp_all <;> omega)))
        ·first | (simp at hc; done) |
          (
          (try simp at hc); (try have hcx0 := inR_t.1 hc); (try have hcx1 := isV_t.1 hc); have ho : rowC es d i = true := by clear hM; unfold rowC; simp_all <;> omega
          rw [rowAll, ho, Bool.true_and] at hM; have hd3 : all3 d = true := all3_z hpz.2.2 hdi (by omega)
          refine Runs.skip ?_; refine Runs.cseq ?_; refine Runs.regO (.inl rfl) nzc (fun R hR => ?_); simp (disch := omega) [if_t, hn, s0, s1, s5]; refine hR _ _ _ (by simp) ?_; clear hR R; refine Runs.cblock ?_; refine Runs.loop (fun k fr n' E => ∃ (j : Nat), n ≤ n' ∧ Go.Cv.Loc n E ∧ fr 0 = cl es ∧ fr 1 = cl d ∧ fr 5 = ci (i : Int) ∧ fr 6 = cl (ix d i).row ∧ fr 7 = ci (j : Int) ∧ j + k = es.length ∧ stepsOk d (ix d i).row es = stepsOk d (ix d i).row (es.drop j)) ?_ (k := es.length) ?_
          ·rintro k2 fr n2 E2 ⟨j, hn2, hE2, s0, s1, s5, s6, s7, hkj, hS⟩
           have hz2 : n2 ≠ 0 := by omega
           refine Runs.cseq ?_; refine Runs.cseq ?_; refine Runs.regO (.inl rfl) nzc (fun R hR => ?_); simp (disch := omega) [if_t, hn, s0, s1, s5, s6, s7]; refine hR _ _ _ (by simp) ?_; clear hR R; refine Runs.condI fun d hd => ?_; simp (disch := omega) [if_t, hn, s0, s1, s5, s6, s7] at hd; subst hd; refine cond_b (fun hc => ?_) (fun hc => ?_)
           ·first | (simp at hc; done) |
             (
             (try simp at hc); (try have hcx0 := inR_t.1 hc); (try have hcx1 := isV_t.1 hc); rw [drop_ix hc, stepsOk] at hS; have hej := hc
             have hsz := siz_ix hc
             simp at hsz; obtain ⟨ho1, ho2, ho3⟩ := okEdge_iff.1 (allEdge_ix hpe hc)
             refine Runs.skip ?_; refine Runs.cseq ?_; refine Runs.cblock ?_; refine Runs.cseq ?_; refine Runs.regO (.inr (by kernel_rfl)) nzc (fun R hR => ?_); simp (disch := omega) [if_t, hn, s0, s1, s5, s6, s7]; refine hR _ _ _ (by simp) ?_; clear hR R; refine Runs.cseq ?_; refine Runs.regO (.inr (by kernel_rfl)) nzc (fun R hR => ?_); repeat' (first | (simp (disch := omega) [if_t, hn, s0, s1, s5, s6, s7]) | (with_reducible refine RunsW.splitN (fun hb => ?_) (fun hb => ?_) <;> (try simp only [hb]) <;> (try simp at hb) <;> (try have hx0 := inR_t.1 hb) <;> (try have hx1 := isV_t.1 hb)) | (with_reducible refine RunsW.split (fun hb => ?_) (fun hb => ?_) <;> (try simp only [hb]) <;> (try simp at hb) <;> (try have hx0 := inR_t.1 hb) <;> (try have hx1 := isV_t.1 hb)))
             all_goals (
              refine hR _ _ _ (by simp) ?_; clear hR R; refine Runs.condI fun d hd => ?_; simp (disch := omega) [if_t, hn, s0, s1, s5, s6, s7] at hd; subst hd; refine cond_b (fun hc => ?_) (fun hc => ?_)
              ·first | (simp at hc; done) |
                (
                (try simp at hc); (try have hcx0 := inR_t.1 hc); (try have hcx1 := isV_t.1 hc); have ho : stepE d (ix d i).row (ix es j) = false := by clear hS hM; unfold stepE; simp_all <;> omega
                rw [ho, Bool.false_and] at hS; rw [hS, Bool.false_and] at hM; have hv : ccS es d = false := by rw [ccS, hM]; simp
                refine Runs.cseq ?_; refine Runs.regO (.inl rfl) nzc (fun R hR => ?_); simp (disch := omega) [if_t, hn, s0, s1, s5, s6, s7]; refine hR _ _ _ (by simp) ?_; clear hR R; refine Runs.ret ?_; dsimp only [thenQ, blockQ]; refine ⟨by simp, by simp (disch := omega) [hE1, hE2] <;> omega, ?_⟩
                simp (disch := omega) [if_t, hn, s0, s1, s5, s6, s7, resD, resL, resV] <;> (first | omega | (simp_all; done) | (simp_all <;> omega)))
              ·first | (simp at hc; done) |
                (
                (try simp at hc); (try have hcx0 := inR_t.1 hc); (try have hcx1 := isV_t.1 hc); have ho : stepE d (ix d i).row (ix es j) = true := by clear hS hM; unfold stepE; simp_all <;> omega
                rw [ho, Bool.true_and] at hS; refine Runs.skip ?_; refine Runs.regO (.inl rfl) nzc (fun R hR => ?_); simp (disch := omega) [if_t, hn, s0, s1, s5, s6, s7]; refine hR _ _ _ (by simp) ?_; clear hR R; dsimp only [thenQ, blockQ]; refine ⟨k2 - 1, by omega, j + 1, ?_, ?_, ?_, ?_, ?_, ?_, ?_, ?_, ?_⟩
                ·omega
                ·simp (disch := omega) [hE1, hE2] <;> omega
                ·simp (disch := omega) [if_t, hn, s0, s1, s5, s6, s7]
                ·simp (disch := omega) [if_t, hn, s0, s1, s5, s6, s7]
                ·simp (disch := omega) [if_t, hn, s0, s1, s5, s6, s7]
                ·simp (disch := omega) [if_t, hn, s0, s1, s5, s6, s7]
                ·simp (disch := omega) [if_t, hn, s0, s1, s5, s6, s7]
                ·first | omega | assumption
                ·rw [hS])))
           ·first | (simp at hc; done) |
             (
             (try simp at hc); (try have hcx0 := inR_t.1 hc); (try have hcx1 := isV_t.1 hc); rw [List.drop_of_length_le (by omega), stepsOk] at hS; rw [hS, Bool.true_and] at hM; refine Runs.exit ?_; refine Runs.regO (.inl rfl) nzc (fun R hR => ?_); simp (disch := omega) [if_t, hn, s0, s1, s5, s6, s7]; refine hR _ _ _ (by simp) ?_; clear hR R; dsimp only [thenQ, blockQ]; refine ⟨k1, by omega, i + 1, ?_, ?_, ?_, ?_, ?_, ?_, ?_, ?_⟩
             ·omega
             ·simp (disch := omega) [hE1, hE2] <;> omega
             ·simp (disch := omega) [if_t, hn, s0, s1, s5, s6, s7]
             ·simp (disch := omega) [if_t, hn, s0, s1, s5, s6, s7]
             ·simp (disch := omega) [if_t, hn, s0, s1, s5, s6, s7]
             ·first | omega | assumption
             ·rw [hM]
             ·exact fun _ => hd3)
          ·skip
           refine ⟨0, ?_, ?_, ?_, ?_, ?_, ?_, ?_, ?_, ?_⟩
           ·omega
           ·simp
           ·simp (disch := omega) [if_t, hn, s0, s1, s5]
           ·simp (disch := omega) [if_t, hn, s0, s1, s5]
           ·simp (disch := omega) [if_t, hn, s0, s1, s5]
           ·simp (disch := omega) [if_t, hn, s0, s1, s5]
           ·simp (disch := omega) [if_t, hn, s0, s1, s5]
           ·first | omega | simp | rfl
           ·rfl)))
     ·first | (simp at hc; done) |
       (
       (try simp at hc); (try have hcx0 := inR_t.1 hc); (try have hcx1 := isV_t.1 hc); obtain rfl : k1 = 0 := by omega
       rw [allF_z _ i] at hM; obtain rfl : i = d.length := by omega
       have hd3 : all3 d = true := by
        cases hd0 : d with
        | nil => rfl
        | cons a b => rw [← hd0]; exact h3 (by rw [hd0]; simp)
       refine Runs.exit ?_; refine Runs.cseq ?_; refine Runs.cseq ?_; refine Runs.regO (.inl rfl) nzc (fun R hR => ?_); simp (disch := omega) [if_t, hn, s0, s1, s5]; refine hR _ _ _ (by simp) ?_; clear hR R; refine Runs.cblock ?_; refine Runs.loop (fun k fr n' E => ∃ (i : Nat), n ≤ n' ∧ Go.Cv.Loc n E ∧ fr 0 = cl es ∧ fr 1 = cl d ∧ fr 9 = ci (i : Int) ∧ i + k = es.length ∧ edge1 d es = edge1 d (es.drop i)) ?_ (k := es.length) ?_
       ·rintro k2 fr n2 E2 ⟨i, hn2, hE2, s0, s1, s9, hk, hE⟩
        have hz2 : n2 ≠ 0 := by omega
        refine Runs.cseq ?_; refine Runs.cseq ?_; refine Runs.regO (.inl rfl) nzc (fun R hR => ?_); simp (disch := omega) [if_t, hn, s0, s1, s9]; refine hR _ _ _ (by simp) ?_; clear hR R; refine Runs.condI fun d hd => ?_; simp (disch := omega) [if_t, hn, s0, s1, s9] at hd; subst hd; refine cond_b (fun hc => ?_) (fun hc => ?_)
        ·first | (simp at hc; done) |
          (
          (try simp at hc); (try have hcx0 := inR_t.1 hc); (try have hcx1 := isV_t.1 hc); rw [drop_ix hc, edge1] at hE; have hei := hc
          have hsz := siz_ix hc
          simp at hsz; obtain ⟨ho1, ho2, ho3⟩ := okEdge_iff.1 (allEdge_ix hpe hc)
          refine Runs.skip ?_; refine Runs.cseq ?_; refine Runs.cblock ?_; refine Runs.cseq ?_; refine Runs.regO (.inr (by kernel_rfl)) nzc (fun R hR => ?_); simp (disch := omega) [if_t, hn, s0, s1, s9]; refine hR _ _ _ (by simp) ?_; clear hR R; refine Runs.condI fun d hd => ?_; simp (disch := omega) [if_t, hn, s0, s1, s9] at hd; subst hd; refine cond_b (fun hc => ?_) (fun hc => ?_)
          ·first | (simp at hc; done) |
            (
            (try simp at hc); (try have hcx0 := inR_t.1 hc); (try have hcx1 := isV_t.1 hc); rw [decide_eq_false hc, Bool.false_and] at hE; have hv : ccS es d = false := by rw [ccS, hE]; simp
            refine Runs.cseq ?_; refine Runs.regO (.inl rfl) nzc (fun R hR => ?_); simp (disch := omega) [if_t, hn, s0, s1, s9]; refine hR _ _ _ (by simp) ?_; clear hR R; refine Runs.ret ?_; dsimp only [thenQ, blockQ]; refine ⟨by simp, by simp (disch := omega) [hE1, hE2] <;> omega, ?_⟩
            simp (disch := omega) [if_t, hn, s0, s1, s9, resD, resL, resV] <;> (first | omega | (simp_all; done) | (simp_all <;> omega)))
          ·first | (simp at hc; done) |
            (
            (try simp at hc); (try have hcx0 := inR_t.1 hc); (try have hcx1 := isV_t.1 hc); rw [decide_eq_true hc, Bool.true_and] at hE; refine Runs.skip ?_; refine Runs.regO (.inl rfl) nzc (fun R hR => ?_); simp (disch := omega) [if_t, hn, s0, s1, s9]; refine hR _ _ _ (by simp) ?_; clear hR R; dsimp only [thenQ, blockQ]; refine ⟨k2 - 1, by omega, i + 1, ?_, ?_, ?_, ?_, ?_, ?_, ?_⟩
            ·omega
            ·simp (disch := omega) [hE1, hE2] <;> omega
            ·simp (disch := omega) [if_t, hn, s0, s1, s9]
            ·simp (disch := omega) [if_t, hn, s0, s1, s9]
            ·simp (disch := omega) [if_t, hn, s0, s1, s9]
            ·first | omega | assumption
            ·rw [hE]))
        ·first | (simp at hc; done) |
          (
          (try simp at hc); (try have hcx0 := inR_t.1 hc); (try have hcx1 := isV_t.1 hc); rw [List.drop_of_length_le (by omega)] at hE; have hv : ccS es d = true := by rw [ccS, hp, hM, hE]; rfl
          refine Runs.exit ?_; refine Runs.cseq ?_; refine Runs.regO (.inl rfl) nzc (fun R hR => ?_); simp (disch := omega) [if_t, hn, s0, s1, s9]; refine hR _ _ _ (by simp) ?_; clear hR R; refine Runs.ret ?_; dsimp only [thenQ, blockQ]; refine ⟨by simp, by simp (disch := omega) [hE1, hE2] <;> omega, ?_⟩
          simp (disch := omega) [if_t, hn, s0, s1, s9, resD, resL, resV] <;> (first | omega | (simp_all; done) | (simp_all <;> omega)))
       ·skip
        refine ⟨0, ?_, ?_, ?_, ?_, ?_, ?_, ?_⟩
        ·omega
        ·simp
        ·simp (disch := omega) [if_t, hn, s0, s1, s5]
        ·simp (disch := omega) [if_t, hn, s0, s1, s5]
        ·simp (disch := omega) [if_t, hn, s0, s1, s5]
        ·first | omega | simp | rfl
        ·rfl)
    ·skip
     refine ⟨0, ?_, ?_, ?_, ?_, ?_, ?_, ?_, ?_⟩
     ·omega
     ·simp
     ·simp (disch := omega) [if_t, hn]
     ·simp (disch := omega) [if_t, hn]
     ·simp (disch := omega) [if_t, hn]
     ·first | omega | simp | rfl
     ·rfl
     ·exact fun h => absurd h (by omega)))

theorem adjF_iff : ∀ (es : List Ent) (g : Nat → Nat → Bool) (a b : Nat), adjF es g a b = true ↔ g a b = true ∨ ∃ e ∈ es, (ix e.row 0).toNat = a ∧ (ix e.row 1).toNat = b
  | [], g, a, b => by simp [adjF]
  | e :: es, g, a, b => by
    rw [adjF, adjF_iff es]
    simp only [upd2, List.mem_cons, exists_eq_or_imp]
    by_cases h : a = (ix e.row 0).toNat ∧ b = (ix e.row 1).toNat
    · simp [h]
    · rw [if_neg h]
      constructor
      · rintro (h1 | h1)
        · exact .inl h1
        · exact .inr (.inr h1)
      · rintro (h1 | ⟨h1, h2⟩ | h1)
        · exact .inl h1
        · exact absurd ⟨h1.symm, h2.symm⟩ h
        · exact .inr h1
theorem allEdge_mem {es : List Ent} (h : allEdge es = true) : ∀ e ∈ es, okEdge e = true := by
  induction es with
  | nil => simp
  | cons x xs ih =>
    simp only [allEdge, Bool.and_eq_true] at h
    intro e he
    rcases List.mem_cons.1 he with rfl | he
    · exact h.1
    · exact ih h.2 e he
theorem allSet_mem {es : List Ent} (h : allSet es = true) : ∀ e ∈ es, e.w = 1 := by
  induction es with
  | nil => simp
  | cons x xs ih =>
    simp only [allSet, Bool.and_eq_true, decide_eq_true_eq] at h
    intro e he
    rcases List.mem_cons.1 he with rfl | he
    · exact h.1
    · exact ih h.2 e he
theorem wOf_ne {es : List Ent} (h : ∀ e ∈ es, e.w = 1) (r : List Int) : wOf es r ≠ 0 ↔ ∃ e ∈ es, e.row = r := by
  induction es with
  | nil => simp [wOf]
  | cons x xs ih =>
    have h1 := h x (by simp)
    have ih := ih (fun e he => h e (by simp [he]))
    rw [wOf]
    by_cases hr : x.row = r
    · simp [hr, h1]
    · rw [if_neg hr, ih]; simp [hr]
theorem two_row {r : List Int} (h : r.length = 2) : r = [ix r 0, ix r 1] := by
  match r, h with
  | [a, b], _ => rfl
theorem adj_w {es : List Ent} (hv : validE es = true) {a b : Int} (ha : isV a = true) (hb : isV b = true) : adjG es a.toNat b.toNat = !decide (wOf es [a, b] = 0) := by
  simp only [validE, Bool.and_eq_true] at hv
  obtain ⟨_, h1, h2⟩ := hv
  have hw := wOf_ne (allSet_mem h1) [a, b]
  have ha := isV_t.1 ha
  have hb := isV_t.1 hb
  have key : adjG es a.toNat b.toNat = true ↔ wOf es [a, b] ≠ 0 := by
    rw [adjG, adjF_iff, hw]
    simp only [Bool.false_eq_true, false_or]
    constructor
    · rintro ⟨e, he, e1, e2⟩
      obtain ⟨hl, ⟨p1, p2⟩, ⟨q1, q2⟩⟩ := okEdge_iff.1 (allEdge_mem h2 e he)
      refine ⟨e, he, ?_⟩
      rw [two_row hl]
      congr 1
      · omega
      · congr 1; omega
    · rintro ⟨e, he, hr⟩
      exact ⟨e, he, by rw [hr]; simp⟩
  cases h : adjG es a.toNat b.toNat
  · simp only [h, Bool.false_eq_true, false_iff] at key; simp [Classical.not_not.1 key]
  · simp only [h, true_iff] at key; simp [key]
theorem w_out {es : List Ent} (hv : validE es = true) {a b : Int} (h : (isV a && isV b) = false) : wOf es [a, b] = 0 := by
  simp only [validE, Bool.and_eq_true] at hv
  obtain ⟨_, h1, h2⟩ := hv
  have hw := wOf_ne (allSet_mem h1) [a, b]
  refine Classical.byContradiction fun hne => ?_
  obtain ⟨e, he, hr⟩ := hw.1 hne
  obtain ⟨hl, hp, hq⟩ := okEdge_iff.1 (allEdge_mem h2 e he)
  rw [hr] at hp hq
  simp only [ix_zero, ix_succ] at hp hq
  have := isV_t.2 hp
  have := isV_t.2 hq
  simp_all
theorem impOk_eq {es : List Ent} (hv : validE es = true) : ∀ p : List Int, impOk (adjG es) p = edgesOk es p
  | [] => rfl
  | [_] => rfl
  | a :: b :: rest => by
    rw [impOk, edgesOk, impOk_eq hv (b :: rest)]
    congr 1
    cases h : (isV a && isV b)
    · rw [w_out hv h]; simp
    · simp only [Bool.and_eq_true] at h
      rw [adj_w hv h.1 h.2]; simp
theorem checkPath_law (es : List Ent) (p : List Int) (x y : Int) : (preP es p x y && impOk (adjG es) p) = pathOk es x y p := by
  unfold pathOk
  cases h : preP es p x y
  · rfl
  · have hv : validE es = true := by unfold preP at h; simp only [Bool.and_eq_true] at h; exact h.1
    rw [impOk_eq hv]
theorem wOf_pos {es : List Ent} (h : ∀ e ∈ es, e.w = 1) (r : List Int) : 0 < wOf es r ↔ ∃ e ∈ es, e.row = r := by
  induction es with
  | nil => simp [wOf]
  | cons x xs ih =>
    have h1 := h x (by simp)
    have ih := ih (fun e he => h e (by simp [he]))
    rw [wOf]
    by_cases hr : x.row = r
    · simp [hr, h1]
    · rw [if_neg hr, ih]; simp [hr]
theorem ix_ge {α : Type} [Enc α] {xs : List α} {i : Nat} (h : i < xs.length) : ix xs i = xs[i] := Option.some.inj ((ix_get h).symm.trans (List.getElem?_eq_getElem h))
theorem ix_of_mem {α : Type} [Enc α] {xs : List α} {x : α} (h : x ∈ xs) : ∃ i, i < xs.length ∧ ix xs i = x := by
  obtain ⟨i, hi, he⟩ := List.getElem_of_mem h
  exact ⟨i, hi, by rw [ix_ge hi, he]⟩
theorem three_row {r : List Int} (h : r.length = 3) : r = [ix r 0, ix r 1, ix r 2] := by
  match r, h with
  | [a, b, c], _ => rfl
theorem take_row {r : List Int} (h : r.length = 3) : r.take 2 = [ix r 0, ix r 1] := by
  match r, h with
  | [a, b, c], _ => rfl
def basic (r : List Int) : Prop := r.length = 3 ∧ (0 ≤ ix r 0 ∧ ix r 0 ≤ 19) ∧ (0 ≤ ix r 1 ∧ ix r 1 ≤ 19) ∧ 1 ≤ ix r 2
def lexL (r s : List Int) : Prop := ix r 0 < ix s 0 ∨ (ix r 0 = ix s 0 ∧ ix r 1 < ix s 1)
def neP (a b : Ent) : Prop := ¬ (ix a.row 0 = ix b.row 0 ∧ ix a.row 1 = ix b.row 1)
def dok (d : List Ent) : Prop := (∀ e ∈ d, basic e.row) ∧ d.Pairwise neP
theorem lex_of {r s : List Int} (hr : r.length = 3) (hs : s.length = 3) (hl : rowLess r s = true) (hn : r.take 2 ≠ s.take 2) : lexL r s := by
  rw [take_row hr, take_row hs] at hn
  rw [three_row hr, three_row hs] at hl
  simp only [rowLess] at hl
  by_cases h0 : ix r 0 = ix s 0
  · rw [if_pos h0] at hl
    by_cases h1 : ix r 1 = ix s 1
    · exact absurd (by rw [h0, h1]) hn
    · rw [if_neg h1] at hl; exact .inr ⟨h0, of_decide_eq_true hl⟩
  · rw [if_neg h0] at hl; exact .inl (of_decide_eq_true hl)
theorem lex_all (d : List Ent) (h : ∀ i, i + 1 < d.length → lexL (ix d i).row (ix d (i + 1)).row) (i : Nat) : ∀ k, i + k + 1 < d.length → lexL (ix d i).row (ix d (i + k + 1)).row
  | 0, hk => h i hk
  | k + 1, hk => by
    have a := lex_all d h i k (by omega)
    have b := h (i + k + 1) (by omega)
    rw [show i + (k + 1) + 1 = i + k + 1 + 1 by omega]
    unfold lexL at *
    omega
theorem dIn_none {d : List Ent} {x y : Int} (h : ∀ e ∈ d, ¬ (ix e.row 0 = x ∧ ix e.row 1 = y)) : dIn d x y = 0 := by
  induction d with
  | nil => rfl
  | cons e es ih => rw [dIn, if_neg (h e (by simp))]; exact ih fun e he => h e (by simp [he])
theorem far_some : ∀ (d : List Ent) (f : Nat → Nat → Int), (∀ e ∈ d, basic e.row ∧ f (ix e.row 0).toNat (ix e.row 1).toNat = 0) → d.Pairwise neP →
    ∃ g, farF d f = some g ∧ ∀ x y : Nat, g x y = if dIn d x y = 0 then f x y else dIn d x y
  | [], f, _, _ => ⟨f, rfl, fun x y => by simp [dIn]⟩
  | e :: es, f, h, hp => by
    rw [List.pairwise_cons] at hp
    obtain ⟨⟨b1, ⟨b2, b3⟩, ⟨b4, b5⟩, b6⟩, b7⟩ := h e (by simp)
    have hr : rowI f e.row = true := by
      simp only [rowI, Bool.and_eq_true, decide_eq_true_eq]; exact ⟨b1, isV_t.2 ⟨b2, b3⟩, isV_t.2 ⟨b4, b5⟩, b6, b7⟩
    obtain ⟨g, hg, hv⟩ := far_some es (upd2 f (ix e.row 0).toNat (ix e.row 1).toNat (ix e.row 2)) (fun e' he' => by
      obtain ⟨c, c7⟩ := h e' (by simp [he'])
      refine ⟨c, ?_⟩
      obtain ⟨_, ⟨c2, _⟩, ⟨c4, _⟩, _⟩ := c
      have hne := hp.1 e' he'
      unfold neP at hne
      rw [upd2, if_neg (by omega)]; exact c7) hp.2
    refine ⟨g, by rw [farF, if_pos hr]; exact hg, fun x y => ?_⟩
    rw [hv, dIn]
    by_cases hxy : ix e.row 0 = x ∧ ix e.row 1 = y
    · have hz : dIn es x y = 0 := dIn_none fun e' he' hh => hp.1 e' he' ⟨hxy.1.trans hh.1.symm, hxy.2.trans hh.2.symm⟩
      rw [if_pos hz, if_pos hxy, upd2, if_pos (by omega), if_neg (by omega)]
    · rw [if_neg hxy]
      by_cases hz : dIn es x y = 0
      · rw [if_pos hz, if_pos hz, upd2, if_neg (by omega)]
      · rw [if_neg hz, if_neg hz]
theorem far_inv : ∀ (d : List Ent) (f g : Nat → Nat → Int), farF d f = some g → (∀ e ∈ d, basic e.row ∧ f (ix e.row 0).toNat (ix e.row 1).toNat = 0) ∧ d.Pairwise neP
  | [], f, g, _ => ⟨by simp, List.Pairwise.nil⟩
  | e :: es, f, g, h => by
    rw [farF] at h
    by_cases hr : rowI f e.row = true
    · rw [if_pos hr] at h
      obtain ⟨i1, i2⟩ := far_inv es _ g h
      simp only [rowI, Bool.and_eq_true, decide_eq_true_eq] at hr
      obtain ⟨b1, b2, b3, b6, b7⟩ := hr
      have hx : ∀ e' ∈ es, neP e e' ∧ f (ix e'.row 0).toNat (ix e'.row 1).toNat = 0 := fun e' he' => by
        have h7 := (i1 e' he').2
        unfold upd2 at h7
        unfold neP
        split at h7
        · omega
        · rename_i hh; exact ⟨fun q => hh ⟨by rw [q.1], by rw [q.2]⟩, h7⟩
      refine ⟨fun e' he' => ?_, List.pairwise_cons.2 ⟨fun e' he' => (hx e' he').1, i2⟩⟩
      rcases List.mem_cons.1 he' with rfl | he'
      · exact ⟨⟨b1, isV_t.1 b2, isV_t.1 b3, b6⟩, b7⟩
      · exact ⟨(i1 e' he').1, (hx e' he').2⟩
    · rw [if_neg hr] at h; cases h
theorem dIn_row : ∀ {d : List Ent}, dok d → ∀ e ∈ d, dIn d (ix e.row 0) (ix e.row 1) = ix e.row 2
  | x :: xs, h, e, he => by
    obtain ⟨h1, h2⟩ := h
    rw [List.pairwise_cons] at h2
    rw [dIn]
    rcases List.mem_cons.1 he with rfl | he
    · simp
    · have := h2.1 e he
      unfold neP at this
      rw [if_neg this]; exact dIn_row ⟨fun e he => h1 e (by simp [he]), h2.2⟩ e he
theorem dIn_ne : ∀ {d : List Ent}, (∀ e ∈ d, basic e.row) → ∀ {x y : Int}, dIn d x y ≠ 0 → ∃ e ∈ d, e.row = [x, y, dIn d x y]
  | [], _, x, y, h => absurd rfl h
  | e :: es, hb, x, y, h => by
    rw [dIn] at h ⊢
    by_cases hc : ix e.row 0 = x ∧ ix e.row 1 = y
    · rw [if_pos hc]; exact ⟨e, by simp, by rw [← hc.1, ← hc.2]; exact three_row (hb e (by simp)).1⟩
    · rw [if_neg hc] at h ⊢
      obtain ⟨e', h1, h2⟩ := dIn_ne (fun e he => hb e (by simp [he])) h
      exact ⟨e', by simp [h1], h2⟩
theorem dIn_ge {d : List Ent} (hb : ∀ e ∈ d, basic e.row) {x y : Int} (h : dIn d x y ≠ 0) : 1 ≤ dIn d x y ∧ (0 ≤ x ∧ x ≤ 19) ∧ (0 ≤ y ∧ y ≤ 19) := by
  obtain ⟨e, he, hr⟩ := dIn_ne hb h
  obtain ⟨_, b1, b2, b3⟩ := hb e he
  rw [hr] at b1 b2 b3
  exact ⟨b3, b1, b2⟩
theorem dIn_at {d : List Ent} (h : dok d) {x y v : Int} (hr : ∃ e ∈ d, e.row = [x, y, v]) : dIn d x y = v := by
  obtain ⟨e, he, hr⟩ := hr
  have := dIn_row h e he
  rw [hr] at this; exact this
theorem stepsOk_iff (d : List Ent) (r : List Int) : ∀ es : List Ent, stepsOk d r es = true ↔ ∀ e ∈ es, stepE d r e = true
  | [] => by simp [stepsOk]
  | e :: es => by rw [stepsOk, Bool.and_eq_true, stepsOk_iff d r es]; simp
theorem edge1_iff (d : List Ent) : ∀ es : List Ent, edge1 d es = true ↔ ∀ e ∈ es, dIn d (ix e.row 0) (ix e.row 1) = 1
  | [] => by simp [edge1]
  | e :: es => by rw [edge1, Bool.and_eq_true, edge1_iff d es]; simp
theorem adj_mem {es : List Ent} (hv : validE es = true) (x y : Nat) : adjG es x y = true ↔ ∃ e ∈ es, e.row = [(x : Int), (y : Int)] := by
  simp only [validE, Bool.and_eq_true] at hv
  obtain ⟨_, h1, h2⟩ := hv
  rw [adjG, adjF_iff]
  simp only [Bool.false_eq_true, false_or]
  constructor
  · rintro ⟨e, he, e1, e2⟩
    obtain ⟨hl, ⟨p1, p2⟩, ⟨q1, q2⟩⟩ := okEdge_iff.1 (allEdge_mem h2 e he)
    refine ⟨e, he, ?_⟩
    rw [two_row hl]
    congr 1
    · omega
    · congr 1; omega
  · rintro ⟨e, he, hr⟩
    exact ⟨e, he, by rw [hr]; simp⟩
theorem cellOk_iff (G : Nat → Nat → Bool) (f : Nat → Nat → Int) (x y : Nat) : cellOk G f x y = true ↔ (G x y = true ↔ f x y = 1) ∧
    (f x y = 0 ∨ ((∀ w, w < 20 → G y w = true → f x w ≠ 0 ∧ f x w ≤ f x y + 1) ∧ (f x y = 1 ∨ ∃ w, w < 20 ∧ f x w = f x y - 1 ∧ 0 < f x w ∧ G w y = true))) := by
  simp only [cellOk, Bool.and_eq_true, Bool.or_eq_true, decide_eq_true_eq, beq_iff_eq, allF_iff, anyF_iff]
  refine and_congr ?_ (or_congr Iff.rfl (and_congr ?_ (or_congr Iff.rfl ?_)))
  · cases G x y <;> simp
  · constructor
    · intro h w hw hg
      have := h w (by omega) (by omega)
      simp only [cellV, hg, Bool.true_and, Bool.not_eq_true', Bool.or_eq_false_iff, decide_eq_false_iff_not] at this
      exact ⟨this.1, by omega⟩
    · intro h w _ hw
      unfold cellV
      cases hg : G y w
      · rfl
      · obtain ⟨a, b⟩ := h w (by omega) hg
        simp [a]; omega
  · constructor
    · rintro ⟨w, _, hw, h⟩
      simp only [cellS, Bool.and_eq_true, decide_eq_true_eq] at h
      exact ⟨w, by omega, h⟩
    · rintro ⟨w, hw, h⟩
      exact ⟨w, by omega, by omega, by simp only [cellS, Bool.and_eq_true, decide_eq_true_eq]; exact h⟩
theorem supp_iff {es d : List Ent} (h1 : ∀ e ∈ es, e.w = 1) (h2 : ∀ e ∈ d, e.w = 1) (r : List Int) (hl : r.length = 3) : supp es d r = true ↔
    (ix r 2 = 1 ∧ ∃ e ∈ es, e.row = [ix r 0, ix r 1]) ∨ (ix r 2 ≠ 1 ∧ ∃ w : Nat, w < 20 ∧ (∃ e ∈ d, e.row = [ix r 0, (w : Int), ix r 2 - 1]) ∧ ∃ e ∈ es, e.row = [(w : Int), ix r 1]) := by
  unfold supp
  by_cases h : ix r 2 = 1
  · rw [if_pos h, decide_eq_true_eq, wOf_pos h1, take_row hl]; simp [h]
  · rw [if_neg h, anyF_iff]
    simp only [h, false_and, false_or, ne_eq, not_false_eq_true, true_and]
    constructor
    · rintro ⟨w, _, hw, q⟩
      simp only [suppW, Bool.and_eq_true, decide_eq_true_eq] at q
      exact ⟨w, by omega, (wOf_pos h2 _).1 q.1, (wOf_pos h1 _).1 q.2⟩
    · rintro ⟨w, hw, q1, q2⟩
      exact ⟨w, by omega, by omega, by simp only [suppW, Bool.and_eq_true, decide_eq_true_eq]; exact ⟨(wOf_pos h2 _).2 q1, (wOf_pos h1 _).2 q2⟩⟩
theorem rowC_iff (es d : List Ent) (i : Nat) (h2 : ∀ e ∈ d, e.w = 1) : rowC es d i = true ↔ basic (ix d i).row ∧ (i = 0 ∨ (ix d (i - 1)).row.take 2 ≠ (ix d i).row.take 2) ∧ supp es d (ix d i).row = true := by
  simp only [rowC, basic, Bool.and_eq_true, Bool.or_eq_true, decide_eq_true_eq, Bool.not_eq_true', decide_eq_false_iff_not, inR_t, and_assoc]
theorem zless {es : List Ent} (h : validZ es = true) {i : Nat} (hi : i + 1 < es.length) : rowLess (ix es i).row (ix es (i + 1)).row = true := by
  have := validZ_ok h hi
  simp only [okEnt, Bool.and_eq_true] at this
  simpa using this.2.2.2.2
theorem dok_rows {es d : List Ent} (hz : validZ d = true) (h2 : ∀ e ∈ d, e.w = 1) (h : ∀ i, i < d.length → rowC es d i = true) : dok d := by
  have hb : ∀ i, i < d.length → basic (ix d i).row := fun i hi => ((rowC_iff es d i h2).1 (h i hi)).1
  refine ⟨fun e he => ?_, List.pairwise_iff_getElem.2 fun i j hi hj hij => ?_⟩
  · obtain ⟨i, hi, rfl⟩ := ix_of_mem he; exact hb i hi
  · rw [← ix_ge hi, ← ix_ge hj]
    have hl := lex_all d (fun i hi => lex_of (hb i (by omega)).1 (hb (i + 1) hi).1 (zless hz hi) (by
      rcases ((rowC_iff es d (i + 1) h2).1 (h (i + 1) hi)).2.1 with q | q
      · omega
      · simpa using q)) i (j - i - 1) (by omega)
    rw [show i + (j - i - 1) + 1 = j by omega] at hl
    unfold lexL at hl; unfold neP; omega
theorem cc_law (es d : List Ent) : ccI es d = ccS es d := by
  cases hp : ccPre es d
  · rw [ccI, ccS, hp]; rfl
  · have hpz : validE es = true ∧ allSet d = true ∧ validZ d = true := by simpa [ccPre] using hp
    obtain ⟨hE, hS, hZ⟩ := hpz
    have w2 := allSet_mem hS
    have hE' := hE
    simp only [validE, Bool.and_eq_true] at hE'
    have w1 := allSet_mem hE'.2.1
    have hG := adj_mem hE
    have hEd := allEdge_mem hE'.2.2
    rw [ccI, ccS, hp, Bool.true_and, Bool.true_and]
    by_cases hD : dok d
    · obtain ⟨g, hg, hgv⟩ := far_some d (fun _ _ => 0) (fun e he => ⟨hD.1 e he, rfl⟩) hD.2
      obtain rfl : g = fun x y : Nat => dIn d x y := by funext x y; rw [hgv]; split <;> simp_all
      rw [hg]
      apply Bool.eq_iff_iff.2
      rw [Bool.and_eq_true, edge1_iff, allF_iff, allF_iff]
      constructor
      · intro h
        have cell : ∀ x y : Nat, x < 20 → y < 20 → cellOk (adjG es) (fun x y : Nat => dIn d x y) x y = true := fun x y hx hy => by
          have := h x (by omega) (by omega)
          rw [allF_iff] at this
          exact this y (by omega) (by omega)
        refine ⟨fun i _ hi => ?_, fun e he => ?_⟩
        · have hi : i < d.length := by omega
          obtain ⟨b1, ⟨b2, b3⟩, ⟨b4, b5⟩, b6⟩ := hD.1 _ (ix_mem hi)
          have hd := dIn_row hD _ (ix_mem hi)
          obtain ⟨x, hx⟩ := Int.eq_ofNat_of_zero_le b2
          obtain ⟨y, hy⟩ := Int.eq_ofNat_of_zero_le b4
          have hc := (cellOk_iff _ _ x y).1 (cell x y (by omega) (by omega))
          rw [hx, hy] at hd
          rw [hd] at hc
          obtain ⟨c1, c2 | ⟨c2, c3⟩⟩ := hc
          · omega
          · rw [rowAll, Bool.and_eq_true]
            refine ⟨(rowC_iff es d i w2).2 ⟨⟨b1, ⟨b2, b3⟩, ⟨b4, b5⟩, b6⟩, ?_, ?_⟩, (stepsOk_iff _ _ _).2 fun e he => ?_⟩
            · by_cases h0 : i = 0
              · exact .inl h0
              · right
                have hpw := List.pairwise_iff_getElem.1 hD.2 (i - 1) i (by omega) hi (by omega)
                rw [← ix_ge (by omega), ← ix_ge hi] at hpw
                rw [take_row (hD.1 _ (ix_mem (by omega))).1, take_row b1]
                intro hq
                simp only [List.cons.injEq, and_true] at hq
                exact hpw hq
            · rw [supp_iff w1 w2 _ b1, hx, hy]
              by_cases h1 : ix (ix d i).row 2 = 1
              · exact .inl ⟨h1, (hG x y).1 (c1.2 h1)⟩
              · refine .inr ⟨h1, ?_⟩
                rcases c3 with c3 | ⟨w, hw, e1, e2, e3⟩
                · exact absurd c3 h1
                · refine ⟨w, hw, ?_, (hG w y).1 e3⟩
                  rw [← e1]; exact dIn_ne hD.1 (by omega)
            · simp only [stepE, Bool.not_eq_true', Bool.and_eq_false_imp, decide_eq_true_eq, Bool.or_eq_false_iff, decide_eq_false_iff_not]
              intro hq
              obtain ⟨hl, ⟨p1, p2⟩, ⟨q1, q2⟩⟩ := okEdge_iff.1 (hEd e he)
              obtain ⟨w, hw⟩ := Int.eq_ofNat_of_zero_le q1
              have hgw := (hG y w).2 ⟨e, he, by rw [two_row hl, hq, hy, hw]⟩
              obtain ⟨a1, a2⟩ := c2 w (by omega) hgw
              rw [hw, hx]
              exact ⟨a1, by omega⟩
        · obtain ⟨hl, ⟨p1, p2⟩, ⟨q1, q2⟩⟩ := okEdge_iff.1 (hEd e he)
          obtain ⟨x, hx⟩ := Int.eq_ofNat_of_zero_le p1
          obtain ⟨y, hy⟩ := Int.eq_ofNat_of_zero_le q1
          have hc := ((cellOk_iff _ _ x y).1 (cell x y (by omega) (by omega))).1
          rw [hx, hy]
          exact hc.1 ((hG x y).2 ⟨e, he, by rw [two_row hl, hx, hy]⟩)
      · rintro ⟨hr, he1⟩ x _ hx
        rw [allF_iff]
        intro y _ hy
        have row : ∀ v, (∃ e ∈ d, e.row = [(x : Int), (y : Int), v]) → supp es d [(x : Int), (y : Int), v] = true ∧ ∀ e ∈ es, stepE d [(x : Int), (y : Int), v] e = true := by
          rintro v ⟨e, he, hq⟩
          obtain ⟨i, hi, rfl⟩ := ix_of_mem he
          have := hr i (by omega) (by omega)
          rw [rowAll, Bool.and_eq_true, rowC_iff _ _ _ w2, stepsOk_iff, hq] at this
          exact ⟨this.1.2.2, this.2⟩
        have edge : ∀ a b : Nat, adjG es a b = true → dIn d a b = 1 := fun a b hab => by
          obtain ⟨e, he, hq⟩ := (hG a b).1 hab
          have := he1 e he
          rw [hq] at this; exact this
        rw [cellOk_iff]
        refine ⟨⟨edge x y, fun h1 => ?_⟩, ?_⟩
        · obtain ⟨hs, _⟩ := row 1 (by rw [← h1]; exact dIn_ne hD.1 (by omega))
          rw [supp_iff w1 w2 _ rfl] at hs
          rcases hs with ⟨_, hs⟩ | ⟨hs, _⟩
          · exact (hG x y).2 hs
          · exact absurd rfl hs
        · by_cases h0 : dIn d x y = 0
          · exact .inl h0
          · right
            obtain ⟨hs, ht⟩ := row _ (dIn_ne hD.1 h0)
            refine ⟨fun w hw hg => ?_, ?_⟩
            · obtain ⟨e, he, hq⟩ := (hG y w).1 hg
              have := ht e he
              rw [stepE, hq] at this
              simp only [ix_zero, ix_succ, decide_true, Bool.true_and, Bool.not_eq_true', Bool.or_eq_false_iff, decide_eq_false_iff_not] at this
              exact ⟨this.1, by omega⟩
            · rw [supp_iff w1 w2 _ rfl] at hs
              rcases hs with ⟨hs, _⟩ | ⟨_, w, hw, q1, q2⟩
              · exact .inl hs
              · right
                simp only [ix_zero, ix_succ] at q1 q2
                have hdw := dIn_at hD q1
                obtain ⟨e, he, hq⟩ := q1
                have hb := (hD.1 e he).2.2.2
                rw [hq] at hb
                simp only [ix_zero, ix_succ] at hb
                exact ⟨w, hw, hdw, by omega, (hG w y).2 q2⟩
    · cases hf : farF d (fun _ _ => 0) with
      | some g => exact absurd ⟨fun e he => ((far_inv d _ g hf).1 e he).1, (far_inv d _ g hf).2⟩ hD
      | none =>
        symm
        refine Bool.eq_false_iff.2 fun h => hD ?_
        rw [Bool.and_eq_true, allF_iff] at h
        refine dok_rows (es := es) hZ w2 fun i hi => ?_
        have := h.1 i (by omega) (by omega)
        rw [rowAll, Bool.and_eq_true] at this
        exact this.1

set_option maxHeartbeats 1000000 in
/-- laws.FnExactCheckClosure -/
@[simp] theorem c_laws_FnExactCheckClosure (es d : List Ent) (n : Nat) (hn : n ≠ 0) (p0 : es.length ≤ 140737488355328) (p1 : ∀ e ∈ es, e.row.length ≤ 140737488355328) (p2 : d.length ≤ 140737488355328) (p3 : ∀ e ∈ d, e.row.length ≤ 140737488355328) : cfg.call 5 [cl es, cl d] n = some (bi true, n, []) := by
 refine call_runs0 rfl Try.func5 rfl (by kernel_rfl) rfl (by simp (disch := omega) [low_agg, low_pt, low_fn]) ?_; refine Runs.cseq ?_; refine Runs.regO (.inl rfl) nzc (fun R hR => ?_); simp (disch := omega) [if_t, hn, cc_law]; refine hR _ _ _ (by simp) ?_; clear hR R; refine Runs.cseq ?_; refine Runs.regO (.inl rfl) nzc (fun R hR => ?_); simp (disch := omega) [if_t, hn, cc_law]; refine hR _ _ _ (by simp) ?_; clear hR R; refine Runs.cseq ?_; refine Runs.regO (.inl rfl) nzc (fun R hR => ?_); simp (disch := omega) [if_t, hn, cc_law, c_laws_szEntryS es 1048576 n hn p0 p1]; refine hR _ _ _ (by simp) ?_; clear hR R; refine Runs.cseq ?_; refine Runs.cseq ?_; refine Runs.regO (.inl rfl) nzc (fun R hR => ?_); simp (disch := omega) [if_t, hn, cc_law]; refine hR _ _ _ (by simp) ?_; clear hR R; refine Runs.condI fun d hd => ?_; simp (disch := omega) [if_t, hn, cc_law] at hd; subst hd; refine cond_b (fun hc => ?_) (fun hc => ?_)
 ·first | (simp at hc; done) |
   (
   (try simp at hc); (try have hcx0 := inR_t.1 hc); (try have hcx1 := isV_t.1 hc); refine Runs.cseq ?_; refine Runs.regO (.inl rfl) nzc (fun R hR => ?_); simp (disch := omega) [if_t, hn, cc_law]; refine hR _ _ _ (by simp) ?_; clear hR R; refine Runs.ret ?_; dsimp only [thenQ, blockQ]; refine ⟨by simp, by simp (disch := omega) <;> omega, ?_⟩
   simp (disch := omega) [if_t, hn, cc_law, resD, resL, resV] <;> (first | omega | (simp_all; done) | (simp_all <;> omega)))
 ·first | (simp at hc; done) |
   (
   (try simp at hc); (try have hcx0 := inR_t.1 hc); (try have hcx1 := isV_t.1 hc); have hz := szEs_siz (es := es) (l := 1048576) (by omega)
   refine Runs.skip ?_; refine Runs.cseq ?_; refine Runs.regO (.inl rfl) nzc (fun R hR => ?_); simp (disch := omega) [if_t, hn, cc_law, c_laws_szEntryS d (szEs es 1048576) n hn p2 p3]; refine hR _ _ _ (by simp) ?_; clear hR R; refine Runs.cseq ?_; refine Runs.cseq ?_; refine Runs.regO (.inl rfl) nzc (fun R hR => ?_); simp (disch := omega) [if_t, hn, cc_law]; refine hR _ _ _ (by simp) ?_; clear hR R; refine Runs.condI fun d hd => ?_; simp (disch := omega) [if_t, hn, cc_law] at hd; subst hd; refine cond_b (fun hc => ?_) (fun hc => ?_)
   ·first | (simp at hc; done) |
     (
     (try simp at hc); (try have hcx0 := inR_t.1 hc); (try have hcx1 := isV_t.1 hc); refine Runs.cseq ?_; refine Runs.regO (.inl rfl) nzc (fun R hR => ?_); simp (disch := omega) [if_t, hn, cc_law]; refine hR _ _ _ (by simp) ?_; clear hR R; refine Runs.ret ?_; dsimp only [thenQ, blockQ]; refine ⟨by simp, by simp (disch := omega) <;> omega, ?_⟩
     simp (disch := omega) [if_t, hn, cc_law, resD, resL, resV] <;> (first | omega | (simp_all; done) | (simp_all <;> omega)))
   ·first | (simp at hc; done) |
     (
     (try simp at hc); (try have hcx0 := inR_t.1 hc); (try have hcx1 := isV_t.1 hc); have hz2 := szEs_siz (es := d) (l := szEs es 1048576) (by omega)
     have hy1 : sizL es ≤ 1048576 := by omega
     have hy2 : sizL d ≤ 1048576 := by omega
     refine Runs.skip ?_; refine Runs.cseq ?_; refine Runs.regO (.inl rfl) nzc (fun R hR => ?_); simp (disch := omega) [if_t, hn, cc_law]; refine hR _ _ _ (by simp) ?_; clear hR R; refine Runs.cseq ?_; refine Runs.regO (.inl rfl) nzc (fun R hR => ?_); simp (disch := omega) [if_t, hn, cc_law]; refine hR _ _ _ (by simp) ?_; clear hR R; refine Runs.cseq ?_; refine Runs.regO (.inl rfl) nzc (fun R hR => ?_); simp (disch := omega) [if_t, hn, cc_law]; refine hR _ _ _ (by simp) ?_; clear hR R; refine Runs.cseq ?_; refine Runs.regO (.inl rfl) nzc (fun R hR => ?_); simp (disch := omega) [if_t, hn, cc_law]; refine hR _ _ _ (by simp) ?_; clear hR R; refine Runs.cseq ?_; refine Runs.cseq ?_; refine Runs.regO (.inl rfl) nzc (fun R hR => ?_); simp (disch := omega) [if_t, hn, cc_law]; refine hR _ _ _ (by simp) ?_; clear hR R; refine Runs.condI fun d hd => ?_; simp (disch := omega) [if_t, hn, cc_law] at hd; subst hd; refine cond_b (fun hc => ?_) (fun hc => ?_)
     ·first | (simp at hc; done) |
       (
       (try simp at hc); (try have hcx0 := inR_t.1 hc); (try have hcx1 := isV_t.1 hc); refine Runs.cseq ?_; refine Runs.regO (.inl rfl) nzc (fun R hR => ?_); simp (disch := omega) [if_t, hn, cc_law]; refine hR _ _ _ (by simp) ?_; clear hR R; refine Runs.ret ?_; dsimp only [thenQ, blockQ]; refine ⟨by simp, by simp (disch := omega) <;> omega, ?_⟩
       simp (disch := omega) [if_t, hn, cc_law, resD, resL, resV] <;> (first | omega | (simp_all; done) | (simp_all <;> omega)))
     ·first | (simp at hc; done) |
       (
       (try simp at hc); (try have hcx0 := inR_t.1 hc); (try have hcx1 := isV_t.1 hc); refine Runs.skip ?_; refine Runs.cseq ?_; refine Runs.cseq ?_; refine Runs.regO (.inl rfl) nzc (fun R hR => ?_); simp (disch := omega) [if_t, hn, cc_law]; refine hR _ _ _ (by simp) ?_; clear hR R; refine Runs.condI fun d hd => ?_; simp (disch := omega) [if_t, hn, cc_law] at hd; subst hd; refine cond_b (fun hc => ?_) (fun hc => ?_)
       ·first | (simp at hc; done) |
         (
         (try simp at hc); (try have hcx0 := inR_t.1 hc); (try have hcx1 := isV_t.1 hc); refine Runs.cseq ?_; refine Runs.regO (.inl rfl) nzc (fun R hR => ?_); simp (disch := omega) [if_t, hn, cc_law]; refine hR _ _ _ (by simp) ?_; clear hR R; refine Runs.ret ?_; dsimp only [thenQ, blockQ]; refine ⟨by simp, by simp (disch := omega) <;> omega, ?_⟩
         simp (disch := omega) [if_t, hn, cc_law, resD, resL, resV] <;> (first | omega | (simp_all; done) | (simp_all <;> omega)))
       ·first | (simp at hc; done) |
         (
         (try simp at hc); (try have hcx0 := inR_t.1 hc); (try have hcx1 := isV_t.1 hc); refine Runs.skip ?_; refine Runs.cseq ?_; refine Runs.cseq ?_; refine Runs.regO (.inl rfl) nzc (fun R hR => ?_); simp (disch := omega) [if_t, hn, cc_law]; refine hR _ _ _ (by simp) ?_; clear hR R; refine Runs.condI fun d hd => ?_; simp (disch := omega) [if_t, hn, cc_law] at hd; subst hd; refine cond_b (fun hc => ?_) (fun hc => ?_)
         ·first | (simp at hc; done) |
           (
           (try simp at hc); (try have hcx0 := inR_t.1 hc); (try have hcx1 := isV_t.1 hc); refine Runs.cseq ?_; refine Runs.regO (.inl rfl) nzc (fun R hR => ?_); simp (disch := omega) [if_t, hn, cc_law]; refine hR _ _ _ (by simp) ?_; clear hR R; refine Runs.ret ?_; dsimp only [thenQ, blockQ]; refine ⟨by simp, by simp (disch := omega) <;> omega, ?_⟩
           simp (disch := omega) [if_t, hn, cc_law, resD, resL, resV] <;> (first | omega | (simp_all; done) | (simp_all <;> omega)))
         ·first | (simp at hc; done) |
           (
           (try simp at hc); (try have hcx0 := inR_t.1 hc); (try have hcx1 := isV_t.1 hc); refine Runs.skip ?_; refine Runs.cseq ?_; refine Runs.regO (.inl rfl) nzc (fun R hR => ?_); simp (disch := omega) [if_t, hn, cc_law]; refine hR _ _ _ (by simp) ?_; clear hR R; refine Runs.ret ?_; dsimp only [thenQ, blockQ]; refine ⟨by simp, by simp (disch := omega) <;> omega, ?_⟩
           simp (disch := omega) [if_t, hn, cc_law, resD, resL, resV] <;> (first | omega | (simp_all; done) | (simp_all <;> omega)))))))

end Go.Proofs.Ytlokmogjbpcmgaa.Cv
