/- Readings, on: the machine of readings, and that a region is sound in whatever order. No condition. -/
import Derived.Test.YtlokmogjbpcmgaaCvb
set_option linter.unusedVariables false
set_option linter.unusedSimpArgs false
namespace Go.Cv
open Go

abbrev Res := Option (D × Nat × List Eff)

/-! ### regions -/
def dWanted (ops : List Oper) (fr : Fr) (o : Oper) : Option Bool :=
  match o.guard with
  | none => some true
  | some (g, want) =>
    match (ops[g]?).bind (·.dst) with
    | some t => match fr t with
      | .val (.bool b) => some (b == want)
      | .val _ => some false
      | _ => none
    | none => none

/-- the operations in the order of the text -/
def opsD (A : Cfg) (call : Call') (ops : List Oper) : List Oper → Fr → Nat → Option (Fr × Nat × List Eff)
  | [], fr, n => some (fr, n, [])
  | o :: rest, fr, n =>
    match dWanted ops fr o with
    | some true =>
      match opD A call fr n o.op with
      | some (d, n1, E) => (opsD A call ops rest (upd (appF E fr) o.dst d) n1).map fun r => (r.1, r.2.1, E ++ r.2.2)
      | none => none
    | some false => opsD A call ops rest (upd fr o.dst (.val undef)) n
    | none => none

structure Rec where
  d : D
  n0 : Nat
  n1 : Nat
  E : List Eff
  sk : Bool
  xs : List D

def oTmps (op : Op) : List Tmp := op.operands.toList.filterMap fun | .tmp t => some t | _ => none
def slots (ops : List Oper) (o : Oper) : List Tmp :=
  oTmps o.op ++ (match o.guard with | some (g, _) => ((ops[g]?).bind (·.dst)).toList | none => [])

/-- the same, with a record of each operation -/
def opsR (A : Cfg) (call : Call') (ops : List Oper) : List Oper → Fr → Nat → Option (List Rec)
  | [], _, _ => some []
  | o :: rest, fr, n =>
    match dWanted ops fr o with
    | some true =>
      match opD A call fr n o.op with
      | some (d, n1, E) => (opsR A call ops rest (upd (appF E fr) o.dst d) n1).map fun r => ⟨d, n, n1, E, false, (slots ops o).map fr⟩ :: r
      | none => none
    | some false => (opsR A call ops rest (upd fr o.dst (.val undef)) n).map fun r => ⟨.val undef, n, n, [], true, (slots ops o).map fr⟩ :: r
    | none => none

mutual
def D.clean (p : Nat → Bool) : D → Bool
  | .sl id _ _ _ es => !p id && cleanL p es
  | .pt id _ cs => !p id && cleanL p cs
  | .agg cs => cleanL p cs
  | .fn _ caps => cleanL p caps
  | .tup ds => cleanL p ds
  | .val _ => true
  | .ifc => true
  | .bad => false
def cleanL (p : Nat → Bool) : List D → Bool
  | [] => true
  | d :: ds => d.clean p && cleanL p ds
end

def binding (o : Oper) : List Nat := (o.after.toList.filter (Region.binds .any)).map (·.on)
/-- what comes before each operation, as bits -/
def befs : List Oper → List Nat → List Nat
  | [], acc => acc
  | o :: rest, acc => befs rest (acc ++ [(binding o).foldl (fun s j => s ||| 2 ^ j ||| acc.getD j 0) 0])
def comparable (bs : List Nat) (i j : Nat) : Bool := (bs.getD i 0).testBit j || (bs.getD j 0).testBit i
def isMove : Op → Bool
  | .move _ => true
  | .assign _ => true
  | _ => false

def effIds (rs : List Rec) : List Nat := rs.flatMap fun r => r.E.map Eff.id

/-- operation i is beside an effect of j -/
def besideOk (ids : List Nat) (o : Oper) (r : Rec) : Bool :=
  r.E.isEmpty && ((isMove o.op && !r.sk && o.guard.isNone) || (r.xs.all (D.clean ids.contains) && r.d.clean ids.contains))

def dynR (ops : List Oper) (rs : List Rec) : Bool :=
  let bs := befs ops []
  let ids := effIds rs
  ids.all (· != 0) && (List.range rs.length).all fun j => match rs[j]? with
    | some rj => rj.E.isEmpty || (List.range rs.length).all fun i => i == j || comparable bs i j || (match ops[i]?, rs[i]? with | some o, some r => besideOk ids o r | _, _ => false)
    | none => false

def dyn (A : Cfg) (call : Call') (ops : List Oper) (fr : Fr) (n : Nat) : Bool :=
  match opsR A call ops ops fr n with
  | some rs => dynR ops rs
  | none => false

def regD (A : Cfg) (call : Call') (ops : List Oper) (draw : Bool) (fr : Fr) (n : Nat) : Option (Fr × Nat × List Eff) :=
  match opsD A call ops ops fr n with
  | some r => if draw && !r.2.2.isEmpty && !dyn A call ops fr n then none else some r
  | none => none

def namesOf (ops : List Oper) (o : Oper) : List Tmp := o.dst.toList ++ slots ops o
/-- edges go back; what shares a temporary is comparable -/
def statOk (ops : List Oper) : Bool :=
  let bs := befs ops []
  let ix := List.range ops.length
  (ix.all fun k => match ops[k]? with | some o => (binding o).all (· < k) | none => true) &&
  (ix.all fun k => match ops[k]? with
    | some o => (namesOf ops o).all fun t => ix.all fun i => i == k || comparable bs i k || (match ops[i]? with | some o' => o'.dst != some t | none => true)
    | none => true)

def codeOk (N : Nat) : Code → Bool
  | .skip => true
  | .label _ => true
  | .exit _ => true
  | .ret => true
  | .region _ ops draw => (ops.toList.all fun o => match o.dst with | some t => t < N | none => true) && (!draw || statOk ops.toList)
  | .seq a b => codeOk N a && codeOk N b
  | .cond _ a b => codeOk N a && codeOk N b
  | .block _ a => codeOk N a
  | .loop a => codeOk N a
  | _ => false
def fnOk (fn : Func) (c : Code) : Bool := fn.name != "runtime.NumGoroutine" && codeOk fn.ntmps c

/-! ### what a call leaves -/
mutual
def D.ids : D → List Nat
  | .sl id _ _ _ es => id :: idsL es
  | .pt id _ cs => id :: idsL cs
  | .agg cs => idsL cs
  | .fn _ caps => idsL caps
  | .tup ds => idsL ds
  | .val _ => []
  | .ifc => []
  | .bad => []
def idsL : List D → List Nat
  | [] => []
  | d :: ds => d.ids ++ idsL ds
end

def Eff.mapD (f : D → D) : Eff → Eff
  | .wr i k c => .wr i k (f c)
  | .kill i => .kill i
def Eff.pay : Eff → List Nat
  | .wr _ _ c => c.ids
  | .kill _ => []
def killAll (K : List Nat) (d : D) : D := K.foldl (fun d i => d.kill i) d
def oldE (n : Nat) (E : List Eff) : List Eff :=
  let K := (E.map Eff.id).filter (n ≤ ·)
  (E.filter (fun e => e.id < n)).map (Eff.mapD (killAll K))
def keptIds (keep : Bool) (n : Nat) (d : D) (E : List Eff) : List Nat :=
  if keep then ((d.ids ++ E.flatMap Eff.pay).filter (n ≤ ·)).eraseDups else []
def posOf (i : Nat) : List Nat → Option Nat
  | [] => none
  | j :: l => if j = i then some 0 else (posOf i l).map (· + 1)
def renId (n : Nat) (kept : List Nat) (i : Nat) : Nat :=
  if i < n then i else match posOf i kept with | some j => n + j | none => 0
def leave (keep : Bool) (n : Nat) (d : D) (E : List Eff) : D × Nat × List Eff :=
  let E1 := oldE n E
  let kept := keptIds keep n d E1
  (d.ren (renId n kept), n + kept.length, E1.map (Eff.mapD (D.ren (renId n kept))))

def lowL (n : Nat) (ds : List D) : Bool := (idsL ds).all (· < n)

def argsFr (ds : List D) : Fr := fun t => (ds[t]?).getD .bad

def resV (P : Program) (fr : Fr) : ResultVar → Option D
  | .tmp t => some (fr t)
  | .cell a t => dLoad P t (fr a)
def resL (P : Program) (fr : Fr) : List ResultVar → Option (List D)
  | [] => some []
  | r :: rs => match resV P fr r, resL P fr rs with
    | some d, some ds => some (d :: ds)
    | _, _ => none
def resD (P : Program) (fr : Fr) (rs : List ResultVar) : Option D :=
  match resL P fr rs with
  | some [d] => some d
  | some ds => some (.tup ds)
  | none => none

/-! ### code -/
inductive Ex where
  | normal
  | exit (id : Nat)
  | ret
  deriving DecidableEq, Inhabited

abbrev CRes := Option (Ex × Fr × Nat × List Eff)

def seqR (r : CRes) (k : Fr → Nat → CRes) : CRes :=
  match r with
  | some (.normal, fr, n, E) => match k fr n with
    | some (x, fr', n', E') => some (x, fr', n', E ++ E')
    | none => none
  | r => r
def blockR (id : Nat) (r : CRes) : CRes :=
  match r with
  | some (.exit i, fr, n, E) => if i = id then some (.normal, fr, n, E) else some (.exit i, fr, n, E)
  | r => r
def endR (A : Cfg) (f : FuncId) (rs : List ResultVar) (n : Nat) (r : CRes) : Res :=
  match r with
  | some (.normal, fr, _, E) => (resD A.P fr rs).map fun d => leave (A.keep f) n d E
  | some (.ret, fr, _, E) => (resD A.P fr rs).map fun d => leave (A.keep f) n d E
  | _ => none

mutual
def evalF (A : Cfg) : Nat → Code → Fr → Nat → CRes
  | 0, _, _, _ => none
  | k + 1, c, fr, n =>
    match c with
    | .skip => some (.normal, fr, n, [])
    | .label _ => some (.normal, fr, n, [])
    | .region _ ops draw => (regD A (callF A k) ops.toList draw fr n).map fun r => (.normal, r.1, r.2.1, r.2.2)
    | .seq a b => seqR (evalF A k a fr n) (fun fr n => evalF A k b fr n)
    | .cond c x y => match evD A fr c with
      | .val (.bool t) => if t then evalF A k x fr n else evalF A k y fr n
      | _ => none
    | .block id c => blockR id (evalF A k c fr n)
    | .loop c => seqR (evalF A k c fr n) (fun fr n => evalF A k (.loop c) fr n)
    | .exit id => some (.exit id, fr, n, [])
    | .ret => some (.ret, fr, n, [])
    | _ => none
def callF (A : Cfg) : Nat → FuncId → List D → Nat → Res
  | 0, _, _, _ => none
  | k + 1, f, ds, n =>
    match A.ext f with
    | some h => h ds n
    | none =>
      match A.P.funcs[f]? with
      | some fn => match fn.body with
        | some c => if fnOk fn c = true ∧ lowL n ds = true then endR A f fn.results.toList n (evalF A k c (argsFr ds) n) else none
        | none => none
      | none => none
end

/-! ### more fuel, the same -/
def Le (c c' : Call') : Prop := ∀ f ds n r, c f ds n = some r → c' f ds n = some r

theorem opD_mono {A : Cfg} {c c' : Call'} (h : Le c c') {fr : Fr} {n : Nat} {op : Op} {r : D × Nat × List Eff} (hr : opD A c fr n op = some r) : opD A c' fr n op = some r := by
  unfold opD at *
  split at hr <;> try exact hr
  rename_i c0
  revert hr
  split
  · exact id
  · split
    · exact h _ _ _ _
    · exact id
  · exact id

theorem opsD_mono {A : Cfg} {c c' : Call'} (h : Le c c') {ops : List Oper} : ∀ (l : List Oper) {fr : Fr} {n : Nat} {r}, opsD A c ops l fr n = some r → opsD A c' ops l fr n = some r
  | [], _, _, _, hr => hr
  | o :: l, fr, n, r, hr => by
    simp only [opsD] at hr ⊢
    split at hr
    · cases ho : opD A c fr n o.op with
      | none => simp [ho] at hr
      | some q =>
        simp only [ho] at hr
        simp only [opD_mono h ho]
        cases hq : opsD A c ops l (upd (appF q.2.2 fr) o.dst q.1) q.2.1 with
        | none => simp [hq] at hr
        | some z => simp only [hq] at hr; simp only [opsD_mono h l hq]; exact hr
    · exact opsD_mono h l hr
    · simp at hr

theorem opsR_mono {A : Cfg} {c c' : Call'} (h : Le c c') {ops : List Oper} : ∀ (l : List Oper) {fr : Fr} {n : Nat} {r}, opsR A c ops l fr n = some r → opsR A c' ops l fr n = some r
  | [], _, _, _, hr => hr
  | o :: l, fr, n, r, hr => by
    simp only [opsR] at hr ⊢
    split at hr
    · cases ho : opD A c fr n o.op with
      | none => simp [ho] at hr
      | some q =>
        simp only [ho] at hr
        simp only [opD_mono h ho]
        cases hq : opsR A c ops l (upd (appF q.2.2 fr) o.dst q.1) q.2.1 with
        | none => simp [hq] at hr
        | some z => simp only [hq] at hr; simp only [opsR_mono h l hq]; exact hr
    · cases hq : opsR A c ops l (upd fr o.dst (.val undef)) n with
      | none => simp [hq] at hr
      | some z => simp only [hq] at hr; simp only [opsR_mono h l hq]; exact hr
    · simp at hr

theorem dyn_mono {A : Cfg} {c c' : Call'} (h : Le c c') {ops : List Oper} {fr : Fr} {n : Nat} (hr : dyn A c ops fr n = true) : dyn A c' ops fr n = true := by
  unfold dyn at *
  cases hq : opsR A c ops ops fr n with
  | none => simp [hq] at hr
  | some z => simp only [hq] at hr; simp only [opsR_mono h ops hq]; exact hr

theorem regD_some {A : Cfg} {c : Call'} {ops : List Oper} {draw : Bool} {fr : Fr} {n : Nat} {r : Fr × Nat × List Eff} :
    regD A c ops draw fr n = some r ↔ opsD A c ops ops fr n = some r ∧ (draw = true → r.2.2 ≠ [] → dyn A c ops fr n = true) := by
  unfold regD
  cases ho : opsD A c ops ops fr n with
  | none => simp
  | some q =>
    simp only [Option.some.injEq]
    constructor
    · intro h
      split at h
      · simp at h
      · rename_i hc
        simp at h
        subst h
        refine ⟨rfl, fun h1 h2 => ?_⟩
        simp only [h1, Bool.true_and, Bool.and_eq_true, Bool.not_eq_true', not_and, Bool.not_eq_false] at hc
        exact hc (by simpa using h2)
    · rintro ⟨rfl, h⟩
      rw [if_neg]
      intro hc
      simp only [Bool.and_eq_true, Bool.not_eq_true'] at hc
      obtain ⟨⟨h1, h2⟩, h3⟩ := hc
      rw [h h1 (by simpa using h2)] at h3
      simp at h3

theorem regD_mono {A : Cfg} {c c' : Call'} (h : Le c c') {ops : List Oper} {draw : Bool} {fr : Fr} {n : Nat} {r} (hr : regD A c ops draw fr n = some r) : regD A c' ops draw fr n = some r := by
  rw [regD_some] at *
  exact ⟨opsD_mono h _ hr.1, fun h1 h2 => dyn_mono h (hr.2 h1 h2)⟩

theorem seqR_mono {r r' : CRes} {k k' : Fr → Nat → CRes} {x} (h1 : ∀ x, r = some x → r' = some x) (h2 : ∀ fr n x, k fr n = some x → k' fr n = some x)
    (h : seqR r k = some x) : seqR r' k' = some x := by
  cases hr : r with
  | none => subst hr; simp [seqR] at h
  | some q =>
    rw [h1 q hr]
    subst hr
    obtain ⟨e, fr, n, E⟩ := q
    unfold seqR at *
    cases e <;> simp only at h ⊢
    · cases hk : k fr n with
      | none => simp [hk] at h
      | some z => simp only [hk] at h; simp only [h2 _ _ _ hk]; exact h
    · exact h
    · exact h

theorem mono_both (A : Cfg) : ∀ k, (∀ c fr n x, evalF A k c fr n = some x → evalF A (k + 1) c fr n = some x) ∧ Le (callF A k) (callF A (k + 1)) := by
  intro k
  induction k with
  | zero => exact ⟨fun c fr n x h => by simp [evalF] at h, fun f ds n r h => by simp [callF] at h⟩
  | succ k ih =>
    obtain ⟨ih1, ih2⟩ := ih
    refine ⟨fun c fr n x h => ?_, fun f ds n r h => ?_⟩
    · unfold evalF at h ⊢
      cases c <;> simp only at h ⊢ <;> try exact h
      case region id ops draw =>
        cases hr : regD A (callF A k) ops.toList draw fr n with
        | none => simp [hr] at h
        | some q => rw [regD_mono ih2 hr]; rw [hr] at h; exact h
      case seq a b => exact seqR_mono (fun x => ih1 _ _ _ x) (fun fr n x => ih1 _ _ _ x) h
      case cond c x y =>
        split at h
        · rename_i t ht
          cases t
          · exact ih1 _ _ _ _ h
          · exact ih1 _ _ _ _ h
        · simp at h
      case block id c =>
        cases hr : evalF A k c fr n with
        | none => simp [hr, blockR] at h
        | some q => rw [ih1 _ _ _ _ hr]; rw [hr] at h; exact h
      case loop c => exact seqR_mono (fun x => ih1 _ _ _ x) (fun fr n x => ih1 _ _ _ x) h
    · unfold callF at h ⊢
      split
      · rename_i hh he; simp only [he] at h; exact h
      · rename_i he
        simp only [he] at h
        split
        · rename_i fn hfn
          simp only [hfn] at h
          split
          · rename_i c hc
            simp only [hc] at h
            split at h
            · rename_i hok
              rw [if_pos hok]
              cases hr : evalF A k c (argsFr ds) n with
              | none => simp [hr, endR] at h
              | some q => rw [ih1 _ _ _ _ hr]; rw [hr] at h; exact h
            · simp at h
          · rename_i hc; simp [hc] at h
        · rename_i hfn; simp [hfn] at h

theorem evalF_le {A : Cfg} {k k' : Nat} (h : k ≤ k') {c : Code} {fr : Fr} {n : Nat} {x} (hx : evalF A k c fr n = some x) : evalF A k' c fr n = some x := by
  induction h with
  | refl => exact hx
  | step _ ih => exact (mono_both A _).1 _ _ _ _ ih
theorem callF_le {A : Cfg} {k k' : Nat} (h : k ≤ k') : Le (callF A k) (callF A k') := by
  induction h with
  | refl => exact fun _ _ _ _ h => h
  | step _ ih => exact fun f ds n r h => (mono_both A _).2 _ _ _ _ (ih _ _ _ _ h)

end Go.Cv
namespace Go.Cv
open Go

noncomputable def Cfg.call (A : Cfg) : Call' := fun f ds n => open Classical in if h : ∃ r k, callF A k f ds n = some r then some (Classical.choose h) else none
noncomputable def Cfg.code (A : Cfg) (c : Code) (fr : Fr) (n : Nat) : CRes := open Classical in if h : ∃ r k, evalF A k c fr n = some r then some (Classical.choose h) else none

section
variable {A : Cfg}

theorem call_some {f : FuncId} {ds : List D} {n : Nat} {r} : A.call f ds n = some r ↔ ∃ k, callF A k f ds n = some r := by
  unfold Cfg.call
  constructor
  · intro h
    split at h
    · rename_i hh
      cases h
      exact Classical.choose_spec hh
    · simp at h
  · rintro ⟨k, hk⟩
    have hh : ∃ r k, callF A k f ds n = some r := ⟨r, k, hk⟩
    rw [dif_pos hh]
    obtain ⟨k', hk'⟩ := Classical.choose_spec hh
    have h1 := callF_le (Nat.le_max_left k k') _ _ _ _ hk
    have h2 := callF_le (Nat.le_max_right k k') _ _ _ _ hk'
    rw [h1] at h2
    exact h2.symm

theorem code_some {c : Code} {fr : Fr} {n : Nat} {r} : A.code c fr n = some r ↔ ∃ k, evalF A k c fr n = some r := by
  unfold Cfg.code
  constructor
  · intro h
    split at h
    · rename_i hh
      cases h
      exact Classical.choose_spec hh
    · simp at h
  · rintro ⟨k, hk⟩
    have hh : ∃ r k, evalF A k c fr n = some r := ⟨r, k, hk⟩
    rw [dif_pos hh]
    obtain ⟨k', hk'⟩ := Classical.choose_spec hh
    have h1 := evalF_le (Nat.le_max_left k k') hk
    have h2 := evalF_le (Nat.le_max_right k k') hk'
    rw [h1] at h2
    exact h2.symm

theorem call_le (k : Nat) : Le (callF A k) A.call := fun _ _ _ _ h => call_some.2 ⟨k, h⟩

/-! ### one fuel is enough -/
theorem opD_cpt {fr : Fr} {n : Nat} {op : Op} {r} (h : opD A A.call fr n op = some r) : ∃ k, opD A (callF A k) fr n op = some r := by
  unfold opD at h
  split at h
  case h_23 c =>
    split at h
    · rename_i b hb; exact ⟨0, by unfold opD; simp only [hb]; exact h⟩
    · rename_i f hf
      split at h
      · rename_i g caps hg
        obtain ⟨k, hk⟩ := call_some.1 h
        exact ⟨k, by unfold opD; simp only [hf, hg]; exact hk⟩
      · simp at h
    · simp at h
  all_goals first
    | (simp at h; done)
    | exact ⟨0, by unfold opD; exact h⟩

theorem opsD_cpt {ops : List Oper} : ∀ (l : List Oper) {fr : Fr} {n : Nat} {r}, opsD A A.call ops l fr n = some r → ∃ k, opsD A (callF A k) ops l fr n = some r
  | [], _, _, _, hr => ⟨0, hr⟩
  | o :: l, fr, n, r, hr => by
    simp only [opsD] at hr
    split at hr
    · rename_i hw
      cases ho : opD A A.call fr n o.op with
      | none => simp [ho] at hr
      | some q =>
        simp only [ho] at hr
        cases hq : opsD A A.call ops l (upd (appF q.2.2 fr) o.dst q.1) q.2.1 with
        | none => simp [hq] at hr
        | some z =>
          simp only [hq] at hr
          obtain ⟨k1, h1⟩ := opD_cpt ho
          obtain ⟨k2, h2⟩ := opsD_cpt l hq
          refine ⟨max k1 k2, ?_⟩
          simp only [opsD, hw, opD_mono (callF_le (Nat.le_max_left k1 k2)) h1, opsD_mono (callF_le (Nat.le_max_right k1 k2)) l h2]
          exact hr
    · rename_i hw
      obtain ⟨k, hk⟩ := opsD_cpt l hr
      exact ⟨k, by simp only [opsD, hw]; exact hk⟩
    · simp at hr

theorem opsR_cpt {ops : List Oper} : ∀ (l : List Oper) {fr : Fr} {n : Nat} {r}, opsR A A.call ops l fr n = some r → ∃ k, opsR A (callF A k) ops l fr n = some r
  | [], _, _, _, hr => ⟨0, hr⟩
  | o :: l, fr, n, r, hr => by
    simp only [opsR] at hr
    split at hr
    · rename_i hw
      cases ho : opD A A.call fr n o.op with
      | none => simp [ho] at hr
      | some q =>
        simp only [ho] at hr
        cases hq : opsR A A.call ops l (upd (appF q.2.2 fr) o.dst q.1) q.2.1 with
        | none => simp [hq] at hr
        | some z =>
          simp only [hq] at hr
          obtain ⟨k1, h1⟩ := opD_cpt ho
          obtain ⟨k2, h2⟩ := opsR_cpt l hq
          refine ⟨max k1 k2, ?_⟩
          simp only [opsR, hw, opD_mono (callF_le (Nat.le_max_left k1 k2)) h1, opsR_mono (callF_le (Nat.le_max_right k1 k2)) l h2]
          exact hr
    · rename_i hw
      cases hq : opsR A A.call ops l (upd fr o.dst (.val undef)) n with
      | none => simp [hq] at hr
      | some z =>
        simp only [hq] at hr
        obtain ⟨k, hk⟩ := opsR_cpt l hq
        exact ⟨k, by simp only [opsR, hw, hk]; exact hr⟩
    · simp at hr

theorem regD_cpt {ops : List Oper} {draw : Bool} {fr : Fr} {n : Nat} {r} (h : regD A A.call ops draw fr n = some r) : ∃ k, regD A (callF A k) ops draw fr n = some r := by
  rw [regD_some] at h
  obtain ⟨k1, h1⟩ := opsD_cpt ops h.1
  by_cases hd : draw = true ∧ r.2.2 ≠ []
  · have h2 := h.2 hd.1 hd.2
    unfold dyn at h2
    cases hq : opsR A A.call ops ops fr n with
    | none => simp [hq] at h2
    | some z =>
      obtain ⟨k2, h3⟩ := opsR_cpt ops hq
      refine ⟨max k1 k2, ?_⟩
      rw [regD_some]
      refine ⟨opsD_mono (callF_le (Nat.le_max_left k1 k2)) ops h1, fun _ _ => ?_⟩
      unfold dyn
      rw [opsR_mono (callF_le (Nat.le_max_right k1 k2)) ops h3]
      rw [hq] at h2
      exact h2
  · exact ⟨k1, by rw [regD_some]; exact ⟨h1, fun a b => absurd ⟨a, b⟩ hd⟩⟩

theorem ext_some {α : Type} {x y : Option α} (h : ∀ r, x = some r ↔ y = some r) : x = y := by
  cases x with
  | none => cases y with
    | none => rfl
    | some b => exact absurd ((h b).2 rfl) (by simp)
  | some a => exact ((h a).1 rfl).symm

/-! ### equations -/
theorem code_region (id : Nat) (ops : Array Oper) (draw : Bool) (fr : Fr) (n : Nat) :
    A.code (.region id ops draw) fr n = (regD A A.call ops.toList draw fr n).map fun r => (.normal, r.1, r.2.1, r.2.2) := by
  refine ext_some fun r => ?_
  rw [code_some]
  constructor
  · rintro ⟨k, hk⟩
    cases k with
    | zero => simp [evalF] at hk
    | succ k =>
      simp only [evalF] at hk
      cases hr : regD A (callF A k) ops.toList draw fr n with
      | none => simp [hr] at hk
      | some q => rw [regD_mono (call_le k) hr]; rw [hr] at hk; exact hk
  · intro h
    cases hr : regD A A.call ops.toList draw fr n with
    | none => simp [hr] at h
    | some q =>
      obtain ⟨k, hk⟩ := regD_cpt hr
      exact ⟨k + 1, by simp only [evalF, hk]; rw [hr] at h; exact h⟩

theorem seqR_some {r : CRes} {k : Fr → Nat → CRes} {x} (h : seqR r k = some x) :
    (∃ fr n E e fr' n' E', r = some (.normal, fr, n, E) ∧ k fr n = some (e, fr', n', E') ∧ x = (e, fr', n', E ++ E')) ∨ (r = some x ∧ x.1 ≠ .normal) := by
  unfold seqR at h
  split at h
  · rename_i fr n E
    cases hk : k fr n with
    | none => simp [hk] at h
    | some q =>
      obtain ⟨e, fr', n', E'⟩ := q
      simp only [hk] at h
      cases h
      exact .inl ⟨fr, n, E, e, fr', n', E', rfl, hk, rfl⟩
  · rename_i hne
    refine .inr ⟨h, fun he => ?_⟩
    obtain ⟨e, fr, n, E⟩ := x
    simp only at he
    subst he
    exact hne _ _ _ h

theorem seqR_left {x} {k : Fr → Nat → CRes} (h : x.1 ≠ Ex.normal) : seqR (some x) k = some x := by
  obtain ⟨e, fr, n, E⟩ := x
  cases e <;> simp_all [seqR]

theorem code_seq (a b : Code) (fr : Fr) (n : Nat) : A.code (.seq a b) fr n = seqR (A.code a fr n) (fun fr n => A.code b fr n) := by
  refine ext_some fun r => ?_
  rw [code_some]
  constructor
  · rintro ⟨k, hk⟩
    cases k with
    | zero => simp [evalF] at hk
    | succ k =>
      simp only [evalF] at hk
      exact seqR_mono (fun x hx => code_some.2 ⟨k, hx⟩) (fun fr n x hx => code_some.2 ⟨k, hx⟩) hk
  · intro h
    rcases seqR_some h with ⟨fr1, n1, E, e, fr', n', E', h1, h2, rfl⟩ | ⟨h1, h2⟩
    · obtain ⟨k1, h1⟩ := code_some.1 h1
      obtain ⟨k2, h2⟩ := code_some.1 h2
      refine ⟨max k1 k2 + 1, ?_⟩
      simp only [evalF, evalF_le (Nat.le_max_left k1 k2) h1, seqR, evalF_le (Nat.le_max_right k1 k2) h2]
    · obtain ⟨k1, h1⟩ := code_some.1 h1
      exact ⟨k1 + 1, by simp only [evalF, h1, seqR_left h2]⟩

theorem code_loop (c : Code) (fr : Fr) (n : Nat) : A.code (.loop c) fr n = seqR (A.code c fr n) (fun fr n => A.code (.loop c) fr n) := by
  refine ext_some fun r => ?_
  rw [code_some]
  constructor
  · rintro ⟨k, hk⟩
    cases k with
    | zero => simp [evalF] at hk
    | succ k =>
      simp only [evalF] at hk
      exact seqR_mono (fun x hx => code_some.2 ⟨k, hx⟩) (fun fr n x hx => code_some.2 ⟨k, hx⟩) hk
  · intro h
    rcases seqR_some h with ⟨fr1, n1, E, e, fr', n', E', h1, h2, rfl⟩ | ⟨h1, h2⟩
    · obtain ⟨k1, h1⟩ := code_some.1 h1
      obtain ⟨k2, h2⟩ := code_some.1 h2
      refine ⟨max k1 k2 + 1, ?_⟩
      rw [evalF]
      simp only [evalF_le (Nat.le_max_left k1 k2) h1, seqR, evalF_le (Nat.le_max_right k1 k2) h2]
    · obtain ⟨k1, h1⟩ := code_some.1 h1
      exact ⟨k1 + 1, by rw [evalF]; simp only [h1, seqR_left h2]⟩

theorem code_cond (c : Operand) (x y : Code) (fr : Fr) (n : Nat) : A.code (.cond c x y) fr n = match evD A fr c with
    | .val (.bool t) => if t then A.code x fr n else A.code y fr n
    | _ => none := by
  refine ext_some fun r => ?_
  rw [code_some]
  constructor
  · rintro ⟨k, hk⟩
    cases k with
    | zero => simp [evalF] at hk
    | succ k =>
      simp only [evalF] at hk
      split at hk
      · rename_i t ht
        try rw [ht]
        cases t
        · exact code_some.2 ⟨k, hk⟩
        · exact code_some.2 ⟨k, hk⟩
      · simp at hk
  · intro h
    split at h
    · rename_i t ht
      cases t
      · obtain ⟨k, hk⟩ := code_some.1 h
        exact ⟨k + 1, by simp only [evalF, ht]; exact hk⟩
      · obtain ⟨k, hk⟩ := code_some.1 h
        exact ⟨k + 1, by simp only [evalF, ht]; exact hk⟩
    · simp at h

theorem code_block (id : Nat) (c : Code) (fr : Fr) (n : Nat) : A.code (.block id c) fr n = blockR id (A.code c fr n) := by
  refine ext_some fun r => ?_
  rw [code_some]
  constructor
  · rintro ⟨k, hk⟩
    cases k with
    | zero => simp [evalF] at hk
    | succ k =>
      simp only [evalF] at hk
      cases hr : evalF A k c fr n with
      | none => simp [hr, blockR] at hk
      | some q => rw [code_some.2 ⟨k, hr⟩]; rw [hr] at hk; exact hk
  · intro h
    cases hr : A.code c fr n with
    | none => simp [hr, blockR] at h
    | some q =>
      obtain ⟨k, hk⟩ := code_some.1 hr
      exact ⟨k + 1, by simp only [evalF, hk]; rw [hr] at h; exact h⟩

theorem code_skip (fr : Fr) (n : Nat) : A.code .skip fr n = some (.normal, fr, n, []) := code_some.2 ⟨1, rfl⟩
theorem code_label (l : Nat) (fr : Fr) (n : Nat) : A.code (.label l) fr n = some (.normal, fr, n, []) := code_some.2 ⟨1, rfl⟩
theorem code_exit (id : Nat) (fr : Fr) (n : Nat) : A.code (.exit id) fr n = some (.exit id, fr, n, []) := code_some.2 ⟨1, rfl⟩
theorem code_ret (fr : Fr) (n : Nat) : A.code .ret fr n = some (.ret, fr, n, []) := code_some.2 ⟨1, rfl⟩

theorem call_ext {f : FuncId} {h} (he : A.ext f = some h) (ds : List D) (n : Nat) : A.call f ds n = h ds n := by
  refine ext_some fun r => ?_
  rw [call_some]
  constructor
  · rintro ⟨k, hk⟩
    cases k with
    | zero => simp [callF] at hk
    | succ k => simp only [callF, he] at hk; exact hk
  · intro h
    exact ⟨1, by simp only [callF, he]; exact h⟩

theorem call_eq {f : FuncId} {fn : Func} {c : Code} (he : A.ext f = none) (hf : A.P.funcs[f]? = some fn) (hb : fn.body = some c) (hok : fnOk fn c = true) {ds : List D} {n : Nat} (hlow : lowL n ds = true) :
    A.call f ds n = endR A f fn.results.toList n (A.code c (argsFr ds) n) := by
  refine ext_some fun r => ?_
  rw [call_some]
  constructor
  · rintro ⟨k, hk⟩
    cases k with
    | zero => simp [callF] at hk
    | succ k =>
      simp only [callF, he, hf, hb, hok, hlow, and_self, if_true] at hk
      cases hr : evalF A k c (argsFr ds) n with
      | none => simp [hr, endR] at hk
      | some q => rw [code_some.2 ⟨k, hr⟩]; rw [hr] at hk; exact hk
  · intro h
    cases hr : A.code c (argsFr ds) n with
    | none => simp [hr, endR] at h
    | some q =>
      obtain ⟨k, hk⟩ := code_some.1 hr
      exact ⟨k + 1, by simp only [callF, he, hf, hb, hk, hok, hlow, and_self, if_true]; rw [hr] at h; exact h⟩
end
end Go.Cv
namespace Go.Cv
open Go

/-! ### what an effect leaves alone -/
theorem app_wr (i k : Nat) (c : D) : (Eff.wr i k c).app = D.wr i k c := rfl
theorem app_kill (i : Nat) : (Eff.kill i).app = D.kill i := rfl
theorem app_val (e : Eff) (v : Value) : e.app (.val v) = .val v := by cases e <;> simp [Eff.app, D.wr, D.kill]
theorem app_ifc (e : Eff) : e.app .ifc = .ifc := by cases e <;> simp [Eff.app, D.wr, D.kill]
theorem app_bad (e : Eff) : e.app .bad = .bad := by cases e <;> simp [Eff.app, D.wr, D.kill]
theorem app_agg (e : Eff) (cs : List D) : e.app (.agg cs) = .agg (cs.map e.app) := by cases e <;> simp [Eff.app, D.wr, D.kill, wrL_map, killL_map, app_wr, app_kill]
theorem app_tup (e : Eff) (cs : List D) : e.app (.tup cs) = .tup (cs.map e.app) := by cases e <;> simp [Eff.app, D.wr, D.kill, wrL_map, killL_map, app_wr, app_kill]
theorem app_fn (e : Eff) (f : Fn) (cs : List D) : e.app (.fn f cs) = .fn f (cs.map e.app) := by cases e <;> simp [Eff.app, D.wr, D.kill, wrL_map, killL_map, app_wr, app_kill]
theorem app_sl {e : Eff} {id off : Nat} {cap : Option Nat} {sz : Nat} {es : List D} (h : id ≠ e.id) : e.app (.sl id off cap sz es) = .sl id off cap sz (es.map e.app) := by
  cases e <;> simp [Eff.id] at h <;> simp [Eff.app, D.wr, D.kill, wrL_map, killL_map, app_wr, app_kill, h]
theorem app_pt {e : Eff} {id off : Nat} {es : List D} (h : id ≠ e.id) : e.app (.pt id off es) = .pt id off (es.map e.app) := by
  cases e <;> simp [Eff.id] at h <;> simp [Eff.app, D.wr, D.kill, wrL_map, killL_map, app_wr, app_kill, h]
theorem clean_sl_self {p : Nat → Bool} {e : Eff} (hp : p e.id = true) {off : Nat} {cap : Option Nat} {sz : Nat} {es : List D} : (e.app (.sl e.id off cap sz es)).clean p = false := by
  cases e <;> simp [Eff.id] at hp <;> simp [Eff.app, D.wr, D.kill, D.clean, hp, Eff.id]
theorem clean_pt_self {p : Nat → Bool} {e : Eff} (hp : p e.id = true) {off : Nat} {es : List D} : (e.app (.pt e.id off es)).clean p = false := by
  cases e <;> simp [Eff.id] at hp <;> simp [Eff.app, D.wr, D.kill, D.clean, hp, Eff.id]

mutual
theorem clean_app {p : Nat → Bool} {e : Eff} (hp : p e.id = true) : ∀ d : D, (e.app d).clean p = true ∨ d.clean p = true → e.app d = d
  | .val v, _ => app_val e v
  | .ifc, _ => app_ifc e
  | .bad, _ => app_bad e
  | .agg cs, h => by rw [app_agg] at h ⊢; rw [clean_appL hp cs h]
  | .tup cs, h => by rw [app_tup] at h ⊢; rw [clean_appL hp cs h]
  | .fn f cs, h => by rw [app_fn] at h ⊢; rw [clean_appL hp cs h]
  | .sl id off cap sz es, h => by
    have hne : id ≠ e.id := by
      intro he
      subst he
      rcases h with h | h
      · rw [clean_sl_self hp] at h; simp at h
      · simp [D.clean, hp] at h
    rw [app_sl hne] at h ⊢
    rw [clean_appL hp es (h.imp (fun h => by simp only [D.clean, Bool.and_eq_true] at h; exact h.2) (fun h => by simp only [D.clean, Bool.and_eq_true] at h; exact h.2))]
  | .pt id off es, h => by
    have hne : id ≠ e.id := by
      intro he
      subst he
      rcases h with h | h
      · rw [clean_pt_self hp] at h; simp at h
      · simp [D.clean, hp] at h
    rw [app_pt hne] at h ⊢
    rw [clean_appL hp es (h.imp (fun h => by simp only [D.clean, Bool.and_eq_true] at h; exact h.2) (fun h => by simp only [D.clean, Bool.and_eq_true] at h; exact h.2))]
theorem clean_appL {p : Nat → Bool} {e : Eff} (hp : p e.id = true) : ∀ ds : List D, cleanL p (ds.map e.app) = true ∨ cleanL p ds = true → ds.map e.app = ds
  | [], _ => rfl
  | d :: ds, h => by
    simp only [List.map_cons, cleanL, Bool.and_eq_true] at h
    simp only [List.map_cons]
    rw [clean_app hp d (h.imp (·.1) (·.1)), clean_appL hp ds (h.imp (·.2) (·.2))]
end

theorem clean_appE {p : Nat → Bool} : ∀ (E : List Eff) (d : D), (∀ e ∈ E, p e.id = true) → d.clean p = true → appE E d = d
  | [], _, _, _ => rfl
  | e :: E, d, h, hd => by rw [appE_cons, clean_app (h e (by simp)) d (.inr hd)]; exact clean_appE E d (fun x hx => h x (by simp [hx])) hd
theorem clean_back {p : Nat → Bool} : ∀ (E : List Eff) (d : D), (∀ e ∈ E, p e.id = true) → (appE E d).clean p = true → appE E d = d
  | [], _, _, _ => rfl
  | e :: E, d, h, hd => by
    rw [appE_cons] at hd ⊢
    have h1 := clean_back E (e.app d) (fun x hx => h x (by simp [hx])) hd
    rw [h1] at hd ⊢
    exact clean_app (h e (by simp)) d (.inl hd)

/-! what names no id -/
mutual
theorem closed_app {e : Eff} (he : e.id ≠ 0) : ∀ {d : D}, d.has (· != 0) = false → e.app d = d
  | .val v, _ => app_val e v
  | .ifc, _ => app_ifc e
  | .bad, _ => app_bad e
  | .agg cs, h => by rw [app_agg, closed_appL he cs (by simpa [D.has] using h)]
  | .tup cs, h => by rw [app_tup, closed_appL he cs (by simpa [D.has] using h)]
  | .fn f cs, h => by rw [app_fn, closed_appL he cs (by simpa [D.has] using h)]
  | .sl id off cap sz es, h => by
    simp only [D.has, Bool.or_eq_false_iff] at h
    have h0 : id = 0 := by simpa using h.1
    subst h0
    rw [app_sl (fun h => he h.symm), closed_appL he es h.2]
  | .pt id off es, h => by
    simp only [D.has, Bool.or_eq_false_iff] at h
    have h0 : id = 0 := by simpa using h.1
    subst h0
    rw [app_pt (fun h => he h.symm), closed_appL he es h.2]
theorem closed_appL {e : Eff} (he : e.id ≠ 0) : ∀ (ds : List D), hasL (· != 0) ds = false → ds.map e.app = ds
  | [], _ => rfl
  | d :: ds, h => by
    simp only [hasL, Bool.or_eq_false_iff] at h
    simp only [List.map_cons]
    rw [closed_app he h.1, closed_appL he ds h.2]
end
theorem closed_appE {d : D} (hd : d.has (· != 0) = false) : ∀ (E : List Eff), (∀ e ∈ E, e.id ≠ 0) → appE E d = d
  | [], _ => rfl
  | e :: E, h => by rw [appE_cons, closed_app (h e (by simp)) hd]; exact closed_appE hd E (fun x hx => h x (by simp [hx]))

theorem closed_leafD (v : Value) : (leafD v).has (· != 0) = false := by
  unfold leafD nilD
  split <;> simp [D.has, hasL]
theorem closed_constD (v : Value) : (constD v).has (· != 0) = false := by
  unfold constD
  split
  · rename_i vs
    simp only [D.has, hasL_any, List.any_map]
    rw [List.any_eq_false]
    intro x _
    simp [closed_leafD]
  · exact closed_leafD v

def GClosed (A : Cfg) : Prop := ∀ g cs, A.glob g = some cs → hasL (· != 0) cs = false

theorem evD_app {A : Cfg} (hA : GClosed A) (fr : Fr) (E : List Eff) (hE : ∀ e ∈ E, e.id ≠ 0) (x : Operand) : evD A (appF E fr) x = appE E (evD A fr x) := by
  cases x with
  | tmp t => rfl
  | const v => exact (closed_appE (closed_constD v) E hE).symm
  | global g =>
    simp only [evD]
    split
    · rename_i cs h; exact (closed_appE (by simp [D.has, hA g cs h]) E hE).symm
    · exact (closed_appE (by simp [D.has]) E hE).symm
  | func f => exact (closed_appE (d := .fn (.func f) []) (by simp [D.has, hasL]) E hE).symm

theorem evD_upd {A : Cfg} (fr : Fr) (dst : Option Tmp) (d : D) (x : Operand) (h : ∀ t, x = .tmp t → dst ≠ some t) : evD A (upd fr dst d) x = evD A fr x := by
  cases x with
  | tmp t =>
    cases dst with
    | none => rfl
    | some s =>
      have : t ≠ s := fun e => h t rfl (by rw [e])
      simp [evD, upd, this]
  | _ => rfl

/-! ### steps, and that they commute -/
section
variable (A : Cfg) (ops : List Oper)

def mvB (p : Oper × Rec) : Bool := isMove p.1.op && !p.2.sk && p.1.guard.isNone
def srcOf : Op → Operand
  | .move x => x
  | .assign x => x
  | _ => .const undef
def vl (p : Oper × Rec) (fr : Fr) : D := if mvB p = true then evD A fr (srcOf p.1.op) else p.2.d
def stepF (p : Oper × Rec) (fr : Fr) : Fr := upd (appF p.2.E fr) p.1.dst (vl A p fr)

theorem src_slot {o : Oper} {t : Tmp} (hm : isMove o.op = true) (h : srcOf o.op = .tmp t) : t ∈ slots ops o := by
  unfold slots oTmps
  refine List.mem_append_left _ (List.mem_filterMap.2 ⟨.tmp t, ?_, rfl⟩)
  cases hop : o.op <;> simp [hop, isMove] at hm <;> simp [hop, srcOf] at h <;> simp [Op.operands, h]

def Beside (p : Oper × Rec) (E : List Eff) : Prop := mvB p = true ∨ appE E p.2.d = p.2.d

theorem vl_step {p q : Oper × Rec} (hA : GClosed A) (hE : ∀ e ∈ q.2.E, e.id ≠ 0) (h1 : ∀ t, q.1.dst = some t → t ∉ slots ops p.1) (h2 : q.2.E = [] ∨ Beside p q.2.E) (f : Fr) :
    vl A p (stepF A q f) = appE q.2.E (vl A p f) := by
  unfold vl
  split
  · rename_i hm
    unfold stepF
    rw [evD_upd, evD_app hA f q.2.E hE]
    intro t ht hd
    have hmm : isMove p.1.op = true := by unfold mvB at hm; simp at hm; exact hm.1.1
    exact h1 t hd (src_slot ops hmm ht)
  · rename_i hm
    rcases h2 with h2 | h2
    · rw [h2]; rfl
    · rcases h2 with h2 | h2
      · exact absurd h2 hm
      · exact h2.symm

structure PairOk (p q : Oper × Rec) : Prop where
  d1 : ∀ t, q.1.dst = some t → t ∉ slots ops p.1
  d2 : ∀ t, p.1.dst = some t → t ∉ slots ops q.1
  d3 : ∀ t, p.1.dst = some t → q.1.dst ≠ some t
  one : p.2.E = [] ∨ q.2.E = []
  b1 : q.2.E = [] ∨ Beside p q.2.E
  b2 : p.2.E = [] ∨ Beside q p.2.E

theorem step_comm {p q : Oper × Rec} (hA : GClosed A) (hp : ∀ e ∈ p.2.E, e.id ≠ 0) (hq : ∀ e ∈ q.2.E, e.id ≠ 0) (h : PairOk ops p q) (f : Fr) :
    stepF A q (stepF A p f) = stepF A p (stepF A q f) := by
  have e1 := vl_step A ops hA hq h.d1 h.b1 f
  have e2 := vl_step A ops hA hp h.d2 h.b2 f
  have hE : ∀ d, appE q.2.E (appE p.2.E d) = appE p.2.E (appE q.2.E d) := by
    intro d
    rcases h.one with h | h <;> rw [h] <;> rfl
  funext t
  show upd (appF q.2.E (stepF A p f)) q.1.dst (vl A q (stepF A p f)) t = upd (appF p.2.E (stepF A q f)) p.1.dst (vl A p (stepF A q f)) t
  rw [e1, e2]
  unfold stepF upd appF
  have d3 := h.d3
  cases hpd : p.1.dst with
  | none =>
    cases hqd : q.1.dst with
    | none => exact hE _
    | some s =>
      by_cases hts : t = s
      · subst hts; simp
      · simp only [hts, if_false]; exact hE _
  | some r =>
    cases hqd : q.1.dst with
    | none =>
      by_cases htr : t = r
      · subst htr; simp
      · simp only [htr, if_false]; exact hE _
    | some s =>
      have hrs : r ≠ s := fun e => d3 r hpd (by rw [hqd, e])
      by_cases htr : t = r
      · subst htr; simp [hrs]
      · by_cases hts : t = s
        · subst hts; simp [htr]
        · simp only [htr, hts, if_false]; exact hE _

/-! ### a region, where some have come up -/
variable (L : List (Oper × Rec)) (fr0 : Fr)
def FS (S : Nat → Bool) : Nat → Fr
  | 0 => fr0
  | k + 1 => if S k = true then (match L[k]? with | some p => stepF A p (FS S k) | none => FS S k) else FS S k
def ES (S : Nat → Bool) : Nat → List Eff
  | 0 => []
  | k + 1 => if S k = true then (match L[k]? with | some p => ES S k ++ p.2.E | none => ES S k) else ES S k
def ins (S : Nat → Bool) (i : Nat) : Nat → Bool := fun j => S j || j == i

theorem FS_congr {S T : Nat → Bool} : ∀ k, (∀ j, j < k → S j = T j) → FS A L fr0 S k = FS A L fr0 T k
  | 0, _ => rfl
  | k + 1, h => by
    have ih := FS_congr k (fun j hj => h j (by omega))
    simp only [FS, h k (by omega), ih]
theorem ES_congr {S T : Nat → Bool} : ∀ k, (∀ j, j < k → S j = T j) → ES L S k = ES L T k
  | 0, _ => rfl
  | k + 1, h => by
    have ih := ES_congr k (fun j hj => h j (by omega))
    simp only [ES, h k (by omega), ih]

/-- one more has come up -/
theorem FS_ins {S : Nat → Bool} {i : Nat} {p : Oper × Rec} (hA : GClosed A) (hz : ∀ q ∈ L, ∀ e ∈ q.2.E, e.id ≠ 0) (hi : L[i]? = some p) (hS : S i = false)
    (hpair : ∀ k q, i < k → L[k]? = some q → S k = true → PairOk ops p q) :
    ∀ k, i < k → FS A L fr0 (ins S i) k = stepF A p (FS A L fr0 S k) ∧ ES L (ins S i) k = ES L S k ++ p.2.E := by
  intro k
  induction k with
  | zero => intro h; omega
  | succ k ih =>
    intro hk
    by_cases hik : i = k
    · subst hik
      have h1 : FS A L fr0 (ins S i) i = FS A L fr0 S i := FS_congr A L fr0 i (fun j hj => by simp [ins]; intro h; omega)
      have h2 : ES L (ins S i) i = ES L S i := ES_congr L i (fun j hj => by simp [ins]; intro h; omega)
      constructor
      · simp only [FS, hS, hi, h1]; simp [ins]
      · simp only [ES, hS, hi, h2]; simp [ins]
    · obtain ⟨h1, h2⟩ := ih (by omega)
      have hk' : ins S i k = S k := by simp [ins]; intro h; exact absurd h.symm hik
      cases hSk : S k with
      | false =>
        constructor
        · simp only [FS, hk', hSk]; simpa using h1
        · simp only [ES, hk', hSk]; simpa using h2
      | true =>
        cases hL : L[k]? with
        | none =>
          constructor
          · simp only [FS, hk', hSk, hL]; simpa using h1
          · simp only [ES, hk', hSk, hL]; simpa using h2
        | some q =>
          have hpq := hpair k q (by omega) hL hSk
          constructor
          · simp only [FS, hk', hSk, hL, if_true, h1]
            exact step_comm A ops hA (hz p (List.mem_of_getElem? hi)) (hz q (List.mem_of_getElem? hL)) hpq _
          · simp only [ES, hk', hSk, hL, if_true, h2]
            rcases hpq.one with h | h <;> rw [h] <;> simp
end
end Go.Cv
namespace Go.Cv
open Go

section
variable (ops : List Oper)
def dc (S : Nat → Bool) : Prop := ∀ k o, ops[k]? = some o → S k = true → ∀ j ∈ binding o, S j = true
def Bef (i j : Nat) : Prop := j < i ∧ ∀ S, dc ops S → S i = true → S j = true
def low : Prop := ∀ k o, ops[k]? = some o → ∀ j ∈ binding o, j < k

theorem fold_bits (acc : List Nat) (j : Nat) : ∀ (bl : List Nat) (s : Nat), (bl.foldl (fun s p => s ||| 2 ^ p ||| acc.getD p 0) s).testBit j = true →
    s.testBit j = true ∨ j ∈ bl ∨ ∃ p ∈ bl, (acc.getD p 0).testBit j = true
  | [], s, h => .inl h
  | b :: bl, s, h => by
    rcases fold_bits acc j bl _ h with h | h | ⟨p, hp, h⟩
    · simp only [Nat.testBit_or, Bool.or_eq_true] at h
      rcases h with (h | h) | h
      · exact .inl h
      · rw [Nat.testBit_two_pow] at h
        exact .inr (.inl (by simp at h; simp [h]))
      · exact .inr (.inr ⟨b, by simp, h⟩)
    · exact .inr (.inl (by simp [h]))
    · exact .inr (.inr ⟨p, by simp [hp], h⟩)

theorem befs_sound (hl : low ops) : ∀ (l pre : List Oper) (acc : List Nat), ops = pre ++ l → acc.length = pre.length →
    (∀ i j, (acc.getD i 0).testBit j = true → Bef ops i j) → ∀ i j, ((befs l acc).getD i 0).testBit j = true → Bef ops i j
  | [], _, acc, _, _, h, i, j, hb => h i j hb
  | o :: l, pre, acc, he, hlen, h, i, j, hb => by
    refine befs_sound hl l (pre ++ [o]) _ (by simp [he]) (by simp [hlen]) (fun i j hb => ?_) i j hb
    have ho : ops[pre.length]? = some o := by simp [he]
    by_cases hi : i < acc.length
    · rw [List.getD_eq_getElem?_getD, List.getElem?_append_left hi, ← List.getD_eq_getElem?_getD] at hb
      exact h i j hb
    · by_cases hi' : i = acc.length
      · subst hi'
        have hg : (acc ++ [(binding o).foldl (fun s j => s ||| 2 ^ j ||| acc.getD j 0) 0]).getD acc.length 0 = (binding o).foldl (fun s j => s ||| 2 ^ j ||| acc.getD j 0) 0 := by simp
        rw [hg] at hb
        rcases fold_bits acc j (binding o) 0 hb with hb | hb | ⟨p, hp, hb⟩
        · simp at hb
        · rw [hlen]
          exact ⟨hl _ o ho j hb, fun S hS h1 => hS _ o ho h1 j hb⟩
        · have h1 := h p j hb
          rw [hlen]
          have h2 := hl _ o ho p hp
          exact ⟨by have := h1.1; omega, fun S hS h3 => h1.2 S hS (hS _ o ho h3 p hp)⟩
      · rw [List.getD_eq_getElem?_getD, List.getElem?_eq_none (by simp; omega)] at hb
        simp at hb

theorem comparable_bef (hl : low ops) {i j : Nat} (h : comparable (befs ops []) i j = true) : Bef ops i j ∨ Bef ops j i := by
  have hs := befs_sound ops hl ops [] [] rfl rfl (fun i j h => by simp at h)
  unfold comparable at h
  simp only [Bool.or_eq_true] at h
  exact h.imp (hs i j) (hs j i)

theorem dc_ins {S : Nat → Bool} {i : Nat} (hS : dc ops S) (h : ∀ o, ops[i]? = some o → ∀ j ∈ binding o, S j = true) : dc ops (ins S i) := by
  intro k o hk hS' j hj
  unfold ins at hS' ⊢
  simp only [Bool.or_eq_true, beq_iff_eq] at hS' ⊢
  rcases hS' with h1 | h1
  · exact .inl (hS k o hk h1 j hj)
  · subst h1; exact .inl (h o hk j hj)

/-- what stands before i has come up, if i may -/
theorem bef_ready {S : Nat → Bool} {i j : Nat} (hS : dc ops S) (h : ∀ o, ops[i]? = some o → ∀ j ∈ binding o, S j = true) (hb : Bef ops i j) : S j = true := by
  have := hb.2 (ins S i) (dc_ins ops hS h) (by simp [ins])
  unfold ins at this
  simp only [Bool.or_eq_true, beq_iff_eq] at this
  rcases this with h | h
  · exact h
  · have := hb.1; omega
end

section
variable (A : Cfg) (ops : List Oper) (L : List (Oper × Rec)) (fr0 : Fr)

/-- what is asked of a region, in one place -/
structure RegOk : Prop where
  g : GClosed A
  low : low ops
  len : L.length = ops.length
  fst : ∀ (k : Nat) (p : Oper × Rec), L[k]? = some p → ops[k]? = some p.1
  nz : ∀ q ∈ L, ∀ e ∈ q.2.E, e.id ≠ 0
  names : ∀ (i k : Nat) (p q : Oper × Rec), L[i]? = some p → L[k]? = some q → i ≠ k → comparable (befs ops []) i k = false → ∀ t, p.1.dst = some t → q.1.dst ≠ some t ∧ t ∉ slots ops q.1
  beside : ∀ (i k : Nat) (p q : Oper × Rec), L[i]? = some p → L[k]? = some q → i ≠ k → comparable (befs ops []) i k = false → q.2.E = [] ∨
    (p.2.E = [] ∧ (mvB p = true ∨ (p.2.d.clean (effIds (L.map (·.2))).contains = true ∧ ∀ x ∈ p.2.xs, x.clean (effIds (L.map (·.2))).contains = true)))

theorem comparable_symm {bs : List Nat} {i j : Nat} : comparable bs i j = comparable bs j i := by simp [comparable, Bool.or_comm]

theorem idsIn {L : List (Oper × Rec)} {q : Oper × Rec} (hq : q ∈ L) : ∀ e ∈ q.2.E, (effIds (L.map (·.2))).contains e.id = true := by
  intro e he
  simp only [effIds, List.contains_iff_mem, List.mem_flatMap, List.mem_map]
  exact ⟨q.2, ⟨q, hq, rfl⟩, e, he, rfl⟩

theorem RegOk.pair {A : Cfg} {ops : List Oper} {L : List (Oper × Rec)} (H : RegOk A ops L) {i k : Nat} {p q : Oper × Rec} (hi : L[i]? = some p) (hk : L[k]? = some q) (hik : i ≠ k)
    (hc : comparable (befs ops []) i k = false) : PairOk ops p q := by
  have hc' : comparable (befs ops []) k i = false := by rw [comparable_symm]; exact hc
  have n1 := H.names i k p q hi hk hik hc
  have n2 := H.names k i q p hk hi (Ne.symm hik) hc'
  have b1 := H.beside i k p q hi hk hik hc
  have b2 := H.beside k i q p hk hi (Ne.symm hik) hc'
  refine ⟨fun t ht => (n2 t ht).2, fun t ht => (n1 t ht).2, fun t ht => (n1 t ht).1, ?_, ?_, ?_⟩
  · rcases b1 with b1 | b1
    · exact .inr b1
    · exact .inl b1.1
  · refine b1.imp id (fun h => h.2.imp id (fun h => clean_appE _ _ (idsIn (List.mem_of_getElem? hk)) h.1))
  · refine b2.imp id (fun h => h.2.imp id (fun h => clean_appE _ _ (idsIn (List.mem_of_getElem? hi)) h.1))

/-- i may come up, k is not before it nor behind it -/
theorem incomparable {ops : List Oper} (hl : low ops) {S : Nat → Bool} {i k : Nat} (hS : dc ops S) (hr : ∀ o, ops[i]? = some o → ∀ j ∈ binding o, S j = true)
    (hi : S i = false) (h : (k < i ∧ S k = false) ∨ (i < k ∧ S k = true)) : comparable (befs ops []) i k = false := by
  cases hc : comparable (befs ops []) i k with
  | false => rfl
  | true =>
    exfalso
    rcases comparable_bef ops hl hc with hb | hb
    · have h1 := bef_ready ops hS hr hb
      rcases h with h | h
      · rw [h.2] at h1; simp at h1
      · have := hb.1; omega
    · rcases h with h | h
      · have := hb.1; omega
      · have := hb.2 S hS h.2
        rw [hi] at this; simp at this

/-- one more has come up: at a slot of an operation beside it -/
theorem FS_ins_slot (H : RegOk A ops L) {S : Nat → Bool} {k : Nat} {q : Oper × Rec} (hk : L[k]? = some q) (hS : dc ops S) (hSk : S k = false)
    (hr : ∀ o, ops[k]? = some o → ∀ j ∈ binding o, S j = true) {x : Tmp} (hx : q.1.dst ≠ some x) :
    FS A L fr0 (ins S k) L.length x = appE q.2.E (FS A L fr0 S L.length x) := by
  have hlt : k < L.length := (List.getElem?_eq_some_iff.1 hk).1
  have h := (FS_ins A ops L fr0 H.g H.nz hk hSk (fun k' q' hkk hq hS' => H.pair hk hq (by omega) (incomparable H.low hS hr hSk (.inr ⟨hkk, hS'⟩))) L.length hlt).1
  rw [h]
  unfold stepF upd appF
  cases hd : q.1.dst with
  | none => rfl
  | some t =>
    have : x ≠ t := fun e => hx (by rw [hd, e])
    simp [this]

/-- **the slots of an operation that may come up hold what they hold in the order of the text** -/
theorem slot_same (H : RegOk A ops L) {S : Nat → Bool} {i : Nat} {p : Oper × Rec} (hi : L[i]? = some p) (hS : dc ops S) (hSi : S i = false)
    (hr : ∀ o, ops[i]? = some o → ∀ j ∈ binding o, S j = true) (hm : mvB p = false) {x : Tmp} (hx : x ∈ slots ops p.1)
    (hxs : p.2.xs = (slots ops p.1).map (FS A L fr0 (fun _ => true) i)) :
    FS A L fr0 S L.length x = FS A L fr0 (fun _ => true) i x := by
  have hlt : i < L.length := (List.getElem?_eq_some_iff.1 hi).1
  have hslot : ∀ {k q}, L[k]? = some q → k ≠ i → comparable (befs ops []) i k = false → q.1.dst ≠ some x := by
    intro k q hk hki hc hd
    exact (H.names k i q p hk hi hki (by rw [comparable_symm]; exact hc) x hd).2 hx
  have hcase : ∀ {k q}, L[k]? = some q → k ≠ i → comparable (befs ops []) i k = false → q.2.E ≠ [] → (FS A L fr0 (fun _ => true) i x).clean (effIds (L.map (·.2))).contains = true := by
    intro k q hk hki hc hE
    rcases H.beside i k p q hi hk (Ne.symm hki) hc with h | h
    · exact absurd h hE
    · rcases h.2 with h | h
      · rw [hm] at h; simp at h
      · exact h.2 _ (by rw [hxs]; exact List.mem_map.2 ⟨x, hx, rfl⟩)
  -- from S up
  have up : ∀ k, k ≤ i → ∃ F, (∀ e ∈ F, (effIds (L.map (·.2))).contains e.id = true) ∧ (F = [] ∨ (FS A L fr0 (fun _ => true) i x).clean (effIds (L.map (·.2))).contains = true) ∧
      FS A L fr0 (fun j => S j || decide (j < k)) L.length x = appE F (FS A L fr0 S L.length x) := by
    intro k
    induction k with
    | zero => intro _; exact ⟨[], by simp, .inl rfl, by rw [FS_congr A L fr0 (S := fun j => S j || decide (j < 0)) (T := S) L.length (fun j _ => by simp)]; rfl⟩
    | succ k ih =>
      intro hk
      obtain ⟨F, h1, h2, h3⟩ := ih (by omega)
      cases hSk : S k with
      | true =>
        refine ⟨F, h1, h2, ?_⟩
        rw [← h3]
        rw [FS_congr A L fr0 (T := fun j => S j || decide (j < k)) L.length (fun j _ => ?_)]
        by_cases hjk : j = k
        · subst hjk; simp [hSk]
        · have : (j < k + 1) ↔ (j < k) := by omega
          simp [this]
      | false =>
        have hkL : k < L.length := by omega
        obtain ⟨q, hq⟩ : ∃ q, L[k]? = some q := ⟨_, List.getElem?_eq_getElem hkL⟩
        have hinc := incomparable H.low hS hr hSi (.inl ⟨(by omega : k < i), hSk⟩)
        have hdc : dc ops (fun j => S j || decide (j < k)) := by
          intro k' o ho hk' j hj
          simp only [Bool.or_eq_true, decide_eq_true_eq] at hk' ⊢
          rcases hk' with h | h
          · exact .inl (hS k' o ho h j hj)
          · have := H.low k' o ho j hj; exact .inr (by omega)
        have := FS_ins_slot A ops L fr0 H hq hdc (by simp [hSk]) (fun o ho j hj => by simp [H.low k o ho j hj]) (hslot hq (by omega) hinc)
        refine ⟨F ++ q.2.E, ?_, ?_, ?_⟩
        · intro e he
          rcases List.mem_append.1 he with he | he
          · exact h1 e he
          · exact idsIn (List.mem_of_getElem? hq) e he
        · by_cases hE : q.2.E = []
          · rw [hE]; simpa using h2
          · exact .inr (hcase hq (by omega) hinc hE)
        · rw [appE_append, ← h3, ← this]
          rw [FS_congr A L fr0 (T := ins (fun j => S j || decide (j < k)) k) L.length (fun j _ => ?_)]
          unfold ins
          by_cases hjk : j = k
          · subst hjk; simp
          · have : (j < k + 1) ↔ (j < k) := by omega
            simp [this, hjk]
  -- from the text's order up
  have upT : ∀ k, k ≤ L.length → ∃ F, (∀ e ∈ F, (effIds (L.map (·.2))).contains e.id = true) ∧ (F = [] ∨ (FS A L fr0 (fun _ => true) i x).clean (effIds (L.map (·.2))).contains = true) ∧
      FS A L fr0 (fun j => decide (j < i) || (S j && decide (j < k))) L.length x = appE F (FS A L fr0 (fun _ => true) i x) := by
    have hbase : FS A L fr0 (fun j => decide (j < i)) L.length x = FS A L fr0 (fun _ => true) i x := by
      have : ∀ d, i + d ≤ L.length → FS A L fr0 (fun j => decide (j < i)) (i + d) = FS A L fr0 (fun _ => true) i := by
        intro d
        induction d with
        | zero => intro _; exact FS_congr A L fr0 i (fun j hj => by simp [hj])
        | succ d ih =>
          intro h
          show FS A L fr0 (fun j => decide (j < i)) ((i + d) + 1) = _
          simp only [FS]
          rw [if_neg (by simp)]
          exact ih (by omega)
      have h := this (L.length - i) (by omega)
      rw [show i + (L.length - i) = L.length by omega] at h
      rw [h]
    intro k
    induction k with
    | zero =>
      intro _
      refine ⟨[], by simp, .inl rfl, ?_⟩
      rw [FS_congr A L fr0 (T := fun j => decide (j < i)) L.length (fun j _ => by simp), hbase]; rfl
    | succ k ih =>
      intro hk
      obtain ⟨F, h1, h2, h3⟩ := ih (by omega)
      by_cases hadd : S k = true ∧ i < k
      · obtain ⟨q, hq⟩ : ∃ q, L[k]? = some q := ⟨_, List.getElem?_eq_getElem (by omega)⟩
        have hinc := incomparable H.low hS hr hSi (.inr ⟨hadd.2, hadd.1⟩)
        have hdc : dc ops (fun j => decide (j < i) || (S j && decide (j < k))) := by
          intro k' o ho hk' j hj
          have hlo := H.low k' o ho j hj
          simp only [Bool.or_eq_true, decide_eq_true_eq, Bool.and_eq_true] at hk' ⊢
          rcases hk' with h | h
          · exact .inl (by omega)
          · exact .inr ⟨hS k' o ho h.1 j hj, by omega⟩
        have := FS_ins_slot A ops L fr0 H hq hdc (by simp; omega) (fun o ho j hj => by
          have hlo := H.low k o ho j hj
          simp [hS k o ho hadd.1 j hj, hlo]) (hslot hq (by omega) hinc)
        refine ⟨F ++ q.2.E, ?_, ?_, ?_⟩
        · intro e he
          rcases List.mem_append.1 he with he | he
          · exact h1 e he
          · exact idsIn (List.mem_of_getElem? hq) e he
        · by_cases hE : q.2.E = []
          · rw [hE]; simpa using h2
          · exact .inr (hcase hq (by omega) hinc hE)
        · rw [appE_append, ← h3, ← this]
          rw [FS_congr A L fr0 (T := ins (fun j => decide (j < i) || (S j && decide (j < k))) k) L.length (fun j _ => ?_)]
          unfold ins
          by_cases hjk : j = k
          · subst hjk; simp [hadd.1]
          · have : (j < k + 1) ↔ (j < k) := by omega
            simp [this, hjk]
      · refine ⟨F, h1, h2, ?_⟩
        rw [← h3]
        rw [FS_congr A L fr0 (T := fun j => decide (j < i) || (S j && decide (j < k))) L.length (fun j _ => ?_)]
        by_cases hjk : j = k
        · subst hjk
          by_cases hji : j < i
          · simp [hji]
          · by_cases hji' : j = i
            · subst hji'; simp [hSi]
            · have : S j = false := by
                cases hSj : S j with
                | false => rfl
                | true => exact absurd ⟨hSj, by omega⟩ hadd
              simp [this]
        · have : (j < k + 1) ↔ (j < k) := by omega
          simp [this]
  obtain ⟨F1, a1, a2, a3⟩ := up i (Nat.le_refl _)
  obtain ⟨F2, b1, b2, b3⟩ := upT L.length (Nat.le_refl _)
  have hsame : FS A L fr0 (fun j => S j || decide (j < i)) L.length x = FS A L fr0 (fun j => decide (j < i) || (S j && decide (j < L.length))) L.length x := by
    rw [FS_congr A L fr0 (T := fun j => decide (j < i) || (S j && decide (j < L.length))) L.length (fun j hj => by simp [hj, Bool.or_comm])]
  rw [a3, b3] at hsame
  have hR : appE F2 (FS A L fr0 (fun _ => true) i x) = FS A L fr0 (fun _ => true) i x := by
    rcases b2 with h | h
    · rw [h]; rfl
    · exact clean_appE F2 _ b1 h
  rw [hR] at hsame
  rcases a2 with h | h
  · rw [h] at hsame; exact hsame
  · rw [← hsame] at h
    rw [← clean_back F1 _ a1 h]; exact hsame
end
end Go.Cv
namespace Go.Cv
open Go

/-- what names no id stands, whatever else is done -/
theorem R.closed {φ φ' : Phi} {w w' : World} {d : D} {v : Value} (h : R φ w d v) (hc : d.has (· != 0) = false)
    (old : ∀ b, b < w.heap.size → Untracked φ b → w'.heap[b]? = w.heap[b]? ∧ Untracked φ' b) (hsz : w.heap.size ≤ w'.heap.size) : R φ' w' d v := by
  induction h with
  | val v => exact .val v
  | ifc t x => exact .ifc t x
  | bad v => exact .bad v
  | @sl id off cap sz es A c u hcl hcap hsz' hp ha hcell hr ih =>
    obtain ⟨h0, hcs⟩ := has_false_sl hc
    have h0 : id = 0 := by simpa using h0
    subst h0
    unfold Place at hp
    rw [if_pos rfl] at hp
    have hlen : (flat es).length = es.length * sz := flat_length hsz'
    have hmul : es.length * sz ≤ c * sz := Nat.mul_le_mul_right _ hcl
    refine .sl u hcl hcap hsz' ?_ ha (fun j d hj => ?_) (fun j d hj => ih j d hj (hcs j d hj))
    · unfold Place
      rw [if_pos rfl]
      rcases hp with hp | ⟨a, ha', hlt, hu⟩
      · exact .inl hp
      · exact .inr ⟨a, ha', by omega, (old _ hlt hu).2⟩
    · rcases hp with hp | ⟨a, ha', hlt, hu⟩
      · have := (List.getElem?_eq_some_iff.1 hj).1; omega
      · have h1 := hcell j d hj
        rw [ha'] at h1 ⊢
        simp only [Option.getD_some] at h1 ⊢
        rw [World.cell?_of_block (w := w)]
        · exact h1
        · rw [add_block]; exact (old _ hlt hu).1
  | @pt id off cs a u hp hcell hr ih =>
    simp only [D.has, Bool.or_eq_false_iff] at hc
    have h0 : id = 0 := by simpa using hc.1
    subst h0
    have hcs := has_false_list hc.2
    unfold Place at hp
    rw [if_pos rfl] at hp
    refine .pt u ?_ (fun j d hj => ?_) (fun j d hj => ih j d hj (hcs j d hj))
    · unfold Place
      rw [if_pos rfl]
      rcases hp with hp | ⟨a', ha', hlt, hu⟩
      · exact .inl hp
      · exact .inr ⟨a', ha', by omega, (old _ hlt hu).2⟩
    · rcases hp with hp | ⟨a', ha', hlt, hu⟩
      · have := (List.getElem?_eq_some_iff.1 hj).1; omega
      · cases ha'
        rw [World.cell?_of_block (w := w)]
        · exact hcell j d hj
        · rw [add_block]; exact (old _ hlt hu).1
  | agg vs hl hr ih => exact .agg vs hl (fun j d v h1 h2 => ih j d v h1 h2 (has_false_list (by simpa [D.has] using hc) j d h1))
  | fn vs hl hr ih => exact .fn vs hl (fun j d v h1 h2 => ih j d v h1 h2 (has_false_list (by simpa [D.has] using hc) j d h1))
  | tup vs hl hr ih => exact .tup vs hl (fun j d v h1 h2 => ih j d v h1 h2 (has_false_list (by simpa [D.has] using hc) j d h1))

theorem GOk.trans {A : Cfg} (hA : GClosed A) {φ φ' : Phi} {w w' : World} {lo hi : Nat} {E : List Eff} (h : GOk A φ w) (t : Trans φ w φ' w' lo hi E) : GOk A φ' w' :=
  fun g cs hg => (h g cs hg).closed (by simp [D.has, hA g cs hg]) t.old t.size

/-- a machine that is sound -/
structure Good (A : Cfg) : Prop where
  mixed : A.P.follows .mixedOrders = true
  g : GClosed A
  ext : ∀ f h, A.ext f = some h → ∀ ds n d n' E, h ds n = some (d, n', E) → n ≠ 0 → n ≤ n' ∧ ∀ φ w vs, WF φ w → GOk A φ w → Fresh φ n n' → RL φ w ds vs →
    Does A.P (callFunc f vs.toArray) w (Post φ w n n' E d)

structure St (A : Cfg) (N B : Nat) (φ : Phi) (w : World) (fr : Fr) (a : Act) (n : Nat) : Prop where
  wf : WF φ w
  g : GOk A φ w
  fresh : ∀ i, n ≤ i → i < B → φ i = .no
  tm : ∀ t, R φ w (fr t) (a.tmps.getD t undef)
  df : a.defers = []
  sz : N ≤ a.tmps.size

theorem St.opn {A : Cfg} {N B : Nat} {φ : Phi} {w : World} {fr : Fr} {a : Act} {n : Nat} (h : St A N B φ w fr a n) (op : Op) : Opn A φ w fr a.eval op :=
  ⟨h.wf, h.g, fun t _ => h.tm t, fun _ => rfl, fun _ => rfl, fun _ => rfl⟩

theorem wanted_sound {ops : List Oper} {fr : Fr} {o : Oper} {b : Bool} {tmps : Array Value} {φ : Phi} {w : World} (h : dWanted ops fr o = some b)
    (ht : ∀ t, t ∈ slots ops o → R φ w (fr t) (tmps.getD t undef)) : Region.wanted o (yielded ops.toArray tmps) = b := by
  unfold dWanted at h
  unfold Region.wanted
  cases hg : o.guard with
  | none => simp [hg] at h; subst h; rfl
  | some p =>
    obtain ⟨g, want⟩ := p
    simp only [hg] at h ⊢
    cases hd : (ops[g]?).bind (·.dst) with
    | none => simp [hd] at h
    | some t =>
      simp only [hd] at h
      have hr := ht t (by unfold slots; rw [hg]; simp [hd])
      have hy : yielded ops.toArray tmps g = match tmps[t]? with | some (.bool b) => some b | _ => none := by
        unfold yielded
        have : (ops.toArray[g]?).bind (·.dst) = some t := by simpa using hd
        rw [this]; rfl
      rw [hy]
      have hget : tmps.getD t undef = (tmps[t]?).getD undef := by simp [Array.getD_eq_getD_getElem?]
      rw [hget] at hr
      split at h
      · rename_i b' hf
        rw [hf] at hr
        cases h
        cases hx : tmps[t]? with
        | none => rw [hx] at hr; simp [undef] at hr; cases hr
        | some v => rw [hx] at hr; simp at hr; cases hr; rfl
      · rename_i v hne hf
        rw [hf] at hr
        cases h
        cases hx : tmps[t]? with
        | none => rfl
        | some v' =>
          rw [hx] at hr
          simp at hr
          cases hr
          cases v <;> first | rfl | exact absurd rfl (hne _)
      · simp at h

theorem put_tm {A : Cfg} {φ : Phi} {w : World} {fr : Fr} {a : Act} {dst : Option Tmp} {d : D} {v : Value} {N : Nat} (hd : ∀ t, dst = some t → t < N) (hN : N ≤ a.tmps.size)
    (ht : ∀ t, R φ w (fr t) (a.tmps.getD t undef)) (hv : R φ w d v) : (∀ t, R φ w (upd fr dst d t) ((a.put dst v).tmps.getD t undef)) ∧ (a.put dst v).defers = a.defers ∧ (a.put dst v).tmps.size = a.tmps.size := by
  cases dst with
  | none => exact ⟨ht, rfl, rfl⟩
  | some s =>
    have hs : s < a.tmps.size := Nat.lt_of_lt_of_le (hd s rfl) hN
    refine ⟨fun t => ?_, rfl, by simp [Act.put]⟩
    by_cases hts : t = s
    · subst hts
      simp [upd, Act.put, hs]
      exact hv
    · have : (a.put (some s) v).tmps.getD t undef = a.tmps.getD t undef := by
        simp [Act.put, Array.getElem?_setIfInBounds_ne (Ne.symm hts)]
      rw [this]
      simp only [upd, hts, if_false]
      exact ht t

/-- one operation, carried out: what it leaves -/
theorem St.after {A : Cfg} (hA : Good A) {N B : Nat} {φ φ' : Phi} {w w' : World} {fr : Fr} {a : Act} {n n' : Nat} {E : List Eff} {dst : Option Tmp} {d : D} {v : Value}
    (h : St A N B φ w fr a n) (hn : n ≤ n') (t : Trans φ w φ' w' n n' E) (hv : R φ' w' d v) (hd : ∀ t, dst = some t → t < N) : St A N B φ' w' (upd (appF E fr) dst d) (a.put dst v) n' := by
  obtain ⟨h1, h2, h3⟩ := put_tm (A := A) (N := N) hd h.sz (fun s => t.keep _ _ (h.tm s)) hv
  refine ⟨t.wf, h.g.trans hA.g t, fun i hi hiB => ?_, h1, by rw [h2]; exact h.df, by rw [h3]; exact h.sz⟩
  cases hφ : φ' i with
  | no => rfl
  | _ =>
    rcases t.dom i (by rw [hφ]; simp) with h' | ⟨h1, h2⟩
    · exact absurd (h.fresh i (by omega) hiB) h'
    · omega

theorem opsD_le {A : Cfg} {call : Call'} (hcall : CallS A call) {ops : List Oper} : ∀ (l : List Oper) {fr : Fr} {n : Nat} {fr' : Fr} {n' : Nat} {E : List Eff},
    opsD A call ops l fr n = some (fr', n', E) → n ≠ 0 → n ≤ n'
  | [], _, _, _, _, _, h, _ => by simp [opsD] at h; omega
  | o :: l, fr, n, fr', n', E, h, hn => by
    simp only [opsD] at h
    split at h
    · cases ho : opD A call fr n o.op with
      | none => simp [ho] at h
      | some q =>
        obtain ⟨d, n1, E1⟩ := q
        simp only [ho] at h
        have h1 := (op_sound (A := A) (o := o) ho hn hcall).1
        cases hq : opsD A call ops l (upd (appF E1 fr) o.dst d) n1 with
        | none => simp [hq] at h
        | some z =>
          obtain ⟨f2, n2, E2⟩ := z
          simp only [hq, Option.map_some, Option.some.injEq, Prod.mk.injEq] at h
          have h2 := opsD_le hcall l hq (by omega)
          omega
    · exact opsD_le hcall l h hn
    · simp at h

/-- **a region in the order of its text** -/
theorem ops_sound {A : Cfg} (hA : Good A) {call : Call'} (hcall : CallS A call) {ops : List Oper} {N B : Nat} {Q : Exit → Act → World → Prop} : ∀ (l : List Oper) (k : Nat), (∀ j, l[j]? = ops[k + j]?) → (∀ o ∈ ops, ∀ t, o.dst = some t → t < N) →
    ∀ {fr : Fr} {n : Nat} {fr' : Fr} {n' : Nat} {E : List Eff}, opsD A call ops l fr n = some (fr', n', E) → n ≠ 0 → n' ≤ B →
    ∀ {φ : Phi} {w : World} {a : Act}, St A N B φ w fr a n → (∀ φ' w' a', Trans φ w φ' w' n n' E → St A N B φ' w' fr' a' n' → Q .normal a' w') →
    wpOps A.P ops.toArray Q (List.range' k l.length) a w
  | [], k, _, _, fr, n, fr', n', E, h, _, _, φ, w, a, hs, hq => by
    simp [opsD] at h
    obtain ⟨rfl, rfl, rfl⟩ := h
    simp only [List.length_nil, List.range'_zero, wpOps]
    exact hq φ w a (Trans.refl hs.wf n) hs
  | o :: l, k, hl, hN, fr, n, fr', n', E, h, hn, hB, φ, w, a, hs, hq => by
    have ho : ops[k]? = some o := by simpa using (hl 0).symm
    have hmem : o ∈ ops := List.mem_of_getElem? ho
    have hl' : ∀ j, l[j]? = ops[k + 1 + j]? := fun j => by have := hl (j + 1); simpa [Nat.add_assoc, Nat.add_comm 1 j] using this
    simp only [opsD] at h
    simp only [List.length_cons, List.range'_succ]
    have ho' : ops.toArray[k]? = some o := by simpa using ho
    simp only [wpOps, ho']
    split at h
    · rename_i hw
      have hwant := wanted_sound hw (fun t _ => hs.tm t)
      simp only [hwant, if_true]
      cases hop : opD A call fr n o.op with
      | none => simp [hop] at h
      | some q =>
        obtain ⟨d, n1, E1⟩ := q
        simp only [hop] at h
        obtain ⟨h1, h2⟩ := op_sound (A := A) (o := o) hop hn hcall
        cases hq' : opsD A call ops l (upd (appF E1 fr) o.dst d) n1 with
        | none => simp [hq'] at h
        | some z =>
          obtain ⟨f2, n2, E2⟩ := z
          simp only [hq', Option.map_some, Option.some.injEq, Prod.mk.injEq] at h
          obtain ⟨rfl, rfl, rfl⟩ := h
          have hle := opsD_le hcall l hq' (by omega)
          refine .inl (Does.wp (h2 φ w a.eval (hs.opn o.op) (fun i hi hi' => hs.fresh i hi (by omega))) fun v w' ⟨φ', ht, hv⟩ => ?_)
          have hs' := hs.after hA h1 ht hv (fun t ht => hN o hmem t ht) (dst := o.dst)
          exact ops_sound hA hcall l (k + 1) hl' hN hq' (by omega) hB hs' fun φ2 w2 a2 t2 s2 => hq φ2 w2 a2 (ht.trans t2 h1 hle) s2
    · rename_i hw
      have hwant := wanted_sound hw (fun t _ => hs.tm t)
      simp only [hwant, Bool.false_eq_true, if_false]
      have hs' := hs.after hA (Nat.le_refl n) (Trans.refl hs.wf n) (.val undef) (fun t ht => hN o hmem t ht) (dst := o.dst)
      exact ops_sound hA hcall l (k + 1) hl' hN (fr := upd (appF [] fr) o.dst (.val undef)) h hn hB hs' hq
    · simp at h
end Go.Cv
namespace Go.Cv
open Go

theorem Trans.trans' {φ φ1 φ2 : Phi} {w w1 w2 : World} {lo hi : Nat} {E F : List Eff} (h : Trans φ w φ1 w1 lo hi E) (k : Trans φ1 w1 φ2 w2 lo hi F) : Trans φ w φ2 w2 lo hi (E ++ F) where
  wf := k.wf
  keep d v hr := by rw [appE_append]; exact k.keep _ _ (h.keep _ _ hr)
  dom i hi' := by
    rcases k.dom i hi' with hi' | h2
    · exact h.dom i hi'
    · exact .inr h2
  size := Nat.le_trans h.size k.size
  old b hb hu := by
    obtain ⟨e1, u1⟩ := h.old b hb hu
    obtain ⟨e2, u2⟩ := k.old b (Nat.lt_of_lt_of_le hb h.size) u1
    exact ⟨e2.trans e1, u2⟩
  os := k.os.trans h.os
  tape := k.tape.trans h.tape
  output := k.output.trans h.output

section
variable (A : Cfg) (call : Call') (ops : List Oper) (L : List (Oper × Rec)) (fr0 : Fr)

structure Canon (f : Fr) (p : Oper × Rec) : Prop where
  xs : p.2.xs = (slots ops p.1).map f
  want : dWanted ops f p.1 = some (!p.2.sk)
  op : p.2.sk = false → opD A call f p.2.n0 p.1.op = some (p.2.d, p.2.n1, p.2.E)
  skip : p.2.sk = true → p.2.d = .val undef ∧ p.2.E = [] ∧ p.2.n1 = p.2.n0

structure Inv (n0 n' N : Nat) (φ0 : Phi) (w0 : World) (S : Nat → Bool) (φ : Phi) (w : World) (a : Act) : Prop where
  t : Trans φ0 w0 φ w n0 n' (ES L S L.length)
  g : GOk A φ w
  dom : ∀ i, φ i ≠ .no → φ0 i ≠ .no ∨ ∃ (k : Nat) (p : Oper × Rec), S k = true ∧ L[k]? = some p ∧ p.2.n0 ≤ i ∧ i < p.2.n1
  tm : ∀ t, R φ w (FS A L fr0 S L.length t) (a.tmps.getD t undef)
  df : a.defers = []
  sz : N ≤ a.tmps.size

structure Rng (n0 n' : Nat) : Prop where
  pos : n0 ≠ 0
  lo : ∀ (k : Nat) (p : Oper × Rec), L[k]? = some p → n0 ≤ p.2.n0 ∧ p.2.n0 ≤ p.2.n1 ∧ p.2.n1 ≤ n'
  ord : ∀ (i k : Nat) (p q : Oper × Rec), i < k → L[i]? = some p → L[k]? = some q → p.2.n1 ≤ q.2.n0

theorem exec_one {A : Cfg} {call : Call'} {ops : List Oper} {L : List (Oper × Rec)} {fr0 : Fr} (hA : Good A) (hcall : CallS A call) (H : RegOk A ops L)
    (hcan : ∀ (i : Nat) (p : Oper × Rec), L[i]? = some p → Canon A call ops (FS A L fr0 (fun _ => true) i) p) {n0 n' N : Nat} (hr : Rng L n0 n')
    (hN : ∀ o ∈ ops, ∀ t, o.dst = some t → t < N) {φ0 : Phi} {w0 : World} (h0 : ∀ i, n0 ≤ i → i < n' → φ0 i = .no) {S : Nat → Bool} {φ : Phi} {w : World} {a : Act} (inv : Inv A L fr0 n0 n' N φ0 w0 S φ w a)
    (hS : dc ops S) {i : Nat} (hi : i < ops.length) (hSi : S i = false) (hrd : ∀ o, ops[i]? = some o → ∀ j ∈ binding o, S j = true) {Q : Exit → Act → World → Prop} {K : Act → World → Prop}
    (hK : ∀ φ' w' a', Inv A L fr0 n0 n' N φ0 w0 (ins S i) φ' w' a' → K a' w') : wpOp A.P ops.toArray Q i K a w := by
  have hiL : i < L.length := by rw [H.len]; exact hi
  obtain ⟨p, hp⟩ : ∃ p, L[i]? = some p := ⟨_, List.getElem?_eq_getElem hiL⟩
  have ho : ops[i]? = some p.1 := H.fst i p hp
  have hmem : p.1 ∈ ops := List.mem_of_getElem? ho
  have can := hcan i p hp
  obtain ⟨hlo, hle, hhi⟩ := hr.lo i p hp
  have hins := FS_ins A ops L fr0 (S := S) H.g H.nz hp hSi (fun k' q' hkk hq hS' => H.pair hp hq (by omega) (incomparable H.low hS hrd hSi (.inr ⟨hkk, hS'⟩))) L.length hiL
  have hfresh : Fresh φ p.2.n0 p.2.n1 := by
    intro id h1 h2
    cases hφ : φ id with
    | no => rfl
    | _ =>
      rcases inv.dom id (by rw [hφ]; simp) with h | ⟨k, q, hk, hq, h3, h4⟩
      · exact absurd (h0 id (by omega) (by omega)) h
      · rcases Nat.lt_trichotomy k i with h | h | h
        · have := hr.ord k i q p h hq hp; omega
        · subst h; rw [hSi] at hk; simp at hk
        · have := hr.ord i k p q h hp hq; omega
  -- what follows, once it is done
  have fin : ∀ v w' φ', Trans φ w φ' w' p.2.n0 p.2.n1 p.2.E → R φ' w' (vl A p (FS A L fr0 S L.length)) v → K (a.put p.1.dst v) w' := by
    intro v w' φ' t hv
    obtain ⟨h1, h2, h3⟩ := put_tm (N := N) (A := A) (fun t ht => hN p.1 hmem t ht) inv.sz (fun s => t.keep _ _ (inv.tm s)) hv (dst := p.1.dst)
    refine hK φ' w' _ ⟨?_, inv.g.trans hA.g t, fun id hid => ?_, fun s => ?_, by rw [h2]; exact inv.df, by rw [h3]; exact inv.sz⟩
    · rw [hins.2]; exact inv.t.trans' (t.widen hlo hhi)
    · rcases t.dom id hid with h | h
      · rcases inv.dom id h with h | ⟨k, q, hk, hq, h⟩
        · exact .inl h
        · exact .inr ⟨k, q, by simp [ins, hk], hq, h⟩
      · exact .inr ⟨i, p, by simp [ins], hp, h⟩
    · rw [hins.1]; exact h1 s
  have ho' : ops.toArray[i]? = some p.1 := by simpa using ho
  unfold wpOp
  simp only [ho']
  by_cases hm : mvB p = true
  · have hm' := hm
    simp only [mvB, Bool.and_eq_true, Bool.not_eq_true'] at hm'
    obtain ⟨⟨hm1, hm2⟩, hm3⟩ := hm'
    have hg : p.1.guard = none := by simpa using hm3
    have hw : Region.wanted p.1 (yielded ops.toArray a.tmps) = true := by unfold Region.wanted; rw [hg]
    simp only [hw, if_true]
    have hop := can.op hm2
    have hres : p.2.E = [] ∧ p.2.n1 = p.2.n0 := by
      unfold opD at hop
      cases hop' : p.1.op <;> simp [hop', isMove] at hm1 <;> simp [hop'] at hop <;> exact ⟨hop.2.2, hop.2.1.symm⟩
    have hop2 : opD A call (FS A L fr0 S L.length) p.2.n0 p.1.op = some (vl A p (FS A L fr0 S L.length), p.2.n0, []) := by
      unfold vl
      rw [if_pos hm]
      cases hop' : p.1.op <;> simp [hop', isMove] at hm1 <;> simp [opD, srcOf]
    obtain ⟨_, h2⟩ := op_sound (A := A) (o := p.1) hop2 (by have := hr.pos; omega) hcall
    refine .inl (Does.wp (h2 φ w a.eval ⟨inv.t.wf, inv.g, fun t _ => inv.tm t, fun _ => rfl, fun _ => rfl, fun _ => rfl⟩ (fun i h1 h2 => by omega)) fun v w' ⟨φ', t, hv⟩ => ?_)
    exact fin v w' φ' (by rw [hres.1, hres.2]; exact t) hv
  · have hm' : mvB p = false := by simpa using hm
    have hsl : ∀ x ∈ slots ops p.1, FS A L fr0 S L.length x = FS A L fr0 (fun _ => true) i x := fun x hx => slot_same A ops L fr0 H hp hS hSi hrd hm' hx can.xs
    have hvl : vl A p (FS A L fr0 S L.length) = p.2.d := by unfold vl; rw [if_neg hm]
    have hwant := wanted_sound can.want (fun t ht => by have := inv.tm t; rw [hsl t ht] at this; exact this)
    cases hsk : p.2.sk with
    | false =>
      rw [hsk] at hwant
      simp only [hwant, Bool.not_false, if_true]
      obtain ⟨_, h2⟩ := op_sound (A := A) (o := p.1) (can.op hsk) (by have := hr.pos; omega) hcall
      refine .inl (Does.wp (h2 φ w a.eval ⟨inv.t.wf, inv.g, fun t ht => ?_, fun _ => rfl, fun _ => rfl, fun _ => rfl⟩ hfresh) fun v w' ⟨φ', t, hv⟩ => fin v w' φ' t (by rw [hvl]; exact hv))
      rw [← hsl t (by
        unfold slots oTmps
        exact List.mem_append_left _ (List.mem_filterMap.2 ⟨.tmp t, by simpa using ht, rfl⟩))]
      exact inv.tm t
    | true =>
      rw [hsk] at hwant
      simp only [hwant, Bool.not_true, Bool.false_eq_true, if_false]
      obtain ⟨e1, e2, e3⟩ := can.skip hsk
      refine fin undef w φ ?_ ?_
      · rw [e2, e3]; exact Trans.refl inv.t.wf _
      · rw [hvl, e1]; exact .val undef

/-! ### whatever order -/
def un (S : Nat → Bool) : Nat → Nat
  | 0 => 0
  | k + 1 => un S k + if S k = true then 0 else 1

theorem un_congr {S T : Nat → Bool} : ∀ k, (∀ j, j < k → S j = T j) → un S k = un T k
  | 0, _ => rfl
  | k + 1, h => by simp only [un, un_congr k (fun j hj => h j (by omega)), h k (by omega)]
theorem un_ins {S : Nat → Bool} {i : Nat} (hi : S i = false) : ∀ k, i < k → un (ins S i) k + 1 = un S k
  | 0, h => by omega
  | k + 1, h => by
    by_cases hik : i = k
    · subst hik
      have := un_congr (S := ins S i) (T := S) i (fun j hj => by simp [ins]; intro h; omega)
      simp only [un, this, hi]
      simp [ins]
    · have ih := un_ins hi k (by omega)
      have hk : ins S i k = S k := by simp [ins]; intro h; exact absurd h.symm hik
      simp only [un, hk]
      omega
theorem un_zero {S : Nat → Bool} : ∀ k, un S k = 0 → ∀ j, j < k → S j = true
  | 0, _, j, h => by omega
  | k + 1, h, j, hj => by
    simp only [un] at h
    by_cases hjk : j = k
    · subst hjk
      by_cases hs : S j = true
      · exact hs
      · simp [hs] at h
    · exact un_zero k (by omega) j (by omega)

def Sof (listed : Array Bool) : Nat → Bool := fun k => listed.getD k false

theorem any_sound {A : Cfg} {call : Call'} {ops : List Oper} {L : List (Oper × Rec)} {fr0 : Fr} (hA : Good A) (hcall : CallS A call) (H : RegOk A ops L)
    (hcan : ∀ (i : Nat) (p : Oper × Rec), L[i]? = some p → Canon A call ops (FS A L fr0 (fun _ => true) i) p) {n0 n' N : Nat} (hr : Rng L n0 n')
    (hN : ∀ o ∈ ops, ∀ t, o.dst = some t → t < N) {φ0 : Phi} {w0 : World} (h0 : ∀ i, n0 ≤ i → i < n' → φ0 i = .no) {Q : Exit → Act → World → Prop}
    (hQ : ∀ φ w a, Inv A L fr0 n0 n' N φ0 w0 (fun _ => true) φ w a → Q .normal a w) :
    ∀ (fuel : Nat) (listed : Array Bool) (a : Act) (w : World) (φ : Phi), Inv A L fr0 n0 n' N φ0 w0 (Sof listed) φ w a → listed.size = ops.length → dc ops (Sof listed) → un (Sof listed) ops.length ≤ fuel →
      wpAny A.P .any ops.toArray Q fuel listed a w := by
  have all : ∀ (listed : Array Bool) (a : Act) (w : World) (φ : Phi), Inv A L fr0 n0 n' N φ0 w0 (Sof listed) φ w a → (∀ j, j < ops.length → Sof listed j = true) → Q .normal a w := by
    intro listed a w φ inv hall
    have hfs := FS_congr A L fr0 (S := Sof listed) (T := fun _ => true) L.length (fun j hj => hall j (by rw [← H.len]; exact hj))
    have hes := ES_congr L (S := Sof listed) (T := fun _ => true) L.length (fun j hj => hall j (by rw [← H.len]; exact hj))
    refine hQ φ w a ⟨by rw [← hes]; exact inv.t, inv.g, fun i hi => ?_, fun t => by rw [← hfs]; exact inv.tm t, inv.df, inv.sz⟩
    rcases inv.dom i hi with h | ⟨k, p, _, h⟩
    · exact .inl h
    · exact .inr ⟨k, p, rfl, h⟩
  have rdy : ∀ (listed : Array Bool), listed.size = ops.length → Region.ready .any ops.toArray listed = [] → ∀ j, j < ops.length → Sof listed j = true := by
    intro listed hsz hnil j
    induction j using Nat.strongRecOn with
    | _ j ih =>
      intro hj
      cases hs : Sof listed j with
      | true => rfl
      | false =>
        exfalso
        have : j ∈ Region.ready .any ops.toArray listed := by
          rw [mem_ready]
          refine ⟨?_, ops[j], by simp [hj], fun e he hb => ?_⟩
          · unfold Sof at hs
            have hjl : j < listed.size := by omega
            simp [hjl] at hs ⊢; exact hs
          · have hjb : e.on ∈ binding ops[j] := by
              unfold binding
              exact List.mem_map.2 ⟨e, List.mem_filter.2 ⟨by simpa using he, hb⟩, rfl⟩
            have hlt := H.low j ops[j] (List.getElem?_eq_getElem hj) e.on hjb
            exact ih e.on hlt (by omega)
        rw [hnil] at this
        cases this
  intro fuel
  induction fuel with
  | zero =>
    intro listed a w φ inv hsz hdc hun
    have hall := un_zero ops.length (Nat.le_zero.1 hun)
    refine ⟨?_, all listed a w φ inv hall⟩
    refine List.eq_nil_iff_forall_not_mem.2 fun j hj => ?_
    obtain ⟨h1, o, ho, _⟩ := mem_ready.1 hj
    have hlt : j < ops.length := by have := (Array.getElem?_eq_some_iff.1 ho).1; simpa using this
    have := hall j hlt
    unfold Sof at this
    have hjl : j < listed.size := by omega
    simp [hjl] at this h1
    rw [h1] at this; simp at this
  | succ fuel ih =>
    intro listed a w φ inv hsz hdc hun
    refine ⟨fun hnil => all listed a w φ inv (rdy listed hsz hnil), fun i hi => ?_⟩
    obtain ⟨h1, o, ho, hedge⟩ := mem_ready.1 hi
    have hlt : i < ops.length := by have := (Array.getElem?_eq_some_iff.1 ho).1; simpa using this
    have hil : i < listed.size := by omega
    have hSi : Sof listed i = false := by unfold Sof; simp [hil] at h1 ⊢; exact h1
    have hset : Sof (listed.setIfInBounds i true) = ins (Sof listed) i := by
      funext k
      unfold Sof ins
      by_cases hki : k = i
      · subst hki; simp [hil]
      · rw [getD_set_ne false (Ne.symm hki)]; simp [hki]
    have hrd : ∀ o, ops[i]? = some o → ∀ j ∈ binding o, Sof listed j = true := by
      intro o2 ho2 j hj
      have : o2 = o := by have h3 : ops.toArray[i]? = some o2 := by simpa using ho2
                          rw [ho] at h3; exact (Option.some.inj h3).symm
      subst this
      obtain ⟨e, he, rfl⟩ := List.mem_map.1 hj
      obtain ⟨he1, he2⟩ := List.mem_filter.1 he
      exact hedge e (by simpa using he1) he2
    refine exec_one hA hcall H hcan hr hN h0 inv hdc hlt hSi hrd fun φ' w' a' inv' => ?_
    refine ih _ a' w' φ' (by rw [hset]; exact inv') (by simp [hsz]) (by rw [hset]; exact dc_ins ops hdc hrd) ?_
    rw [hset]
    have := un_ins hSi ops.length hlt
    omega
end
end Go.Cv
namespace Go.Cv
open Go

structure CanonAt (A : Cfg) (call : Call') (ops : List Oper) (frs : Nat → Fr) (ns : Nat → Nat) (i : Nat) (o : Oper) (r : Rec) : Prop where
  can : Canon A call ops (frs i) (o, r)
  n0 : r.n0 = ns i
  n1 : r.n1 = ns (i + 1)
  next : frs (i + 1) = upd (appF r.E (frs i)) o.dst r.d

theorem opsD_opsR {A : Cfg} {call : Call'} {ops : List Oper} : ∀ (l : List Oper) {fr : Fr} {n : Nat} {fr' : Fr} {n' : Nat} {E : List Eff}, opsD A call ops l fr n = some (fr', n', E) →
    ∃ (rs : List Rec) (frs : Nat → Fr) (ns : Nat → Nat), opsR A call ops l fr n = some rs ∧ rs.length = l.length ∧ frs 0 = fr ∧ ns 0 = n ∧ frs l.length = fr' ∧ ns l.length = n' ∧
      rs.flatMap (·.E) = E ∧ ∀ (i : Nat) (o : Oper) (r : Rec), l[i]? = some o → rs[i]? = some r → CanonAt A call ops frs ns i o r
  | [], fr, n, fr', n', E, h => by
    simp [opsD] at h
    obtain ⟨rfl, rfl, rfl⟩ := h
    exact ⟨[], fun _ => fr, fun _ => n, rfl, rfl, rfl, rfl, rfl, rfl, rfl, fun i o r hi => by simp at hi⟩
  | o :: l, fr, n, fr', n', E, h => by
    simp only [opsD] at h
    split at h
    · rename_i hw
      cases ho : opD A call fr n o.op with
      | none => simp [ho] at h
      | some q =>
        obtain ⟨d, n1, E1⟩ := q
        simp only [ho] at h
        cases hq : opsD A call ops l (upd (appF E1 fr) o.dst d) n1 with
        | none => simp [hq] at h
        | some z =>
          obtain ⟨f2, n2, E2⟩ := z
          simp only [hq, Option.map_some, Option.some.injEq, Prod.mk.injEq] at h
          obtain ⟨rfl, rfl, rfl⟩ := h
          obtain ⟨rs, frs, ns, h1, h2, h3, h4, h5, h6, h7, h8⟩ := opsD_opsR l hq
          refine ⟨⟨d, n, n1, E1, false, (slots ops o).map fr⟩ :: rs, fun i => match i with | 0 => fr | i + 1 => frs i, fun i => match i with | 0 => n | i + 1 => ns i, ?_, by simp [h2], rfl, rfl, by simpa using h5, by simpa using h6, by simp [h7], ?_⟩
          · simp only [opsR, hw, ho, h1, Option.map_some]
          · intro i o' r hi hr
            cases i with
            | zero =>
              simp at hi hr
              subst hi; subst hr
              exact ⟨⟨rfl, hw, fun _ => ho, fun h => by simp at h⟩, rfl, h4.symm, h3⟩
            | succ i =>
              simp at hi hr
              have := h8 i o' r hi hr
              exact ⟨this.can, this.n0, this.n1, this.next⟩
    · rename_i hw
      obtain ⟨rs, frs, ns, h1, h2, h3, h4, h5, h6, h7, h8⟩ := opsD_opsR l h
      refine ⟨⟨.val undef, n, n, [], true, (slots ops o).map fr⟩ :: rs, fun i => match i with | 0 => fr | i + 1 => frs i, fun i => match i with | 0 => n | i + 1 => ns i, ?_, by simp [h2], rfl, rfl, by simpa using h5, by simpa using h6, by simp [h7], ?_⟩
      · simp only [opsR, hw, h1, Option.map_some]
      · intro i o' r hi hr
        cases i with
        | zero =>
          simp at hi hr
          subst hi; subst hr
          exact ⟨⟨rfl, hw, fun h => by simp at h, fun _ => ⟨rfl, rfl, rfl⟩⟩, rfl, h4.symm, h3⟩
        | succ i =>
          simp at hi hr
          have := h8 i o' r hi hr
          exact ⟨this.can, this.n0, this.n1, this.next⟩
    · simp at h

section
variable {A : Cfg} {call : Call'} {ops : List Oper} {rs : List Rec} {frs : Nat → Fr} {ns : Nat → Nat}

theorem zip_get {ops : List Oper} {rs : List Rec} {i : Nat} {p : Oper × Rec} (h : (ops.zip rs)[i]? = some p) : ops[i]? = some p.1 ∧ rs[i]? = some p.2 := by
  rw [List.getElem?_zip_eq_some] at h
  exact h

theorem vl_canon {f : Fr} {p : Oper × Rec} (h : Canon A call ops f p) : vl A p f = p.2.d := by
  unfold vl
  split
  · rename_i hm
    simp only [mvB, Bool.and_eq_true, Bool.not_eq_true'] at hm
    obtain ⟨⟨hm1, hm2⟩, hm3⟩ := hm
    have hop := h.op hm2
    unfold opD at hop
    cases hop' : p.1.op <;> simp [hop', isMove] at hm1 <;> simp [hop'] at hop <;> simp [srcOf, hop.1]
  · rfl

theorem FS_canon (hlen : rs.length = ops.length) (h : ∀ (i : Nat) (o : Oper) (r : Rec), ops[i]? = some o → rs[i]? = some r → CanonAt A call ops frs ns i o r) :
    ∀ i, i ≤ ops.length → FS A (ops.zip rs) (frs 0) (fun _ => true) i = frs i
  | 0, _ => rfl
  | i + 1, hi => by
    have ih := FS_canon hlen h i (by omega)
    have ho : ops[i]? = some ops[i] := List.getElem?_eq_getElem (by omega)
    have hr : rs[i]? = some (rs[i]'(by omega)) := List.getElem?_eq_getElem (by omega)
    have hL : (ops.zip rs)[i]? = some (ops[i], rs[i]'(by omega)) := by rw [List.getElem?_zip_eq_some]; exact ⟨ho, hr⟩
    have hc := h i _ _ ho hr
    simp only [FS, if_true, hL, ih]
    rw [hc.next]
    unfold stepF
    rw [vl_canon hc.can]

theorem ES_canon (hlen : rs.length = ops.length) : ∀ i, i ≤ ops.length → ES (ops.zip rs) (fun _ => true) i = (rs.take i).flatMap (·.E)
  | 0, _ => by simp [ES]
  | i + 1, hi => by
    have ih := ES_canon hlen i (by omega)
    have hr : rs[i]? = some (rs[i]'(by omega)) := List.getElem?_eq_getElem (by omega)
    have hL : (ops.zip rs)[i]? = some (ops[i], rs[i]'(by omega)) := by rw [List.getElem?_zip_eq_some]; exact ⟨List.getElem?_eq_getElem (by omega), hr⟩
    have ht : rs.take (i + 1) = rs.take i ++ [rs[i]'(by omega)] := by rw [List.take_add_one, hr]; rfl
    simp only [ES, if_true, hL, ih]
    rw [ht]
    simp only [List.flatMap_append, List.flatMap_cons, List.flatMap_nil, List.append_nil]

theorem ns_mono (hcall : CallS A call) (hlen : rs.length = ops.length) (h : ∀ (i : Nat) (o : Oper) (r : Rec), ops[i]? = some o → rs[i]? = some r → CanonAt A call ops frs ns i o r) (h0 : ns 0 ≠ 0) :
    ∀ d i, i + d ≤ ops.length → ns i ≠ 0 → ns i ≤ ns (i + d)
  | 0, i, _, _ => Nat.le_refl _
  | d + 1, i, hi, hz => by
    have ih := ns_mono hcall hlen h h0 d i (by omega) hz
    have ho : ops[i + d]? = some ops[i + d] := List.getElem?_eq_getElem (by omega)
    have hr : rs[i + d]? = some (rs[i + d]'(by omega)) := List.getElem?_eq_getElem (by omega)
    have hc := h _ _ _ ho hr
    have e0 := hc.n0
    have e1 := hc.n1
    have : (rs[i + d]'(by omega)).n0 ≤ (rs[i + d]'(by omega)).n1 := by
      cases hsk : (rs[i + d]'(by omega)).sk with
      | false => exact (op_sound (A := A) (o := ops[i + d]) (hc.can.op hsk) (by rw [e0]; omega) hcall).1
      | true => have := (hc.can.skip hsk).2.2; simp only at this; omega
    show ns i ≤ ns (i + d + 1)
    omega

theorem all_range {n : Nat} {p : Nat → Bool} (h : (List.range n).all p = true) {i : Nat} (hi : i < n) : p i = true := List.all_eq_true.1 h i (List.mem_range.2 hi)

theorem stat_low (h : statOk ops = true) : low ops := by
  intro k o hk j hj
  unfold statOk at h
  simp only [Bool.and_eq_true] at h
  have hlt : k < ops.length := (List.getElem?_eq_some_iff.1 hk).1
  have := all_range h.1 hlt
  simp only [hk] at this
  have := List.all_eq_true.1 this j hj
  simpa using this

theorem stat_names (h : statOk ops = true) {i k : Nat} {o o' : Oper} (hi : ops[i]? = some o') (hk : ops[k]? = some o) (hik : i ≠ k) (hc : comparable (befs ops []) i k = false) {t : Tmp}
    (ht : o'.dst = some t) : t ∉ namesOf ops o := by
  intro hm
  unfold statOk at h
  simp only [Bool.and_eq_true] at h
  have hlt : k < ops.length := (List.getElem?_eq_some_iff.1 hk).1
  have hlt' : i < ops.length := (List.getElem?_eq_some_iff.1 hi).1
  have h2 := all_range h.2 hlt
  simp only [hk] at h2
  have h3 := List.all_eq_true.1 h2 t hm
  have h4 := all_range h3 hlt'
  simp only [hi, hc, ht] at h4
  simp [hik] at h4

theorem reg_ok (hg : GClosed A) (hlen : rs.length = ops.length) (hst : statOk ops = true) (hdyn : rs.flatMap (·.E) ≠ [] → dynR ops rs = true)
    (h : ∀ (i : Nat) (o : Oper) (r : Rec), ops[i]? = some o → rs[i]? = some r → CanonAt A call ops frs ns i o r) : RegOk A ops (ops.zip rs) := by
  have hmap : (ops.zip rs).map (·.2) = rs := by
    rw [List.map_snd_zip (by omega)]
  refine ⟨hg, stat_low hst, by simp [hlen], fun k p hk => (zip_get hk).1, fun q hq e he => ?_, fun i k p q hi hk hik hc t ht => ?_, fun i k p q hi hk hik hc => ?_⟩
  · have hq2 : q.2 ∈ rs := by rw [← hmap]; exact List.mem_map.2 ⟨q, hq, rfl⟩
    have hne : rs.flatMap (·.E) ≠ [] := fun h0 => by
      have : e ∈ rs.flatMap (·.E) := List.mem_flatMap.2 ⟨_, hq2, he⟩
      rw [h0] at this; cases this
    have hd := hdyn hne
    unfold dynR at hd
    simp only [Bool.and_eq_true] at hd
    have := List.all_eq_true.1 hd.1 e.id (by
      unfold effIds
      exact List.mem_flatMap.2 ⟨_, hq2, List.mem_map.2 ⟨e, he, rfl⟩⟩)
    simpa using this
  · have := stat_names hst (zip_get hi).1 (zip_get hk).1 hik hc ht
    unfold namesOf at this
    simp only [List.mem_append, not_or] at this
    exact ⟨fun h => this.1 (by simp [h]), this.2⟩
  · by_cases hE : q.2.E = []
    · exact .inl hE
    · refine .inr ?_
      have hq2 : q.2 ∈ rs := List.mem_of_getElem? (zip_get hk).2
      have hne : rs.flatMap (·.E) ≠ [] := fun h0 => by
        obtain ⟨e, he⟩ := List.exists_mem_of_ne_nil _ hE
        have : e ∈ rs.flatMap (·.E) := List.mem_flatMap.2 ⟨_, hq2, he⟩
        rw [h0] at this; cases this
      have hd := hdyn hne
      unfold dynR at hd
      simp only [Bool.and_eq_true] at hd
      have hlt : k < rs.length := (List.getElem?_eq_some_iff.1 (zip_get hk).2).1
      have hlt' : i < rs.length := (List.getElem?_eq_some_iff.1 (zip_get hi).2).1
      have h1 := all_range hd.2 hlt
      simp only [(zip_get hk).2, Bool.or_eq_true] at h1
      have h2 := all_range (h1.resolve_left (by simpa using hE)) hlt'
      simp only [Bool.or_eq_true, beq_iff_eq, hik, false_or, hc, Bool.false_eq_true, (zip_get hi).1, (zip_get hi).2] at h2
      unfold besideOk at h2
      simp only [Bool.and_eq_true, Bool.or_eq_true] at h2
      obtain ⟨h3, h4⟩ := h2
      refine ⟨by simpa using h3, ?_⟩
      rcases h4 with h4 | h4
      · left
        unfold mvB
        simp only [Bool.and_eq_true]
        exact h4
      · right
        rw [hmap]
        exact ⟨h4.2, fun x hx => List.all_eq_true.1 h4.1 x hx⟩
end

/-- **a region** -/
theorem reg_sound {A : Cfg} (hA : Good A) {call : Call'} (hcall : CallS A call) {ops : Array Oper} {draw : Bool} {N B : Nat} {id : Nat} (hst : draw = true → statOk ops.toList = true)
    (hN : ∀ o ∈ ops.toList, ∀ t, o.dst = some t → t < N) {fr : Fr} {n : Nat} {fr' : Fr} {n' : Nat} {E : List Eff} (h : regD A call ops.toList draw fr n = some (fr', n', E)) (hn : n ≠ 0) :
    n ≤ n' ∧ ∀ {φ : Phi} {w : World} {a : Act} {Q : Exit → Act → World → Prop}, n' ≤ B → St A N B φ w fr a n → (∀ φ' w' a', Trans φ w φ' w' n n' E → St A N B φ' w' fr' a' n' → Q .normal a' w') →
      (Code.region id ops draw).wp A.P Q a w := by
  obtain ⟨h1, h2⟩ := regD_some.1 h
  refine ⟨opsD_le hcall _ h1 hn, fun {φ w a Q} hB hs hq => ?_⟩
  cases draw with
  | false =>
    refine wp_region ?_
    have := ops_sound hA hcall (Q := Q) ops.toList 0 (by simp) hN h1 hn hB hs hq
    simpa [List.range_eq_range'] using this
  | true =>
    obtain ⟨rs, frs, ns, r1, r2, r3, r4, r5, r6, r7, r8⟩ := opsD_opsR ops.toList h1
    have H : RegOk A ops.toList (ops.toList.zip rs) := reg_ok hA.g r2 (hst rfl) (fun hE => by
      have := h2 rfl (by rw [← r7]; exact hE)
      unfold dyn at this
      rw [r1] at this
      exact this) r8
    have hL : (ops.toList.zip rs).length = ops.toList.length := by simp [r2]
    have hfs := FS_canon r2 r8
    rw [r3] at hfs
    have hes := ES_canon (ops := ops.toList) r2
    have hmono := ns_mono hcall r2 r8 (by rw [r4]; exact hn)
    have hns : ∀ i, i ≤ ops.toList.length → n ≤ ns i := fun i hi => by have := hmono i 0 (by omega) (by rw [r4]; exact hn); rw [r4, Nat.zero_add] at this; exact this
    have hnd : ∀ i k, i ≤ k → k ≤ ops.toList.length → ns i ≤ ns k := fun i k hik hk => by
      have := hmono (k - i) i (by omega) (by have := hns i (by omega); omega)
      rwa [show i + (k - i) = k by omega] at this
    have hrng : Rng (ops.toList.zip rs) n n' := by
      refine ⟨hn, fun k p hk => ?_, fun i k p q hik hi hk => ?_⟩
      · obtain ⟨k1, k2⟩ := zip_get hk
        have hlt : k < ops.toList.length := (List.getElem?_eq_some_iff.1 k1).1
        have c := r8 k _ _ k1 k2
        rw [c.n0, c.n1, ← r6]
        exact ⟨hns k (by omega), hnd k (k + 1) (by omega) (by omega), hnd (k + 1) _ (by omega) (Nat.le_refl _)⟩
      · obtain ⟨k1, k2⟩ := zip_get hk
        obtain ⟨i1, i2⟩ := zip_get hi
        have hlt : k < ops.toList.length := (List.getElem?_eq_some_iff.1 k1).1
        rw [(r8 i _ _ i1 i2).n1, (r8 k _ _ k1 k2).n0]
        exact hnd (i + 1) k (by omega) (by omega)
    refine wp_region_any hA.mixed ?_
    have hdrew := Trans.drew hs.wf n (w.drawn + 1)
    have hinv0 : Inv A (ops.toList.zip rs) fr n n' N φ w (Sof (Array.replicate ops.size false)) φ { w with drawn := w.drawn + 1 } a := by
      have hf0 : ∀ j, Sof (Array.replicate ops.size false) j = false := by
        intro j
        unfold Sof
        rcases Nat.lt_or_ge j ops.size with h | h
        · simp [h]
        · simp [h]
      have hz : ∀ k, FS A (ops.toList.zip rs) fr (Sof (Array.replicate ops.size false)) k = fr ∧ ES (ops.toList.zip rs) (Sof (Array.replicate ops.size false)) k = [] := by
        intro k
        induction k with
        | zero => exact ⟨rfl, rfl⟩
        | succ k ih => exact ⟨by simp only [FS, hf0]; simpa using ih.1, by simp only [ES, hf0]; simpa using ih.2⟩
      refine ⟨?_, hs.g.trans hA.g hdrew, fun i hi => .inl hi, fun t => ?_, hs.df, hs.sz⟩
      · rw [(hz _).2]; exact hdrew.widen (Nat.le_refl _) (opsD_le hcall _ h1 hn)
      · rw [(hz _).1]; exact hdrew.keep _ _ (hs.tm t)
    refine any_sound (call := call) hA hcall H (fun i p hp => ?_) hrng hN (fun i h1 h2 => hs.fresh i h1 (by omega)) (fun φ' w' a' inv => ?_) ops.size _ a _ φ hinv0 (by simp) (fun k o _ hk => ?_) ?_
    · obtain ⟨k1, k2⟩ := zip_get hp
      have hlt : i < ops.toList.length := (List.getElem?_eq_some_iff.1 k1).1
      rw [hfs i (by omega)]
      exact (r8 i _ _ k1 k2).can
    · have e1 : FS A (ops.toList.zip rs) fr (fun _ => true) (ops.toList.zip rs).length = fr' := by rw [hL, hfs _ (Nat.le_refl _), r5]
      have e2 : ES (ops.toList.zip rs) (fun _ => true) (ops.toList.zip rs).length = E := by
        rw [hL, hes _ (Nat.le_refl _), ← r7, List.take_of_length_le (by omega)]
      have ht := inv.t
      rw [e2] at ht
      refine hq φ' w' a' ht ⟨ht.wf, inv.g, fun i hi hiB => ?_, fun t => by rw [← e1]; exact inv.tm t, inv.df, inv.sz⟩
      cases hφ : φ' i with
      | no => rfl
      | _ =>
        rcases ht.dom i (by rw [hφ]; simp) with h | h
        · exact absurd (hs.fresh i (by have := opsD_le hcall _ h1 hn; omega) hiB) h
        · omega
    · exfalso
      unfold Sof at hk
      rcases Nat.lt_or_ge k ops.size with h | h
      · simp [h] at hk
      · simp [h] at hk
    · have : ∀ S k, un S k ≤ k := by
        intro S k
        induction k with
        | zero => exact Nat.le_refl _
        | succ k ih => simp only [un]; split <;> omega
      have := this (Sof (Array.replicate ops.size false)) ops.toList.length
      simpa using this
end Go.Cv
