/- Readings of memory, and a machine over them that is sound (part C). No condition. -/
import Derived.Test.YtlokmogjbpcmgaaRB
import Derived.Below
import Derived.SizedLaws
set_option linter.unusedVariables false
set_option linter.unusedSimpArgs false
namespace Go.Cv
open Go

/-- what names no id stands, whatever else is done -/
theorem R.closed {φ φ' : Phi} {w w' : World} {d : D} {v : Value} (h : R φ w d v) (hc : d.has (· != 0) = false)
    (old : ∀ b, b < w.heap.size → Untracked φ b → w'.heap[b]? = w.heap[b]? ∧ Untracked φ' b) (hsz : w.heap.size ≤ w'.heap.size) : R φ' w' d v := by
  induction h with
  | val v => exact .val v
  | ifc t x => exact .ifc t x
  | bad v => exact .bad v
  | @sl id off cap sz es A c u hcl hcap hsz' hp ha hcell hr ih =>
    obtain ⟨h0, hcs⟩ := has_false_sl hc
    have h0 : id = 0 := by simpa using h0
    subst h0
    unfold Place at hp
    rw [if_pos rfl] at hp
    have hlen : (flat es).length = es.length * sz := flat_length hsz'
    have hmul : es.length * sz ≤ c * sz := Nat.mul_le_mul_right _ hcl
    refine .sl u hcl hcap hsz' ?_ ha (fun j d hj => ?_) (fun j d hj => ih j d hj (hcs j d hj))
    · unfold Place
      rw [if_pos rfl]
      rcases hp with hp | ⟨a, ha', hlt, hu⟩
      · exact .inl hp
      · exact .inr ⟨a, ha', by omega, (old _ hlt hu).2⟩
    · rcases hp with hp | ⟨a, ha', hlt, hu⟩
      · have := (List.getElem?_eq_some_iff.1 hj).1; omega
      · have h1 := hcell j d hj
        rw [ha'] at h1 ⊢
        simp only [Option.getD_some] at h1 ⊢
        rw [World.cell?_of_block (w := w)]
        · exact h1
        · rw [add_block]; exact (old _ hlt hu).1
  | @pt id off cs a u hp hcell hr ih =>
    simp only [D.has, Bool.or_eq_false_iff] at hc
    have h0 : id = 0 := by simpa using hc.1
    subst h0
    have hcs := has_false_list hc.2
    unfold Place at hp
    rw [if_pos rfl] at hp
    refine .pt u ?_ (fun j d hj => ?_) (fun j d hj => ih j d hj (hcs j d hj))
    · unfold Place
      rw [if_pos rfl]
      rcases hp with hp | ⟨a', ha', hlt, hu⟩
      · exact .inl hp
      · exact .inr ⟨a', ha', by omega, (old _ hlt hu).2⟩
    · rcases hp with hp | ⟨a', ha', hlt, hu⟩
      · have := (List.getElem?_eq_some_iff.1 hj).1; omega
      · cases ha'
        rw [World.cell?_of_block (w := w)]
        · exact hcell j d hj
        · rw [add_block]; exact (old _ hlt hu).1
  | agg vs hl hr ih => exact .agg vs hl (fun j d v h1 h2 => ih j d v h1 h2 (has_false_list (by simpa [D.has] using hc) j d h1))
  | fn vs hl hr ih => exact .fn vs hl (fun j d v h1 h2 => ih j d v h1 h2 (has_false_list (by simpa [D.has] using hc) j d h1))
  | tup vs hl hr ih => exact .tup vs hl (fun j d v h1 h2 => ih j d v h1 h2 (has_false_list (by simpa [D.has] using hc) j d h1))

theorem GOk.trans {A : Cfg} (hA : GClosed A) {φ φ' : Phi} {w w' : World} {lo hi : Nat} {E : List Eff} (h : GOk A φ w) (t : Trans φ w φ' w' lo hi E) : GOk A φ' w' :=
  fun g cs hg => ⟨(h g cs hg).1, (h g cs hg).2.closed (by simp [D.has, hA g cs hg]) t.old t.size⟩

/-- a machine that is sound -/
structure Good (A : Cfg) : Prop where
  mixed : A.P.follows .mixedOrders = true
  g : GClosed A
  ext : ∀ f h, A.ext f = some h → ∀ ds n d n' E, h ds n = some (d, n', E) → n ≠ 0 → n ≤ n' ∧ ∀ φ w vs, WF φ w → GOk A φ w → Fresh φ n n' → RL φ w ds vs →
    Does A.P (callFunc f vs.toArray) w (Post φ w n n' E d)

structure St (A : Cfg) (N B : Nat) (φ : Phi) (w : World) (fr : Fr) (a : Act) (n : Nat) : Prop where
  wf : WF φ w
  g : GOk A φ w
  fresh : ∀ i, n ≤ i → i < B → φ i = .no
  tm : ∀ t, R φ w (fr t) (a.tmps.getD t undef)
  df : a.defers = []
  sz : N ≤ a.tmps.size

theorem St.opn {A : Cfg} {N B : Nat} {φ : Phi} {w : World} {fr : Fr} {a : Act} {n : Nat} (h : St A N B φ w fr a n) (op : Op) : Opn A φ w fr a.eval op :=
  ⟨h.wf, h.g, fun t _ => h.tm t, fun _ => rfl, fun _ => rfl, fun _ => rfl⟩

theorem wanted_sound {ops : List Oper} {fr : Fr} {o : Oper} {b : Bool} {tmps : Array Value} {φ : Phi} {w : World} (h : dWanted ops fr o = some b)
    (ht : ∀ t, t ∈ slots ops o → R φ w (fr t) (tmps.getD t undef)) : Region.wanted o (yielded ops.toArray tmps) = b := by
  unfold dWanted at h
  unfold Region.wanted
  cases hg : o.guard with
  | none => simp [hg] at h; subst h; rfl
  | some p =>
    obtain ⟨g, want⟩ := p
    simp only [hg] at h ⊢
    cases hd : (ops[g]?).bind (·.dst) with
    | none => simp [hd] at h
    | some t =>
      simp only [hd] at h
      have hr := ht t (by unfold slots; rw [hg]; simp [hd])
      have hy : yielded ops.toArray tmps g = match tmps[t]? with | some (.bool b) => some b | _ => none := by
        unfold yielded
        have : (ops.toArray[g]?).bind (·.dst) = some t := by simpa using hd
        rw [this]; rfl
      rw [hy]
      have hget : tmps.getD t undef = (tmps[t]?).getD undef := by simp [Array.getD_eq_getD_getElem?]
      rw [hget] at hr
      split at h
      · rename_i b' hf
        rw [hf] at hr
        cases h
        cases hx : tmps[t]? with
        | none => rw [hx] at hr; simp [undef] at hr; cases hr
        | some v => rw [hx] at hr; simp at hr; cases hr; rfl
      · rename_i v hne hf
        rw [hf] at hr
        cases h
        cases hx : tmps[t]? with
        | none => rfl
        | some v' =>
          rw [hx] at hr
          simp at hr
          cases hr
          cases v <;> first | rfl | exact absurd rfl (hne _)
      · simp at h

theorem put_tm {A : Cfg} {φ : Phi} {w : World} {fr : Fr} {a : Act} {dst : Option Tmp} {d : D} {v : Value} {N : Nat} (hd : ∀ t, dst = some t → t < N) (hN : N ≤ a.tmps.size)
    (ht : ∀ t, R φ w (fr t) (a.tmps.getD t undef)) (hv : R φ w d v) : (∀ t, R φ w (upd fr dst d t) ((a.put dst v).tmps.getD t undef)) ∧ (a.put dst v).defers = a.defers ∧ (a.put dst v).tmps.size = a.tmps.size := by
  cases dst with
  | none => exact ⟨ht, rfl, rfl⟩
  | some s =>
    have hs : s < a.tmps.size := Nat.lt_of_lt_of_le (hd s rfl) hN
    refine ⟨fun t => ?_, rfl, by simp [Act.put]⟩
    by_cases hts : t = s
    · subst hts
      simp [upd, Act.put, hs]
      exact hv
    · have : (a.put (some s) v).tmps.getD t undef = a.tmps.getD t undef := by
        simp [Act.put, Array.getElem?_setIfInBounds_ne (Ne.symm hts)]
      rw [this]
      simp only [upd, hts, if_false]
      exact ht t

/-- one operation, carried out: what it leaves -/
theorem St.after {A : Cfg} (hA : Good A) {N B : Nat} {φ φ' : Phi} {w w' : World} {fr : Fr} {a : Act} {n n' : Nat} {E : List Eff} {dst : Option Tmp} {d : D} {v : Value}
    (h : St A N B φ w fr a n) (hn : n ≤ n') (t : Trans φ w φ' w' n n' E) (hv : R φ' w' d v) (hd : ∀ t, dst = some t → t < N) : St A N B φ' w' (upd (appF E fr) dst d) (a.put dst v) n' := by
  obtain ⟨h1, h2, h3⟩ := put_tm (A := A) (N := N) hd h.sz (fun s => t.keep _ _ (h.tm s)) hv
  refine ⟨t.wf, h.g.trans hA.g t, fun i hi hiB => ?_, h1, by rw [h2]; exact h.df, by rw [h3]; exact h.sz⟩
  cases hφ : φ' i with
  | no => rfl
  | _ =>
    rcases t.dom i (by rw [hφ]; simp) with h' | ⟨h1, h2⟩
    · exact absurd (h.fresh i (by omega) hiB) h'
    · omega

theorem opsD_le {A : Cfg} {call : Call'} (hcall : CallS A call) {ops : List Oper} : ∀ (l : List Oper) {fr : Fr} {n : Nat} {fr' : Fr} {n' : Nat} {E : List Eff},
    opsD A call ops l fr n = some (fr', n', E) → n ≠ 0 → n ≤ n'
  | [], _, _, _, _, _, h, _ => by simp [opsD] at h; omega
  | o :: l, fr, n, fr', n', E, h, hn => by
    simp only [opsD] at h
    split at h
    · cases ho : opD A call fr n o.op with
      | none => simp [ho] at h
      | some q =>
        obtain ⟨d, n1, E1⟩ := q
        simp only [ho] at h
        have h1 := (op_sound (A := A) (o := o) ho hn hcall).1
        cases hq : opsD A call ops l (upd (appF E1 fr) o.dst d) n1 with
        | none => simp [hq] at h
        | some z =>
          obtain ⟨f2, n2, E2⟩ := z
          simp only [hq, Option.map_some, Option.some.injEq, Prod.mk.injEq] at h
          have h2 := opsD_le hcall l hq (by omega)
          omega
    · exact opsD_le hcall l h hn
    · simp at h

/-- **a region in the order of its text** -/
theorem ops_sound {A : Cfg} (hA : Good A) {call : Call'} (hcall : CallS A call) {ops : List Oper} {N B : Nat} {Q : Exit → Act → World → Prop} : ∀ (l : List Oper) (k : Nat), (∀ j, l[j]? = ops[k + j]?) → (∀ o ∈ ops, ∀ t, o.dst = some t → t < N) →
    ∀ {fr : Fr} {n : Nat} {fr' : Fr} {n' : Nat} {E : List Eff}, opsD A call ops l fr n = some (fr', n', E) → n ≠ 0 → n' ≤ B →
    ∀ {φ : Phi} {w : World} {a : Act}, St A N B φ w fr a n → (∀ φ' w' a', Trans φ w φ' w' n n' E → St A N B φ' w' fr' a' n' → Q .normal a' w') →
    wpOps A.P ops.toArray Q (List.range' k l.length) a w
  | [], k, _, _, fr, n, fr', n', E, h, _, _, φ, w, a, hs, hq => by
    simp [opsD] at h
    obtain ⟨rfl, rfl, rfl⟩ := h
    simp only [List.length_nil, List.range'_zero, wpOps]
    exact hq φ w a (Trans.refl hs.wf n) hs
  | o :: l, k, hl, hN, fr, n, fr', n', E, h, hn, hB, φ, w, a, hs, hq => by
    have ho : ops[k]? = some o := by simpa using (hl 0).symm
    have hmem : o ∈ ops := List.mem_of_getElem? ho
    have hl' : ∀ j, l[j]? = ops[k + 1 + j]? := fun j => by have := hl (j + 1); simpa [Nat.add_assoc, Nat.add_comm 1 j] using this
    simp only [opsD] at h
    simp only [List.length_cons, List.range'_succ]
    have ho' : ops.toArray[k]? = some o := by simpa using ho
    simp only [wpOps, ho']
    split at h
    · rename_i hw
      have hwant := wanted_sound hw (fun t _ => hs.tm t)
      simp only [hwant, if_true]
      cases hop : opD A call fr n o.op with
      | none => simp [hop] at h
      | some q =>
        obtain ⟨d, n1, E1⟩ := q
        simp only [hop] at h
        obtain ⟨h1, h2⟩ := op_sound (A := A) (o := o) hop hn hcall
        cases hq' : opsD A call ops l (upd (appF E1 fr) o.dst d) n1 with
        | none => simp [hq'] at h
        | some z =>
          obtain ⟨f2, n2, E2⟩ := z
          simp only [hq', Option.map_some, Option.some.injEq, Prod.mk.injEq] at h
          obtain ⟨rfl, rfl, rfl⟩ := h
          have hle := opsD_le hcall l hq' (by omega)
          refine .inl (Does.wp (h2 φ w a.eval (hs.opn o.op) (fun i hi hi' => hs.fresh i hi (by omega))) fun v w' ⟨φ', ht, hv⟩ => ?_)
          have hs' := hs.after hA h1 ht hv (fun t ht => hN o hmem t ht) (dst := o.dst)
          exact ops_sound hA hcall l (k + 1) hl' hN hq' (by omega) hB hs' fun φ2 w2 a2 t2 s2 => hq φ2 w2 a2 (ht.trans t2 h1 hle) s2
    · rename_i hw
      have hwant := wanted_sound hw (fun t _ => hs.tm t)
      simp only [hwant, Bool.false_eq_true, if_false]
      have hs' := hs.after hA (Nat.le_refl n) (Trans.refl hs.wf n) (.val undef) (fun t ht => hN o hmem t ht) (dst := o.dst)
      exact ops_sound hA hcall l (k + 1) hl' hN (fr := upd (appF [] fr) o.dst (.val undef)) h hn hB hs' hq
    · simp at h
end Go.Cv

namespace Go.Cv
open Go

theorem Trans.trans' {φ φ1 φ2 : Phi} {w w1 w2 : World} {lo hi : Nat} {E F : List Eff} (h : Trans φ w φ1 w1 lo hi E) (k : Trans φ1 w1 φ2 w2 lo hi F) : Trans φ w φ2 w2 lo hi (E ++ F) where
  wf := k.wf
  keep d v hr := by rw [appE_append]; exact k.keep _ _ (h.keep _ _ hr)
  dom i hi' := by
    rcases k.dom i hi' with hi' | h2
    · exact h.dom i hi'
    · exact .inr h2
  size := Nat.le_trans h.size k.size
  old b hb hu := by
    obtain ⟨e1, u1⟩ := h.old b hb hu
    obtain ⟨e2, u2⟩ := k.old b (Nat.lt_of_lt_of_le hb h.size) u1
    exact ⟨e2.trans e1, u2⟩
  os := k.os.trans h.os
  tape := k.tape.trans h.tape
  output := k.output.trans h.output

section
variable (A : Cfg) (call : Call') (ops : List Oper) (L : List (Oper × Rec)) (fr0 : Fr)

structure Canon (f : Fr) (p : Oper × Rec) : Prop where
  xs : p.2.xs = (slots ops p.1).map f
  want : dWanted ops f p.1 = some (!p.2.sk)
  op : p.2.sk = false → opD A call f p.2.n0 p.1.op = some (p.2.d, p.2.n1, p.2.E)
  skip : p.2.sk = true → p.2.d = .val undef ∧ p.2.E = [] ∧ p.2.n1 = p.2.n0

structure Inv (n0 n' N : Nat) (φ0 : Phi) (w0 : World) (S : Nat → Bool) (φ : Phi) (w : World) (a : Act) : Prop where
  t : Trans φ0 w0 φ w n0 n' (ES L S L.length)
  g : GOk A φ w
  dom : ∀ i, φ i ≠ .no → φ0 i ≠ .no ∨ ∃ (k : Nat) (p : Oper × Rec), S k = true ∧ L[k]? = some p ∧ p.2.n0 ≤ i ∧ i < p.2.n1
  tm : ∀ t, R φ w (FS A L fr0 S L.length t) (a.tmps.getD t undef)
  df : a.defers = []
  sz : N ≤ a.tmps.size

structure Rng (n0 n' : Nat) : Prop where
  pos : n0 ≠ 0
  lo : ∀ (k : Nat) (p : Oper × Rec), L[k]? = some p → n0 ≤ p.2.n0 ∧ p.2.n0 ≤ p.2.n1 ∧ p.2.n1 ≤ n'
  ord : ∀ (i k : Nat) (p q : Oper × Rec), i < k → L[i]? = some p → L[k]? = some q → p.2.n1 ≤ q.2.n0

theorem exec_one {A : Cfg} {call : Call'} {ops : List Oper} {L : List (Oper × Rec)} {fr0 : Fr} (hA : Good A) (hcall : CallS A call) (H : RegOk A ops L)
    (hcan : ∀ (i : Nat) (p : Oper × Rec), L[i]? = some p → Canon A call ops (FS A L fr0 (fun _ => true) i) p) {n0 n' N : Nat} (hr : Rng L n0 n')
    (hN : ∀ o ∈ ops, ∀ t, o.dst = some t → t < N) {φ0 : Phi} {w0 : World} (h0 : ∀ i, n0 ≤ i → i < n' → φ0 i = .no) {S : Nat → Bool} {φ : Phi} {w : World} {a : Act} (inv : Inv A L fr0 n0 n' N φ0 w0 S φ w a)
    (hS : dc ops S) {i : Nat} (hi : i < ops.length) (hSi : S i = false) (hrd : ∀ o, ops[i]? = some o → ∀ j ∈ binding o, S j = true) {Q : Exit → Act → World → Prop} {K : Act → World → Prop}
    (hK : ∀ φ' w' a', Inv A L fr0 n0 n' N φ0 w0 (ins S i) φ' w' a' → K a' w') : wpOp A.P ops.toArray Q i K a w := by
  have hiL : i < L.length := by rw [H.len]; exact hi
  obtain ⟨p, hp⟩ : ∃ p, L[i]? = some p := ⟨_, List.getElem?_eq_getElem hiL⟩
  have ho : ops[i]? = some p.1 := H.fst i p hp
  have hmem : p.1 ∈ ops := List.mem_of_getElem? ho
  have can := hcan i p hp
  obtain ⟨hlo, hle, hhi⟩ := hr.lo i p hp
  have hins := FS_ins A ops L fr0 (S := S) H.g H.nz hp hSi (fun k' q' hkk hq hS' => H.pair hp hq (by omega) (incomparable H.low hS hrd hSi (.inr ⟨hkk, hS'⟩))) L.length hiL
  have hfresh : Fresh φ p.2.n0 p.2.n1 := by
    intro id h1 h2
    cases hφ : φ id with
    | no => rfl
    | _ =>
      rcases inv.dom id (by rw [hφ]; simp) with h | ⟨k, q, hk, hq, h3, h4⟩
      · exact absurd (h0 id (by omega) (by omega)) h
      · rcases Nat.lt_trichotomy k i with h | h | h
        · have := hr.ord k i q p h hq hp; omega
        · subst h; rw [hSi] at hk; simp at hk
        · have := hr.ord i k p q h hp hq; omega
  -- what follows, once it is done
  have fin : ∀ v w' φ', Trans φ w φ' w' p.2.n0 p.2.n1 p.2.E → R φ' w' (vl A p (FS A L fr0 S L.length)) v → K (a.put p.1.dst v) w' := by
    intro v w' φ' t hv
    obtain ⟨h1, h2, h3⟩ := put_tm (N := N) (A := A) (fun t ht => hN p.1 hmem t ht) inv.sz (fun s => t.keep _ _ (inv.tm s)) hv (dst := p.1.dst)
    refine hK φ' w' _ ⟨?_, inv.g.trans hA.g t, fun id hid => ?_, fun s => ?_, by rw [h2]; exact inv.df, by rw [h3]; exact inv.sz⟩
    · rw [hins.2]; exact inv.t.trans' (t.widen hlo hhi)
    · rcases t.dom id hid with h | h
      · rcases inv.dom id h with h | ⟨k, q, hk, hq, h⟩
        · exact .inl h
        · exact .inr ⟨k, q, by simp [ins, hk], hq, h⟩
      · exact .inr ⟨i, p, by simp [ins], hp, h⟩
    · rw [hins.1]; exact h1 s
  have ho' : ops.toArray[i]? = some p.1 := by simpa using ho
  unfold wpOp
  simp only [ho']
  by_cases hm : mvB p = true
  · have hm' := hm
    simp only [mvB, Bool.and_eq_true, Bool.not_eq_true'] at hm'
    obtain ⟨⟨hm1, hm2⟩, hm3⟩ := hm'
    have hg : p.1.guard = none := by simpa using hm3
    have hw : Region.wanted p.1 (yielded ops.toArray a.tmps) = true := by unfold Region.wanted; rw [hg]
    simp only [hw, if_true]
    have hop := can.op hm2
    have hres : p.2.E = [] ∧ p.2.n1 = p.2.n0 := by
      unfold opD at hop
      cases hop' : p.1.op <;> simp [hop', isMove] at hm1 <;> simp [hop'] at hop <;> exact ⟨hop.2.2, hop.2.1.symm⟩
    have hop2 : opD A call (FS A L fr0 S L.length) p.2.n0 p.1.op = some (vl A p (FS A L fr0 S L.length), p.2.n0, []) := by
      unfold vl
      rw [if_pos hm]
      cases hop' : p.1.op <;> simp [hop', isMove] at hm1 <;> simp [opD, srcOf]
    obtain ⟨_, h2⟩ := op_sound (A := A) (o := p.1) hop2 (by have := hr.pos; omega) hcall
    refine .inl (Does.wp (h2 φ w a.eval ⟨inv.t.wf, inv.g, fun t _ => inv.tm t, fun _ => rfl, fun _ => rfl, fun _ => rfl⟩ (fun i h1 h2 => by omega)) fun v w' ⟨φ', t, hv⟩ => ?_)
    exact fin v w' φ' (by rw [hres.1, hres.2]; exact t) hv
  · have hm' : mvB p = false := by simpa using hm
    have hsl : ∀ x ∈ slots ops p.1, FS A L fr0 S L.length x = FS A L fr0 (fun _ => true) i x := fun x hx => slot_same A ops L fr0 H hp hS hSi hrd hm' hx can.xs
    have hvl : vl A p (FS A L fr0 S L.length) = p.2.d := by unfold vl; rw [if_neg hm]
    have hwant := wanted_sound can.want (fun t ht => by have := inv.tm t; rw [hsl t ht] at this; exact this)
    cases hsk : p.2.sk with
    | false =>
      rw [hsk] at hwant
      simp only [hwant, Bool.not_false, if_true]
      obtain ⟨_, h2⟩ := op_sound (A := A) (o := p.1) (can.op hsk) (by have := hr.pos; omega) hcall
      refine .inl (Does.wp (h2 φ w a.eval ⟨inv.t.wf, inv.g, fun t ht => ?_, fun _ => rfl, fun _ => rfl, fun _ => rfl⟩ hfresh) fun v w' ⟨φ', t, hv⟩ => fin v w' φ' t (by rw [hvl]; exact hv))
      rw [← hsl t (by
        unfold slots oTmps
        exact List.mem_append_left _ (List.mem_filterMap.2 ⟨.tmp t, by simpa using ht, rfl⟩))]
      exact inv.tm t
    | true =>
      rw [hsk] at hwant
      simp only [hwant, Bool.not_true, Bool.false_eq_true, if_false]
      obtain ⟨e1, e2, e3⟩ := can.skip hsk
      refine fin undef w φ ?_ ?_
      · rw [e2, e3]; exact Trans.refl inv.t.wf _
      · rw [hvl, e1]; exact .val undef

/-! ### whatever order -/
def un (S : Nat → Bool) : Nat → Nat
  | 0 => 0
  | k + 1 => un S k + if S k = true then 0 else 1

theorem un_congr {S T : Nat → Bool} : ∀ k, (∀ j, j < k → S j = T j) → un S k = un T k
  | 0, _ => rfl
  | k + 1, h => by simp only [un, un_congr k (fun j hj => h j (by omega)), h k (by omega)]
theorem un_ins {S : Nat → Bool} {i : Nat} (hi : S i = false) : ∀ k, i < k → un (ins S i) k + 1 = un S k
  | 0, h => by omega
  | k + 1, h => by
    by_cases hik : i = k
    · subst hik
      have := un_congr (S := ins S i) (T := S) i (fun j hj => by simp [ins]; intro h; omega)
      simp only [un, this, hi]
      simp [ins]
    · have ih := un_ins hi k (by omega)
      have hk : ins S i k = S k := by simp [ins]; intro h; exact absurd h.symm hik
      simp only [un, hk]
      omega
theorem un_zero {S : Nat → Bool} : ∀ k, un S k = 0 → ∀ j, j < k → S j = true
  | 0, _, j, h => by omega
  | k + 1, h, j, hj => by
    simp only [un] at h
    by_cases hjk : j = k
    · subst hjk
      by_cases hs : S j = true
      · exact hs
      · simp [hs] at h
    · exact un_zero k (by omega) j (by omega)

def Sof (listed : Array Bool) : Nat → Bool := fun k => listed.getD k false

theorem any_sound {A : Cfg} {call : Call'} {ops : List Oper} {L : List (Oper × Rec)} {fr0 : Fr} (hA : Good A) (hcall : CallS A call) (H : RegOk A ops L)
    (hcan : ∀ (i : Nat) (p : Oper × Rec), L[i]? = some p → Canon A call ops (FS A L fr0 (fun _ => true) i) p) {n0 n' N : Nat} (hr : Rng L n0 n')
    (hN : ∀ o ∈ ops, ∀ t, o.dst = some t → t < N) {φ0 : Phi} {w0 : World} (h0 : ∀ i, n0 ≤ i → i < n' → φ0 i = .no) {Q : Exit → Act → World → Prop}
    (hQ : ∀ φ w a, Inv A L fr0 n0 n' N φ0 w0 (fun _ => true) φ w a → Q .normal a w) :
    ∀ (fuel : Nat) (listed : Array Bool) (a : Act) (w : World) (φ : Phi), Inv A L fr0 n0 n' N φ0 w0 (Sof listed) φ w a → listed.size = ops.length → dc ops (Sof listed) → un (Sof listed) ops.length ≤ fuel →
      wpAny A.P .any ops.toArray Q fuel listed a w := by
  have all : ∀ (listed : Array Bool) (a : Act) (w : World) (φ : Phi), Inv A L fr0 n0 n' N φ0 w0 (Sof listed) φ w a → (∀ j, j < ops.length → Sof listed j = true) → Q .normal a w := by
    intro listed a w φ inv hall
    have hfs := FS_congr A L fr0 (S := Sof listed) (T := fun _ => true) L.length (fun j hj => hall j (by rw [← H.len]; exact hj))
    have hes := ES_congr L (S := Sof listed) (T := fun _ => true) L.length (fun j hj => hall j (by rw [← H.len]; exact hj))
    refine hQ φ w a ⟨by rw [← hes]; exact inv.t, inv.g, fun i hi => ?_, fun t => by rw [← hfs]; exact inv.tm t, inv.df, inv.sz⟩
    rcases inv.dom i hi with h | ⟨k, p, _, h⟩
    · exact .inl h
    · exact .inr ⟨k, p, rfl, h⟩
  have rdy : ∀ (listed : Array Bool), listed.size = ops.length → Region.ready .any ops.toArray listed = [] → ∀ j, j < ops.length → Sof listed j = true := by
    intro listed hsz hnil j
    induction j using Nat.strongRecOn with
    | _ j ih =>
      intro hj
      cases hs : Sof listed j with
      | true => rfl
      | false =>
        exfalso
        have : j ∈ Region.ready .any ops.toArray listed := by
          rw [mem_ready]
          refine ⟨?_, ops[j], by simp [hj], fun e he hb => ?_⟩
          · unfold Sof at hs
            have hjl : j < listed.size := by omega
            simp [hjl] at hs ⊢; exact hs
          · have hjb : e.on ∈ binding ops[j] := by
              unfold binding
              exact List.mem_map.2 ⟨e, List.mem_filter.2 ⟨by simpa using he, hb⟩, rfl⟩
            have hlt := H.low j ops[j] (List.getElem?_eq_getElem hj) e.on hjb
            exact ih e.on hlt (by omega)
        rw [hnil] at this
        cases this
  intro fuel
  induction fuel with
  | zero =>
    intro listed a w φ inv hsz hdc hun
    have hall := un_zero ops.length (Nat.le_zero.1 hun)
    refine ⟨?_, all listed a w φ inv hall⟩
    refine List.eq_nil_iff_forall_not_mem.2 fun j hj => ?_
    obtain ⟨h1, o, ho, _⟩ := mem_ready.1 hj
    have hlt : j < ops.length := by have := (Array.getElem?_eq_some_iff.1 ho).1; simpa using this
    have := hall j hlt
    unfold Sof at this
    have hjl : j < listed.size := by omega
    simp [hjl] at this h1
    rw [h1] at this; simp at this
  | succ fuel ih =>
    intro listed a w φ inv hsz hdc hun
    refine ⟨fun hnil => all listed a w φ inv (rdy listed hsz hnil), fun i hi => ?_⟩
    obtain ⟨h1, o, ho, hedge⟩ := mem_ready.1 hi
    have hlt : i < ops.length := by have := (Array.getElem?_eq_some_iff.1 ho).1; simpa using this
    have hil : i < listed.size := by omega
    have hSi : Sof listed i = false := by unfold Sof; simp [hil] at h1 ⊢; exact h1
    have hset : Sof (listed.setIfInBounds i true) = ins (Sof listed) i := by
      funext k
      unfold Sof ins
      by_cases hki : k = i
      · subst hki; simp [hil]
      · rw [getD_set_ne false (Ne.symm hki)]; simp [hki]
    have hrd : ∀ o, ops[i]? = some o → ∀ j ∈ binding o, Sof listed j = true := by
      intro o2 ho2 j hj
      have : o2 = o := by have h3 : ops.toArray[i]? = some o2 := by simpa using ho2
                          rw [ho] at h3; exact (Option.some.inj h3).symm
      subst this
      obtain ⟨e, he, rfl⟩ := List.mem_map.1 hj
      obtain ⟨he1, he2⟩ := List.mem_filter.1 he
      exact hedge e (by simpa using he1) he2
    refine exec_one hA hcall H hcan hr hN h0 inv hdc hlt hSi hrd fun φ' w' a' inv' => ?_
    refine ih _ a' w' φ' (by rw [hset]; exact inv') (by simp [hsz]) (by rw [hset]; exact dc_ins ops hdc hrd) ?_
    rw [hset]
    have := un_ins hSi ops.length hlt
    omega
end
end Go.Cv

namespace Go.Cv
open Go

structure CanonAt (A : Cfg) (call : Call') (ops : List Oper) (frs : Nat → Fr) (ns : Nat → Nat) (i : Nat) (o : Oper) (r : Rec) : Prop where
  can : Canon A call ops (frs i) (o, r)
  n0 : r.n0 = ns i
  n1 : r.n1 = ns (i + 1)
  next : frs (i + 1) = upd (appF r.E (frs i)) o.dst r.d

theorem opsD_opsR {A : Cfg} {call : Call'} {ops : List Oper} : ∀ (l : List Oper) {fr : Fr} {n : Nat} {fr' : Fr} {n' : Nat} {E : List Eff}, opsD A call ops l fr n = some (fr', n', E) →
    ∃ (rs : List Rec) (frs : Nat → Fr) (ns : Nat → Nat), opsR A call ops l fr n = some rs ∧ rs.length = l.length ∧ frs 0 = fr ∧ ns 0 = n ∧ frs l.length = fr' ∧ ns l.length = n' ∧
      rs.flatMap (·.E) = E ∧ ∀ (i : Nat) (o : Oper) (r : Rec), l[i]? = some o → rs[i]? = some r → CanonAt A call ops frs ns i o r
  | [], fr, n, fr', n', E, h => by
    simp [opsD] at h
    obtain ⟨rfl, rfl, rfl⟩ := h
    exact ⟨[], fun _ => fr, fun _ => n, rfl, rfl, rfl, rfl, rfl, rfl, rfl, fun i o r hi => by simp at hi⟩
  | o :: l, fr, n, fr', n', E, h => by
    simp only [opsD] at h
    split at h
    · rename_i hw
      cases ho : opD A call fr n o.op with
      | none => simp [ho] at h
      | some q =>
        obtain ⟨d, n1, E1⟩ := q
        simp only [ho] at h
        cases hq : opsD A call ops l (upd (appF E1 fr) o.dst d) n1 with
        | none => simp [hq] at h
        | some z =>
          obtain ⟨f2, n2, E2⟩ := z
          simp only [hq, Option.map_some, Option.some.injEq, Prod.mk.injEq] at h
          obtain ⟨rfl, rfl, rfl⟩ := h
          obtain ⟨rs, frs, ns, h1, h2, h3, h4, h5, h6, h7, h8⟩ := opsD_opsR l hq
          refine ⟨⟨d, n, n1, E1, false, (slots ops o).map fr⟩ :: rs, fun i => match i with | 0 => fr | i + 1 => frs i, fun i => match i with | 0 => n | i + 1 => ns i, ?_, by simp [h2], rfl, rfl, by simpa using h5, by simpa using h6, by simp [h7], ?_⟩
          · simp only [opsR, hw, ho, h1, Option.map_some]
          · intro i o' r hi hr
            cases i with
            | zero =>
              simp at hi hr
              subst hi; subst hr
              exact ⟨⟨rfl, hw, fun _ => ho, fun h => by simp at h⟩, rfl, h4.symm, h3⟩
            | succ i =>
              simp at hi hr
              have := h8 i o' r hi hr
              exact ⟨this.can, this.n0, this.n1, this.next⟩
    · rename_i hw
      obtain ⟨rs, frs, ns, h1, h2, h3, h4, h5, h6, h7, h8⟩ := opsD_opsR l h
      refine ⟨⟨.val undef, n, n, [], true, (slots ops o).map fr⟩ :: rs, fun i => match i with | 0 => fr | i + 1 => frs i, fun i => match i with | 0 => n | i + 1 => ns i, ?_, by simp [h2], rfl, rfl, by simpa using h5, by simpa using h6, by simp [h7], ?_⟩
      · simp only [opsR, hw, h1, Option.map_some]
      · intro i o' r hi hr
        cases i with
        | zero =>
          simp at hi hr
          subst hi; subst hr
          exact ⟨⟨rfl, hw, fun h => by simp at h, fun _ => ⟨rfl, rfl, rfl⟩⟩, rfl, h4.symm, h3⟩
        | succ i =>
          simp at hi hr
          have := h8 i o' r hi hr
          exact ⟨this.can, this.n0, this.n1, this.next⟩
    · simp at h

section
variable {A : Cfg} {call : Call'} {ops : List Oper} {rs : List Rec} {frs : Nat → Fr} {ns : Nat → Nat}

theorem zip_get {ops : List Oper} {rs : List Rec} {i : Nat} {p : Oper × Rec} (h : (ops.zip rs)[i]? = some p) : ops[i]? = some p.1 ∧ rs[i]? = some p.2 := by
  rw [List.getElem?_zip_eq_some] at h
  exact h

theorem vl_canon {f : Fr} {p : Oper × Rec} (h : Canon A call ops f p) : vl A p f = p.2.d := by
  unfold vl
  split
  · rename_i hm
    simp only [mvB, Bool.and_eq_true, Bool.not_eq_true'] at hm
    obtain ⟨⟨hm1, hm2⟩, hm3⟩ := hm
    have hop := h.op hm2
    unfold opD at hop
    cases hop' : p.1.op <;> simp [hop', isMove] at hm1 <;> simp [hop'] at hop <;> simp [srcOf, hop.1]
  · rfl

theorem FS_canon (hlen : rs.length = ops.length) (h : ∀ (i : Nat) (o : Oper) (r : Rec), ops[i]? = some o → rs[i]? = some r → CanonAt A call ops frs ns i o r) :
    ∀ i, i ≤ ops.length → FS A (ops.zip rs) (frs 0) (fun _ => true) i = frs i
  | 0, _ => rfl
  | i + 1, hi => by
    have ih := FS_canon hlen h i (by omega)
    have ho : ops[i]? = some ops[i] := List.getElem?_eq_getElem (by omega)
    have hr : rs[i]? = some (rs[i]'(by omega)) := List.getElem?_eq_getElem (by omega)
    have hL : (ops.zip rs)[i]? = some (ops[i], rs[i]'(by omega)) := by rw [List.getElem?_zip_eq_some]; exact ⟨ho, hr⟩
    have hc := h i _ _ ho hr
    simp only [FS, if_true, hL, ih]
    rw [hc.next]
    unfold stepF
    rw [vl_canon hc.can]

theorem ES_canon (hlen : rs.length = ops.length) : ∀ i, i ≤ ops.length → ES (ops.zip rs) (fun _ => true) i = (rs.take i).flatMap (·.E)
  | 0, _ => by simp [ES]
  | i + 1, hi => by
    have ih := ES_canon hlen i (by omega)
    have hr : rs[i]? = some (rs[i]'(by omega)) := List.getElem?_eq_getElem (by omega)
    have hL : (ops.zip rs)[i]? = some (ops[i], rs[i]'(by omega)) := by rw [List.getElem?_zip_eq_some]; exact ⟨List.getElem?_eq_getElem (by omega), hr⟩
    have ht : rs.take (i + 1) = rs.take i ++ [rs[i]'(by omega)] := by rw [List.take_add_one, hr]; rfl
    simp only [ES, if_true, hL, ih]
    rw [ht]
    simp only [List.flatMap_append, List.flatMap_cons, List.flatMap_nil, List.append_nil]

theorem ns_mono (hcall : CallS A call) (hlen : rs.length = ops.length) (h : ∀ (i : Nat) (o : Oper) (r : Rec), ops[i]? = some o → rs[i]? = some r → CanonAt A call ops frs ns i o r) (h0 : ns 0 ≠ 0) :
    ∀ d i, i + d ≤ ops.length → ns i ≠ 0 → ns i ≤ ns (i + d)
  | 0, i, _, _ => Nat.le_refl _
  | d + 1, i, hi, hz => by
    have ih := ns_mono hcall hlen h h0 d i (by omega) hz
    have ho : ops[i + d]? = some ops[i + d] := List.getElem?_eq_getElem (by omega)
    have hr : rs[i + d]? = some (rs[i + d]'(by omega)) := List.getElem?_eq_getElem (by omega)
    have hc := h _ _ _ ho hr
    have e0 := hc.n0
    have e1 := hc.n1
    have : (rs[i + d]'(by omega)).n0 ≤ (rs[i + d]'(by omega)).n1 := by
      cases hsk : (rs[i + d]'(by omega)).sk with
      | false => exact (op_sound (A := A) (o := ops[i + d]) (hc.can.op hsk) (by rw [e0]; omega) hcall).1
      | true => have := (hc.can.skip hsk).2.2; simp only at this; omega
    show ns i ≤ ns (i + d + 1)
    omega

theorem all_range {n : Nat} {p : Nat → Bool} (h : (List.range n).all p = true) {i : Nat} (hi : i < n) : p i = true := List.all_eq_true.1 h i (List.mem_range.2 hi)

theorem stat_low (h : statOk ops = true) : low ops := by
  intro k o hk j hj
  unfold statOk at h
  simp only [Bool.and_eq_true] at h
  have hlt : k < ops.length := (List.getElem?_eq_some_iff.1 hk).1
  have := all_range h.1 hlt
  simp only [hk] at this
  have := List.all_eq_true.1 this j hj
  simpa using this

theorem stat_names (h : statOk ops = true) {i k : Nat} {o o' : Oper} (hi : ops[i]? = some o') (hk : ops[k]? = some o) (hik : i ≠ k) (hc : comparable (befs ops []) i k = false) {t : Tmp}
    (ht : o'.dst = some t) : t ∉ namesOf ops o := by
  intro hm
  unfold statOk at h
  simp only [Bool.and_eq_true] at h
  have hlt : k < ops.length := (List.getElem?_eq_some_iff.1 hk).1
  have hlt' : i < ops.length := (List.getElem?_eq_some_iff.1 hi).1
  have h2 := all_range h.2 hlt
  simp only [hk] at h2
  have h3 := List.all_eq_true.1 h2 t hm
  have h4 := all_range h3 hlt'
  simp only [hi, hc, ht] at h4
  simp [hik] at h4

theorem reg_ok (hg : GClosed A) (hlen : rs.length = ops.length) (hst : statOk ops = true) (hdyn : rs.flatMap (·.E) ≠ [] → dynR ops rs = true)
    (h : ∀ (i : Nat) (o : Oper) (r : Rec), ops[i]? = some o → rs[i]? = some r → CanonAt A call ops frs ns i o r) : RegOk A ops (ops.zip rs) := by
  have hmap : (ops.zip rs).map (·.2) = rs := by
    rw [List.map_snd_zip (by omega)]
  refine ⟨hg, stat_low hst, by simp [hlen], fun k p hk => (zip_get hk).1, fun q hq e he => ?_, fun i k p q hi hk hik hc t ht => ?_, fun i k p q hi hk hik hc => ?_⟩
  · have hq2 : q.2 ∈ rs := by rw [← hmap]; exact List.mem_map.2 ⟨q, hq, rfl⟩
    have hne : rs.flatMap (·.E) ≠ [] := fun h0 => by
      have : e ∈ rs.flatMap (·.E) := List.mem_flatMap.2 ⟨_, hq2, he⟩
      rw [h0] at this; cases this
    have hd := hdyn hne
    unfold dynR at hd
    simp only [Bool.and_eq_true] at hd
    have := List.all_eq_true.1 hd.1 e.id (by
      unfold effIds
      exact List.mem_flatMap.2 ⟨_, hq2, List.mem_map.2 ⟨e, he, rfl⟩⟩)
    simpa using this
  · have := stat_names hst (zip_get hi).1 (zip_get hk).1 hik hc ht
    unfold namesOf at this
    simp only [List.mem_append, not_or] at this
    exact ⟨fun h => this.1 (by simp [h]), this.2⟩
  · by_cases hE : q.2.E = []
    · exact .inl hE
    · refine .inr ?_
      have hq2 : q.2 ∈ rs := List.mem_of_getElem? (zip_get hk).2
      have hne : rs.flatMap (·.E) ≠ [] := fun h0 => by
        obtain ⟨e, he⟩ := List.exists_mem_of_ne_nil _ hE
        have : e ∈ rs.flatMap (·.E) := List.mem_flatMap.2 ⟨_, hq2, he⟩
        rw [h0] at this; cases this
      have hd := hdyn hne
      unfold dynR at hd
      simp only [Bool.and_eq_true] at hd
      have hlt : k < rs.length := (List.getElem?_eq_some_iff.1 (zip_get hk).2).1
      have hlt' : i < rs.length := (List.getElem?_eq_some_iff.1 (zip_get hi).2).1
      have h1 := all_range hd.2 hlt
      simp only [(zip_get hk).2, Bool.or_eq_true] at h1
      have h2 := all_range (h1.resolve_left (by simpa using hE)) hlt'
      simp only [Bool.or_eq_true, beq_iff_eq, hik, false_or, hc, Bool.false_eq_true, (zip_get hi).1, (zip_get hi).2] at h2
      unfold besideOk at h2
      simp only [Bool.and_eq_true, Bool.or_eq_true] at h2
      obtain ⟨h3, h4⟩ := h2
      refine ⟨by simpa using h3, ?_⟩
      rcases h4 with h4 | h4
      · left
        unfold mvB
        simp only [Bool.and_eq_true]
        exact h4
      · right
        rw [hmap]
        exact ⟨h4.2, fun x hx => List.all_eq_true.1 h4.1 x hx⟩
end

/-- **a region** -/
theorem reg_sound {A : Cfg} (hA : Good A) {call : Call'} (hcall : CallS A call) {ops : Array Oper} {draw : Bool} {N B : Nat} {id : Nat} (hst : draw = true → statOk ops.toList = true)
    (hN : ∀ o ∈ ops.toList, ∀ t, o.dst = some t → t < N) {fr : Fr} {n : Nat} {fr' : Fr} {n' : Nat} {E : List Eff} (h : regD A call ops.toList draw fr n = some (fr', n', E)) (hn : n ≠ 0) :
    n ≤ n' ∧ ∀ {φ : Phi} {w : World} {a : Act} {Q : Exit → Act → World → Prop}, n' ≤ B → St A N B φ w fr a n → (∀ φ' w' a', Trans φ w φ' w' n n' E → St A N B φ' w' fr' a' n' → Q .normal a' w') →
      (Code.region id ops draw).wp A.P Q a w := by
  obtain ⟨h1, h2⟩ := regD_some.1 h
  refine ⟨opsD_le hcall _ h1 hn, fun {φ w a Q} hB hs hq => ?_⟩
  cases draw with
  | false =>
    refine wp_region ?_
    have := ops_sound hA hcall (Q := Q) ops.toList 0 (by simp) hN h1 hn hB hs hq
    simpa [List.range_eq_range'] using this
  | true =>
    obtain ⟨rs, frs, ns, r1, r2, r3, r4, r5, r6, r7, r8⟩ := opsD_opsR ops.toList h1
    have H : RegOk A ops.toList (ops.toList.zip rs) := reg_ok hA.g r2 (hst rfl) (fun hE => by
      have := h2 rfl (by rw [← r7]; exact hE)
      unfold dyn at this
      rw [r1] at this
      exact this) r8
    have hL : (ops.toList.zip rs).length = ops.toList.length := by simp [r2]
    have hfs := FS_canon r2 r8
    rw [r3] at hfs
    have hes := ES_canon (ops := ops.toList) r2
    have hmono := ns_mono hcall r2 r8 (by rw [r4]; exact hn)
    have hns : ∀ i, i ≤ ops.toList.length → n ≤ ns i := fun i hi => by have := hmono i 0 (by omega) (by rw [r4]; exact hn); rw [r4, Nat.zero_add] at this; exact this
    have hnd : ∀ i k, i ≤ k → k ≤ ops.toList.length → ns i ≤ ns k := fun i k hik hk => by
      have := hmono (k - i) i (by omega) (by have := hns i (by omega); omega)
      rwa [show i + (k - i) = k by omega] at this
    have hrng : Rng (ops.toList.zip rs) n n' := by
      refine ⟨hn, fun k p hk => ?_, fun i k p q hik hi hk => ?_⟩
      · obtain ⟨k1, k2⟩ := zip_get hk
        have hlt : k < ops.toList.length := (List.getElem?_eq_some_iff.1 k1).1
        have c := r8 k _ _ k1 k2
        rw [c.n0, c.n1, ← r6]
        exact ⟨hns k (by omega), hnd k (k + 1) (by omega) (by omega), hnd (k + 1) _ (by omega) (Nat.le_refl _)⟩
      · obtain ⟨k1, k2⟩ := zip_get hk
        obtain ⟨i1, i2⟩ := zip_get hi
        have hlt : k < ops.toList.length := (List.getElem?_eq_some_iff.1 k1).1
        rw [(r8 i _ _ i1 i2).n1, (r8 k _ _ k1 k2).n0]
        exact hnd (i + 1) k (by omega) (by omega)
    refine wp_region_any hA.mixed ?_
    have hdrew := Trans.drew hs.wf n (w.drawn + 1)
    have hinv0 : Inv A (ops.toList.zip rs) fr n n' N φ w (Sof (Array.replicate ops.size false)) φ { w with drawn := w.drawn + 1 } a := by
      have hf0 : ∀ j, Sof (Array.replicate ops.size false) j = false := by
        intro j
        unfold Sof
        rcases Nat.lt_or_ge j ops.size with h | h
        · simp [h]
        · simp [h]
      have hz : ∀ k, FS A (ops.toList.zip rs) fr (Sof (Array.replicate ops.size false)) k = fr ∧ ES (ops.toList.zip rs) (Sof (Array.replicate ops.size false)) k = [] := by
        intro k
        induction k with
        | zero => exact ⟨rfl, rfl⟩
        | succ k ih => exact ⟨by simp only [FS, hf0]; simpa using ih.1, by simp only [ES, hf0]; simpa using ih.2⟩
      refine ⟨?_, hs.g.trans hA.g hdrew, fun i hi => .inl hi, fun t => ?_, hs.df, hs.sz⟩
      · rw [(hz _).2]; exact hdrew.widen (Nat.le_refl _) (opsD_le hcall _ h1 hn)
      · rw [(hz _).1]; exact hdrew.keep _ _ (hs.tm t)
    refine any_sound (call := call) hA hcall H (fun i p hp => ?_) hrng hN (fun i h1 h2 => hs.fresh i h1 (by omega)) (fun φ' w' a' inv => ?_) ops.size _ a _ φ hinv0 (by simp) (fun k o _ hk => ?_) ?_
    · obtain ⟨k1, k2⟩ := zip_get hp
      have hlt : i < ops.toList.length := (List.getElem?_eq_some_iff.1 k1).1
      rw [hfs i (by omega)]
      exact (r8 i _ _ k1 k2).can
    · have e1 : FS A (ops.toList.zip rs) fr (fun _ => true) (ops.toList.zip rs).length = fr' := by rw [hL, hfs _ (Nat.le_refl _), r5]
      have e2 : ES (ops.toList.zip rs) (fun _ => true) (ops.toList.zip rs).length = E := by
        rw [hL, hes _ (Nat.le_refl _), ← r7, List.take_of_length_le (by omega)]
      have ht := inv.t
      rw [e2] at ht
      refine hq φ' w' a' ht ⟨ht.wf, inv.g, fun i hi hiB => ?_, fun t => by rw [← e1]; exact inv.tm t, inv.df, inv.sz⟩
      cases hφ : φ' i with
      | no => rfl
      | _ =>
        rcases ht.dom i (by rw [hφ]; simp) with h | h
        · exact absurd (hs.fresh i (by have := opsD_le hcall _ h1 hn; omega) hiB) h
        · omega
    · exfalso
      unfold Sof at hk
      rcases Nat.lt_or_ge k ops.size with h | h
      · simp [h] at hk
      · simp [h] at hk
    · have : ∀ S k, un S k ≤ k := by
        intro S k
        induction k with
        | zero => exact Nat.le_refl _
        | succ k ih => simp only [un]; split <;> omega
      have := this (Sof (Array.replicate ops.size false)) ops.toList.length
      simpa using this
end Go.Cv

namespace Go.Cv
open Go

/-! ### no effect names 0 -/
def Nz (E : List Eff) : Prop := ∀ e ∈ E, e.id ≠ 0
def CallNz (call : Call') : Prop := ∀ f ds n d n' E, call f ds n = some (d, n', E) → Nz E

theorem Nz.nil : Nz [] := fun e h => by cases h
theorem Nz.append {E F : List Eff} (h : Nz E) (k : Nz F) : Nz (E ++ F) := fun e he => by
  rcases List.mem_append.1 he with he | he
  · exact h e he
  · exact k e he

theorem wrs_id (i : Nat) : ∀ (cs : List D) (k : Nat), ∀ e ∈ wrs i k cs, e.id = i
  | [], _, e, h => by cases h
  | c :: cs, k, e, h => by
    simp only [wrs, List.mem_cons] at h
    rcases h with rfl | h
    · rfl
    · exact wrs_id i cs _ e h

theorem builtin_nz {P : Program} {b : Builtin} {ts : List TypeId} {xs : List D} {n n' : Nat} {d : D} {E : List Eff} (h : builtinD P b ts xs n = some (d, n', E)) : Nz E := by
  unfold builtinD at h
  split at h
  · obtain ⟨_, _, rfl⟩ := pure_case h; exact Nz.nil
  · split at h
    · unfold dAppend at h
      repeat' split at h
      all_goals first
        | (simp at h; done)
        | (cases h; exact Nz.nil)
        | (rename_i h0; cases h; intro e he; simp at he; subst he; exact h0)
    · simp at h
  · split at h
    · rename_i t t' dd s _
      cases hc : dCopy P t dd s with
      | none => simp [hc] at h
      | some r =>
        simp [hc] at h
        obtain ⟨_, _, rfl⟩ := h
        unfold dCopy at hc
        split at hc
        · split at hc
          · rename_i hcc
            cases hc
            intro e he
            rw [wrs_id _ _ _ e he]
            exact hcc.2.2.2.1
          · simp at hc
        · simp at hc
    · simp at h
  · rename_i t x
    cases hc : dClear P t x with
    | none => simp [hc] at h
    | some r =>
      simp [hc] at h
      obtain ⟨_, _, rfl⟩ := h
      unfold dClear at hc
      split at hc
      · split at hc
        · split at hc
          · cases hc; exact Nz.nil
          · split at hc
            · rename_i hcc
              cases hc
              intro e he
              rw [wrs_id _ _ _ e he]
              exact hcc.2.2.2.1
            · simp at hc
        · simp at hc
      · simp at hc
  · obtain ⟨_, _, rfl⟩ := pure_case h; exact Nz.nil
  · obtain ⟨_, _, rfl⟩ := pure_case h; exact Nz.nil
  · split at h
    · cases h; exact Nz.nil
    · simp at h
  · simp at h

theorem callM_nz {A : Cfg} {call : Call'} (hc : CallNz call) : CallNz (callM A call) := by
  intro f ds n d n' E h
  unfold callM at h
  split at h
  · exact hc _ _ _ _ _ _ h
  · exact hc _ _ _ _ _ _ h
  · obtain ⟨h1, _, _⟩ := lentR_some h; exact hc _ _ _ _ _ _ h1
  · obtain ⟨_, h2⟩ := goneR_some h
    simp only at h2
    subst h2
    intro e he
    obtain ⟨i, hi, rfl⟩ := List.mem_map.1 he
    unfold movK at hi
    have := (List.mem_filter.1 hi).2
    simpa [Eff.id] using this
theorem op_nz {A : Cfg} {call : Call'} (hc : CallNz call) {fr : Fr} {n n' : Nat} {op : Op} {d : D} {E : List Eff} (h : opD A call fr n op = some (d, n', E)) : Nz E := by
  unfold opD at h
  split at h
  case h_7 =>
    unfold dBuildSlice at h
    split at h
    · split at h
      · cases h; exact Nz.nil
      · simp at h
    · simp at h
  case h_9 t a x =>
    cases hs : dStore A.P t (evD A fr a) (evD A fr x) with
    | none => simp [hs] at h
    | some E' =>
      simp [hs] at h
      obtain ⟨_, _, rfl⟩ := h
      unfold dStore at hs
      split at hs
      · split at hs
        · rename_i hcc
          cases hs
          intro e he
          rw [wrs_id _ _ _ e he]
          exact hcc.1
        · simp at hs
      · simp at hs
  case h_16 =>
    unfold dMake at h
    split at h
    · split at h
      · split at h
        · cases h; exact Nz.nil
        · simp at h
      · simp at h
    · simp at h
  case h_23 c =>
    split at h
    · exact builtin_nz h
    · split at h
      · exact callM_nz hc _ _ _ _ _ _ h
      · simp at h
    · simp at h
  case h_1 => cases h; exact Nz.nil
  case h_2 => cases h; exact Nz.nil
  case h_3 => split at h <;> first | (cases h; exact Nz.nil) | simp at h
  case h_4 t => cases hz : tyZero A.P t <;> simp [hz] at h; obtain ⟨_, _, rfl⟩ := h; exact Nz.nil
  case h_5 => split at h <;> first | (cases h; exact Nz.nil) | simp at h
  case h_10 => split at h <;> first | (cases h; exact Nz.nil) | simp at h
  case h_14 => split at h <;> first | (cases h; exact Nz.nil) | simp at h
  case h_15 => split at h <;> first | (cases h; exact Nz.nil) | simp at h
  case h_22 => split at h <;> first | (obtain ⟨_, _, rfl⟩ := pure_case h; exact Nz.nil) | simp at h
  case h_24 => simp at h
  case h_17 => obtain ⟨_, _, _, _, rfl⟩ := pure_case1 h; exact Nz.nil
  case h_18 => obtain ⟨_, _, _, _, rfl⟩ := pure_case1 h; exact Nz.nil
  case h_20 => obtain ⟨_, _, _, _, rfl⟩ := pure_case1 h; exact Nz.nil
  all_goals (obtain ⟨_, _, rfl⟩ := pure_case h; exact Nz.nil)

theorem opsD_nz {A : Cfg} {call : Call'} (hc : CallNz call) {ops : List Oper} : ∀ (l : List Oper) {fr : Fr} {n : Nat} {fr' : Fr} {n' : Nat} {E : List Eff},
    opsD A call ops l fr n = some (fr', n', E) → Nz E
  | [], _, _, _, _, _, h => by simp [opsD] at h; obtain ⟨_, _, rfl⟩ := h; exact Nz.nil
  | o :: l, fr, n, fr', n', E, h => by
    simp only [opsD] at h
    split at h
    · cases ho : opD A call fr n o.op with
      | none => simp [ho] at h
      | some q =>
        obtain ⟨d, n1, E1⟩ := q
        simp only [ho] at h
        cases hq : opsD A call ops l (upd (appF E1 fr) o.dst d) n1 with
        | none => simp [hq] at h
        | some z =>
          obtain ⟨f2, n2, E2⟩ := z
          simp only [hq, Option.map_some, Option.some.injEq, Prod.mk.injEq] at h
          rw [← h.2.2]
          exact (op_nz hc ho).append (opsD_nz hc l hq)
    · exact opsD_nz hc l h
    · simp at h

theorem eff_mapD_id (f : D → D) (e : Eff) : (e.mapD f).id = e.id := by cases e <;> rfl

theorem oldE_mem {n : Nat} {E : List Eff} {e : Eff} (h : e ∈ oldE n E) : ∃ e' ∈ E, e.id = e'.id ∧ e'.id < n := by
  unfold oldE at h
  obtain ⟨e', he', rfl⟩ := List.mem_map.1 h
  obtain ⟨h1, h2⟩ := List.mem_filter.1 he'
  exact ⟨e', h1, eff_mapD_id _ _, by simpa using h2⟩

theorem leave_nz {keep : Nat} {n : Nat} {d : D} {E : List Eff} (h : Nz E) : Nz (leave keep n d E).2.2 := by
  intro e he
  unfold leave at he
  obtain ⟨e', he', rfl⟩ := List.mem_map.1 he
  rw [eff_mapD_id]
  obtain ⟨e'', h1, h2, _⟩ := oldE_mem he'
  rw [h2]; exact h e'' h1

theorem nz_both {A : Cfg} (hx : ∀ f h, A.ext f = some h → ∀ ds n d n' E, h ds n = some (d, n', E) → Nz E) :
    ∀ k, (∀ c fr n x fr' n' E, evalF A k c fr n = some (x, fr', n', E) → Nz E) ∧ CallNz (callF A k) := by
  intro k
  induction k with
  | zero => exact ⟨fun c fr n x fr' n' E h => by simp [evalF] at h, fun f ds n d n' E h => by simp [callF] at h⟩
  | succ k ih =>
    obtain ⟨ih1, ih2⟩ := ih
    have hseq : ∀ {r : CRes} {kk : Fr → Nat → CRes} {x fr' n' E}, (∀ x fr' n' E, r = some (x, fr', n', E) → Nz E) → (∀ fr n x fr' n' E, kk fr n = some (x, fr', n', E) → Nz E) →
        seqR r kk = some (x, fr', n', E) → Nz E := by
      intro r kk x fr' n' E h1 h2 h
      rcases seqR_some h with ⟨fr1, n1, E1, e, fr2, n2, E2, ha, hb, hc⟩ | ⟨ha, _⟩
      · cases hc; exact (h1 _ _ _ _ ha).append (h2 _ _ _ _ _ _ hb)
      · exact h1 _ _ _ _ ha
    refine ⟨fun c fr n x fr' n' E h => ?_, fun f ds n d n' E h => ?_⟩
    · unfold evalF at h
      cases c <;> simp only at h <;> try (first | (cases h; exact Nz.nil) | (simp at h; done))
      case region id ops draw =>
        cases hr : regD A (callF A k) ops.toList draw fr n with
        | none => simp [hr] at h
        | some q =>
          simp [hr] at h
          have := (regD_some.1 hr).1
          obtain ⟨q1, q2, q3⟩ := q
          rw [← h.2.2.2]
          exact opsD_nz ih2 _ this
      case seq a b => exact hseq (ih1 _ _ _) (fun fr n => ih1 _ fr n) h
      case cond c x y =>
        split at h
        · rename_i t ht
          cases t
          · exact ih1 _ _ _ _ _ _ _ h
          · exact ih1 _ _ _ _ _ _ _ h
        · simp at h
      case block id c =>
        cases hr : evalF A k c fr n with
        | none => simp [hr, blockR] at h
        | some q =>
          obtain ⟨e, f1, n1, E1⟩ := q
          have := ih1 _ _ _ _ _ _ _ hr
          rw [hr] at h
          unfold blockR at h
          split at h
          · rename_i i fr2 n2 E2 heq
            cases heq
            split at h
            · cases h; exact this
            · cases h; exact this
          · cases h; exact this
      case loop c => exact hseq (ih1 _ _ _) (fun fr n => ih1 _ fr n) h
    · unfold callF at h
      split at h
      · rename_i hh he; exact hx f hh he _ _ _ _ _ h
      · split at h
        · split at h
          · rename_i c hc
            split at h
            · cases hr : evalF A k c (argsFr ds) n with
              | none => simp [hr, endR] at h
              | some q =>
                obtain ⟨e, f1, n1, E1⟩ := q
                have := ih1 _ _ _ _ _ _ _ hr
                rw [hr] at h
                cases e <;> simp only [endR] at h
                · obtain ⟨dd, _, h⟩ := Option.map_eq_some_iff.1 h
                  have h2 := leave_nz (keep := A.keep f) (n := n) (d := dd) this
                  rw [h] at h2; exact h2
                · simp at h
                · obtain ⟨dd, _, h⟩ := Option.map_eq_some_iff.1 h
                  have h2 := leave_nz (keep := A.keep f) (n := n) (d := dd) this
                  rw [h] at h2; exact h2
            · simp at h
          · simp at h
        · simp at h
end Go.Cv

namespace Go.Cv
open Go

/-! ### laws of effects, kills and names -/
theorem map_setFlat {f : D → D} (hc : ∀ d, (f d).cells.length = d.cells.length) (ha : ∀ cs, f (.agg cs) = .agg (cs.map f)) (hl : ∀ d, d.leaf = true → (f d).leaf = true) :
    ∀ (es : List D) (k : Nat) (c : D), (setFlat es k c).map f = setFlat (es.map f) k (f c)
  | [], _, _ => rfl
  | e :: es, k, c => by
    have he := hc e
    simp only [setFlat, List.map_cons, he]
    split
    · simp only [List.map_cons]
      congr 1
      cases hle : e.leaf with
      | true =>
        have h2 := hl e hle
        revert h2
        generalize f e = z
        intro h2
        cases e <;> first | (simp [D.leaf] at hle; done) | (cases z <;> first | rfl | simp [D.leaf] at h2)
      | false =>
        cases e <;> simp [D.leaf] at hle
        simp only [ha, List.map_set]
    · simp only [List.map_cons, map_setFlat hc ha hl es]

theorem len_kill (i : Nat) (d : D) : (d.kill i).cells.length = d.cells.length := by rw [cells_kill]; simp
theorem leaf_kill (i : Nat) (d : D) (h : d.leaf = true) : (d.kill i).leaf = true := by
  cases d <;> simp [D.leaf] at h <;> simp [D.kill] <;> (try split) <;> rfl
theorem len_ren (ρ : Nat → Nat) (d : D) : (d.ren ρ).cells.length = d.cells.length := by rw [cells_ren]; simp
theorem leaf_ren (ρ : Nat → Nat) (d : D) (h : d.leaf = true) : (d.ren ρ).leaf = true := by
  cases d <;> simp [D.leaf] at h <;> simp [D.ren] <;> rfl

/-- a kill forgets what was done under the id -/
theorem kill_app_self (e : Eff) : ∀ d : D, (e.app d).kill e.id = d.kill e.id := by
  have key : ∀ n, (∀ d : D, SizeOf.sizeOf d < n → (e.app d).kill e.id = d.kill e.id) ∧ (∀ l : List D, SizeOf.sizeOf l < n → (l.map e.app).map (D.kill e.id) = l.map (D.kill e.id)) := by
    intro n
    induction n with
    | zero => exact ⟨fun d h => by omega, fun l h => by omega⟩
    | succ n ih =>
      refine ⟨fun d hs => ?_, fun l hs => ?_⟩
      · cases d with
        | val v => rw [app_val]
        | ifc => rw [app_ifc]
        | bad => rw [app_bad]
        | agg cs => rw [app_agg]; simp only [D.kill, killL_map]; rw [ih.2 cs (by simp at hs; omega)]
        | tup cs => rw [app_tup]; simp only [D.kill, killL_map]; rw [ih.2 cs (by simp at hs; omega)]
        | fn f cs => rw [app_fn]; simp only [D.kill, killL_map]; rw [ih.2 cs (by simp at hs; omega)]
        | sl id off cap sz es =>
          by_cases h : id = e.id
          · subst h
            have h1 : (D.sl e.id off cap sz es).kill e.id = .bad := by simp [D.kill]
            rw [h1]
            cases e <;> simp [Eff.app, D.wr, D.kill, Eff.id]
          · rw [app_sl h]; simp only [D.kill, killL_map, h, if_false]; rw [ih.2 es (by simp at hs; omega)]
        | pt id off es =>
          by_cases h : id = e.id
          · subst h
            have h1 : (D.pt e.id off es).kill e.id = .bad := by simp [D.kill]
            rw [h1]
            cases e <;> simp [Eff.app, D.wr, D.kill, Eff.id]
          · rw [app_pt h]; simp only [D.kill, killL_map, h, if_false]; rw [ih.2 es (by simp at hs; omega)]
      · cases l with
        | nil => rfl
        | cons d ds =>
          simp only [List.cons.sizeOf_spec] at hs
          simp only [List.map_cons]
          rw [ih.1 d (by omega), ih.2 ds (by omega)]
  exact fun d => (key (SizeOf.sizeOf d + 1)).1 d (by omega)

/-- a kill of another id goes under -/
theorem kill_app_ne {i : Nat} {e : Eff} (hi : i ≠ e.id) : ∀ d : D, (e.app d).kill i = (e.mapD (D.kill i)).app (d.kill i) := by
  have key : ∀ n, (∀ d : D, SizeOf.sizeOf d < n → (e.app d).kill i = (e.mapD (D.kill i)).app (d.kill i)) ∧ (∀ l : List D, SizeOf.sizeOf l < n → (l.map e.app).map (D.kill i) = (l.map (D.kill i)).map (e.mapD (D.kill i)).app) := by
    intro n
    induction n with
    | zero => exact ⟨fun d h => by omega, fun l h => by omega⟩
    | succ n ih =>
      refine ⟨fun d hs => ?_, fun l hs => ?_⟩
      · cases d with
        | val v => rw [app_val]; simp only [D.kill]; rw [app_val]
        | ifc => rw [app_ifc]; simp only [D.kill]; rw [app_ifc]
        | bad => rw [app_bad]; simp only [D.kill]; rw [app_bad]
        | agg cs => rw [app_agg]; simp only [D.kill, killL_map]; rw [app_agg, ih.2 cs (by simp at hs; omega)]
        | tup cs => rw [app_tup]; simp only [D.kill, killL_map]; rw [app_tup, ih.2 cs (by simp at hs; omega)]
        | fn f cs => rw [app_fn]; simp only [D.kill, killL_map]; rw [app_fn, ih.2 cs (by simp at hs; omega)]
        | sl id off cap sz es =>
          have hl := ih.2 es (by simp at hs; omega)
          by_cases h : id = e.id
          · subst h
            cases e with
            | wr j k c =>
              simp only [Eff.id] at hi ⊢
              simp only [app_wr, Eff.mapD] at hl ⊢
              simp only [D.wr, D.kill, wrL_map, killL_map, Ne.symm hi, if_false, true_and]
              split
              · rw [map_setFlat (len_kill i) (fun cs => by simp [D.kill, killL_map]) (leaf_kill i), hl]
              · rw [hl]
            | kill j =>
              simp only [Eff.id] at hi ⊢
              simp [Eff.app, Eff.mapD, D.kill, Ne.symm hi]
          · by_cases h' : id = i
            · subst h'
              rw [app_sl h]
              simp only [D.kill, if_true]
              rw [app_bad]
            · rw [app_sl h]
              simp only [D.kill, h', if_false, killL_map]
              rw [app_sl (by rw [eff_mapD_id]; exact h), hl]
        | pt id off es =>
          have hl := ih.2 es (by simp at hs; omega)
          by_cases h : id = e.id
          · subst h
            cases e with
            | wr j k c =>
              simp only [Eff.id] at hi ⊢
              simp only [app_wr, Eff.mapD] at hl ⊢
              simp only [D.wr, D.kill, wrL_map, killL_map, Ne.symm hi, if_false, true_and]
              split
              · rw [List.map_set, hl]
              · rw [hl]
            | kill j =>
              simp only [Eff.id] at hi ⊢
              simp [Eff.app, Eff.mapD, D.kill, Ne.symm hi]
          · by_cases h' : id = i
            · subst h'
              rw [app_pt h]
              simp only [D.kill, if_true]
              rw [app_bad]
            · rw [app_pt h]
              simp only [D.kill, h', if_false, killL_map]
              rw [app_pt (by rw [eff_mapD_id]; exact h), hl]
      · cases l with
        | nil => rfl
        | cons d ds =>
          simp only [List.cons.sizeOf_spec] at hs
          simp only [List.map_cons]
          rw [ih.1 d (by omega), ih.2 ds (by omega)]
  exact fun d => (key (SizeOf.sizeOf d + 1)).1 d (by omega)

/-- a renaming goes under an effect, if it keeps apart what the effect names -/
theorem ren_app {ρ : Nat → Nat} {e : Eff} (hρ : ∀ i, ρ i = e.id ↔ i = e.id) : ∀ d : D, (e.app d).ren ρ = (e.mapD (D.ren ρ)).app (d.ren ρ) := by
  have hself : ρ e.id = e.id := (hρ e.id).2 rfl
  have key : ∀ n, (∀ d : D, SizeOf.sizeOf d < n → (e.app d).ren ρ = (e.mapD (D.ren ρ)).app (d.ren ρ)) ∧ (∀ l : List D, SizeOf.sizeOf l < n → (l.map e.app).map (D.ren ρ) = (l.map (D.ren ρ)).map (e.mapD (D.ren ρ)).app) := by
    intro n
    induction n with
    | zero => exact ⟨fun d h => by omega, fun l h => by omega⟩
    | succ n ih =>
      refine ⟨fun d hs => ?_, fun l hs => ?_⟩
      · cases d with
        | val v => rw [app_val]; simp only [D.ren]; rw [app_val]
        | ifc => rw [app_ifc]; simp only [D.ren]; rw [app_ifc]
        | bad => rw [app_bad]; simp only [D.ren]; rw [app_bad]
        | agg cs => rw [app_agg]; simp only [D.ren, renL_map]; rw [app_agg, ih.2 cs (by simp at hs; omega)]
        | tup cs => rw [app_tup]; simp only [D.ren, renL_map]; rw [app_tup, ih.2 cs (by simp at hs; omega)]
        | fn f cs => rw [app_fn]; simp only [D.ren, renL_map]; rw [app_fn, ih.2 cs (by simp at hs; omega)]
        | sl id off cap sz es =>
          have hl := ih.2 es (by simp at hs; omega)
          by_cases h : id = e.id
          · subst h
            cases e with
            | wr j k c =>
              simp only [Eff.id] at hself ⊢
              simp only [app_wr, Eff.mapD] at hl ⊢
              simp only [D.wr, D.ren, wrL_map, renL_map, hself, true_and]
              split
              · rw [map_setFlat (len_ren ρ) (fun cs => by simp [D.ren, renL_map]) (leaf_ren ρ), hl]
              · rw [hl]
            | kill j =>
              simp only [Eff.id] at hself ⊢
              simp [Eff.app, Eff.mapD, D.kill, D.ren, hself]
          · rw [app_sl h]
            simp only [D.ren, renL_map]
            rw [app_sl (by rw [eff_mapD_id]; exact fun h2 => h ((hρ id).1 h2)), hl]
        | pt id off es =>
          have hl := ih.2 es (by simp at hs; omega)
          by_cases h : id = e.id
          · subst h
            cases e with
            | wr j k c =>
              simp only [Eff.id] at hself ⊢
              simp only [app_wr, Eff.mapD] at hl ⊢
              simp only [D.wr, D.ren, wrL_map, renL_map, hself, true_and]
              split
              · rw [List.map_set, hl]
              · rw [hl]
            | kill j =>
              simp only [Eff.id] at hself ⊢
              simp [Eff.app, Eff.mapD, D.kill, D.ren, hself]
          · rw [app_pt h]
            simp only [D.ren, renL_map]
            rw [app_pt (by rw [eff_mapD_id]; exact fun h2 => h ((hρ id).1 h2)), hl]
      · cases l with
        | nil => rfl
        | cons d ds =>
          simp only [List.cons.sizeOf_spec] at hs
          simp only [List.map_cons]
          rw [ih.1 d (by omega), ih.2 ds (by omega)]
  exact fun d => (key (SizeOf.sizeOf d + 1)).1 d (by omega)

theorem ren_appE {ρ : Nat → Nat} : ∀ (E : List Eff) (d : D), (∀ e ∈ E, ∀ i, ρ i = e.id ↔ i = e.id) → (appE E d).ren ρ = appE (E.map (Eff.mapD (D.ren ρ))) (d.ren ρ)
  | [], _, _ => rfl
  | e :: E, d, h => by
    rw [appE_cons, List.map_cons, appE_cons, ren_appE E _ (fun x hx => h x (by simp [hx])), ren_app (h e (by simp))]

end Go.Cv

namespace Go.Cv
open Go

theorem posOf_get {i j : Nat} : ∀ {l : List Nat}, posOf i l = some j → l[j]? = some i
  | [], h => by simp [posOf] at h
  | x :: l, h => by
    unfold posOf at h
    split at h
    · rename_i hx; cases h; simp [hx]
    · cases hp : posOf i l with
      | none => simp [hp] at h
      | some k => simp [hp] at h; subst h; simpa using posOf_get hp

theorem renId_le {n : Nat} {kept : List Nat} {i : Nat} (hn : n ≠ 0) : renId n kept i < n + kept.length := by
  unfold renId
  split
  · omega
  · split
    · rename_i j hj
      have := (List.getElem?_eq_some_iff.1 (posOf_get hj)).1
      omega
    · omega

/-- new names: what is not kept is forgotten, what is foreign (F and up) stays -/
def rhoF (n : Nat) (kept : List Nat) (F i : Nat) : Nat := if F ≤ i then i else renId n kept i
def phiRen (n : Nat) (kept : List Nat) (F : Nat) (φ : Phi) : Phi := fun j =>
  if j < n then φ j else if F ≤ j then φ j else match kept[j - n]? with
    | some i => if i < F ∧ renId n kept i = j then φ i else .no
    | none => .no

theorem phiRen_at {n F : Nat} {kept : List Nat} {φ : Phi} {j : Nat} (hF : n + kept.length ≤ F) (h : phiRen n kept F φ j ≠ .no) :
    ∃ i, phiRen n kept F φ j = φ i ∧ rhoF n kept F i = j ∧ (j < n ∨ F ≤ j ∨ (n ≤ j ∧ j < n + kept.length)) := by
  unfold phiRen at h ⊢
  unfold rhoF
  by_cases hj : j < n
  · exact ⟨j, by rw [if_pos hj], by rw [if_neg (by omega)]; simp [renId, hj], .inl hj⟩
  · rw [if_neg hj] at h ⊢
    by_cases hFj : F ≤ j
    · exact ⟨j, by rw [if_pos hFj], by rw [if_pos hFj], .inr (.inl hFj)⟩
    · rw [if_neg hFj] at h ⊢
      cases hk : kept[j - n]? with
      | none => simp [hk] at h
      | some i =>
        simp only [hk] at h ⊢
        by_cases hr : i < F ∧ renId n kept i = j
        · have := (List.getElem?_eq_some_iff.1 hk).1
          exact ⟨i, by rw [if_pos hr], by rw [if_neg (by omega)]; exact hr.2, .inr (.inr ⟨by omega, by omega⟩)⟩
        · rw [if_neg hr] at h; exact absurd rfl h

theorem phiRen_of {n F : Nat} {kept : List Nat} {φ : Phi} {i : Nat} (hF : n + kept.length ≤ F) (h0 : rhoF n kept F i ≠ 0) : phiRen n kept F φ (rhoF n kept F i) = φ i := by
  unfold rhoF at h0 ⊢
  by_cases hFi : F ≤ i
  · rw [if_pos hFi]; unfold phiRen; rw [if_neg (by omega), if_pos hFi]
  · rw [if_neg hFi] at h0 ⊢
    by_cases hi : i < n
    · have : renId n kept i = i := by simp [renId, hi]
      rw [this]; simp [phiRen, hi]
    · cases hp : posOf i kept with
      | none => exact absurd (by simp [renId, hi, hp]) h0
      | some j =>
        have hr : renId n kept i = n + j := by simp [renId, hi, hp]
        have hg := posOf_get hp
        have hlt := (List.getElem?_eq_some_iff.1 hg).1
        rw [hr]
        unfold phiRen
        rw [if_neg (by omega), if_neg (by omega), show n + j - n = j by omega, hg]
        simp only
        rw [if_pos ⟨by omega, hr⟩]

theorem phiRen_zero {n F : Nat} {kept : List Nat} {φ : Phi} (hn : n ≠ 0) : phiRen n kept F φ 0 = φ 0 := by unfold phiRen; rw [if_pos (by omega)]

theorem ren_sound {n F : Nat} {kept : List Nat} {φ : Phi} {w : World} {d : D} {v : Value} (hn : n ≠ 0) (hF : n + kept.length ≤ F) (wf : WF φ w) (h : R φ w d v) :
    R (phiRen n kept F φ) w (d.ren (rhoF n kept F)) v := by
  refine h.ren (by unfold rhoF; rw [if_neg (by omega)]; simp [renId]; omega) (fun i _ h0 => phiRen_of hF h0) (fun j b p hj => ?_) wf
  obtain ⟨i, h1, h2, _⟩ := phiRen_at (n := n) (kept := kept) (φ := φ) (j := j) hF (by rw [hj]; simp)
  refine ⟨i, by rw [← h1]; exact hj, h2, fun h0 => ?_⟩
  subst h0
  rw [phiRen_zero hn, wf.zero] at hj
  simp at hj

theorem wf_ren {n F : Nat} {kept : List Nat} {φ : Phi} {w : World} (hn : n ≠ 0) (hF : n + kept.length ≤ F) (wf : WF φ w) : WF (phiRen n kept F φ) w where
  zero := by rw [phiRen_zero hn, wf.zero]
  inj i j b p q hi hj := by
    obtain ⟨i', h1, h2, _⟩ := phiRen_at (n := n) (kept := kept) (φ := φ) (j := i) hF (by rw [hi]; simp)
    obtain ⟨j', h3, h4, _⟩ := phiRen_at (n := n) (kept := kept) (φ := φ) (j := j) hF (by rw [hj]; simp)
    have := wf.inj i' j' b p q (by rw [← h1]; exact hi) (by rw [← h3]; exact hj)
    subst this
    rw [← h2, ← h4]
  live i b p hi := by
    obtain ⟨i', h1, _⟩ := phiRen_at (n := n) (kept := kept) (φ := φ) (j := i) hF (by rw [hi]; simp)
    exact wf.live i' b p (by rw [← h1]; exact hi)

mutual
theorem ids_kill {j i : Nat} : ∀ {d : D}, i ∈ (d.kill j).ids → i ∈ d.ids
  | .val v, h => h
  | .ifc, h => h
  | .bad, h => h
  | .agg cs, h => by simp only [D.kill, D.ids] at h ⊢; exact ids_killL h
  | .tup cs, h => by simp only [D.kill, D.ids] at h ⊢; exact ids_killL h
  | .fn f cs, h => by simp only [D.kill, D.ids] at h ⊢; exact ids_killL h
  | .sl id off cap sz es, h => by
    simp only [D.kill] at h
    split at h
    · simp [D.ids] at h
    · simp only [D.ids, List.mem_cons] at h ⊢
      exact h.imp_right ids_killL
  | .pt id off es, h => by
    simp only [D.kill] at h
    split at h
    · simp [D.ids] at h
    · simp only [D.ids, List.mem_cons] at h ⊢
      exact h.imp_right ids_killL
theorem ids_killL {j i : Nat} : ∀ {ds : List D}, i ∈ idsL (killL j ds) → i ∈ idsL ds
  | [], h => h
  | d :: ds, h => by
    simp only [killL, idsL, List.mem_append] at h ⊢
    exact h.imp ids_kill ids_killL
end
theorem ids_killAll {i : Nat} : ∀ (K : List Nat) {d : D}, i ∈ (killAll K d).ids → i ∈ d.ids
  | [], _, h => h
  | j :: K, _, h => ids_kill (ids_killAll K h)

/-! ### effects on old names alone -/
theorem killAll_app {e : Eff} : ∀ (K : List Nat) (d : D), e.id ∉ K → killAll K (e.app d) = (e.mapD (killAll K)).app (killAll K d)
  | [], d, _ => by cases e <;> rfl
  | i :: K, d, h => by
    simp only [List.mem_cons, not_or] at h
    show killAll K ((e.app d).kill i) = _
    rw [kill_app_ne (Ne.symm h.1), killAll_app K _ (by rw [eff_mapD_id]; exact h.2)]
    cases e <;> rfl

theorem killAll_append (K L : List Nat) (d : D) : killAll (K ++ L) d = killAll L (killAll K d) := by simp [killAll]

theorem killAll_self {e : Eff} : ∀ (K : List Nat) (d : D), e.id ∈ K → killAll K (e.app d) = killAll K d
  | i :: K, d, h => by
    by_cases hi : e.id = i
    · subst hi
      show killAll K ((e.app d).kill e.id) = killAll K (d.kill e.id)
      rw [kill_app_self]
    · have h2 : e.id ∈ K := by simpa [hi] using h
      show killAll K ((e.app d).kill i) = killAll K (d.kill i)
      rw [kill_app_ne (fun h => hi h.symm)]
      have := killAll_self (e := e.mapD (D.kill i)) K (d.kill i) (by rw [eff_mapD_id]; exact h2)
      exact this

theorem killAll_E (n : Nat) (K : List Nat) (hK : ∀ i ∈ K, n ≤ i) : ∀ (F : List Eff) (d : D), (∀ e ∈ F, n ≤ e.id → e.id ∈ K) →
    killAll K (appE F d) = appE ((F.filter (fun e => e.id < n)).map (Eff.mapD (killAll K))) (killAll K d)
  | [], d, _ => rfl
  | e :: F, d, h => by
    rw [appE_cons, killAll_E n K hK F _ (fun x hx => h x (by simp [hx]))]
    by_cases he : e.id < n
    · rw [List.filter_cons_of_pos (by simpa using he), List.map_cons, appE_cons]
      rw [killAll_app K d (fun hm => by have := hK _ hm; omega)]
    · rw [List.filter_cons_of_neg (by simpa using he)]
      rw [killAll_self K d (h e (by simp) (by omega))]

theorem killAll_fix : ∀ {K : List Nat} {d : D}, (∀ i ∈ K, i ∉ d.ids) → killAll K d = d
  | [], _, _ => rfl
  | i :: K, d, h => by
    show killAll K (d.kill i) = d
    rw [kill_fix (h i (by simp))]
    exact killAll_fix (fun j hj => h j (by simp [hj]))

theorem R.killAll {φ : Phi} {w : World} {v : Value} : ∀ (K : List Nat) {d : D}, R φ w d v → R φ w (killAll K d) v
  | [], _, h => h
  | i :: K, _, h => R.killAll K (h.kill i)

/-- **what a call leaves** -/
theorem leave_sound {φ φ1 : Phi} {w w1 : World} {n m F : Nat} {E : List Eff} {d : D} {v : Value} {keep : Nat} (t : Trans φ w φ1 w1 n m E) (hall : ∀ i, n ≤ i → i < F → φ i = .no) (hn : n ≠ 0) (nz : Nz E)
    (hmF : m ≤ F) (hF : (leave keep n d E).2.1 ≤ F) (hdF : ∀ i ∈ d.ids, i < F) (hEF : ∀ e ∈ E, e.id < F ∧ ∀ i ∈ e.pay, i < F)
    (hv : R φ1 w1 d v) : ∃ φ2, Trans φ w φ2 w1 n (leave keep n d E).2.1 (leave keep n d E).2.2 ∧ R φ2 w1 (leave keep n d E).1 v := by
  unfold leave at hF ⊢
  simp only at hF ⊢
  generalize hk : keptIds keep n d (oldE n E) = kept at hF ⊢
  have hfix : ∀ d : D, (∀ i ∈ d.ids, i < F) → d.ren (renId n kept) = d.ren (rhoF n kept F) := fun d hd => ren_congr d (fun i hi => by have := hd i hi; unfold rhoF; rw [if_neg (by omega)])
  have hEfix : (oldE n E).map (Eff.mapD (D.ren (renId n kept))) = (oldE n E).map (Eff.mapD (D.ren (rhoF n kept F))) := by
    refine List.map_congr_left fun e he => ?_
    unfold oldE at he
    obtain ⟨e', he', rfl⟩ := List.mem_map.1 he
    have h1 := hEF e' (List.mem_filter.1 he').1
    cases e' with
    | wr i k c => simp only [Eff.mapD]; rw [hfix _ (fun i hi => h1.2 i (ids_killAll _ hi))]
    | kill i => rfl
  rw [hfix d hdF, hEfix]
  refine ⟨phiRen n kept F φ1, ⟨wf_ren hn hF t.wf, fun x u hx => ?_, fun i hi => ?_, t.size, fun b hb hu => ?_, t.os, t.tape, t.output⟩, by
    split
    · exact (ren_sound hn hF t.wf hv).norm
    · exact ren_sound hn hF t.wf hv⟩
  · -- an older reading
    have hlow : ∀ i ∈ x.ids, i < n ∨ F ≤ i := by
      intro i hi
      rcases hx.ids i hi with h | h
      · omega
      · rcases Nat.lt_or_ge i n with h' | h'
        · exact .inl h'
        · rcases Nat.lt_or_ge i F with h2 | h2
          · exact absurd (hall i h' h2) h
          · exact .inr h2
    have h1 := ren_sound (n := n) (kept := kept) hn hF t.wf ((t.keep x u hx).killAll ((E.map Eff.id).filter (n ≤ ·)))
    rw [killAll_E n _ (fun i hi => by simpa using (List.mem_filter.1 hi).2) E x (fun e he hle => List.mem_filter.2 ⟨List.mem_map.2 ⟨e, he, rfl⟩, by simpa using hle⟩)] at h1
    rw [killAll_fix (fun i hi hm => by
      obtain ⟨h2, h3⟩ := List.mem_filter.1 hi
      obtain ⟨e, he, rfl⟩ := List.mem_map.1 h2
      have h4 : n ≤ e.id := by simpa using h3
      have h5 := (hEF e he).1
      rcases hlow _ hm with h | h <;> omega)] at h1
    rw [ren_appE _ _ (fun e he i => by
      obtain ⟨e', he', rfl⟩ := List.mem_map.1 he
      obtain ⟨h3, h4⟩ := List.mem_filter.1 he'
      rw [eff_mapD_id]
      have h5 : e'.id < n := by simpa using h4
      have h6 := nz e' h3
      unfold rhoF
      constructor
      · intro hr
        split at hr
        · exact hr
        · by_cases hi : i < n
          · rw [← hr]; simp [renId, hi]
          · unfold renId at hr
            rw [if_neg hi] at hr
            split at hr
            · omega
            · omega
      · rintro rfl; rw [if_neg (by omega)]; simp [renId, h5])] at h1
    rw [ren_fix (d := x) (fun i hi => by
      unfold rhoF
      rcases hlow i hi with h | h
      · rw [if_neg (by omega)]; simp [renId, h]
      · rw [if_pos h])] at h1
    exact h1
  · obtain ⟨i', h1, h2, h4⟩ := phiRen_at hF hi
    rcases h4 with h4 | h4 | h4
    · have : phiRen n kept F φ1 i = φ1 i := by simp [phiRen, h4]
      rw [this] at hi
      rcases t.dom i hi with h | h
      · exact .inl h
      · omega
    · have : phiRen n kept F φ1 i = φ1 i := by unfold phiRen; rw [if_neg (by omega), if_pos h4]
      rw [this] at hi
      rcases t.dom i hi with h | h
      · exact .inl h
      · omega
    · exact .inr h4
  · obtain ⟨h1, h2⟩ := t.old b hb hu
    refine ⟨h1, fun i b' p hi => ?_⟩
    obtain ⟨i', h3, _⟩ := phiRen_at (n := n) (kept := kept) (φ := φ1) (j := i) hF (by rw [hi]; simp)
    exact h2 i' b' p (by rw [← h3]; exact hi)

mutual
theorem ids_norm {i : Nat} : ∀ {d : D}, i ∈ d.norm.ids → i ∈ d.ids
  | .val v, h => h
  | .ifc, h => h
  | .bad, h => h
  | .agg cs, h => by simp only [D.norm, D.ids] at h ⊢; exact ids_normL h
  | .tup cs, h => by simp only [D.norm, D.ids] at h ⊢; exact ids_normL h
  | .fn f cs, h => by simp only [D.norm, D.ids] at h ⊢; exact ids_normL h
  | .sl id off cap sz es, h => by
    by_cases h0 : id = 0
    · subst h0
      simp only [D.norm, if_true, fz, D.ids, List.mem_cons] at h ⊢
      exact h.imp_right ids_normL
    · simp only [D.norm, h0, if_false, D.ids, List.mem_cons] at h ⊢
      exact h.imp_right ids_normL
  | .pt id off es, h => by
    simp only [D.norm, D.ids, List.mem_cons] at h ⊢
    exact h.imp_right ids_normL
theorem ids_normL {i : Nat} : ∀ {ds : List D}, i ∈ idsL (normL ds) → i ∈ idsL ds
  | [], h => h
  | d :: ds, h => by
    simp only [normL, idsL, List.mem_append] at h ⊢
    exact h.imp ids_norm ids_normL
end
theorem leave_ids {keep : Nat} {n : Nat} {d : D} {E : List Eff} (hn : n ≠ 0) : (∀ i ∈ (leave keep n d E).1.ids, i < (leave keep n d E).2.1) ∧
    ∀ e ∈ (leave keep n d E).2.2, e.id < n ∧ ∀ i ∈ e.pay, i < (leave keep n d E).2.1 := by
  have hren : ∀ (ρ : Nat → Nat) (B : Nat), (∀ i, ρ i < B) → (∀ d : D, ∀ i ∈ (d.ren ρ).ids, i < B) := by
    intro ρ B h
    have key : ∀ m, (∀ d : D, SizeOf.sizeOf d < m → ∀ i ∈ (d.ren ρ).ids, i < B) ∧ (∀ l : List D, SizeOf.sizeOf l < m → ∀ i ∈ idsL (renL ρ l), i < B) := by
      intro m
      induction m with
      | zero => exact ⟨fun d h => by omega, fun l h => by omega⟩
      | succ m ih =>
        refine ⟨fun d hs i hi => ?_, fun l hs i hi => ?_⟩
        · cases d with
          | val v => simp [D.ren, D.ids] at hi
          | ifc => simp [D.ren, D.ids] at hi
          | bad => simp [D.ren, D.ids] at hi
          | agg cs => simp only [D.ren, D.ids] at hi; exact ih.2 cs (by simp at hs; omega) i hi
          | tup cs => simp only [D.ren, D.ids] at hi; exact ih.2 cs (by simp at hs; omega) i hi
          | fn f cs => simp only [D.ren, D.ids] at hi; exact ih.2 cs (by simp at hs; omega) i hi
          | sl id off cap sz es =>
            simp only [D.ren, D.ids, List.mem_cons] at hi
            rcases hi with rfl | hi
            · exact h _
            · exact ih.2 es (by simp at hs; omega) i hi
          | pt id off es =>
            simp only [D.ren, D.ids, List.mem_cons] at hi
            rcases hi with rfl | hi
            · exact h _
            · exact ih.2 es (by simp at hs; omega) i hi
        · cases l with
          | nil => simp [renL, idsL] at hi
          | cons d ds =>
            simp only [List.cons.sizeOf_spec] at hs
            simp only [renL, idsL, List.mem_append] at hi
            rcases hi with hi | hi
            · exact ih.1 d (by omega) i hi
            · exact ih.2 ds (by omega) i hi
    exact fun d => (key (SizeOf.sizeOf d + 1)).1 d (by omega)
  unfold leave
  simp only
  refine ⟨?_, fun e he => ?_⟩
  · intro i hi
    split at hi
    · exact hren _ _ (fun i => renId_le hn) d i (ids_norm hi)
    · exact hren _ _ (fun i => renId_le hn) d i hi
  obtain ⟨e', he', rfl⟩ := List.mem_map.1 he
  obtain ⟨e'', _, h2, h3⟩ := oldE_mem he'
  refine ⟨by rw [eff_mapD_id, h2]; exact h3, fun i hi => ?_⟩
  cases e' with
  | wr j k c => exact hren _ _ (fun i => renId_le hn) c i hi
  | kill j => simp [Eff.mapD, Eff.pay] at hi

/-! ### a call beside names that are in use -/
def up (n' M i : Nat) : Nat := if i < n' then i else i + M
def down (n' M i : Nat) : Nat := if i < n' then i else if i < n' + M then 0 else i - M
theorem down_up (n' M i : Nat) : down n' M (up n' M i) = i := by
  unfold down up
  by_cases h : i < n'
  · simp [h]
  · rw [if_neg h, if_neg (by omega), if_neg (by omega)]; omega

theorem conj {φ : Phi} {w : World} {n n' M : Nat} {E : List Eff} {d : D} {v : Value} {w' : World} (wf : WF φ w) (hn : n ≠ 0) (hle : n ≤ n') (hE : Nz E) (hE2 : ∀ e ∈ E, e.id < n ∧ ∀ i ∈ e.pay, i < n') (hd : ∀ i ∈ d.ids, i < n')
    (h : ∃ φ2', Trans (fun j => if j < n' then φ j else if j < n' + M then .no else φ (j - M)) w φ2' w' n n' E ∧ R φ2' w' d v) : Post φ w n n' E d v w' := by
  obtain ⟨φ2', t, hv⟩ := h
  generalize hφ2 : (fun j => if j < n' then φ j else if j < n' + M then Tr.no else φ (j - M)) = φ2 at t
  have hup : ∀ i, φ2 (up n' M i) = φ i := by
    intro i
    rw [← hφ2]
    unfold up
    by_cases h : i < n'
    · simp [h]
    · simp only
      rw [if_neg h, if_neg (by omega), if_neg (by omega)]; congr 1; omega
  have hinv : ∀ j, φ2 j ≠ .no → up n' M (down n' M j) = j := by
    intro j hj
    rw [← hφ2] at hj
    simp only at hj
    unfold up down
    by_cases h1 : j < n'
    · simp [h1]
    · rw [if_neg h1] at hj ⊢
      by_cases h2 : j < n' + M
      · rw [if_pos h2] at hj; exact absurd rfl hj
      · rw [if_neg h2, if_neg (by omega)]; omega
  have hinv' : ∀ j, φ2' j ≠ .no → up n' M (down n' M j) = j := by
    intro j hj
    rcases t.dom j hj with h | h
    · exact hinv j h
    · unfold up down; simp [h.2]
  have hback : ∀ {d v}, R φ2' w' d v → R (fun i => φ2' (up n' M i)) w' (d.ren (down n' M)) v := by
    intro d v h
    refine h.ren (by unfold down; rw [if_pos (by omega)]) (fun i hi _ => by rw [hinv' i hi]) (fun j b p hj => ⟨up n' M j, hj, down_up n' M j, fun h0 => ?_⟩) t.wf
    subst h0
    have : up n' M 0 = 0 := by unfold up; rw [if_pos (by omega)]
    rw [this, t.wf.zero] at hj
    simp at hj
  have hdfix : ∀ d : D, (∀ i ∈ d.ids, i < n') → d.ren (down n' M) = d := fun d hd => ren_fix (fun i hi => by simp [down, hd i hi])
  refine ⟨fun i => φ2' (up n' M i), ⟨⟨?_, ?_, ?_⟩, fun x u hx => ?_, fun i hi => ?_, t.size, fun b hb hu => ?_, t.os, t.tape, t.output⟩, ?_⟩
  · have : up n' M 0 = 0 := by unfold up; rw [if_pos (by omega)]
    simp only [this, t.wf.zero]
  · intro i j b p q hi hj
    have := t.wf.inj _ _ b p q hi hj
    have h2 := congrArg (down n' M) this
    rwa [down_up, down_up] at h2
  · intro i b p hi; exact t.wf.live _ b p hi
  · have h1 : R φ2 w (x.ren (up n' M)) u := by
      refine hx.ren (by unfold up; rw [if_pos (by omega)]) (fun i _ _ => hup i) (fun j b p hj => ⟨down n' M j, ?_, hinv j (by rw [hj]; simp), fun h0 => ?_⟩) wf
      · rw [← hup, hinv j (by rw [hj]; simp)]; exact hj
      · subst h0
        have : φ2 0 = φ 0 := by have := hup 0; unfold up at this; rwa [if_pos (by omega)] at this
        rw [this, wf.zero] at hj
        simp at hj
    have h2 := hback (t.keep _ _ h1)
    rw [ren_appE _ _ (fun e he i => by
      obtain ⟨h3, _⟩ := hE2 e he
      have h0 := hE e he
      unfold down
      constructor
      · intro h
        split at h
        · exact h
        · split at h
          · omega
          · omega
      · rintro rfl; rw [if_pos (by omega)])] at h2
    have hE3 : E.map (Eff.mapD (D.ren (down n' M))) = E := by
      rw [List.map_congr_left (g := id) (fun e he => ?_), List.map_id]
      obtain ⟨_, h4⟩ := hE2 e he
      cases e with
      | wr i k c => simp only [Eff.mapD, id]; rw [hdfix c h4]
      | kill i => rfl
    rw [hE3, ren_ren, ren_fix (fun i _ => down_up n' M i)] at h2
    exact h2
  · rcases t.dom _ hi with h | h
    · rw [hup] at h; exact .inl h
    · right
      unfold up at h
      split at h
      · exact h
      · omega
  · obtain ⟨h1, h2⟩ := t.old b hb (fun i b' base hi => by
      have := hinv i (by rw [hi]; simp)
      rw [← this, hup] at hi
      exact hu _ b' base hi)
    exact ⟨h1, fun i b' p hi => h2 _ b' p hi⟩
  · have := hback hv
    rwa [hdfix d hd] at this
end Go.Cv

namespace Go.Cv
open Go

theorem wp_loop_n {P : Program} {c : Code} {Q : Exit → Act → World → Prop} (I : Nat → Act → World → Prop)
    (round : ∀ j a w, I j a w → c.wp P (Exit.then (fun a' w' => ∃ i, i < j ∧ I i a' w') Q) a w) {m : Nat} {a : Act} {w : World} (h0 : I m a w) : (Code.loop c).wp P Q a w := by
  classical
  have least : ∀ (a : Act) (w : World) (m : Nat), I m a w → ∃ j, I j a w ∧ ∀ i, i < j → ¬ I i a w := by
    intro a w m
    induction m using Nat.strongRecOn with
    | _ m ih =>
      intro hm
      by_cases h : ∃ i, i < m ∧ I i a w
      · obtain ⟨i, hi, hI⟩ := h; exact ih i hi hI
      · exact ⟨m, hm, fun i hi hI => h ⟨i, hi, hI⟩⟩
  let μ : Act → World → Nat := fun a w => if h : ∃ j, I j a w ∧ ∀ i, i < j → ¬ I i a w then Classical.choose h else 0
  have hμ : ∀ a w, (∃ j, I j a w) → I (μ a w) a w ∧ ∀ i, I i a w → μ a w ≤ i := by
    intro a w ⟨j, hj⟩
    have h := least a w j hj
    have e : μ a w = Classical.choose h := dif_pos h
    rw [e]
    obtain ⟨h1, h2⟩ := Classical.choose_spec h
    exact ⟨h1, fun i hi => Nat.le_of_not_lt fun hlt => h2 i hlt hi⟩
  refine wp_loop (fun a w => ∃ j, I j a w) μ ⟨m, h0⟩ (fun a w hI => ?_)
  refine wp_mono (round _ a w (hμ a w hI).1) (fun e a' w' hq => ?_)
  cases e <;> simp only [Exit.then] at hq ⊢ <;> try exact hq
  obtain ⟨i, hi, hI'⟩ := hq
  exact ⟨⟨i, hI'⟩, Nat.lt_of_le_of_lt ((hμ a' w' ⟨i, hI'⟩).2 i hI') hi⟩

def Ex.to : Ex → Exit
  | .normal => .normal
  | .exit id => .exit id
  | .ret => .ret

def EvalS (A : Cfg) (k : Nat) : Prop := ∀ N c fr n x fr' n' E, evalF A k c fr n = some (x, fr', n', E) → n ≠ 0 → codeOk N c = true → n ≤ n' ∧
  ∀ B φ w a (Q : Exit → Act → World → Prop), n' ≤ B → St A N B φ w fr a n → (∀ φ' w' a', Trans φ w φ' w' n n' E → St A N B φ' w' fr' a' n' → Q x.to a' w') → c.wp A.P Q a w

theorem then_ne {next : Act → World → Prop} {Q : Exit → Act → World → Prop} {x : Ex} (h : x ≠ .normal) {a : Act} {w : World} (hq : Q x.to a w) : Exit.then next Q x.to a w := by
  cases x <;> first | exact hq | exact absurd rfl h

theorem eval_step {A : Cfg} (hA : Good A) (k : Nat) (hE : ∀ j, j ≤ k → EvalS A j) (hC : CallS A (callF A k)) : EvalS A (k + 1) := by
  intro N c fr n x fr' n' E h hn hok
  cases c with
  | skip =>
    simp only [evalF, Option.some.injEq, Prod.mk.injEq] at h
    obtain ⟨rfl, rfl, rfl, rfl⟩ := h
    exact ⟨Nat.le_refl _, fun B φ w a Q hB hs hq => wp_skip (hq φ w a (Trans.refl hs.wf n) hs)⟩
  | label l =>
    simp only [evalF, Option.some.injEq, Prod.mk.injEq] at h
    obtain ⟨rfl, rfl, rfl, rfl⟩ := h
    exact ⟨Nat.le_refl _, fun B φ w a Q hB hs hq => wp_label (hq φ w a (Trans.refl hs.wf n) hs)⟩
  | exit id =>
    simp only [evalF, Option.some.injEq, Prod.mk.injEq] at h
    obtain ⟨rfl, rfl, rfl, rfl⟩ := h
    exact ⟨Nat.le_refl _, fun B φ w a Q hB hs hq => wp_exit (hq φ w a (Trans.refl hs.wf n) hs)⟩
  | ret =>
    simp only [evalF, Option.some.injEq, Prod.mk.injEq] at h
    obtain ⟨rfl, rfl, rfl, rfl⟩ := h
    exact ⟨Nat.le_refl _, fun B φ w a Q hB hs hq => wp_ret (hq φ w a (Trans.refl hs.wf n) hs)⟩
  | goto l => simp [evalF] at h
  | scope b => simp [evalF] at h
  | refuse y => simp [evalF] at h
  | rangeFunc f p a b => simp [evalF] at h
  | region id ops draw =>
    simp only [evalF] at h
    cases hr : regD A (callF A k) ops.toList draw fr n with
    | none => simp [hr] at h
    | some q =>
      obtain ⟨f1, n1, E1⟩ := q
      simp only [hr, Option.map_some, Option.some.injEq, Prod.mk.injEq] at h
      obtain ⟨rfl, rfl, rfl, rfl⟩ := h
      simp only [codeOk, Bool.and_eq_true] at hok
      have hreg := fun B => reg_sound (id := id) (N := N) (B := B) hA hC (fun hd => by have h2 := hok.2; rw [hd] at h2; simpa using h2) (fun o ho t ht => by
        have := List.all_eq_true.1 hok.1 o ho
        rw [ht] at this
        simpa using this) hr hn
      exact ⟨(hreg 0).1, fun B φ w a Q hB hs hq => (hreg B).2 hB hs (fun φ' w' a' t s => hq φ' w' a' t s)⟩
  | seq c1 c2 =>
    simp only [codeOk, Bool.and_eq_true] at hok
    simp only [evalF] at h
    rcases seqR_some h with ⟨f1, n1, E1, e, f2, n2, E2, h1, h2, h3⟩ | ⟨h1, h2⟩
    · cases h3
      obtain ⟨l1, g1⟩ := hE k (Nat.le_refl _) N c1 _ _ _ _ _ _ h1 hn hok.1
      obtain ⟨l2, g2⟩ := hE k (Nat.le_refl _) N c2 _ _ _ _ _ _ h2 (by omega) hok.2
      refine ⟨by omega, fun B φ w a Q hB hs hq => wp_seq (g1 B φ w a _ (by omega) hs fun φ1 w1 a1 t1 s1 => ?_)⟩
      exact g2 B φ1 w1 a1 Q hB s1 fun φ2 w2 a2 t2 s2 => hq φ2 w2 a2 (t1.trans t2 l1 l2) s2
    · obtain ⟨l1, g1⟩ := hE k (Nat.le_refl _) N c1 _ _ _ _ _ _ h1 hn hok.1
      refine ⟨l1, fun B φ w a Q hB hs hq => wp_seq (g1 B φ w a _ hB hs fun φ1 w1 a1 t1 s1 => then_ne h2 (hq φ1 w1 a1 t1 s1))⟩
  | cond cd c1 c2 =>
    simp only [codeOk, Bool.and_eq_true] at hok
    simp only [evalF] at h
    split at h
    · rename_i t ht
      have hev : ∀ {B φ w a}, St A N B φ w fr a n → a.eval cd = .bool t := by
        intro B φ w a hs
        have := evD_sound (A := A) (fr := fr) (ρ := a.eval) (x := cd) hs.g (fun s _ => hs.tm s) (fun _ => rfl) (fun _ => rfl) (fun _ => rfl)
        rw [ht] at this
        generalize a.eval cd = v at this
        cases this
        rfl
      cases t with
      | true =>
        obtain ⟨l1, g1⟩ := hE k (Nat.le_refl _) N c1 _ _ _ _ _ _ h hn hok.1
        exact ⟨l1, fun B φ w a Q hB hs hq => wp_cond_true (hev hs) (g1 B φ w a Q hB hs hq)⟩
      | false =>
        obtain ⟨l1, g1⟩ := hE k (Nat.le_refl _) N c2 _ _ _ _ _ _ h hn hok.2
        exact ⟨l1, fun B φ w a Q hB hs hq => wp_cond_false (hev hs) (g1 B φ w a Q hB hs hq)⟩
    · simp at h
  | block id c1 =>
    simp only [codeOk] at hok
    simp only [evalF] at h
    cases hr : evalF A k c1 fr n with
    | none => simp [hr, blockR] at h
    | some q =>
      obtain ⟨e, f1, n1, E1⟩ := q
      obtain ⟨l1, g1⟩ := hE k (Nat.le_refl _) N c1 _ _ _ _ _ _ hr hn hok
      rw [hr] at h
      cases e with
      | normal =>
        simp only [blockR, Option.some.injEq, Prod.mk.injEq] at h
        obtain ⟨rfl, rfl, rfl, rfl⟩ := h
        exact ⟨l1, fun B φ w a Q hB hs hq => wp_block (g1 B φ w a _ hB hs hq)⟩
      | ret =>
        simp only [blockR, Option.some.injEq, Prod.mk.injEq] at h
        obtain ⟨rfl, rfl, rfl, rfl⟩ := h
        exact ⟨l1, fun B φ w a Q hB hs hq => wp_block (g1 B φ w a _ hB hs hq)⟩
      | exit i =>
        simp only [blockR] at h
        split at h
        · rename_i hi
          simp only [Option.some.injEq, Prod.mk.injEq] at h
          obtain ⟨rfl, rfl, rfl, rfl⟩ := h
          refine ⟨l1, fun B φ w a Q hB hs hq => wp_block (g1 B φ w a _ hB hs fun φ1 w1 a1 t1 s1 => ?_)⟩
          simp only [Ex.to, Exit.inBlock, hi, if_true]
          exact hq φ1 w1 a1 t1 s1
        · rename_i hi
          simp only [Option.some.injEq, Prod.mk.injEq] at h
          obtain ⟨rfl, rfl, rfl, rfl⟩ := h
          refine ⟨l1, fun B φ w a Q hB hs hq => wp_block (g1 B φ w a _ hB hs fun φ1 w1 a1 t1 s1 => ?_)⟩
          simp only [Ex.to, Exit.inBlock, hi, if_false]
          exact hq φ1 w1 a1 t1 s1
  | loop c1 =>
    simp only [codeOk] at hok
    -- the counter does not fall
    have hle : ∀ j, j ≤ k + 1 → ∀ fr1 n1 E1, n1 ≠ 0 → evalF A j (.loop c1) fr1 n1 = some (x, fr', n', E1) → n1 ≤ n' := by
      intro j
      induction j with
      | zero => intro _ fr1 n1 E1 _ h; simp [evalF] at h
      | succ j ih =>
        intro hj fr1 n1 E1 hn1 h
        simp only [evalF] at h
        rcases seqR_some h with ⟨f1, n2, E2, e, f2, n3, E3, h1, h2, h3⟩ | ⟨h1, h2⟩
        · cases h3
          have l1 := (hE j (by omega) N c1 _ _ _ _ _ _ h1 hn1 hok).1
          have := ih (by omega) _ _ _ (by omega) h2
          omega
        · exact (hE j (by omega) N c1 _ _ _ _ _ _ h1 hn1 hok).1
    refine ⟨hle (k + 1) (Nat.le_refl _) _ _ _ hn h, fun B φ w a Q hB hs hq => ?_⟩
    refine wp_loop_n (fun j a1 w1 => ∃ fr1 n1 φ1 E1 E2, j ≤ k + 1 ∧ evalF A j (.loop c1) fr1 n1 = some (x, fr', n', E2) ∧ n ≤ n1 ∧ Trans φ w φ1 w1 n n1 E1 ∧ St A N B φ1 w1 fr1 a1 n1 ∧ E1 ++ E2 = E) ?_
      (m := k + 1) ⟨fr, n, φ, [], E, Nat.le_refl _, h, Nat.le_refl _, Trans.refl hs.wf n, hs, rfl⟩
    rintro j a1 w1 ⟨fr1, n1, φ1, E1, E2, hj, hev, hn1, t1, s1, rfl⟩
    cases j with
    | zero => simp [evalF] at hev
    | succ j =>
      have hlen1 := hle (j + 1) hj _ _ _ (by omega) hev
      simp only [evalF] at hev
      rcases seqR_some hev with ⟨f1, n2, Ea, e, f2, n3, Eb, h1, h2, h3⟩ | ⟨h1, h2⟩
      · cases h3
        obtain ⟨l1, g1⟩ := hE j (by omega) N c1 _ _ _ _ _ _ h1 (by omega) hok
        have hlen2 := hle j (by omega) _ _ _ (by omega) h2
        refine g1 B φ1 w1 a1 _ (by omega) s1 fun φ2 w2 a2 t2 s2 => ?_
        exact ⟨j, Nat.lt_succ_self j, f1, n2, φ2, E1 ++ Ea, Eb, by omega, h2, by omega, t1.trans t2 hn1 l1, s2, by simp⟩
      · obtain ⟨l1, g1⟩ := hE j (by omega) N c1 _ _ _ _ _ _ h1 (by omega) hok
        refine g1 B φ1 w1 a1 _ hB s1 fun φ2 w2 a2 t2 s2 => then_ne h2 ?_
        exact hq φ2 w2 a2 (t1.trans t2 hn1 l1) s2

/-! ### results -/
def resOf (tmps : Array Value) : ResultVar → Sem Value
  | .tmp t => pure (tmps.getD t undef)
  | .cell a t => do loadVar t (← asAddr (tmps.getD a undef))

theorem results_of (fn : Func) (tmps : Array Value) : results fn tmps = (do
    let vs ← fn.results.mapM (resOf tmps)
    pure (if h : vs.size = 1 then vs[0] else .tuple vs)) := by
  unfold results
  congr 1

theorem res_sound {A : Cfg} {φ : Phi} {w : World} {fr : Fr} {tmps : Array Value} (ht : ∀ t, R φ w (fr t) (tmps.getD t undef)) :
    ∀ (rs : List ResultVar) (ds : List D), resL A.P fr rs = some ds → ∃ vs, (rs.mapM (resOf tmps)).run A.P w = Result.ok vs w ∧ RL φ w ds vs
  | [], ds, h => by simp [resL] at h; subst h; exact ⟨[], rfl, RL.nil⟩
  | r :: rs, ds, h => by
    simp only [resL] at h
    split at h
    · rename_i d ds' hd hds
      cases h
      obtain ⟨vs, hv, hr⟩ := res_sound ht rs ds' hds
      rw [List.mapM_cons]
      cases r with
      | tmp t =>
        simp only [resV, Option.some.injEq] at hd
        subst hd
        refine ⟨tmps.getD t undef :: vs, ?_, RL.cons (ht t) hr⟩
        simp only [resOf, Sem.run_bind, Sem.run_pure, Result.andThen_ok, hv]
      | cell a t =>
        simp only [resV] at hd
        obtain ⟨x, hx, hxr⟩ := load_sound hd (ht a)
        have hx2 : (resOf tmps (.cell a t)).run A.P w = .ok x w := by
          have hp := ht a
          simp only [resOf]
          generalize tmps.getD a undef = v at hx hp ⊢
          generalize fr a = dd at hd hp
          cases hp <;> simp [dLoad] at hd
          simp only [Instr.loadAt, Instr.sureAddr] at hx
          simpa [asAddr] using hx
        refine ⟨x :: vs, ?_, RL.cons hxr hr⟩
        simp only [Sem.run_bind, hx2, Result.andThen_ok, hv, Sem.run_pure]
    · simp at h

theorem results_sound {A : Cfg} {φ : Phi} {w : World} {fr : Fr} {tmps : Array Value} {fn : Func} {d : D} (ht : ∀ t, R φ w (fr t) (tmps.getD t undef))
    (h : resD A.P fr fn.results.toList = some d) : ∃ v, (results fn tmps).run A.P w = .ok v w ∧ R φ w d v := by
  unfold resD at h
  cases hl : resL A.P fr fn.results.toList with
  | none => simp [hl] at h
  | some ds =>
    rw [hl] at h
    obtain ⟨vs, hv, hr⟩ := res_sound ht _ _ hl
    have hrun : (results fn tmps).run A.P w = .ok (if h : vs.toArray.size = 1 then vs.toArray[0] else .tuple vs.toArray) w := by
      rw [results_of, Array.mapM_eq_mapM_toList]
      simp only [Sem.run_bind, Sem.run_map, hv, Result.andThen_ok, Sem.run_pure, bind_map_left]
    rw [hrun]
    match ds, vs, hr, h with
    | [], [], hr, h => cases h; exact ⟨_, rfl, .tup _ (by simp) (by simp)⟩
    | [d1], [v1], hr, h => cases h; exact ⟨_, rfl, hr.2 0 _ _ rfl rfl⟩
    | d1 :: d2 :: ds, v1 :: v2 :: vs, hr, h =>
      cases h
      refine ⟨_, rfl, ?_⟩
      rw [dif_neg (by simp)]
      exact .tup _ (by have := hr.1; simpa using this) (fun j d v h1 h2 => hr.2 j d v h1 (by simpa using h2))
    | [], _ :: _, hr, _ => exact absurd hr.1 (by simp)
    | [_], [], hr, _ => exact absurd hr.1 (by simp)
    | [_], _ :: _ :: _, hr, _ => exact absurd hr.1 (by simp)
    | _ :: _ :: _, [], hr, _ => exact absurd hr.1 (by simp)
    | _ :: _ :: _, [_], hr, _ => exact absurd hr.1 (by simp)
end Go.Cv

namespace Go.Cv
open Go

def ExtNz (A : Cfg) : Prop := ∀ f h, A.ext f = some h → ∀ ds n d n' E, h ds n = some (d, n', E) → Nz E

theorem bounded : ∀ l : List Nat, ∃ B, ∀ i ∈ l, i < B
  | [] => ⟨0, by simp⟩
  | x :: l => by
    obtain ⟨B, h⟩ := bounded l
    refine ⟨max B (x + 1), fun i hi => ?_⟩
    rcases List.mem_cons.1 hi with rfl | hi
    · omega
    · have := h i hi; omega

theorem in_idsL {i : Nat} {d : D} (hi : i ∈ d.ids) : ∀ {ds : List D}, d ∈ ds → i ∈ idsL ds
  | y :: ys, h => by
    simp only [idsL, List.mem_append]
    rcases List.mem_cons.1 h with rfl | h
    · exact .inl hi
    · exact .inr (in_idsL hi h)

theorem fnOk_name {fn : Func} {c : Code} (h : fnOk fn c = true) : (fn.name == "runtime.NumGoroutine") = false := by
  unfold fnOk at h
  simp only [Bool.and_eq_true, bne, Bool.not_eq_true'] at h
  exact h.1

theorem callFunc_run {P : Program} {f : FuncId} {fn : Func} {c : Code} {args : Array Value} {w : World} (hf : P.funcs[f]? = some fn) (hb : fn.body = some c) (hn : (fn.name == "runtime.NumGoroutine") = false) :
    (callFunc f args).run P w = .ok (.enter f args) w := by
  have hn' : ¬ fn.name = "runtime.NumGoroutine" := by simpa using hn
  unfold callFunc
  simp [hf, hn', hb]

theorem start_tm {φ : Phi} {w : World} {ds : List D} {vs : List Value} (h : RL φ w ds vs) (m : Nat) : ∀ t, R φ w (argsFr ds t) ((vs.toArray ++ Array.replicate m undef).getD t undef) := by
  intro t
  unfold argsFr
  cases hd : ds[t]? with
  | none => exact .bad _
  | some d =>
    obtain ⟨v, hv, hr⟩ := h.get hd
    have hlt := (List.getElem?_eq_some_iff.1 hv).1
    have : (vs.toArray ++ Array.replicate m undef).getD t undef = v := by
      rw [Array.getD_eq_getD_getElem?, Array.getElem?_append_left (by simpa using hlt)]
      simp [hv]
    rw [this]; exact hr

theorem call_step {A : Cfg} (hA : Good A) (hx : ExtNz A) (k : Nat) (hE : EvalS A k) : CallS A (callF A (k + 1)) := by
  intro f ds n d n' E h hn
  simp only [callF] at h
  split at h
  · rename_i g hg; exact hA.ext f g hg ds n d n' E h hn
  · split at h
    · rename_i fn hfn
      split at h
      · rename_i c hc
        split at h
        · rename_i hok2
          obtain ⟨hok, hlow⟩ := hok2
          cases hr : evalF A k c (argsFr ds) n with
          | none => simp [hr, endR] at h
          | some q =>
            obtain ⟨x, f1, m, E0⟩ := q
            have hok' := hok
            unfold fnOk at hok'
            simp only [Bool.and_eq_true] at hok'
            obtain ⟨hle, hev⟩ := hE fn.ntmps c _ _ _ _ _ _ hr hn hok'.2
            have hnz := (nz_both hx k).1 _ _ _ _ _ _ _ hr
            have hend : ∃ d0, resD A.P f1 fn.results.toList = some d0 ∧ leave (A.keep f) n d0 E0 = (d, n', E) ∧ (x = .normal ∨ x = .ret) := by
              rw [hr] at h
              cases x with
              | normal => simp only [endR] at h; obtain ⟨d0, h1, h2⟩ := Option.map_eq_some_iff.1 h; exact ⟨d0, h1, h2, .inl rfl⟩
              | exit i => simp [endR] at h
              | ret => simp only [endR] at h; obtain ⟨d0, h1, h2⟩ := Option.map_eq_some_iff.1 h; exact ⟨d0, h1, h2, .inr rfl⟩
            obtain ⟨d0, hres, hlv, hx'⟩ := hend
            have hids := leave_ids (keep := A.keep f) (d := d0) (E := E0) hn
            have hlnz := leave_nz (keep := A.keep f) (n := n) (d := d0) hnz
            have hn' : n ≤ (leave (A.keep f) n d0 E0).2.1 := by unfold leave; simp
            rw [hlv] at hids hlnz hn'
            simp only at hids hlnz hn'
            refine ⟨hn', fun φ w vs wf hg hf hr' => ?_⟩
            unfold Does
            rw [callFunc_run hfn hc (fnOk_name hok)]
            simp only [DoesR]
            obtain ⟨B1, hB1⟩ := bounded (d0.ids ++ E0.flatMap Eff.pay ++ E0.map Eff.id)
            -- the names that are in use and not ours move out of the way
            let M := m + B1
            let φ2 : Phi := fun j => if j < n' then φ j else if j < n' + M then .no else φ (j - M)
            have hφ2 : φ2 = fun j => if j < n' then φ j else if j < n' + M then .no else φ (j - M) := rfl
            have hup : ∀ i, φ2 (Cv.up n' M i) = φ i := by
              intro i
              simp only [hφ2]
              unfold Cv.up
              by_cases h : i < n'
              · simp [h]
              · rw [if_neg h, if_neg (by omega), if_neg (by omega)]; congr 1; omega
            have hinv : ∀ j, φ2 j ≠ .no → Cv.up n' M (down n' M j) = j := by
              intro j hj
              rw [hφ2] at hj
              simp only at hj
              unfold Cv.up down
              by_cases h1 : j < n'
              · simp [h1]
              · rw [if_neg h1] at hj ⊢
                by_cases h2 : j < n' + M
                · rw [if_pos h2] at hj; exact absurd rfl hj
                · rw [if_neg h2, if_neg (by omega)]; omega
            have hto : ∀ {x u}, R φ w x u → R φ2 w (x.ren (Cv.up n' M)) u := by
              intro x u hx
              refine hx.ren (by unfold Cv.up; rw [if_pos (by omega)]) (fun i _ _ => hup i) (fun j b p hj => ⟨down n' M j, ?_, hinv j (by rw [hj]; simp), fun h0 => ?_⟩) wf
              · rw [← hup, hinv j (by rw [hj]; simp)]; exact hj
              · subst h0
                have : φ2 0 = φ 0 := by have := hup 0; unfold Cv.up at this; rwa [if_pos (by omega)] at this
                rw [this, wf.zero] at hj
                simp at hj
            have wf2 : WF φ2 w := by
              refine ⟨?_, fun i j b p q hi hj => ?_, fun i b p hi => ?_⟩
              · have := hup 0; unfold Cv.up at this; rw [if_pos (by omega)] at this; rw [this, wf.zero]
              · have h1 := hinv i (by rw [hi]; simp)
                have h2 := hinv j (by rw [hj]; simp)
                rw [← h1, hup] at hi
                rw [← h2, hup] at hj
                have := wf.inj _ _ b p q hi hj
                rw [← h1, ← h2, this]
              · have h1 := hinv i (by rw [hi]; simp)
                rw [← h1, hup] at hi
                exact wf.live _ b p hi
            have hargs : RL φ2 w ds vs := by
              refine ⟨hr'.1, fun j dd v h1 h2 => ?_⟩
              have h3 := hto (hr'.2 j dd v h1 h2)
              rw [ren_fix (fun i hi => ?_)] at h3
              · exact h3
              · have hm : i ∈ idsL ds := by
                  have hmem := List.mem_of_getElem? h1
                  exact in_idsL hi hmem
                unfold lowL at hlow
                have := List.all_eq_true.1 hlow i hm
                simp at this
                unfold Cv.up; rw [if_pos (by omega)]
            have hg2 : GOk A φ2 w := fun g cs hcs => ⟨(hg g cs hcs).1, (hg g cs hcs).2.closed (by simp [D.has, hA.g g cs hcs]) (fun b hb hu => ⟨rfl, fun i b' p hi => by
              have h1 := hinv i (by rw [hi]; simp)
              rw [← h1, hup] at hi
              exact hu _ b' p hi⟩) (Nat.le_refl _)⟩
            have hst : St A fn.ntmps (n' + M) φ2 w (argsFr ds) { tmps := vs.toArray ++ Array.replicate (fn.ntmps - vs.toArray.size) undef, defers := [] } n := by
              refine ⟨wf2, hg2, fun i h1 h2 => ?_, start_tm hargs _, rfl, by simp; omega⟩
              rw [hφ2]
              simp only
              by_cases h3 : i < n'
              · rw [if_pos h3]; exact hf i h1 h3
              · rw [if_neg h3, if_pos h2]
            refine calls_of_wp hfn hc (hev (n' + M) φ2 w _ _ (by omega) hst fun φ3 w3 a3 t3 s3 => ?_)
            obtain ⟨v, hv, hvr⟩ := results_sound s3.tm hres
            have hl := leave_sound (keep := A.keep f) (F := n' + M) t3 hst.fresh hn hnz (by omega) (by rw [hlv]; simp only; omega)
              (fun i hi => by have := hB1 i (by simp [hi]); omega)
              (fun e he => ⟨by have := hB1 e.id (by simp; exact .inr (.inr ⟨e, he, rfl⟩)); omega, fun i hi => by have := hB1 i (by simp; exact .inr (.inl ⟨e, he, hi⟩)); omega⟩) hvr
            rw [hlv] at hl
            simp only at hl
            have hpost : Post φ w n n' E d v w3 := conj wf hn hn' hlnz hids.2 hids.1 hl
            rcases hx' with rfl | rfl
            · exact ⟨s3.df, v, hv, hpost⟩
            · exact ⟨s3.df, v, hv, hpost⟩
        · simp at h
      · simp at h
    · simp at h

theorem both_sound {A : Cfg} (hA : Good A) (hx : ExtNz A) : ∀ k, (∀ j, j ≤ k → EvalS A j) ∧ CallS A (callF A k) := by
  intro k
  induction k with
  | zero =>
    refine ⟨fun j hj => ?_, fun f ds n d n' E h => by simp [callF] at h⟩
    obtain rfl : j = 0 := by omega
    intro N c fr n x fr' n' E h
    simp [evalF] at h
  | succ k ih =>
    refine ⟨fun j hj => ?_, call_step hA hx k (ih.1 k (Nat.le_refl _))⟩
    by_cases h : j = k + 1
    · subst h; exact eval_step hA k ih.1 ih.2
    · exact ih.1 j (by omega)

/-- **what the machine of readings gives, the program does** -/
theorem call_sound {A : Cfg} (hA : Good A) (hx : ExtNz A) : CallS A A.call := by
  intro f ds n d n' E h
  obtain ⟨k, hk⟩ := call_some.1 h
  exact (both_sound hA hx k).2 f ds n d n' E hk
end Go.Cv

namespace Go.Cv
open Go Go.RowKit


/-- **a law that the machine of readings answers with true** -/
theorem law_calls {A : Cfg} (hA : Good A) (hx : ExtNz A) {f : FuncId} {fn : Func} {c : Code} (hf : A.P.funcs[f]? = some fn) (hb : fn.body = some c) (hn : (fn.name == "runtime.NumGoroutine") = false)
    {ds : List D} {vs : List Value} {n' : Nat} {E : List Eff} (h : A.call f ds 1 = some (.val (.bool true), n', E)) {W : World} (hg : GOk A noPhi W) (hr : RL noPhi W ds vs) :
    Calls A.P f vs.toArray W (fun e W' => e = .returned (.bool true) ∧ Below W.heap.size W W') := by
  obtain ⟨_, h2⟩ := call_sound hA hx f ds 1 _ _ _ h (by simp)
  have h3 := h2 noPhi W vs (wf_no W) hg (fun _ _ _ => rfl) hr
  unfold Does at h3
  rw [callFunc_run hf hb hn] at h3
  simp only [DoesR] at h3
  refine h3.mono fun e W' he => ?_
  cases e with
  | returned v =>
    obtain ⟨φ', t, hv⟩ := he
    cases hv
    exact ⟨rfl, t.os, t.tape, t.output, t.size, fun k hk => (t.old k hk (untracked_no k)).1⟩
  | panicked c => exact he.elim
  | outgrown => exact he.elim
end Go.Cv

namespace Go.Cv
open Go

/-! ### names below n -/
def D.Low (n : Nat) (d : D) : Prop := ∀ i ∈ d.ids, i < n
def Loc (n : Nat) (E : List Eff) : Prop := ∀ e ∈ E, n ≤ e.id

theorem Loc.nil (n : Nat) : Loc n [] := fun e h => by cases h
theorem Loc.append {n : Nat} {E F : List Eff} (h : Loc n E) (k : Loc n F) : Loc n (E ++ F) := fun e he => by
  rcases List.mem_append.1 he with he | he
  · exact h e he
  · exact k e he
theorem Loc.cons {n : Nat} {e : Eff} {F : List Eff} (h : n ≤ e.id) (k : Loc n F) : Loc n (e :: F) := fun x hx => by
  rcases List.mem_cons.1 hx with rfl | hx
  · exact h
  · exact k x hx
theorem Loc.wrs {n i : Nat} (h : n ≤ i) (k : Nat) (cs : List D) : Loc n (wrs i k cs) := fun e he => by rw [wrs_id i cs k e he]; exact h
theorem oldE_loc {n : Nat} {E : List Eff} (h : Loc n E) : oldE n E = [] := by
  unfold oldE
  have : E.filter (fun e => e.id < n) = [] := by
    rw [List.filter_eq_nil_iff]
    intro e he
    have := h e he
    simp; omega
  rw [this]; rfl

mutual
theorem app_fix {e : Eff} : ∀ {d : D}, e.id ∉ d.ids → e.app d = d
  | .val v, _ => app_val e v
  | .ifc, _ => app_ifc e
  | .bad, _ => app_bad e
  | .agg cs, h => by rw [app_agg, app_fixL (by simpa [D.ids] using h)]
  | .tup cs, h => by rw [app_tup, app_fixL (by simpa [D.ids] using h)]
  | .fn f cs, h => by rw [app_fn, app_fixL (by simpa [D.ids] using h)]
  | .sl id off cap sz es, h => by
    simp only [D.ids, List.mem_cons, not_or] at h
    rw [app_sl (Ne.symm h.1), app_fixL h.2]
  | .pt id off es, h => by
    simp only [D.ids, List.mem_cons, not_or] at h
    rw [app_pt (Ne.symm h.1), app_fixL h.2]
theorem app_fixL {e : Eff} : ∀ {ds : List D}, e.id ∉ idsL ds → ds.map e.app = ds
  | [], _ => rfl
  | d :: ds, h => by
    simp only [idsL, List.mem_append, not_or] at h
    simp only [List.map_cons]
    rw [app_fix h.1, app_fixL h.2]
end

theorem Low.app {n : Nat} {d : D} {e : Eff} (h : d.Low n) (he : n ≤ e.id) : e.app d = d := app_fix (fun hm => by have := h _ hm; omega)
theorem Low.appE {n : Nat} {d : D} (h : d.Low n) : ∀ {E : List Eff}, Loc n E → appE E d = d
  | [], _ => rfl
  | e :: E, hE => by
    rw [appE_cons, Low.app h (hE e (by simp))]
    exact Low.appE h (fun x hx => hE x (by simp [hx]))
theorem Low.mono {n m : Nat} {d : D} (h : d.Low n) (hm : n ≤ m) : d.Low m := fun i hi => Nat.lt_of_lt_of_le (h i hi) hm

/-! ### what a call leaves, where all effects are its own -/
theorem leave_loc {n : Nat} {d : D} {E : List Eff} (h : Loc n E) : leave 0 n d E = ((d.ren (renId n [])).norm, n, []) := by
  unfold leave
  simp [oldE_loc h, keptIds]
theorem leave_low {keep : Nat} {n : Nat} {d : D} {E : List Eff} (h : Loc n E) (hd : d.Low n) (hnorm : d.norm = d) : leave keep n d E = (d, n, []) := by
  have hk : keptIds keep n d [] = [] := by
    unfold keptIds
    split
    · have : (d.ids ++ ([] : List Eff).flatMap Eff.pay).filter (n ≤ ·) = [] := by
        rw [List.filter_eq_nil_iff]
        intro i hi
        have := hd i (by simpa using hi)
        simp; omega
      rw [this]; rfl
    · rfl
  unfold leave
  simp only [oldE_loc h, hk, List.length_nil, Nat.add_zero, List.map_nil]
  rw [ren_fix (fun i hi => by simp [renId, hd i hi]), hnorm]
  simp

@[simp] theorem low_val (n : Nat) (v : Value) : (D.val v).Low n := fun i h => by simp [D.ids] at h

/-! ### running code -/
def Runs (r : CRes) (Q : Ex → Fr → Nat → List Eff → Prop) : Prop := ∃ x fr n E, r = some (x, fr, n, E) ∧ Q x fr n E

theorem Runs.some {x : Ex} {fr : Fr} {n : Nat} {E : List Eff} {Q : Ex → Fr → Nat → List Eff → Prop} : Runs (some (x, fr, n, E)) Q ↔ Q x fr n E := by
  constructor
  · rintro ⟨_, _, _, _, h, hq⟩; cases h; exact hq
  · intro h; exact ⟨_, _, _, _, rfl, h⟩

theorem Runs.mono {r : CRes} {Q Q' : Ex → Fr → Nat → List Eff → Prop} (h : Runs r Q) (hq : ∀ x fr n E, Q x fr n E → Q' x fr n E) : Runs r Q' := by
  obtain ⟨x, fr, n, E, hr, h⟩ := h
  exact ⟨x, fr, n, E, hr, hq _ _ _ _ h⟩

def thenQ (k : Fr → Nat → CRes) (Q : Ex → Fr → Nat → List Eff → Prop) : Ex → Fr → Nat → List Eff → Prop
  | .normal, fr, n, E => Runs (k fr n) (fun x fr' n' E' => Q x fr' n' (E ++ E'))
  | x, fr, n, E => Q x fr n E

theorem Runs.seq {r : CRes} {k : Fr → Nat → CRes} {Q : Ex → Fr → Nat → List Eff → Prop} (h : Runs r (thenQ k Q)) : Runs (seqR r k) Q := by
  obtain ⟨x, fr, n, E, rfl, h⟩ := h
  cases x with
  | normal =>
    obtain ⟨x', fr', n', E', hk, hq⟩ := h
    exact ⟨x', fr', n', E ++ E', by simp [seqR, hk], hq⟩
  | exit id => exact ⟨_, _, _, _, rfl, h⟩
  | ret => exact ⟨_, _, _, _, rfl, h⟩

def blockQ (id : Nat) (Q : Ex → Fr → Nat → List Eff → Prop) : Ex → Fr → Nat → List Eff → Prop
  | .exit i, fr, n, E => if i = id then Q .normal fr n E else Q (.exit i) fr n E
  | x, fr, n, E => Q x fr n E

theorem Runs.block {id : Nat} {r : CRes} {Q : Ex → Fr → Nat → List Eff → Prop} (h : Runs r (blockQ id Q)) : Runs (blockR id r) Q := by
  obtain ⟨x, fr, n, E, rfl, h⟩ := h
  cases x with
  | normal => exact ⟨_, _, _, _, rfl, h⟩
  | ret => exact ⟨_, _, _, _, rfl, h⟩
  | exit i =>
    simp only [blockQ] at h
    by_cases hi : i = id
    · rw [if_pos hi] at h; exact ⟨_, _, _, _, by simp [blockR, hi], h⟩
    · rw [if_neg hi] at h; exact ⟨_, _, _, _, by simp [blockR, hi], h⟩

section
variable {A : Cfg}
theorem Runs.cseq {a b : Code} {fr : Fr} {n : Nat} {Q : Ex → Fr → Nat → List Eff → Prop} (h : Runs (A.code a fr n) (thenQ (fun fr n => A.code b fr n) Q)) : Runs (A.code (.seq a b) fr n) Q := by
  rw [code_seq]; exact h.seq
theorem Runs.cblock {id : Nat} {c : Code} {fr : Fr} {n : Nat} {Q : Ex → Fr → Nat → List Eff → Prop} (h : Runs (A.code c fr n) (blockQ id Q)) : Runs (A.code (.block id c) fr n) Q := by
  rw [code_block]; exact h.block

/-- a loop: k rounds at most are left -/
theorem Runs.loop {c : Code} (I : Nat → Fr → Nat → List Eff → Prop) {Q : Ex → Fr → Nat → List Eff → Prop}
    (step : ∀ k fr n E, I k fr n E → Runs (A.code c fr n) (fun x fr' n' E' => match x with | .normal => ∃ j, j < k ∧ I j fr' n' (E ++ E') | x => Q x fr' n' (E ++ E')))
    {k : Nat} {fr : Fr} {n : Nat} (h : I k fr n []) : Runs (A.code (.loop c) fr n) Q := by
  have key : ∀ k fr n E, I k fr n E → Runs (A.code (.loop c) fr n) (fun x fr' n' E' => Q x fr' n' (E ++ E')) := by
    intro k
    induction k using Nat.strongRecOn with
    | _ k ih =>
      intro fr n E hI
      rw [code_loop]
      refine Runs.seq (Runs.mono (step k fr n E hI) (fun x fr' n' E' hq => ?_))
      cases x with
      | normal =>
        obtain ⟨j, hj, hI'⟩ := hq
        exact Runs.mono (ih j hj fr' n' _ hI') (fun x fr2 n2 E2 hq => by rw [List.append_assoc] at hq; exact hq)
      | exit i => exact hq
      | ret => exact hq
  simpa using key k fr n [] h

/-- a call -/
theorem call_runs {f : FuncId} {fn : Func} {c : Code} {ds : List D} {n : Nat} {r : D × Nat × List Eff} (he : A.ext f = none) (hf : A.P.funcs[f]? = some fn) (hb : fn.body = some c) (hok : fnOk fn c = true)
    (hlow : ∀ d ∈ ds, d.Low n)
    (h : Runs (A.code c (argsFr ds) n) (fun x fr _ E => (x = .normal ∨ x = .ret) ∧ ∃ d, resD A.P fr fn.results.toList = some d ∧ leave (A.keep f) n d E = r)) : A.call f ds n = some r := by
  have hl : lowL n ds = true := by
    unfold lowL
    rw [List.all_eq_true]
    intro i hi
    obtain ⟨d, hd, hi⟩ := mem_idsL hi
    simpa using hlow d hd i hi
  rw [call_eq he hf hb hok hl]
  obtain ⟨x, fr, n', E, hr, hx, d, hd, hlv⟩ := h
  rw [hr]
  rcases hx with rfl | rfl <;> simp [endR, hd, hlv]
end
end Go.Cv

namespace Go.Cv
open Go

/-! ### laws for running by simp -/
@[simp] theorem appF_nil (fr : Fr) : appF [] fr = fr := rfl
@[simp] theorem upd_none (fr : Fr) (d : D) : upd fr none d = fr := rfl
@[simp] theorem upd_some (fr : Fr) (t : Nat) (d : D) (i : Nat) : upd fr (some t) d i = if i = t then d else fr i := rfl
@[simp] theorem appF_at (E : List Eff) (fr : Fr) (i : Nat) : appF E fr i = appE E (fr i) := rfl
@[simp] theorem argsFr_cons (d : D) (ds : List D) (i : Nat) : argsFr (d :: ds) i = if i = 0 then d else argsFr ds (i - 1) := by
  cases i <;> simp [argsFr]
@[simp] theorem appE_val (E : List Eff) (v : Value) : appE E (.val v) = .val v := by
  induction E with
  | nil => rfl
  | cons e E ih => rw [appE_cons, app_val, ih]
abbrev ci (x : Int) : D := .val (.int .i64 x)
abbrev bi (b : Bool) : D := .val (.bool b)
@[simp] theorem Loc_nil (n : Nat) : Loc n [] ↔ True := ⟨fun _ => trivial, fun _ => Loc.nil n⟩
@[simp] theorem Loc_append (n : Nat) (E F : List Eff) : Loc n (E ++ F) ↔ Loc n E ∧ Loc n F :=
  ⟨fun h => ⟨fun e he => h e (by simp [he]), fun e he => h e (by simp [he])⟩, fun h => h.1.append h.2⟩
@[simp] theorem Loc_cons (n : Nat) (e : Eff) (F : List Eff) : Loc n (e :: F) ↔ n ≤ e.id ∧ Loc n F :=
  ⟨fun h => ⟨h e (by simp), fun x hx => h x (by simp [hx])⟩, fun h => Loc.cons h.1 h.2⟩
@[simp] theorem id_wr (i k : Nat) (c : D) : (Eff.wr i k c).id = i := rfl
@[simp] theorem id_kill (i : Nat) : (Eff.kill i).id = i := rfl
@[simp] theorem wrap_sm {x : Int} (h1 : -9223372036854775808 ≤ x) (h2 : x ≤ 9223372036854775807) : IntKind.wrap .i64 x = x := by
  simp only [IntKind.wrap, IntKind.bits, IntKind.signed, Bool.true_and, decide_eq_true_eq, ge_iff_le]
  simp only [show (2 ^ 64 : Int) = 18446744073709551616 by decide, show (2 ^ (64 - 1) : Int) = 9223372036854775808 by decide]
  split <;> omega
@[simp] theorem cells_val (v : Value) : (D.val v).cells = [.val v] := rfl
@[simp] theorem cells_agg (cs : List D) : (D.agg cs).cells = cs := rfl
@[simp] theorem cells_sl (id off : Nat) (cap : Option Nat) (sz : Nat) (es : List D) : (D.sl id off cap sz es).cells = [.sl id off cap sz es] := rfl
@[simp] theorem cells_pt (id off : Nat) (es : List D) : (D.pt id off es).cells = [.pt id off es] := rfl
@[simp] theorem good_val (v : Value) : (D.val v).good = v.oneCell' := rfl
@[simp] theorem good_agg (cs : List D) : (D.agg cs).good = true := rfl
@[simp] theorem good_sl (id off : Nat) (cap : Option Nat) (sz : Nat) (es : List D) : (D.sl id off cap sz es).good = true := rfl
@[simp] theorem good_pt (id off : Nat) (es : List D) : (D.pt id off es).good = true := rfl
@[simp] theorem good_fn (f : Fn) (es : List D) : (D.fn f es).good = true := rfl
theorem norm1_pt (id off : Nat) (cs : List D) : (D.pt id off cs).norm1 = .pt id (if id = 0 then 0 else off) cs := by unfold D.norm1; rfl
theorem ine (a b : Int) : (a != b) = !decide (a = b) := by by_cases h : a = b <;> simp [h]
theorem ieq (a b : Int) : (a == b) = decide (a = b) := by by_cases h : a = b <;> simp [h]
theorem not_t {b : Bool} (h : (!b) = true) : b = false := by cases b <;> simp at h ⊢
theorem not_f {b : Bool} (h : (!b) = false) : b = true := by cases b <;> simp at h ⊢

/-! ### closed values: what effects, renamings and forms leave alone -/
structure D.Fix (d : D) : Prop where
  ids : ∀ i ∈ d.ids, i = 0
  norm : d.norm = d
theorem fix_val (v : Value) : (D.val v).Fix := ⟨fun i h => by simp [D.ids] at h, rfl⟩
theorem D.Fix.app {d : D} (h : d.Fix) {e : Eff} (he : e.id ≠ 0) : e.app d = d := app_fix (fun hm => he (h.ids _ hm))
theorem D.Fix.wr {d : D} (h : d.Fix) {i k : Nat} {c : D} (hi : i ≠ 0) : D.wr i k c d = d := h.app (e := .wr i k c) hi
theorem D.Fix.kill {d : D} (h : d.Fix) {i : Nat} (hi : i ≠ 0) : d.kill i = d := h.app (e := .kill i) hi
theorem D.Fix.low {d : D} (h : d.Fix) {n : Nat} (hn : n ≠ 0) : d.Low n := fun i hi => by have := h.ids i hi; omega
theorem D.Fix.ren {d : D} (h : d.Fix) {ρ : Nat → Nat} (hn : ρ 0 = 0) : d.ren ρ = d := ren_fix (fun i hi => by rw [h.ids i hi, hn])
theorem D.Fix.frz {d : D} (h : d.Fix) : frz d = d := by unfold Cv.frz; rw [h.ren rfl, h.norm]
theorem fix_fz {sz : Nat} {es : List D} (h : ∀ d ∈ es, d.Fix) : (fz sz es).Fix := by
  refine ⟨fun i hi => ?_, ?_⟩
  · simp only [fz, D.ids, List.mem_cons] at hi
    rcases hi with rfl | hi
    · rfl
    · obtain ⟨d, hd, hi⟩ := mem_idsL hi
      exact (h d hd).ids i hi
  · have h2 : es.map D.norm = es := by rw [List.map_congr_left (g := id) (fun d hd => (h d hd).norm), List.map_id]
    simp only [fz, D.norm, normL_map, h2, if_true]
    cases es <;> simp
theorem fix_agg {cs : List D} (h : ∀ d ∈ cs, d.Fix) : (D.agg cs).Fix := by
  refine ⟨fun i hi => ?_, ?_⟩
  · simp only [D.ids] at hi
    obtain ⟨d, hd, hi⟩ := mem_idsL hi
    exact (h d hd).ids i hi
  · simp only [D.norm, normL_map]
    rw [List.map_congr_left (g := id) (fun d hd => (h d hd).norm), List.map_id]
theorem has_of_ids {d : D} {n : Nat} (hn : n ∉ d.ids) : d.has (· == n) = false := by
  have key : ∀ m, (∀ d : D, SizeOf.sizeOf d < m → n ∉ d.ids → d.has (· == n) = false) ∧ (∀ l : List D, SizeOf.sizeOf l < m → n ∉ idsL l → hasL (· == n) l = false) := by
    intro m
    induction m with
    | zero => exact ⟨fun d h => by omega, fun l h => by omega⟩
    | succ m ih =>
      refine ⟨fun d hs hd => ?_, fun l hs hd => ?_⟩
      · cases d with
        | val v => rfl
        | ifc => rfl
        | bad => rfl
        | agg cs => exact ih.2 cs (by simp at hs; omega) (by simpa [D.ids] using hd)
        | tup cs => exact ih.2 cs (by simp at hs; omega) (by simpa [D.ids] using hd)
        | fn f cs => exact ih.2 cs (by simp at hs; omega) (by simpa [D.ids] using hd)
        | sl id off cap sz es =>
          simp only [D.ids, List.mem_cons, not_or] at hd
          simp only [D.has, ih.2 es (by simp at hs; omega) hd.2, Bool.or_false]
          simp [Ne.symm hd.1]
        | pt id off es =>
          simp only [D.ids, List.mem_cons, not_or] at hd
          simp only [D.has, ih.2 es (by simp at hs; omega) hd.2, Bool.or_false]
          simp [Ne.symm hd.1]
      · cases l with
        | nil => rfl
        | cons d ds =>
          simp only [List.cons.sizeOf_spec] at hs
          simp only [idsL, List.mem_append, not_or] at hd
          simp only [hasL, ih.1 d (by omega) hd.1, ih.2 ds (by omega) hd.2, Bool.or_false]
  exact (key (SizeOf.sizeOf d + 1)).1 d (by omega) hn
theorem D.Fix.has {d : D} (h : d.Fix) {n : Nat} (hn : n ≠ 0) : d.has (· == n) = false := has_of_ids (fun hm => hn (h.ids _ hm))

/-! ### what stands for a pure value -/
class Enc (α : Type) extends Inhabited α where
  enc : α → D
  sz : Nat
  sz0 : sz ≠ 0
  len : ∀ a, (enc a).cells.length = sz
  good : ∀ a, (enc a).good = true
  fix : ∀ a, (enc a).Fix
  lv : ∀ a, ∀ c ∈ (enc a).cells, c.leaf = true ∧ c.good = true
  /-- how much it holds -/
  siz : α → Nat
open Enc (enc siz)

section
variable {α : Type} [Enc α]
def lst (xs : List α) : List D := xs.map enc
/-- a frozen slice -/
def cl (xs : List α) : D := fz (Enc.sz α) (lst xs)
/-- a slice of one's own -/
def ow (id : Nat) (cap : Option Nat) (xs : List α) : D := .sl id 0 cap (Enc.sz α) (lst xs)
@[simp] theorem lst_nil : lst ([] : List α) = [] := rfl
@[simp] theorem lst_cons (x : α) (xs : List α) : lst (x :: xs) = enc x :: lst xs := rfl
theorem lst_append (xs ys : List α) : lst (xs ++ ys) = lst xs ++ lst ys := by simp [lst]
@[simp] theorem lst_fold (xs ys : List α) : lst xs ++ lst ys = lst (xs ++ ys) := (lst_append xs ys).symm
@[simp] theorem lst_length (xs : List α) : (lst xs).length = xs.length := by simp [lst]
theorem lst_mem {xs : List α} {d : D} (h : d ∈ lst xs) : ∃ x ∈ xs, enc x = d := by simpa [lst] using h
theorem lst_fix (xs : List α) : ∀ d ∈ lst xs, d.Fix := fun d h => by
  obtain ⟨x, _, rfl⟩ := lst_mem h
  exact Enc.fix x
theorem lst_map {f : D → D} (hf : ∀ d : D, d.Fix → f d = d) (xs : List α) : (lst xs).map f = lst xs := by
  rw [List.map_congr_left (g := id) (fun d hd => hf d (lst_fix xs d hd)), List.map_id]
@[simp] theorem lst_kill {i : Nat} (hi : i ≠ 0) (xs : List α) : (lst xs).map (D.kill i) = lst xs := lst_map (fun _ h => h.kill hi) xs
@[simp] theorem lst_wr {i k : Nat} {c : D} (hi : i ≠ 0) (xs : List α) : (lst xs).map (D.wr i k c) = lst xs := lst_map (fun _ h => h.wr hi) xs
theorem fix_cl (xs : List α) : (cl xs).Fix := fix_fz (lst_fix xs)
theorem flat_lst_len (xs : List α) : (flat (lst xs)).length = xs.length * Enc.sz α := by
  rw [flat_length (sz := Enc.sz α) (fun e he => by obtain ⟨x, _, rfl⟩ := lst_mem he; exact Enc.len x), lst_length]
theorem flat_lst_lv (xs : List α) : ((flat (lst xs)).all fun c => c.leaf && c.good) = true := by
  rw [List.all_eq_true]
  intro c hc
  obtain ⟨e, he, hc⟩ := List.mem_flatMap.1 hc
  obtain ⟨x, _, rfl⟩ := lst_mem he
  have := Enc.lv x c hc
  simp [this.1, this.2]
@[simp] theorem cl_cells (xs : List α) : (cl xs).cells = [cl xs] := rfl
@[simp] theorem cl_leaf (xs : List α) : (cl xs).leaf = true := rfl
@[simp] theorem cl_good (xs : List α) : (cl xs).good = true := rfl
@[simp] theorem cl_norm (xs : List α) : (cl xs).norm = cl xs := (fix_cl xs).norm
@[simp] theorem cl_frz (xs : List α) : frz (cl xs) = cl xs := (fix_cl xs).frz
@[simp] theorem cl_wr (xs : List α) {i k : Nat} {c : D} (hi : i ≠ 0) : D.wr i k c (cl xs) = cl xs := (fix_cl xs).wr hi
@[simp] theorem cl_kill (xs : List α) {i : Nat} (hi : i ≠ 0) : (cl xs).kill i = cl xs := (fix_cl xs).kill hi
@[simp] theorem cl_has (xs : List α) {i : Nat} (hi : i ≠ 0) : (cl xs).has (· == i) = false := (fix_cl xs).has hi
theorem cl_appE {E : List Eff} (hE : ∀ e ∈ E, e.id ≠ 0) (xs : List α) : appE E (cl xs) = cl xs := by
  induction E with
  | nil => rfl
  | cons e E ih => rw [appE_cons, (fix_cl xs).app (hE e (by simp))]; exact ih (fun x hx => hE x (by simp [hx]))

/-- the element -/
def ix (xs : List α) (i : Nat) : α := (xs[i]?).getD default
theorem ix_get {xs : List α} {i : Nat} (h : i < xs.length) : xs[i]? = some (ix xs i) := by simp [ix, List.getElem?_eq_getElem h]
theorem lst_get {xs : List α} {i : Nat} (h : i < xs.length) : (lst xs)[i]? = some (enc (ix xs i)) := by simp [lst, ix_get h]
theorem drop_ix {xs : List α} {i : Nat} (h : i < xs.length) : xs.drop i = ix xs i :: xs.drop (i + 1) := by
  rw [List.drop_eq_getElem_cons h]; simp [ix, List.getElem?_eq_getElem h]
theorem take_ix {xs : List α} {i : Nat} (h : i < xs.length) : xs.take (i + 1) = xs.take i ++ [ix xs i] := by
  rw [List.take_add_one, ix_get h]; rfl
theorem ix_mem {xs : List α} {i : Nat} (h : i < xs.length) : ix xs i ∈ xs := List.mem_of_getElem? (ix_get h)
@[simp] theorem ix_zero (x : α) (xs : List α) : ix (x :: xs) 0 = x := rfl
@[simp] theorem ix_succ (x : α) (xs : List α) (i : Nat) : ix (x :: xs) (i + 1) = ix xs i := by simp [ix]

/-! ### sizes -/
def sizL : List α → Nat
  | [] => 0
  | x :: xs => siz x + 1 + sizL xs
theorem len_siz (xs : List α) : xs.length ≤ sizL xs := by
  induction xs with
  | nil => simp
  | cons x xs ih => simp only [sizL, List.length_cons]; omega
theorem siz_mem {xs : List α} {x : α} (h : x ∈ xs) : siz x + 1 ≤ sizL xs := by
  induction xs with
  | nil => cases h
  | cons y ys ih =>
    simp only [sizL]
    rcases List.mem_cons.1 h with rfl | h
    · omega
    · have := ih h; omega
theorem siz_ix {xs : List α} {i : Nat} (h : i < xs.length) : siz (ix xs i) + 1 ≤ sizL xs := siz_mem (ix_mem h)
@[simp] theorem sizL_nil : sizL ([] : List α) = 0 := rfl
@[simp] theorem sizL_cons (x : α) (xs : List α) : sizL (x :: xs) = siz x + 1 + sizL xs := rfl
@[simp] theorem sizL_append (xs ys : List α) : sizL (xs ++ ys) = sizL xs + sizL ys := by
  induction xs with
  | nil => simp
  | cons x xs ih => simp only [List.cons_append, sizL, ih]; omega
theorem sizL_take (xs : List α) (i : Nat) : sizL (xs.take i) ≤ sizL xs := by
  have h := sizL_append (xs.take i) (xs.drop i)
  rw [List.take_append_drop] at h; omega
theorem sizL_drop (xs : List α) (i : Nat) : sizL (xs.drop i) ≤ sizL xs := by
  have h := sizL_append (xs.take i) (xs.drop i)
  rw [List.take_append_drop] at h; omega

variable {P : Program}
@[simp] theorem len_cl {t : Nat} {xs : List α} : dLen P t (cl xs) = if (tyElem P t).isSome = true then some (ci xs.length) else none := by simp [dLen, cl, fz]
theorem len_ow {t id : Nat} {cap : Option Nat} {xs : List α} (ht : (tyElem P t).isSome = true) : dLen P t (ow id cap xs) = some (ci xs.length) := by simp [dLen, ow, ht]
@[simp] theorem index_cl {t n : Nat} {k : IntKind} {xs : List α} {i : Int} :
    (dIndexAddr P t (cl xs) (.val (.int k i))).map (fun d => (d.norm1, n, ([] : List Eff))) = if (0 ≤ i ∧ i < (xs.length : Int)) ∧ (tyElem P t).bind (tySz P) = some (Enc.sz α) then some (.pt 0 0 (enc (ix xs i.toNat)).cells, n, []) else none := by
  by_cases h : 0 ≤ i ∧ i < (xs.length : Int)
  · obtain ⟨h0, h1⟩ := h
    have hne : (lst xs).isEmpty = false := by cases xs <;> simp at h1 ⊢; omega
    have he := lst_get (xs := xs) (i := i.toNat) (by omega)
    simp only [dIndexAddr, cl, fz, hne, h0, h1, he, and_self, true_and, Bool.false_eq_true, if_false, ne_eq, Enc.sz0, not_false_eq_true, and_true, Option.bind_some]
    split <;> simp [D.norm1]
  · rw [if_neg (fun hh => h hh.1)]
    simp only [dIndexAddr, cl, fz]
    by_cases h0 : 0 ≤ i
    · have : (lst xs)[i.toNat]? = none := List.getElem?_eq_none (by simp; omega)
      simp [this]
    · simp [h0]
@[simp] theorem index_sl {t n id off sz : Nat} {cap : Option Nat} {k : IntKind} {xs : List α} {i : Int} (hid : id ≠ 0) (hs : sz ≠ 0) :
    (dIndexAddr P t (.sl id off cap sz (lst xs)) (.val (.int k i))).map (fun d => (d.norm1, n, ([] : List Eff))) = if (0 ≤ i ∧ i < (xs.length : Int)) ∧ (tyElem P t).bind (tySz P) = some sz then some (.pt id (off + i.toNat * sz) (enc (ix xs i.toNat)).cells, n, []) else none := by
  by_cases h : 0 ≤ i ∧ i < (xs.length : Int)
  · obtain ⟨h0, h1⟩ := h
    have he := lst_get (xs := xs) (i := i.toNat) (by omega)
    simp only [dIndexAddr, hs, h0, h1, he, and_self, true_and, ne_eq, not_false_eq_true, and_true, Option.bind_some]
    split <;> simp [D.norm1, hid]
  · rw [if_neg (fun hh => h hh.1)]
    simp only [dIndexAddr]
    by_cases h0 : 0 ≤ i
    · have : (lst xs)[i.toNat]? = none := List.getElem?_eq_none (by simp; omega)
      simp [this]
    · simp [h0]
theorem lst_take (xs : List α) (i : Nat) : (lst xs).take i = lst (xs.take i) := by simp [lst, List.map_take]
theorem lst_drop (xs : List α) (i : Nat) : (lst xs).drop i = lst (xs.drop i) := by simp [lst, List.map_drop]
theorem slice_cl {t n : Nat} {xs : List α} {lo hi : Option D} {a b : Nat} (hlo : dIdx lo 0 = some a) (hhi : dIdx hi xs.length = some b) (hab : a ≤ b) (hb : b ≤ xs.length)
    (ht : (tyElem P t).bind (tySz P) = some (Enc.sz α)) :
    (dSlice P t (cl xs) lo hi none).map (fun d => (d.norm2, n, ([] : List Eff))) = some (cl ((xs.take b).drop a), n, []) := by
  cases xs with
  | nil =>
    simp at hb
    subst hb
    have ha : a = 0 := by omega
    subst ha
    simp at hhi
    simp [dSlice, cl, fz, ht, hlo, hhi, D.norm2]
  | cons x xs =>
    have hlen : (enc x :: lst xs).length = (x :: xs).length := by simp
    simp only [dSlice, cl, fz, lst_cons, List.isEmpty_cons, ht, true_or, if_true, hlo, hlen, hhi, hab, hb, and_self, Option.map_some, Bool.false_eq_true, if_false, D.norm2, reduceCtorEq, Option.map_none]
    have e : List.drop a (List.take b (enc x :: lst xs)) = lst (List.drop a (List.take b (x :: xs))) := by
      rw [← lst_drop, ← lst_take]; rfl
    rw [e]
end
end Go.Cv

namespace Go.Cv
open Go Enc

/-! ### a region, one operation after the other; guards split -/
def RunsO (A : Cfg) (call : Call') (ops rest : List Oper) (fr : Fr) (n : Nat) (E : List Eff) (R : Fr → Nat → List Eff → Prop) : Prop :=
  ∃ fr' n' E', opsD A call ops rest fr n = some (fr', n', E') ∧ R fr' n' (E ++ E')
def RunsS (A : Cfg) (call : Call') (ops : List Oper) (r : Option (D × Nat × List Eff)) (dst : Option Tmp) (rest : List Oper) (fr : Fr) (E : List Eff) (R : Fr → Nat → List Eff → Prop) : Prop :=
  ∃ d n1 E1, r = some (d, n1, E1) ∧ RunsO A call ops rest (upd (appF E1 fr) dst d) n1 (E ++ E1) R
def RunsW (A : Cfg) (call : Call') (ops : List Oper) (b : Option Bool) (o : Oper) (rest : List Oper) (fr : Fr) (n : Nat) (E : List Eff) (R : Fr → Nat → List Eff → Prop) : Prop :=
  match b with
  | some true => RunsS A call ops (opD A call fr n o.op) o.dst rest fr E R
  | some false => RunsO A call ops rest (upd fr o.dst (.val undef)) n E R
  | none => False
section
variable {A : Cfg} {call : Call'} {ops rest : List Oper} {o : Oper} {fr : Fr} {n : Nat} {E : List Eff} {R : Fr → Nat → List Eff → Prop}
@[simp] theorem RunsO_nil : RunsO A call ops [] fr n E R ↔ R fr n E := by
  constructor
  · rintro ⟨_, _, _, h, k⟩; simp only [opsD] at h; cases h; simpa using k
  · intro h; exact ⟨_, _, _, rfl, by simpa using h⟩
@[simp] theorem RunsS_some {d : D} {n1 : Nat} {E1 : List Eff} {dst : Option Tmp} : RunsS A call ops (some (d, n1, E1)) dst rest fr E R ↔ RunsO A call ops rest (upd (appF E1 fr) dst d) n1 (E ++ E1) R := by
  constructor
  · rintro ⟨_, _, _, h, k⟩; cases h; exact k
  · intro h; exact ⟨_, _, _, rfl, h⟩
@[simp] theorem RunsW_true : RunsW A call ops (some true) o rest fr n E R ↔ RunsS A call ops (opD A call fr n o.op) o.dst rest fr E R := Iff.rfl
@[simp] theorem RunsW_false : RunsW A call ops (some false) o rest fr n E R ↔ RunsO A call ops rest (upd fr o.dst (.val undef)) n E R := Iff.rfl
@[simp] theorem RunsO_cons : RunsO A call ops (o :: rest) fr n E R ↔ RunsW A call ops (dWanted ops fr o) o rest fr n E R := by
  unfold RunsO
  simp only [opsD]
  cases hw : dWanted ops fr o with
  | none => simp [RunsW]
  | some b =>
    cases b with
    | false => simp [RunsW, RunsO]
    | true =>
      simp only [RunsW, RunsS, RunsO]
      cases ho : opD A call fr n o.op with
      | none => simp
      | some q =>
        obtain ⟨d, n1, E1⟩ := q
        simp only
        cases hq : opsD A call ops rest (upd (appF E1 fr) o.dst d) n1 with
        | none =>
          constructor
          · rintro ⟨_, _, _, h, _⟩; simp at h
          · rintro ⟨_, _, _, h, _, _, _, h2, _⟩
            simp only [Option.some.injEq, Prod.mk.injEq] at h
            obtain ⟨rfl, rfl, rfl⟩ := h
            rw [hq] at h2; simp at h2
        | some z =>
          obtain ⟨f2, n2, E2⟩ := z
          constructor
          · rintro ⟨_, _, _, h, hR⟩
            simp only [Option.map_some, Option.some.injEq, Prod.mk.injEq] at h
            obtain ⟨rfl, rfl, rfl⟩ := h
            exact ⟨_, _, _, rfl, _, _, _, hq, by rw [List.append_assoc]; exact hR⟩
          · rintro ⟨_, _, _, h, _, _, _, h2, hR⟩
            simp only [Option.some.injEq, Prod.mk.injEq] at h
            obtain ⟨rfl, rfl, rfl⟩ := h
            rw [hq] at h2
            cases h2
            exact ⟨_, _, _, rfl, by rw [List.append_assoc] at hR; exact hR⟩
theorem RunsW.split {b : Bool} (h1 : b = true → RunsW A call ops (some true) o rest fr n E R) (h2 : b = false → RunsW A call ops (some false) o rest fr n E R) : RunsW A call ops (some b) o rest fr n E R := by
  cases b
  · exact h2 rfl
  · exact h1 rfl
theorem RunsW.splitN {b : Bool} (h1 : b = true → RunsW A call ops (some false) o rest fr n E R) (h2 : b = false → RunsW A call ops (some true) o rest fr n E R) : RunsW A call ops (some (!b)) o rest fr n E R := by
  cases b
  · exact h2 rfl
  · exact h1 rfl
end

/-! ### effects that every other operation is ordered with -/
def mayE : Op → Bool
  | .store _ _ _ => true
  | .call c => match c.callee with
    | .builtin .len => false
    | .builtin .min => false
    | .builtin .max => false
    | .builtin .cap => false
    | _ => true
  | _ => false
def statSafe (ops : List Oper) : Bool :=
  let bs := befs ops []
  (List.range ops.length).all fun j => match ops[j]? with
    | some oj => !mayE oj.op || (List.range ops.length).all fun i => i == j || comparable bs i j || (match ops[i]? with | some oi => isMove oi.op && oi.guard.isNone | none => false)
    | none => false

theorem opD_noE {A : Cfg} {call : Call'} {fr : Fr} {n n' : Nat} {op : Op} {d : D} {E : List Eff} (h : opD A call fr n op = some (d, n', E)) (hm : mayE op = false) : E = [] := by
  unfold opD at h
  split at h
  case h_7 =>
    unfold dBuildSlice at h
    split at h
    · split at h
      · cases h; rfl
      · simp at h
    · simp at h
  case h_9 => simp [mayE] at hm
  case h_16 =>
    unfold dMake at h
    split at h
    · split at h
      · split at h
        · cases h; rfl
        · simp at h
      · simp at h
    · simp at h
  case h_23 c =>
    unfold mayE at hm
    split at h
    · rename_i b hb
      simp only [hb] at hm
      cases b <;> simp at hm
      · unfold builtinD at h
        split at h <;> try (simp at h; done)
        all_goals first
          | (rename_i hh; cases hh; done)
          | skip
        all_goals first
          | (obtain ⟨_, _, rfl⟩ := pure_case h; rfl)
          | (split at h
             · cases h; rfl
             · simp at h)
          | simp_all
      all_goals
        unfold builtinD at h
        split at h <;> try (simp at h; done)
        all_goals first
          | (obtain ⟨_, _, rfl⟩ := pure_case h; rfl)
          | (split at h
             · cases h; rfl
             · simp at h)
          | simp_all
    · rename_i f hf; simp [hf] at hm
    · simp at h
  case h_1 => cases h; rfl
  case h_2 => cases h; rfl
  case h_3 => split at h <;> first | (cases h; rfl) | simp at h
  case h_4 t => cases hz : tyZero A.P t <;> simp [hz] at h; exact h.2.2
  case h_5 => split at h <;> first | (cases h; rfl) | simp at h
  case h_10 => split at h <;> first | (cases h; rfl) | simp at h
  case h_14 => split at h <;> first | (cases h; rfl) | simp at h
  case h_15 => split at h <;> first | (cases h; rfl) | simp at h
  case h_22 => split at h <;> first | (obtain ⟨_, _, rfl⟩ := pure_case h; rfl) | simp at h
  case h_24 => simp at h
  case h_17 => obtain ⟨_, _, _, _, rfl⟩ := pure_case1 h; rfl
  case h_18 => obtain ⟨_, _, _, _, rfl⟩ := pure_case1 h; rfl
  case h_20 => obtain ⟨_, _, _, _, rfl⟩ := pure_case1 h; rfl
  all_goals (obtain ⟨_, _, rfl⟩ := pure_case h; rfl)

theorem dyn_stat {A : Cfg} {call : Call'} (hnz : CallNz call) {ops : List Oper} {fr : Fr} {n : Nat} {r : Fr × Nat × List Eff} (hs : statSafe ops = true) (h : opsD A call ops ops fr n = some r) : dyn A call ops fr n = true := by
  obtain ⟨fr', n', E⟩ := r
  obtain ⟨rs, frs, ns, h1, h2, h3, h4, h5, h6, h7, h8⟩ := opsD_opsR ops h
  have hnz' := opsD_nz hnz ops h
  unfold dyn
  rw [h1]
  simp only [dynR, Bool.and_eq_true]
  constructor
  · rw [List.all_eq_true]
    intro i hi
    unfold effIds at hi
    obtain ⟨r, hr, hi⟩ := List.mem_flatMap.1 hi
    obtain ⟨e, he, rfl⟩ := List.mem_map.1 hi
    have : e ∈ E := by rw [← h7]; exact List.mem_flatMap.2 ⟨r, hr, he⟩
    simpa using hnz' e this
  · rw [List.all_eq_true]
    intro j hj
    have hj' : j < rs.length := by simpa using hj
    obtain ⟨rj, hrj⟩ : ∃ rj, rs[j]? = some rj := ⟨_, List.getElem?_eq_getElem hj'⟩
    obtain ⟨oj, hoj⟩ : ∃ oj, ops[j]? = some oj := ⟨_, List.getElem?_eq_getElem (by omega)⟩
    rw [hrj]
    simp only [Bool.or_eq_true]
    by_cases hm : mayE oj.op = true
    · right
      unfold statSafe at hs
      have hs1 := List.all_eq_true.1 hs j (by simp; omega)
      rw [hoj] at hs1
      simp only [hm, Bool.not_true, Bool.false_or] at hs1
      rw [List.all_eq_true]
      intro i hi
      have hi' : i < rs.length := by simpa using hi
      have hs2 := List.all_eq_true.1 hs1 i (by simp; omega)
      obtain ⟨ri, hri⟩ : ∃ ri, rs[i]? = some ri := ⟨_, List.getElem?_eq_getElem hi'⟩
      obtain ⟨oi, hoi⟩ : ∃ oi, ops[i]? = some oi := ⟨_, List.getElem?_eq_getElem (by omega)⟩
      rw [hoi] at hs2
      simp only [hoi, hri]
      simp only [Bool.or_eq_true] at hs2 ⊢
      rcases hs2 with (hs2 | hs2) | hs2
      · exact .inl (.inl hs2)
      · exact .inl (.inr hs2)
      · right
        simp only [Bool.and_eq_true] at hs2
        have hg : oi.guard = none := by simpa using hs2.2
        have hc := (h8 i oi ri hoi hri).can
        have hw : ri.sk = false := by
          have := hc.want
          simp only [dWanted, hg] at this
          cases hsk : ri.sk with
          | false => rfl
          | true => rw [hsk] at this; simp at this
        have hE : ri.E = [] := opD_noE (hc.op hw) (by cases hop : oi.op <;> simp [hop, isMove] at hs2 <;> rfl)
        simp [besideOk, hE, hw, hg, hs2.1]
    · left
      have hc := (h8 j oj rj hoj hrj).can
      have hE : rj.E = [] := by
        cases hsk : rj.sk with
        | true => exact (hc.skip hsk).2.1
        | false => exact opD_noE (hc.op hsk) (by simpa using hm)
      simp [hE]

section
variable {A : Cfg} {Q : Ex → Fr → Nat → List Eff → Prop} {fr : Fr} {n : Nat}
theorem Runs.regO {id : Nat} {ops : Array Oper} {draw : Bool} (hs : draw = false ∨ statSafe ops.toList = true) (hnz : CallNz A.call)
    (h : ∀ R : Fr → Nat → List Eff → Prop, (∀ fr n E, True → Q .normal fr n E → R fr n E) → RunsO A A.call ops.toList ops.toList fr n [] R) : Runs (A.code (.region id ops draw) fr n) Q := by
  obtain ⟨fr', n', E, h1, h2⟩ := h (fun fr n E => Q .normal fr n E) (fun _ _ _ _ h => h)
  rw [code_region]
  have : regD A A.call ops.toList draw fr n = Option.some (fr', n', E) := by
    rw [regD_some]
    refine ⟨h1, fun hd _ => ?_⟩
    rcases hs with hs | hs
    · rw [hs] at hd; simp at hd
    · exact dyn_stat hnz hs h1
  rw [this]
  exact ⟨_, _, _, _, rfl, h2⟩
theorem Runs.regE {id : Nat} {ops : Array Oper} {draw : Bool}
    (h : ∀ R : Fr → Nat → List Eff → Prop, (∀ fr n E, E = [] → Q .normal fr n E → R fr n E) → RunsO A A.call ops.toList ops.toList fr n [] R) : Runs (A.code (.region id ops draw) fr n) Q := by
  obtain ⟨fr', n', E, h1, h2, h3⟩ := h (fun fr n E => E = [] ∧ Q .normal fr n E) (fun _ _ _ h h' => ⟨h, h'⟩)
  rw [code_region]
  simp only [List.nil_append] at h2
  subst h2
  have : regD A A.call ops.toList draw fr n = Option.some (fr', n', []) := by
    rw [regD_some]
    exact ⟨h1, fun _ h => absurd rfl h⟩
  rw [this]
  exact ⟨_, _, _, _, rfl, h3⟩
theorem Runs.condI {c : Operand} {x y : Code} (h : ∀ d, evD A fr c = d → ∃ b, d = .val (.bool b) ∧ (b = true → Runs (A.code x fr n) Q) ∧ (b = false → Runs (A.code y fr n) Q)) :
    Runs (A.code (.cond c x y) fr n) Q := by
  obtain ⟨b, hd, ht, hf⟩ := h _ rfl
  rw [code_cond, hd]
  cases b
  · exact hf rfl
  · exact ht rfl
theorem cond_b {b : Bool} {P Q : Prop} (h1 : b = true → P) (h2 : b = false → Q) : ∃ b', D.val (.bool b) = .val (.bool b') ∧ (b' = true → P) ∧ (b' = false → Q) := ⟨b, rfl, h1, h2⟩
theorem Runs.skip (h : Q .normal fr n []) : Runs (A.code .skip fr n) Q := by rw [code_skip]; exact Runs.some.2 h
theorem Runs.exit {id : Nat} (h : Q (.exit id) fr n []) : Runs (A.code (.exit id) fr n) Q := by rw [code_exit]; exact Runs.some.2 h
theorem Runs.ret (h : Q .ret fr n []) : Runs (A.code .ret fr n) Q := by rw [code_ret]; exact Runs.some.2 h
theorem Runs.label {l : Nat} (h : Q .normal fr n []) : Runs (A.code (.label l) fr n) Q := by rw [code_label]; exact Runs.some.2 h
end
end Go.Cv
