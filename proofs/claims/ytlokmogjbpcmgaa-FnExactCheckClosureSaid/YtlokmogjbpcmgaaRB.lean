/- Readings of memory, and a machine over them that is sound (part B). No condition. -/
import Derived.Test.YtlokmogjbpcmgaaRA
import Derived.Laws.Tables
import Derived.Calls
set_option linter.unusedVariables false
set_option linter.unusedSimpArgs false
namespace Go.Cv
open Go

section
variable {P : Program} {φ : Phi} {w : World}

/-! ### literals -/
def putAt (cs : List D) (off : Nat) (xs : List D) : List D := cs.take off ++ xs ++ cs.drop (off + xs.length)

theorem fold_put (v : List Value) : ∀ (k off : Nat) (cells : Array Value), off + k + v.length ≤ cells.size →
    ((v.zipIdx k).foldl (fun cs x => cs.setIfInBounds (off + x.2) x.1) cells).toList = cells.toList.take (off + k) ++ v ++ cells.toList.drop (off + k + v.length) := by
  induction v with
  | nil => intro k off cells _; simp
  | cons c v ih =>
    intro k off cells h
    simp only [List.length_cons] at h
    simp only [List.zipIdx_cons, List.foldl_cons]
    rw [ih (k + 1) off _ (by simp; omega)]
    simp only [Array.toList_setIfInBounds]
    have h1 : off + k < cells.toList.length := by simp; omega
    have e1 : (cells.toList.set (off + k) c).take (off + (k + 1)) = cells.toList.take (off + k) ++ [c] := by
      rw [show off + (k + 1) = off + k + 1 by omega, List.take_succ_eq_append_getElem (by simpa using h1)]
      rw [List.take_set_of_le (Nat.le_refl _)]
      simp
    have e2 : (cells.toList.set (off + k) c).drop (off + (k + 1) + v.length) = cells.toList.drop (off + k + (v.length + 1)) := by
      rw [List.drop_set_of_lt (by omega)]
      congr 1; omega
    rw [e1, e2]
    simp

theorem RL.putAt {cs xs : List D} {vs us : List Value} (h : RL φ w cs vs) (k : RL φ w xs us) (off : Nat) : RL φ w (putAt cs off xs) (vs.take off ++ us ++ vs.drop (off + us.length)) := by
  unfold Cv.putAt
  rw [k.1]
  exact ((h.take off).append k).append (h.drop _)

def dFill (pl : Nat → Option (Nat × Nat)) : List D → List (Nat × D) → Option (List D)
  | cs, [] => some cs
  | cs, (i, x) :: rest =>
    match pl i with
    | some (off, sz) => if x.good = true ∧ x.cells.length = sz ∧ off + sz ≤ cs.length then dFill pl (putAt cs off x.cells) rest else none
    | none => none

theorem fill_sound {pl : Nat → Option (Nat × Nat)} : ∀ (parts : List (Nat × D)) (pv : List (Nat × Value)) (cs r : List D) (cells : Array Value),
    dFill pl cs parts = some r → RL φ w cs cells.toList → parts.length = pv.length → (∀ (j : Nat) (a : Nat × D) (b : Nat × Value), parts[j]? = some a → pv[j]? = some b → a.1 = b.1 ∧ R φ w a.2 b.2) →
    ∃ out, Instr.fill pl cells pv = some out ∧ RL φ w r out.toList
  | [], [], cs, r, cells, h, hr, _, _ => by simp [dFill] at h; subst h; exact ⟨cells, rfl, hr⟩
  | [], _ :: _, _, _, _, _, _, hl, _ => by simp at hl
  | _ :: _, [], _, _, _, _, _, hl, _ => by simp at hl
  | (i, x) :: parts, (i', v) :: pv, cs, r, cells, h, hr, hl, hp => by
    obtain ⟨hi, hx⟩ := hp 0 (i, x) (i', v) rfl rfl
    simp only at hi hx
    subst hi
    simp only [dFill] at h
    split at h
    · rename_i off sz hpl
      split at h
      · rename_i hc
        obtain ⟨hg, hlen, hle⟩ := hc
        have hxc := hx.cells hg
        have hvl : v.cells.size = sz := by have := hxc.1; simp at this; omega
        have hcl : cs.length = cells.size := by simpa using hr.1
        have hsz : off + v.cells.size ≤ cells.size := by omega
        have hfold := fold_put v.cells.toList 0 off cells (by simpa using hsz)
        have hr' := hr.putAt hxc off
        obtain ⟨out, ho, hro⟩ := fill_sound parts pv (putAt cs off x.cells) r (v.cells.zipIdx.foldl (fun cs x => cs.setIfInBounds (off + x.2) x.1) cells) h (by
            have e : (v.cells.zipIdx.foldl (fun cs x => cs.setIfInBounds (off + x.2) x.1) cells) = (v.cells.toList.zipIdx 0).foldl (fun cs x => cs.setIfInBounds (off + x.2) x.1) cells := by
              rw [← Array.foldl_toList]; simp
            rw [e, hfold]; simpa using hr') (by simpa using hl) (fun j a b h1 h2 => hp (j + 1) a b (by simpa using h1) (by simpa using h2))
        refine ⟨out, ?_, hro⟩
        simp only [Instr.fill, hpl]
        rw [if_neg (by simp [hvl]; omega)]
        exact ho
      · simp at h
    · simp at h

def tyPlaces (P : Program) (t : Nat) : Option (List (Nat × Nat)) :=
  match P.underlying t with
  | some (.struct fs) => fs.toList.mapM fun f => (P.info? f.type).map fun i => (f.offset, i.size)
  | _ => none

def dBuild (P : Program) (t : Nat) (parts : List (Nat × D)) : Option D :=
  match tyPlaces P t, tyArr P t, tyZero P t with
  | some pl, none, some zs => (dFill (fun i => pl[i]?) zs parts).map D.agg
  | none, some (_, e), some zs =>
    match tySz P e with
    | some sz => (dFill (fun i => some (i * sz, sz)) zs parts).map D.agg
    | none => none
  | _, _, _ => none

theorem zero_run {t : Nat} {zs : List D} (h : tyZero P t = some zs) : ∃ z i, (zeroValue t).run P w = .ok z w ∧ zs = z.cells.toList.map leafD ∧ P.info? t = some i ∧ i.zero = some z := by
  unfold tyZero at h
  cases hi : P.info? t with
  | none => simp [hi] at h
  | some i =>
    cases hz : i.zero with
    | none => simp [hi, hz] at h
    | some z =>
      simp [hi, hz] at h
      exact ⟨z, i, by simp [zeroValue, typeInfo, hi, hz], h.symm, rfl, hz⟩

theorem build_sound {t : Nat} {parts : List (Nat × D)} {pv : Array (Nat × Value)} {r : D} (h : dBuild P t parts = some r) (hl : parts.length = pv.size)
    (hp : ∀ (j : Nat) (a : Nat × D) (b : Nat × Value), parts[j]? = some a → pv[j]? = some b → a.1 = b.1 ∧ R φ w a.2 b.2) :
    ∃ v, (Instr.build t pv).run P w = .ok v w ∧ R φ w r v := by
  unfold dBuild at h
  split at h
  · rename_i pl zs hpl _ hz
    obtain ⟨z, i, hzr, rfl, hi, hiz⟩ := zero_run (w := w) hz
    cases hf : dFill (fun i => pl[i]?) (z.cells.toList.map leafD) parts with
    | none => simp [hf] at h
    | some cs =>
      simp [hf] at h
      subst h
      obtain ⟨out, ho, hro⟩ := fill_sound (φ := φ) (w := w) parts pv.toList _ cs z.cells hf (RL.leafs φ w _) (by simpa using hl) (fun j a b h1 h2 => hp j a b h1 (by simpa using h2))
      unfold tyPlaces at hpl
      split at hpl
      · rename_i fs hu
        refine ⟨.agg out, run_build w t pv out ?_, by simpa using R.ofCells_agg hro⟩
        unfold Program.built
        simp only [hi, hu, hiz, hpl]
        simpa using ho
      · simp at hpl
  · rename_i n e zs _ ha hz
    obtain ⟨z, i, hzr, rfl, hi, hiz⟩ := zero_run (w := w) hz
    split at h
    · rename_i sz hsz
      cases hf : dFill (fun i => some (i * sz, sz)) (z.cells.toList.map leafD) parts with
      | none => simp [hf] at h
      | some cs =>
        simp [hf] at h
        subst h
        obtain ⟨out, ho, hro⟩ := fill_sound (φ := φ) (w := w) parts pv.toList _ cs z.cells hf (RL.leafs φ w _) (by simpa using hl) (fun j a b h1 h2 => hp j a b h1 (by simpa using h2))
        have hu : P.underlying t = some (.array n e) := by
          unfold tyArr at ha
          split at ha
          · rename_i hx; cases ha; exact hx
          · simp at ha
        cases hie : P.info? e with
        | none => simp [tySz, hie] at hsz
        | some ie =>
          simp [tySz, hie] at hsz
          refine ⟨.agg out, run_build w t pv out ?_, by simpa using R.ofCells_agg hro⟩
          unfold Program.built
          simp only [hi, hu, hiz, hie, hsz]
          exact ho
    · simp at h
  · simp at h

/-- a slice literal, all its elements in order -/
def dBuildSlice (P : Program) (t len : Nat) (parts : List (Nat × D)) (n : Nat) : Option (D × Nat × List Eff) :=
  match (tyElem P t).bind (tySz P), (tyElem P t).bind (tyZero P) with
  | some sz, some z =>
    if sz ≠ 0 ∧ z.length = sz ∧ parts.length = len ∧ len * sz ≤ 16777216 ∧ (parts.zipIdx.all fun x => x.1.1 == x.2 && x.1.2.good && (x.1.2.cells.length == sz)) = true then
      some (.sl n 0 none sz (parts.map (·.2)), n + 1, [])
    else none
  | _, _ => none

theorem fill_all {sz len : Nat} : ∀ (parts : List (Nat × D)) (pv : List (Nat × Value)) (k : Nat) (cells : Array Value) (done : List Value), k + parts.length = len → cells.size = len * sz →
    done.length = k * sz → cells.toList.take (k * sz) = done → parts.length = pv.length →
    (∀ (j : Nat) (a : Nat × D) (b : Nat × Value), parts[j]? = some a → pv[j]? = some b → a.1 = b.1 ∧ R φ w a.2 b.2) →
    (∀ (j : Nat) (a : Nat × D), parts[j]? = some a → a.1 = k + j ∧ a.2.good = true ∧ a.2.cells.length = sz) →
    ∃ out vs, Instr.fill (fun i => some (i * sz, sz)) cells pv = some out ∧ RL φ w (flat (parts.map (·.2))) vs ∧ out.toList = done ++ vs
  | [], [], k, cells, done, h1, h2, h3, h4, _, _, _ => by
    refine ⟨cells, [], rfl, RL.nil, ?_⟩
    simp only [List.length_nil, Nat.add_zero] at h1
    rw [← h4, h1, List.take_of_length_le (by simp [h2])]; simp
  | [], _ :: _, _, _, _, _, _, _, _, hl, _, _ => by simp at hl
  | _ :: _, [], _, _, _, _, _, _, _, hl, _, _ => by simp at hl
  | (i, x) :: parts, (i', v) :: pv, k, cells, done, h1, h2, h3, h4, hl, hp, hq => by
    obtain ⟨hi, hx⟩ := hp 0 (i, x) (i', v) rfl rfl
    obtain ⟨hk, hg, hlen⟩ := hq 0 (i, x) rfl
    simp only at hi hx hk hg hlen
    subst hi
    simp only [Nat.add_zero] at hk
    subst hk
    have hxc := hx.cells hg
    have hvl : v.cells.size = sz := by have := hxc.1; simp at this; omega
    simp only [List.length_cons] at h1
    have hroom : i * sz + sz ≤ len * sz := by rw [← Nat.succ_mul]; exact Nat.mul_le_mul_right _ (by omega)
    have hfold := fold_put v.cells.toList 0 (i * sz) cells (by simp [hvl]; omega)
    have hcs : ((v.cells.zipIdx.foldl (fun cs x => cs.setIfInBounds (i * sz + x.2) x.1) cells)).toList = cells.toList.take (i * sz) ++ v.cells.toList ++ cells.toList.drop (i * sz + sz) := by
      have e : (v.cells.zipIdx.foldl (fun cs x => cs.setIfInBounds (i * sz + x.2) x.1) cells) = (v.cells.toList.zipIdx 0).foldl (fun cs x => cs.setIfInBounds (i * sz + x.2) x.1) cells := by
        rw [← Array.foldl_toList]; simp
      rw [e, hfold]
      simp [hvl]
    have hsize : (v.cells.zipIdx.foldl (fun cs x => cs.setIfInBounds (i * sz + x.2) x.1) cells).size = len * sz := by
      rw [← Array.length_toList, hcs, List.length_append, List.length_append, List.length_take, List.length_drop, Array.length_toList, Array.length_toList, h2, hvl]
      omega
    obtain ⟨out, vs, ho, hro, hout⟩ := fill_all parts pv (i + 1) (v.cells.zipIdx.foldl (fun cs x => cs.setIfInBounds (i * sz + x.2) x.1) cells) (done ++ v.cells.toList) (by omega) hsize
      (by simp [h3, hvl, Nat.succ_mul]) (by
        rw [hcs, h4, Nat.succ_mul]
        rw [List.take_append_of_le_length (by simp [h3, hvl])]
        exact List.take_of_length_le (by simp [h3, hvl])) (by simpa using hl) (fun j a b h1 h2 => hp (j + 1) a b (by simpa using h1) (by simpa using h2))
      (fun j a h => by have := hq (j + 1) a (by simpa using h); exact ⟨by omega, this.2⟩)
    refine ⟨out, v.cells.toList ++ vs, ?_, by simpa using hxc.append hro, by simpa using hout⟩
    simp only [Instr.fill]
    rw [if_neg (by simp [hvl]; omega)]
    exact ho

theorem buildSlice_sound {t len n n' : Nat} {parts : List (Nat × D)} {pv : Array (Nat × Value)} {r : D} {E : List Eff} (h : dBuildSlice P t len parts n = some (r, n', E)) (wf : WF φ w) (hn : n ≠ 0) (hf : φ n = .no)
    (hl : parts.length = pv.size) (hp : ∀ (j : Nat) (a : Nat × D) (b : Nat × Value), parts[j]? = some a → pv[j]? = some b → a.1 = b.1 ∧ R φ w a.2 b.2) :
    ∃ v w' φ', (Instr.buildSlice t len pv).run P w = .ok v w' ∧ Trans φ w φ' w' n n' E ∧ R φ' w' r v := by
  unfold dBuildSlice at h
  split at h
  case h_2 => simp at h
  rename_i sz z hsz hz
  split at h
  case isFalse => simp at h
  rename_i hc
  obtain ⟨hs0, hzl, hpl, hle, hall⟩ := hc
  cases h
  obtain ⟨e, he, hes, hez⟩ : ∃ e, tyElem P t = some e ∧ tySz P e = some sz ∧ tyZero P e = some z := by
    cases hel : tyElem P t with
    | none => simp [hel] at hsz
    | some e => exact ⟨e, rfl, by simpa [hel] using hsz, by simpa [hel] using hz⟩
  obtain ⟨zv, i, hzr, rfl, hi, hiz⟩ := zero_run (w := w) hez
  have hso := run_sizeOf' (P := P) (w := w) hes
  have hq : ∀ (j : Nat) (a : Nat × D), parts[j]? = some a → a.1 = 0 + j ∧ a.2.good = true ∧ a.2.cells.length = sz := by
    intro j a hj
    have hlt := (List.getElem?_eq_some_iff.1 hj).1
    have := List.all_eq_true.1 hall (a, j) (by rw [List.mem_zipIdx_iff_getElem?]; simpa using hj)
    simp at this
    exact ⟨by omega, this.1.2, this.2⟩
  obtain ⟨out, vs, ho, hro, hout⟩ := fill_all (φ := φ) (w := w) (sz := sz) (len := len) parts pv.toList 0 ((Array.range (len * sz)).map (fun x => if len * sz = 0 then default else zv.cells[x % zv.cells.size]!)) [] (by omega) (by simp) (by simp) (by simp) (by simpa using hl)
    (fun j a b h1 h2 => hp j a b h1 (by simpa using h2)) hq
  have ht := Trans.alloc wf hn hf out e
  have hlen : (parts.map (·.2)).length = len := by simp [hpl]
  have hszs : ∀ e ∈ parts.map (·.2), e.cells.length = sz := by
    intro d hd
    obtain ⟨a, ha, rfl⟩ := List.mem_map.1 hd
    obtain ⟨j, hj⟩ := List.getElem?_of_mem ha
    exact (hq j a hj).2.2
  refine ⟨.slice (some ⟨w.heap.size, 0, none⟩) len len, _, _, ?_, ht, ?_⟩
  · have hnle : ¬ (len * sz > 2 ^ 24) := by omega
    by_cases h0 : len * sz = 0
    · have e0 : (Array.range (len * sz)).map (fun x => if len * sz = 0 then default else zv.cells[x % zv.cells.size]!) = #[] := by simp [h0]
      rw [e0] at ho
      have e1 : (Array.map (fun _ => default) (Array.range 0) : Array Value) = #[] := by apply Array.ext <;> simp
      simp [Instr.buildSlice, run_underlying (elem_under he), hso, h0, e1, ho, newRow]
    · simp only [h0, if_false] at ho
      simp [Instr.buildSlice, run_underlying (elem_under he), hso, hnle, h0, hzr, ho, newRow]
  · have := R.newSl (φ' := φ.set n (.at w.heap.size 0)) (w' := { w with heap := w.heap.push (.cells out e) }) (n := n) (b := w.heap.size) (c := len) (sz := sz) (off := 0) (base := 0) (cap := none) (es := parts.map (·.2)) (vs := vs) (e := e) (arr := out)
      hn (by simp) (by simp) hszs (hro.keep (fun d v h => ht.keep d v h)) (fun j v hv => by
        simp at hout
        have e0 : 0 + 0 + j = j := by omega
        rw [e0, ← Array.getElem?_toList, hout]; exact hv) (by rw [hlen]; exact Nat.le_refl _) (fun k hk => by simp at hk) (by
        have : out.size = vs.length := by rw [← Array.length_toList, hout]; simp
        rw [this, ← hro.1, flat_length hszs, hlen]; omega)
    rw [hlen] at this
    simpa using this

/-! ### make -/
def zeroElem (a : Bool) (z : List D) : D := if a then .agg z else z.headD .bad

def dMake (P : Program) (t : Nat) (l c : D) (n : Nat) : Option (D × Nat × List Eff) :=
  match l, c with
  | .val (.int _ l), .val (.int _ c) =>
    match (tyElem P t).bind (tySz P), (tyElem P t).bind (tyZero P), (tyElem P t).bind (tyBytes P), (tyElem P t).bind (tyAgg P) with
    | some sz, some z, some by_, some a =>
      if sz ≠ 0 ∧ z.length = sz ∧ (a = true ∨ (sz = 1 ∧ (z.all D.leaf) = true)) ∧ 0 ≤ l ∧ l ≤ c ∧ c * by_ ≤ 140737488355328 ∧ c ≤ 140737488355328 then
        some (.sl n 0 none sz (List.replicate l.toNat (zeroElem a z)), n + 1, [])
      else none
    | _, _, _, _ => none
  | _, _ => none

theorem make_sound {t n n' : Nat} {l c r : D} {lv cv : Value} {E : List Eff} (h : dMake P t l c n = some (r, n', E)) (wf : WF φ w) (hn : n ≠ 0) (hf : φ n = .no)
    (hl : R φ w l lv) (hcv : R φ w c cv) : ∃ v w' φ', (Instr.makeSlice t lv cv).run P w = .ok v w' ∧ Trans φ w φ' w' n n' E ∧ R φ' w' r v := by
  unfold dMake at h
  split at h
  case h_2 => simp at h
  rename_i kl l kc c
  cases hl; cases hcv
  split at h
  case h_2 => simp at h
  rename_i sz z by_ a hsz hz hby ha
  split at h
  case isFalse => simp at h
  rename_i hc
  obtain ⟨hs0, hzl, hag, h0, hlc, hbytes, h63⟩ := hc
  cases h
  obtain ⟨e, he, hes, hez, heb⟩ : ∃ e, tyElem P t = some e ∧ tySz P e = some sz ∧ tyZero P e = some z ∧ tyBytes P e = some by_ := by
    cases hel : tyElem P t with
    | none => simp [hel] at hsz
    | some e => exact ⟨e, rfl, by simpa [hel] using hsz, by simpa [hel] using hz, by simpa [hel] using hby⟩
  obtain ⟨zv, i, hzr, rfl, hi, hiz⟩ := zero_run (w := w) hez
  have his : i.size = sz := by simpa [tySz, hi] using hes
  have hib : i.bytes = by_ := by simpa [tyBytes, hi] using heb
  have hr := run_make (P := P) w t e i zv (elem_under he) hi hiz kl kc l c h0 hlc (by rw [hib, Int.mul_comm]; omega) (by omega)
  have ht := Trans.alloc wf hn hf (madeCells zv.cells (c.toNat * i.size)) e
  have hzs : zv.cells.size = sz := by simpa using hzl
  have hcz : (zeroElem a (zv.cells.toList.map leafD)).cells = zv.cells.toList.map leafD := by
    unfold zeroElem
    cases a with
    | true => simp [D.cells]
    | false =>
      obtain ⟨h1, h2⟩ := hag.resolve_left (by simp)
      simp only [Bool.false_eq_true, if_false]
      have hl1 : (zv.cells.toList.map leafD).length = 1 := by rw [hzl, h1]
      match hm : zv.cells.toList.map leafD, hl1 with
      | [d], _ =>
        rw [hm] at h2
        simp at h2
        simp [D.leaf_cells h2]
  have hfl : ∀ k, flat (List.replicate k (zeroElem a (zv.cells.toList.map leafD))) = (List.range (k * sz)).map (fun j => leafD (zv.cells[j % sz]!)) := by
    intro k
    induction k with
    | zero => simp
    | succ k ih =>
      rw [List.replicate_succ', flat_append, ih, flat_cons, hcz]
      simp only [flat_nil, List.append_nil]
      rw [Nat.succ_mul, List.range_add, List.map_append]
      congr 1
      apply List.ext_getElem
      · simp [hzs]
      · intro j h1 h2
        simp at h1
        simp [Nat.mul_add_mod_self_right, Nat.mod_eq_of_lt (show j < sz by omega)]
        rw [getElem!_pos zv.cells j h1]
  have hlt : l.toNat ≤ c.toNat := by omega
  have hmul : l.toNat * sz ≤ c.toNat * sz := Nat.mul_le_mul_right _ hlt
  refine ⟨_, _, _, hr, ht, ?_⟩
  have := R.newSl (φ' := φ.set n (.at w.heap.size 0)) (w' := w.alloc (.cells (madeCells zv.cells (c.toNat * i.size)) e)) (n := n) (b := w.heap.size) (c := c.toNat) (sz := sz) (off := 0) (base := 0) (cap := none)
    (es := List.replicate l.toNat (zeroElem a (zv.cells.toList.map leafD))) (vs := (List.range (l.toNat * sz)).map (fun j => zv.cells[j % sz]!)) (e := e) (arr := madeCells zv.cells (c.toNat * i.size))
    hn (by simp) (heap_alloc_new w _) (fun d hd => by rw [List.eq_of_mem_replicate hd, hcz]; simpa using hzs) (by
      rw [hfl]
      have := RL.leafs (φ.set n (.at w.heap.size 0)) (w.alloc (.cells (madeCells zv.cells (c.toNat * i.size)) e)) ((List.range (l.toNat * sz)).map (fun j => zv.cells[j % sz]!))
      simpa [List.map_map, Function.comp_def] using this) (fun j v hv => by
      obtain ⟨x, hx, rfl⟩ := getElem?_map_some hv
      obtain ⟨hj, h'⟩ := List.getElem?_eq_some_iff.1 hx
      simp at h' hj
      subst h'
      have e0 : 0 + 0 + j = j := by omega
      have hj2 : j < l.toNat * sz := by simpa using hj
      rw [e0]
      simp [madeCells, his, hzs]
      exact ⟨j, by rw [Array.getElem?_eq_getElem (by simp; omega)]; simp, rfl⟩) (by simpa using hlt) (fun k hk => by simp at hk) (by rw [size_madeCells, his]; omega)
  simpa using this

/-! ### len, copy, min, max, clear -/
def dLen (P : Program) (t : Nat) (x : D) : Option D :=
  match x with
  | .sl _ _ _ _ es => if (tyElem P t).isSome = true then some (.val (.int .i64 es.length)) else none
  | .val (.string s) => if tyStr P t = true then some (.val (.int .i64 s.size)) else none
  | _ => none

theorem len_sound {t ty : Nat} {x r : D} {v : Value} (h : dLen P t x = some r) (hx : R φ w x v) : ∃ u, (Builtin.len_ #[t] ty #[v]).run P w = .ok u w ∧ R φ w r u := by
  unfold dLen at h
  split at h
  · rename_i id off cap sz es
    split at h
    · rename_i hs
      obtain ⟨e, he⟩ := Option.isSome_iff_exists.1 hs
      cases h
      cases hx
      exact ⟨_, by simp [Builtin.len_, run_underlying (elem_under he)]; rfl, .val _⟩
    · simp at h
  · cases hx
    split at h
    · rename_i hs
      cases h
      exact ⟨_, by simp [Builtin.len_, run_underlying (str_under hs)]; rfl, .val _⟩
    · simp at h
  · simp at h

def dMinMax (mx : Bool) : List D → Option D
  | [.val (.int k x), .val (.int _ y)] => some (.val (.int k (if mx then (if y > x then y else x) else (if y < x then y else x))))
  | _ => none

theorem minmax_sound {mx : Bool} {xs : List D} {vs : Array Value} {at_ : Array TypeId} {ty : Nat} {r : D} (h : dMinMax mx xs = some r) (hx : RL φ w xs vs.toList) :
    ∃ u, (if mx then Builtin.max_ at_ ty vs else Builtin.min_ at_ ty vs).run P w = .ok u w ∧ R φ w r u := by
  unfold dMinMax at h
  split at h
  · rename_i k x k' y
    cases h
    have hl := hx.1
    match hv : vs.toList, hl with
    | [a, b], _ =>
      rw [hv] at hx
      have h1 := hx.2 0 _ a rfl rfl
      have h2 := hx.2 1 _ b rfl rfl
      cases h1; cases h2
      refine ⟨_, ?_, .val _⟩
      cases mx <;> simp [Builtin.max_, Builtin.min_, hv, Builtin.max2, Builtin.min2]
  · simp at h

/-- what is copied comes from where nothing is written, or is read before -/
def dCopy (P : Program) (t : Nat) (d s : D) : Option (D × List Eff) :=
  match d, s with
  | .sl id off _ sz es, .sl _ _ _ sz2 xs =>
    if (tyElem P t).bind (tySz P) = some sz ∧ (sz2 = sz ∨ xs = []) ∧ sz ≠ 0 ∧ id ≠ 0 ∧ ((flat (xs.take es.length)).all fun c => c.leaf && c.good && !c.has (· == id)) = true then
      some (.val (.int .i64 (min xs.length es.length : Nat)), wrs id off (flat (xs.take es.length)))
    else none
  | _, _ => none

theorem copy_sound {t ty : Nat} {d s r : D} {dv sv : Value} {E : List Eff} (h : dCopy P t d s = some (r, E)) (wf : WF φ w) (hd : R φ w d dv) (hs : R φ w s sv) :
    ∃ v w', (Builtin.copy_ #[t, t] ty #[dv, sv]).run P w = .ok v w' ∧ (∀ n, Trans φ w φ w' n n E) ∧ R φ w' r v := by
  unfold dCopy at h
  split at h
  case h_2 => simp at h
  rename_i id off cap sz es id2 off2 cap2 sz2 xs
  split at h
  case isFalse => simp at h
  rename_i hc
  obtain ⟨hsz, hz2, hs0, hid, hall⟩ := hc
  cases h
  obtain ⟨e, he, hes⟩ : ∃ e, tyElem P t = some e ∧ tySz P e = some sz := by
    cases hel : tyElem P t with
    | none => simp [hel] at hsz
    | some e => exact ⟨e, rfl, by simpa [hel] using hsz⟩
  have hso := run_sizeOf' (P := P) (w := w) hes
  obtain ⟨A, c, vs, rfl, hvs, hvc, hvn, hlc, hcap, hszs, hp⟩ := hd.sl_cells
  obtain ⟨A2, c2, us, rfl, hus, huc, hun, hlc2, hcap2, hszs20, hp2⟩ := hs.sl_cells
  have hszs2' : ∀ e ∈ xs, e.cells.length = sz := by
    intro e he
    rcases hz2 with h | h
    · rw [← h]; exact hszs20 e he
    · rw [h] at he; cases he
  have hul : us.length = xs.length * sz := by rw [← hus.1]; exact flat_length hszs2'
  have hmin : Nat.min xs.length es.length = min es.length xs.length := Nat.min_comm _ _
  have hft : flat (xs.take es.length) = (flat xs).take (es.length * sz) := flat_take _ _ hszs2'
  have hus' : RL φ w (flat (xs.take es.length)) (us.take (es.length * sz)) := by rw [hft]; exact hus.take _
  have hlen' : (us.take (es.length * sz)).length = (min xs.length es.length) * sz := by
    rw [List.length_take, hul]
    rcases Nat.le_total xs.length es.length with hle | hle
    · rw [Nat.min_eq_left hle, Nat.min_eq_right (Nat.mul_le_mul_right _ hle)]
    · rw [Nat.min_eq_right hle, Nat.min_eq_left (Nat.mul_le_mul_right _ hle)]
  have hfc : (Builtin.firstCells sz (min xs.length es.length) (.slice A2 xs.length c2)).run P w = .ok (us.take (es.length * sz)).toArray w := by
    cases A2 with
    | none =>
      rw [hun rfl]
      simpa using run_firstCells_none (P := P) w sz (min xs.length es.length) xs.length c2
    | some a => exact run_firstCells_some (P := P) w sz _ a xs.length c2 _ hlen' (fun j v hv => huc a rfl j v (by
        rw [List.getElem?_take] at hv
        split at hv
        · exact hv
        · simp at hv))
  have hall' : ∀ c ∈ flat (xs.take es.length), c.leaf = true ∧ c.good = true ∧ c.has (· == id) = false := by
    intro c hc
    have := List.all_eq_true.1 hall c hc
    simp at this
    exact ⟨this.1.1, this.1.2, this.2⟩
  have fin : ∀ w', (match A with | some a => storeCells a (us.take (es.length * sz)) | none => pure ()).run P w = .ok () w' →
      (Builtin.copy_ #[t, t] ty #[.slice A es.length c, .slice A2 xs.length c2]).run P w = .ok (.int .i64 (min xs.length es.length : Nat)) w' := by
    intro w' hw'
    have hfc' : (Builtin.firstCells sz (Nat.min xs.length es.length) (.slice A2 xs.length c2)).run P w = .ok (us.take (es.length * sz)).toArray w := hfc
    cases A with
    | none =>
      simp at hw'
      subst hw'
      simp [Builtin.copy_, run_underlying (elem_under he), Builtin.lenOf, hso, hfc', goInt]
    | some a =>
      simp at hw'
      simp [Builtin.copy_, run_underlying (elem_under he), Builtin.lenOf, hso, hfc', goInt, hw']
  by_cases h0 : (us.take (es.length * sz)) = []
  · have hf0 : flat (xs.take es.length) = [] := List.eq_nil_of_length_eq_zero (by rw [hus'.1, h0]; rfl)
    refine ⟨_, w, fin w ?_, fun n => ?_, .val _⟩
    · rw [h0]; cases A <;> simp [storeCells]
    · rw [hf0]; exact Trans.refl wf n
  · have hpos : es.length * sz ≠ 0 := by
      intro h1
      rw [h1] at h0
      simp at h0
    have hm : es.length * sz ≤ c * sz := Nat.mul_le_mul_right _ hlc
    unfold Place at hp
    rw [if_neg hid] at hp
    cases hφ : φ id with
    | no => rw [hφ] at hp; exact hp.elim
    | void => rw [hφ] at hp; omega
    | «at» b base =>
      rw [hφ] at hp
      obtain ⟨rfl, arr, e', hb, hle⟩ := hp.resolve_left (by omega)
      obtain ⟨w', hw', ht⟩ := storeCells_sound (P := P) (n := 0) hφ (flat (xs.take es.length)) (us.take (es.length * sz)) off w (base + off) wf hus' hall' ⟨arr, e', hb, by
        have : (flat (xs.take es.length)).length ≤ es.length * sz := by rw [hus'.1, List.length_take]; omega
        omega⟩ (by omega)
      exact ⟨_, w', fin w' hw', ht, .val _⟩

/-- clear of a slice: its elements become zero -/
def dClear (P : Program) (t : Nat) (x : D) : Option (List Eff) :=
  match x with
  | .sl id off _ sz es =>
    match (tyElem P t).bind (tySz P), (tyElem P t).bind (tyZero P) with
    | some s, some z =>
      if es = [] then some []
      else if s = sz ∧ sz ≠ 0 ∧ z.length = sz ∧ id ≠ 0 ∧ (z.all fun c => c.leaf && c.good && !c.has (· == id)) = true then
        some (wrs id off ((List.replicate es.length z).flatten))
      else none
    | _, _ => none
  | _ => none
end
end Go.Cv

namespace Go.Cv
open Go
section
variable {P : Program} {φ : Phi} {w : World}

theorem zero_flat (z : List D) (vs : Array Value) (hz : z = vs.toList.map leafD) : ∀ k, (List.replicate k z).flatten = ((Builtin.zeroCells vs k).toList).map leafD := by
  intro k
  have e : (Builtin.zeroCells vs k).toList = (List.range (k * vs.size)).map (fun j => vs[j % vs.size]!) := by simp [Builtin.zeroCells]
  rw [e]
  induction k with
  | zero => simp
  | succ k ih =>
    have e' : (Builtin.zeroCells vs k).toList = (List.range (k * vs.size)).map (fun j => vs[j % vs.size]!) := by simp [Builtin.zeroCells]
    rw [List.replicate_succ', List.flatten_append, ih e', Nat.succ_mul, List.range_add, List.map_append, List.map_append]
    congr 1
    rw [hz]
    apply List.ext_getElem
    · simp
    · intro j h1 h2
      simp at h1
      simp [Nat.mul_add_mod_self_right, Nat.mod_eq_of_lt h1]
      rw [getElem!_pos vs j h1]

theorem clear_sound {t ty : Nat} {x : D} {v : Value} {E : List Eff} (h : dClear P t x = some E) (wf : WF φ w) (hx : R φ w x v) :
    ∃ w', (Builtin.clear_ #[t] ty #[v]).run P w = .ok (.tuple #[]) w' ∧ ∀ n, Trans φ w φ w' n n E := by
  unfold dClear at h
  split at h
  case h_2 => simp at h
  rename_i id off cap sz es
  split at h
  case h_2 => simp at h
  rename_i s z hs hz
  obtain ⟨e, he, hes, hez⟩ : ∃ e, tyElem P t = some e ∧ tySz P e = some s ∧ tyZero P e = some z := by
    cases hel : tyElem P t with
    | none => simp [hel] at hs
    | some e => exact ⟨e, rfl, by simpa [hel] using hs, by simpa [hel] using hz⟩
  obtain ⟨zv, i, hzr, hzz, hi, hiz⟩ := zero_run (w := w) hez
  obtain ⟨A, c, vs, rfl, hvs, hvc, hvn, hlc, hcap, hszs, hp⟩ := hx.sl_cells
  split at h
  · rename_i h0
    cases h
    subst h0
    refine ⟨w, ?_, fun n => Trans.refl wf n⟩
    cases A <;> simp [Builtin.clear_, run_underlying (elem_under he)]
  rename_i hne
  split at h
  case isFalse => simp at h
  rename_i hc
  obtain ⟨rfl, hs0, hzl, hid, hall⟩ := hc
  cases h
  have hln : es.length ≠ 0 := by simpa using hne
  have hpos : c * s ≠ 0 := Nat.mul_ne_zero (by omega) hs0
  unfold Place at hp
  rw [if_neg hid] at hp
  cases hφ : φ id with
  | no => rw [hφ] at hp; exact hp.elim
  | void => rw [hφ] at hp; omega
  | «at» b base =>
    rw [hφ] at hp
    obtain ⟨rfl, arr, e', hb, hle⟩ := hp.resolve_left hpos
    have hzf := zero_flat z zv.cells hzz es.length
    have hmul : es.length * s ≤ c * s := Nat.mul_le_mul_right _ hlc
    have hlen : ((List.replicate es.length z).flatten).length = es.length * s := by simp [hzl]
    obtain ⟨w', hw', ht⟩ := storeCells_sound (P := P) (n := 0) hφ ((List.replicate es.length z).flatten) (Builtin.zeroCells zv.cells es.length).toList off w (base + off) wf
      (by rw [hzf]; exact RL.leafs φ w _) (fun d hd => by
        obtain ⟨l, hl, hd⟩ := List.mem_flatten.1 hd
        rw [List.eq_of_mem_replicate hl] at hd
        have := List.all_eq_true.1 hall d hd
        simp at this
        exact ⟨this.1.1, this.1.2, this.2⟩) ⟨arr, e', hb, by rw [hlen]; omega⟩ (by omega)
    refine ⟨w', ?_, ht⟩
    obtain ⟨m, hm⟩ : ∃ m, es.length = m + 1 := ⟨es.length - 1, by omega⟩
    rw [hm] at hw' ⊢
    simp [Builtin.clear_, run_underlying (elem_under he), hzr, hw']

/-! ### what is frozen, in one form -/
def fz (sz : Nat) (es : List D) : D := .sl 0 0 none (if es.isEmpty then 0 else sz) es
mutual
def D.norm : D → D
  | .sl id off cap sz es => if id = 0 then fz sz (normL es) else .sl id off cap sz (normL es)
  | .pt id off cs => .pt id (if id = 0 then 0 else off) (normL cs)
  | .agg cs => .agg (normL cs)
  | .fn f caps => .fn f (normL caps)
  | .tup ds => .tup (normL ds)
  | .val v => .val v
  | .ifc => .ifc
  | .bad => .bad
def normL : List D → List D
  | [] => []
  | d :: ds => d.norm :: normL ds
end
def D.norm1 : D → D
  | .sl id off cap sz es => if id = 0 then fz sz es else .sl id off cap sz es
  | .pt id off cs => .pt id (if id = 0 then 0 else off) cs
  | d => d
/-- a slice of a frozen one: it keeps its capacity only if it is full -/
def D.norm2 : D → D
  | .sl id off cap sz es => if id = 0 then (if cap = some es.length then .sl 0 0 cap sz es else fz sz es) else .sl id off cap sz es
  | d => d
theorem normL_map : ∀ l, normL l = l.map D.norm
  | [] => rfl
  | d :: ds => by simp [normL, normL_map ds]
theorem cells_norm (d : D) : d.norm.cells = d.cells.map D.norm := by
  cases d with
  | sl id => by_cases h : id = 0 <;> simp [D.norm, D.cells, h, fz, normL_map]
  | _ => simp [D.norm, D.cells, normL_map]
theorem flat_map_norm : ∀ l, flat (l.map D.norm) = (flat l).map D.norm
  | [] => rfl
  | d :: ds => by simp [cells_norm, flat_map_norm ds]

theorem R.fz {off sz : Nat} {cap : Option Nat} {es : List D} {v : Value} (h : R φ w (.sl 0 off cap sz es) v) : R φ w (fz sz es) v := by
  cases h with
  | @sl _ _ _ _ _ A c u hc hcap hsz hp ha hcell hr =>
    refine .sl u hc (by simp) (fun e he => ?_) ?_ ha hcell hr
    · cases es with
      | nil => cases he
      | cons x xs => simpa using hsz e he
    · cases es with
      | nil => unfold Place; simp
      | cons x xs => simpa [Place] using hp

theorem R.pt0 {off : Nat} {cs : List D} {v : Value} (h : R φ w (.pt 0 off cs) v) : R φ w (.pt 0 0 cs) v := by
  cases h with
  | pt u hp hcell hr => exact .pt u (by simpa [Place] using hp) hcell hr

theorem R.norm1 {d : D} {v : Value} (h : R φ w d v) : R φ w d.norm1 v := by
  cases d with
  | sl id off cap sz es =>
    by_cases h0 : id = 0
    · subst h0; simp only [D.norm1, if_true]; exact h.fz
    · simp only [D.norm1, h0, if_false]; exact h
  | pt id off cs =>
    by_cases h0 : id = 0
    · subst h0; simp only [D.norm1, if_true]; exact h.pt0
    · simp only [D.norm1, h0, if_false]; exact h
  | _ => exact h

theorem R.norm2 {d : D} {v : Value} (h : R φ w d v) : R φ w d.norm2 v := by
  cases d with
  | sl id off cap sz es =>
    by_cases h0 : id = 0
    · subst h0
      simp only [D.norm2, if_true]
      split
      · cases h with
        | sl u hc hcap hsz hp ha hcell hr => exact .sl u hc hcap hsz (by simpa [Place] using hp) ha hcell hr
      · exact h.fz
    · simp only [D.norm2, h0, if_false]; exact h
  | _ => exact h

theorem R.norm {d : D} {v : Value} (h : R φ w d v) : R φ w d.norm v := by
  induction h with
  | val v => exact .val v
  | ifc t x => exact .ifc t x
  | bad v => exact .bad v
  | @sl id off cap sz es A c u hc hcap hsz hp ha hcell hr ih =>
    have hl : (es.map D.norm).length = es.length := by simp
    have h2 : R φ w (.sl id off cap sz (es.map D.norm)) (.slice A (es.map D.norm).length c) := by
      refine .sl u (by rw [hl]; exact hc) hcap (fun e he => ?_) hp (fun h0 => ha (fun h1 => h0 (by rw [flat_map_norm, h1]; rfl))) (fun j d hj => ?_) (fun j d hj => ?_)
      · obtain ⟨x, hx, rfl⟩ := List.mem_map.1 he
        rw [cells_norm]; simp [hsz x hx]
      · rw [flat_map_norm] at hj
        obtain ⟨x, hx, rfl⟩ := getElem?_map_some hj
        exact hcell j x hx
      · rw [flat_map_norm] at hj
        obtain ⟨x, hx, rfl⟩ := getElem?_map_some hj
        exact ih j x hx
    rw [hl] at h2
    by_cases h0 : id = 0
    · subst h0; simp only [D.norm, if_true, normL_map]; exact h2.fz
    · simp only [D.norm, h0, if_false, normL_map]; exact h2
  | @pt id off cs a u hp hcell hr ih =>
    have h2 : R φ w (.pt id off (cs.map D.norm)) (.pointer (some a)) := by
      refine .pt u (by simpa using hp) (fun j d hj => ?_) (fun j d hj => ?_)
      · obtain ⟨x, hx, rfl⟩ := getElem?_map_some hj
        exact hcell j x hx
      · obtain ⟨x, hx, rfl⟩ := getElem?_map_some hj
        exact ih j x hx
    by_cases h0 : id = 0
    · subst h0; simp only [D.norm, if_true, normL_map]; exact h2.pt0
    · simp only [D.norm, h0, if_false, normL_map]; exact h2
  | agg vs hl hr ih =>
    simp only [D.norm, normL_map]
    refine .agg vs (by simpa using hl) (fun j d v h1 h2 => ?_)
    obtain ⟨x, hx, rfl⟩ := getElem?_map_some h1
    exact ih j x v hx h2
  | fn vs hl hr ih =>
    simp only [D.norm, normL_map]
    refine .fn vs (by simpa using hl) (fun j d v h1 h2 => ?_)
    obtain ⟨x, hx, rfl⟩ := getElem?_map_some h1
    exact ih j x v hx h2
  | tup vs hl hr ih =>
    simp only [D.norm, normL_map]
    refine .tup vs (by simpa using hl) (fun j d v h1 h2 => ?_)
    obtain ⟨x, hx, rfl⟩ := getElem?_map_some h1
    exact ih j x v hx h2

mutual
def D.ids : D → List Nat
  | .sl id _ _ _ es => id :: idsL es
  | .pt id _ cs => id :: idsL cs
  | .agg cs => idsL cs
  | .fn _ caps => idsL caps
  | .tup ds => idsL ds
  | .val _ => []
  | .ifc => []
  | .bad => []
def idsL : List D → List Nat
  | [] => []
  | d :: ds => d.ids ++ idsL ds
end

def killAll (K : List Nat) (d : D) : D := K.foldl (fun d i => d.kill i) d
mutual
theorem ren_congr {ρ σ : Nat → Nat} : ∀ d : D, (∀ i ∈ d.ids, ρ i = σ i) → d.ren ρ = d.ren σ
  | .val v, _ => rfl
  | .ifc, _ => rfl
  | .bad, _ => rfl
  | .agg cs, h => by simp only [D.ren]; rw [ren_congrL cs (by simpa [D.ids] using h)]
  | .tup cs, h => by simp only [D.ren]; rw [ren_congrL cs (by simpa [D.ids] using h)]
  | .fn f cs, h => by simp only [D.ren]; rw [ren_congrL cs (by simpa [D.ids] using h)]
  | .sl id off cap sz es, h => by simp only [D.ren]; rw [ren_congrL es (fun i hi => h i (by simp [D.ids, hi])), h id (by simp [D.ids])]
  | .pt id off es, h => by simp only [D.ren]; rw [ren_congrL es (fun i hi => h i (by simp [D.ids, hi])), h id (by simp [D.ids])]
theorem ren_congrL {ρ σ : Nat → Nat} : ∀ ds : List D, (∀ i ∈ idsL ds, ρ i = σ i) → renL ρ ds = renL σ ds
  | [], _ => rfl
  | d :: ds, h => by
    simp only [renL]
    rw [ren_congr d (fun i hi => h i (by simp [idsL, hi])), ren_congrL ds (fun i hi => h i (by simp [idsL, hi]))]
end
mutual
theorem ren_id : ∀ d : D, d.ren (fun i => i) = d
  | .val v => rfl
  | .ifc => rfl
  | .bad => rfl
  | .agg cs => by simp only [D.ren]; rw [ren_idL cs]
  | .tup cs => by simp only [D.ren]; rw [ren_idL cs]
  | .fn f cs => by simp only [D.ren]; rw [ren_idL cs]
  | .sl id off cap sz es => by simp only [D.ren]; rw [ren_idL es]
  | .pt id off es => by simp only [D.ren]; rw [ren_idL es]
theorem ren_idL : ∀ ds : List D, renL (fun i => i) ds = ds
  | [] => rfl
  | d :: ds => by simp only [renL]; rw [ren_id d, ren_idL ds]
end
mutual
theorem ren_ren {ρ σ : Nat → Nat} : ∀ d : D, (d.ren ρ).ren σ = d.ren (fun i => σ (ρ i))
  | .val v => rfl
  | .ifc => rfl
  | .bad => rfl
  | .agg cs => by simp only [D.ren]; rw [ren_renL cs]
  | .tup cs => by simp only [D.ren]; rw [ren_renL cs]
  | .fn f cs => by simp only [D.ren]; rw [ren_renL cs]
  | .sl id off cap sz es => by simp only [D.ren]; rw [ren_renL es]
  | .pt id off es => by simp only [D.ren]; rw [ren_renL es]
theorem ren_renL {ρ σ : Nat → Nat} : ∀ ds : List D, renL σ (renL ρ ds) = renL (fun i => σ (ρ i)) ds
  | [] => rfl
  | d :: ds => by simp only [renL]; rw [ren_ren d, ren_renL ds]
end
theorem ren_fix {ρ : Nat → Nat} {d : D} (h : ∀ i ∈ d.ids, ρ i = i) : d.ren ρ = d := by rw [ren_congr (σ := fun i => i) d h, ren_id]

mutual
theorem kill_fix {j : Nat} : ∀ {d : D}, j ∉ d.ids → d.kill j = d
  | .val v, _ => rfl
  | .ifc, _ => rfl
  | .bad, _ => rfl
  | .agg cs, h => by simp only [D.kill]; rw [kill_fixL (by simpa [D.ids] using h)]
  | .tup cs, h => by simp only [D.kill]; rw [kill_fixL (by simpa [D.ids] using h)]
  | .fn f cs, h => by simp only [D.kill]; rw [kill_fixL (by simpa [D.ids] using h)]
  | .sl id off cap sz es, h => by
    simp only [D.ids, List.mem_cons, not_or] at h
    simp only [D.kill]; rw [if_neg (Ne.symm h.1), kill_fixL h.2]
  | .pt id off es, h => by
    simp only [D.ids, List.mem_cons, not_or] at h
    simp only [D.kill]; rw [if_neg (Ne.symm h.1), kill_fixL h.2]
theorem kill_fixL {j : Nat} : ∀ {ds : List D}, j ∉ idsL ds → killL j ds = ds
  | [], _ => rfl
  | d :: ds, h => by
    simp only [idsL, List.mem_append, not_or] at h
    simp only [killL]; rw [kill_fix h.1, kill_fixL h.2]
end

/-- what a reading names, is there -/
theorem idsL_flat : ∀ (es : List D), idsL es = idsL (flat es)
  | [] => rfl
  | e :: es => by
    have h : ∀ a b : List D, idsL (a ++ b) = idsL a ++ idsL b := by
      intro a b
      induction a with
      | nil => rfl
      | cons x a ih => simp [idsL, ih]
    have h1 : idsL e.cells = e.ids := by cases e <;> simp [D.cells, D.ids, idsL]
    rw [flat_cons, h, ← idsL_flat es, h1]; rfl

theorem mem_idsL {i : Nat} : ∀ {l : List D}, i ∈ idsL l → ∃ d ∈ l, i ∈ d.ids
  | d :: l, h => by
    simp only [idsL, List.mem_append] at h
    rcases h with h | h
    · exact ⟨d, by simp, h⟩
    · obtain ⟨x, hx, hi⟩ := mem_idsL h
      exact ⟨x, by simp [hx], hi⟩

theorem R.ids {d : D} {v : Value} (h : R φ w d v) : ∀ i ∈ d.ids, i = 0 ∨ φ i ≠ .no := by
  have hp : ∀ {id off A m}, Place φ w id off A m → id = 0 ∨ φ id ≠ .no := by
    intro id off A m hp
    by_cases h0 : id = 0
    · exact .inl h0
    · refine .inr fun hn => ?_
      unfold Place at hp
      rw [if_neg h0, hn] at hp
      exact hp
  induction h with
  | val v => intro i hi; simp [D.ids] at hi
  | ifc t x => intro i hi; simp [D.ids] at hi
  | bad v => intro i hi; simp [D.ids] at hi
  | @sl id off cap sz es A c u hc hcap hsz hpl ha hcell hr ih =>
    intro i hi
    simp only [D.ids, List.mem_cons] at hi
    rcases hi with rfl | hi
    · exact hp hpl
    · rw [idsL_flat] at hi
      obtain ⟨x, hx, hi⟩ := mem_idsL hi
      obtain ⟨j, hj⟩ := List.getElem?_of_mem hx
      exact ih j x hj i hi
  | @pt id off cs a u hpl hcell hr ih =>
    intro i hi
    simp only [D.ids, List.mem_cons] at hi
    rcases hi with rfl | hi
    · exact hp hpl
    · obtain ⟨x, hx, hi⟩ := mem_idsL hi
      obtain ⟨j, hj⟩ := List.getElem?_of_mem hx
      exact ih j x hj i hi
  | @agg cs vs hl hr ih =>
    intro i hi
    simp only [D.ids] at hi
    obtain ⟨x, hx, hi⟩ := mem_idsL hi
    obtain ⟨j, hj⟩ := List.getElem?_of_mem hx
    have hlt := (List.getElem?_eq_some_iff.1 hj).1
    exact ih j x (vs[j]'(by omega)) hj (by rw [Array.getElem?_eq_getElem]) i hi
  | @fn f cs vs hl hr ih =>
    intro i hi
    simp only [D.ids] at hi
    obtain ⟨x, hx, hi⟩ := mem_idsL hi
    obtain ⟨j, hj⟩ := List.getElem?_of_mem hx
    have hlt := (List.getElem?_eq_some_iff.1 hj).1
    exact ih j x (vs[j]'(by omega)) hj (by rw [Array.getElem?_eq_getElem]) i hi
  | @tup cs vs hl hr ih =>
    intro i hi
    simp only [D.ids] at hi
    obtain ⟨x, hx, hi⟩ := mem_idsL hi
    obtain ⟨j, hj⟩ := List.getElem?_of_mem hx
    have hlt := (List.getElem?_eq_some_iff.1 hj).1
    exact ih j x (vs[j]'(by omega)) hj (by rw [Array.getElem?_eq_getElem]) i hi

/-! ### the machine's configuration -/
abbrev Call' := FuncId → List D → Nat → Option (D × Nat × List Eff)
structure Cfg where
  P : Program
  keep : FuncId → Nat
  mode : FuncId → Nat
  ext : FuncId → Option (List D → Nat → Option (D × Nat × List Eff))
  glob : Nat → Option (List D)

abbrev Fr := Nat → D
def upd (fr : Fr) (dst : Option Tmp) (d : D) : Fr := match dst with | some t => fun i => if i = t then d else fr i | none => fr
def appF (E : List Eff) (fr : Fr) : Fr := fun t => appE E (fr t)

def evD (A : Cfg) (fr : Fr) : Operand → D
  | .tmp t => fr t
  | .const v => constD v
  | .global g => match A.glob g with | some cs => .pt 0 0 cs | none => .bad
  | .func f => .fn (.func f) []

def builtinD (P : Program) (b : Builtin) (ts : List TypeId) (xs : List D) (n : Nat) : Option (D × Nat × List Eff) :=
  match b, ts, xs with
  | .len, [t], [x] => (dLen P t x).map fun d => (d, n, [])
  | .append, [t, t'], [s, x] => if t' = t then dAppend P t s x n else none
  | .copy, [t, t'], [d, s] => if t' = t then (dCopy P t d s).map fun r => (r.1, n, r.2) else none
  | .clear, [t], [x] => (dClear P t x).map fun E => (.tup [], n, E)
  | .min, _, xs => (dMinMax false xs).map fun d => (d, n, [])
  | .max, _, xs => (dMinMax true xs).map fun d => (d, n, [])
  | .cap, [t], [.sl _ _ (some k) _ _] => if (tyElem P t).isSome then some (.val (.int .i64 k), n, []) else none
  | _, _, _ => none

def tyConcrete (P : Program) (t : TypeId) : Bool :=
  match P.underlying t with
  | some (.interface _) => false
  | some _ => true
  | none => false

/-! ### how arguments are handed over: 0 as they are, in one form; 1 as they are; 2 lent (frozen, while the call runs); else given away (frozen for good) -/
mutual
def D.own0 : D → Bool
  | .sl id _ cap _ es => (id != 0 || cap == some 0) && own0L es
  | .pt id _ cs => (id != 0 || cs.isEmpty) && own0L cs
  | .agg cs => own0L cs
  | .fn _ caps => own0L caps
  | .tup ds => own0L ds
  | .val _ => true
  | .ifc => true
  | .bad => true
def own0L : List D → Bool
  | [] => true
  | d :: ds => d.own0 && own0L ds
end
def frz (d : D) : D := (d.ren (fun _ => 0)).norm
def movK (xs : List D) : List Nat := (idsL xs).filter (· ≠ 0)
def movE (xs : List D) : List Eff := (movK xs).map .kill
def lentR (r : Option (D × Nat × List Eff)) : Option (D × Nat × List Eff) :=
  match r with
  | some (d, n', []) => if d.own0 = true then some (d, n', []) else none
  | _ => none
def goneR (K : List Eff) (r : Option (D × Nat × List Eff)) : Option (D × Nat × List Eff) :=
  match r with
  | some (d, n', []) => some (d, n', K)
  | _ => none
def callM (A : Cfg) (call : Call') : Call' := fun g xs n =>
  match A.mode g with
  | 0 => call g (xs.map D.norm) n
  | 1 => call g xs n
  | 2 => lentR (call g (xs.map frz) n)
  | _ => goneR (movE xs) (call g (xs.map frz) n)
def Le (c c' : Call') : Prop := ∀ f ds n r, c f ds n = some r → c' f ds n = some r
theorem lentR_some {r : Option (D × Nat × List Eff)} {x} (h : lentR r = some x) : r = some x ∧ x.2.2 = [] ∧ x.1.own0 = true := by
  unfold lentR at h
  split at h
  · split at h
    · rename_i h0; cases h; exact ⟨rfl, rfl, h0⟩
    · simp at h
  · simp at h
theorem goneR_some {K : List Eff} {r : Option (D × Nat × List Eff)} {x} (h : goneR K r = some x) : r = some (x.1, x.2.1, []) ∧ x.2.2 = K := by
  unfold goneR at h
  split at h
  · cases h; exact ⟨rfl, rfl⟩
  · simp at h
theorem lentR_of {x : D × Nat × List Eff} (h1 : x.2.2 = []) (h2 : x.1.own0 = true) : lentR (some x) = some x := by
  obtain ⟨d, n, E⟩ := x
  simp only at h1 h2
  subst h1
  simp [lentR, h2]
theorem goneR_of {K : List Eff} {x : D × Nat × List Eff} (h1 : x.2.2 = K) : goneR K (some (x.1, x.2.1, [])) = some x := by
  obtain ⟨d, n, E⟩ := x
  simp only at h1
  subst h1
  simp [goneR]
theorem callM_mono {A : Cfg} {c c' : Call'} (h : Le c c') : Le (callM A c) (callM A c') := by
  intro f ds n r hr
  unfold callM at *
  split at hr
  · exact h _ _ _ _ hr
  · exact h _ _ _ _ hr
  · obtain ⟨h1, h2, h3⟩ := lentR_some hr
    rw [h _ _ _ _ h1]; exact lentR_of h2 h3
  · obtain ⟨h1, h2⟩ := goneR_some hr
    rw [h _ _ _ _ h1]; exact goneR_of h2

def opD (A : Cfg) (call : Call') (fr : Fr) (n : Nat) (op : Op) : Option (D × Nat × List Eff) :=
  match op with
  | .move x | .assign x => some (evD A fr x, n, [])
  | .pick c a b => match evD A fr c with | .val (.bool t) => some (if t then evD A fr a else evD A fr b, n, []) | _ => none
  | .alloc elem => (tyZero A.P elem).map fun zs => (.pt n 0 zs, n + 1, [])
  | .box _ x => if (evD A fr x).good = true then some (.pt n 0 (evD A fr x).cells, n + 1, []) else none
  | .build t parts => (dBuild A.P t (parts.toList.map fun p => (p.1, evD A fr p.2))).map fun d => (d, n, [])
  | .buildSlice t len parts => dBuildSlice A.P t len (parts.toList.map fun p => (p.1, evD A fr p.2)) n
  | .load t a => (dLoad A.P t (evD A fr a)).map fun d => (d, n, [])
  | .store t a x => (dStore A.P t (evD A fr a) (evD A fr x)).map fun E => (.bad, n, E)
  | .nilCheck x => match evD A fr x with
    | .pt id off cs => some (.pt id off cs, n, [])
    | .fn (.func f) caps => some (.fn (.func f) caps, n, [])
    | _ => none
  | .binOp op xt x y _ => (dBin A.P op xt ((x matches .const _) || (y matches .const _)) (evD A fr x) (evD A fr y)).map fun d => (d, n, [])
  | .unOp op _ x => (dUn op (evD A fr x)).map fun d => (d, n, [])
  | .convert src dst x => (dConv A.P src dst (evD A fr x)).map fun d => (d, n, [])
  | .makeInterface t _ => if tyConcrete A.P t then some (.ifc, n, []) else none
  | .makeFunc fn first captured => if first.isEmpty then some (.fn fn (captured.toList.map (evD A fr)), n, []) else none
  | .makeSlice t l c => dMake A.P t (evD A fr l) (evD A fr c) n
  | .slice t x lo hi mx => (dSlice A.P t (evD A fr x) (lo.map (evD A fr)) (hi.map (evD A fr)) (mx.map (evD A fr))).map fun d => (d.norm2, n, [])
  | .fieldAddr t x f => (dFieldAddr A.P t f (evD A fr x)).map fun d => (d.norm1, n, [])
  | .field t x f => (dField A.P t f (evD A fr x)).map fun d => (d, n, [])
  | .indexAddr t x i => (dIndexAddr A.P t (evD A fr x) (evD A fr i)).map fun d => (d.norm1, n, [])
  | .index t x i => (dIndex A.P t (evD A fr x) (evD A fr i)).map fun d => (d, n, [])
  | .extract t ix => match evD A fr t with | .tup ds => (ds[ix]?).map fun d => (d, n, []) | _ => none
  | .call c => match c.callee with
    | .builtin b => builtinD A.P b c.argTypes.toList (c.args.toList.map (evD A fr)) n
    | .value f => match evD A fr f with
      | .fn (.func g) caps => callM A call g (c.args.toList.map (evD A fr) ++ caps) n
      | _ => none
    | .invoke _ _ => none
  | _ => none

/-- an operation does -/
def DoesR (P : Program) (K : Value → World → Prop) : Result Next → Prop
  | .ok (.value v) w' => K v w'
  | .ok .skip w' => K undef w'
  | .ok (.enter f args) w' => Calls P f args w' (fun e w'' => match e with | .returned v => K v w'' | _ => False)
  | .ok (.row row args) w' => Rows P row args w' K
  | _ => False
def Does (P : Program) (s : Sem Next) (w : World) (K : Value → World → Prop) : Prop := DoesR P K (s.run P w)

theorem Does.wp {o : Oper} {a : Act} {w : World} {K : Value → World → Prop} {next : Act → World → Prop} {Q : Exit → Act → World → Prop}
    (h : Does P (execOp a.eval o) w K) (hk : ∀ v w', K v w' → next (a.put o.dst v) w') : o.wp P a w next Q := by
  unfold Does at h
  unfold Oper.wp
  generalize (execOp a.eval o).run P w = r at *
  cases r with
  | ok n w' =>
    cases n <;> simp only [DoesR] at h <;> simp only [Oper.upon]
    case value => exact hk _ _ h
    case skip => exact hk _ _ h
    case enter =>
      refine Calls.mono h fun e w'' he => ?_
      cases e with
      | returned v => exact hk _ _ he
      | panicked c => exact he.elim
      | outgrown => exact he.elim
    case row => exact Rows.mono h fun v w'' he => hk _ _ he
  | halt x w' => simp only [DoesR] at h

end
end Go.Cv

namespace Go.Cv
open Go
section
variable {A : Cfg} {φ : Phi} {w : World}

def GOk (A : Cfg) (φ : Phi) (w : World) : Prop := ∀ g cs, A.glob g = some cs → hasL (· != 0) cs = false ∧ R φ w (.pt 0 0 cs) (.pointer (some ⟨g, 0, none⟩))

def Fresh (φ : Phi) (lo hi : Nat) : Prop := ∀ i, lo ≤ i → i < hi → φ i = .no

def Post (φ : Phi) (w : World) (n n' : Nat) (E : List Eff) (d : D) (v : Value) (w' : World) : Prop := ∃ φ', Trans φ w φ' w' n n' E ∧ R φ' w' d v

def CallS (A : Cfg) (call : Call') : Prop := ∀ g ds n d n' E, call g ds n = some (d, n', E) → n ≠ 0 → n ≤ n' ∧ ∀ φ w vs, WF φ w → GOk A φ w → Fresh φ n n' → RL φ w ds vs →
  Does A.P (callFunc g vs.toArray) w (Post φ w n n' E d)

theorem evD_sound {fr : Fr} {ρ : Operand → Value} {x : Operand} (hg : GOk A φ w) (ht : ∀ t, x = .tmp t → R φ w (fr t) (ρ (.tmp t)))
    (hc : ∀ v, ρ (.const v) = v) (hgl : ∀ g, ρ (.global g) = .pointer (some ⟨g, 0, none⟩)) (hf : ∀ f, ρ (.func f) = .func (.func f) #[] #[]) : R φ w (evD A fr x) (ρ x) := by
  cases x with
  | tmp t => exact ht t rfl
  | const v => rw [hc]; exact R.constD φ w v
  | global g =>
    rw [hgl]
    simp only [evD]
    split
    · rename_i cs h; exact (hg g cs h).2
    · exact .bad _
  | func f =>
    rw [hf]
    exact .fn #[] (by simp) (by simp)

theorem does_v {P : Program} {s : Sem Value} {w w' : World} {v : Value} {K : Value → World → Prop} (h : s.run P w = .ok v w') (hk : K v w') : Does P (do pure (Next.value (← s))) w K := by
  unfold Does
  simp only [Sem.run_bind, h, Result.andThen_ok, Sem.run_pure]
  exact hk
theorem does_u {P : Program} {s : Sem Unit} {w w' : World} {K : Value → World → Prop} (h : s.run P w = .ok () w') (hk : K undef w') : Does P (do s; pure Next.skip) w K := by
  unfold Does
  simp only [Sem.run_bind, h, Result.andThen_ok, Sem.run_pure]
  exact hk
theorem does_p {P : Program} {w : World} {v : Value} {K : Value → World → Prop} (hk : K v w) : Does P (pure (.value v)) w K := by
  unfold Does
  simp only [Sem.run_pure]
  exact hk

theorem Post.stay (wf : WF φ w) {n : Nat} {d : D} {v : Value} (h : R φ w d v) : Post φ w n n [] d v w := ⟨φ, Trans.refl wf n, h⟩

theorem fresh1 {n : Nat} (h : Fresh φ n (n + 1)) : φ n = .no := h n (Nat.le_refl _) (by omega)

theorem dBuildSlice_n {P : Program} {t len n : Nat} {ps : List (Nat × D)} {d : D} {n' : Nat} {E : List Eff} (h : dBuildSlice P t len ps n = some (d, n', E)) : n' = n + 1 := by
  unfold dBuildSlice at h
  split at h
  · split at h
    · cases h; rfl
    · simp at h
  · simp at h
theorem dMake_n {P : Program} {t n : Nat} {l c d : D} {n' : Nat} {E : List Eff} (h : dMake P t l c n = some (d, n', E)) : n' = n + 1 := by
  unfold dMake at h
  split at h
  · split at h
    · split at h
      · cases h; rfl
      · simp at h
    · simp at h
  · simp at h
theorem dAppend_n {P : Program} {t n : Nat} {s x d : D} {n' : Nat} {E : List Eff} (h : dAppend P t s x n = some (d, n', E)) : n' = n + 1 := by
  unfold dAppend at h
  repeat' split at h
  all_goals first
    | (cases h; rfl)
    | (simp at h; done)

/-- the frame stands for the temporaries -/
structure Opn (A : Cfg) (φ : Phi) (w : World) (fr : Fr) (ρ : Operand → Value) (op : Op) : Prop where
  wf : WF φ w
  g : GOk A φ w
  tmps : ∀ t, Operand.tmp t ∈ op.operands → R φ w (fr t) (ρ (.tmp t))
  const : ∀ v, ρ (.const v) = v
  glob : ∀ g, ρ (.global g) = .pointer (some ⟨g, 0, none⟩)
  func : ∀ f, ρ (.func f) = .func (.func f) #[] #[]

theorem Opn.ev {fr : Fr} {ρ : Operand → Value} {op : Op} (h : Opn A φ w fr ρ op) {x : Operand} (hx : x ∈ op.operands) : R φ w (evD A fr x) (ρ x) :=
  evD_sound h.g (fun t ht => h.tmps t (ht ▸ hx)) h.const h.glob h.func

theorem opt_ev {fr : Fr} {ρ : Operand → Value} {op : Op} (h : Opn A φ w fr ρ op) {x : Option Operand} (hx : ∀ y, x = some y → y ∈ op.operands) : ∀ d, x.map (evD A fr) = some d → ∃ v, x.map ρ = some v ∧ R φ w d v := by
  intro d hd
  cases x with
  | none => simp at hd
  | some y => simp at hd; subst hd; exact ⟨_, rfl, h.ev (hx y rfl)⟩

theorem args_ev {fr : Fr} {ρ : Operand → Value} {op : Op} (h : Opn A φ w fr ρ op) (xs : List Operand) (hx : ∀ y ∈ xs, y ∈ op.operands) : RL φ w (xs.map (evD A fr)) (xs.map ρ) := by
  refine ⟨by simp, fun j d v h1 h2 => ?_⟩
  obtain ⟨x, hj, rfl⟩ := getElem?_map_some h1
  simp [hj] at h2
  subst h2
  exact h.ev (hx x (List.mem_of_getElem? hj))

theorem parts_ev {fr : Fr} {ρ : Operand → Value} {op : Op} (h : Opn A φ w fr ρ op) (ps : Array (Nat × Operand)) (hx : ∀ y ∈ ps.toList.map (·.2), y ∈ op.operands) :
    (ps.toList.map fun p => (p.1, evD A fr p.2)).length = (ps.map fun (i, x) => (i, ρ x)).size ∧
    ∀ (j : Nat) (a : Nat × D) (b : Nat × Value), (ps.toList.map fun p => (p.1, evD A fr p.2))[j]? = some a → (ps.map fun (i, x) => (i, ρ x))[j]? = some b → a.1 = b.1 ∧ R φ w a.2 b.2 := by
  refine ⟨by simp, fun j a b h1 h2 => ?_⟩
  obtain ⟨x, hj, rfl⟩ := getElem?_map_some h1
  have hj' : ps[j]? = some x := by simpa using hj
  simp [hj'] at h2
  subst h2
  exact ⟨rfl, h.ev (hx _ (List.mem_map.2 ⟨x, List.mem_of_getElem? hj, rfl⟩))⟩

/-! ### arguments that are lent, or given away -/
def noPhi : Phi := fun _ => .no
theorem wf_no (w : World) : WF noPhi w := ⟨rfl, fun i j b p q h => by simp [noPhi] at h, fun i b p h => by simp [noPhi] at h⟩
theorem untracked_no (b : Nat) : Untracked noPhi b := fun i b' p h => by simp [noPhi] at h

theorem R.frz0 {d : D} {v : Value} (wf : WF φ w) (h : R φ w d v) : R noPhi w (frz d) v :=
  (h.ren (φ' := noPhi) (ρ := fun _ => 0) rfl (fun i _ h0 => absurd rfl h0) (fun j b p hj => by simp [noPhi] at hj) wf).norm
theorem has_ids {p : Nat → Bool} : ∀ n, (∀ d : D, SizeOf.sizeOf d < n → d.has p = false → ∀ i ∈ d.ids, p i = false) ∧ (∀ l : List D, SizeOf.sizeOf l < n → hasL p l = false → ∀ i ∈ idsL l, p i = false) := by
  intro n
  induction n with
  | zero => exact ⟨fun d h => by omega, fun l h => by omega⟩
  | succ n ih =>
    refine ⟨fun d hs hd i hi => ?_, fun l hs hd i hi => ?_⟩
    · cases d with
      | val v => simp [D.ids] at hi
      | ifc => simp [D.ids] at hi
      | bad => simp [D.ids] at hi
      | agg cs => exact ih.2 cs (by simp at hs; omega) (by simpa [D.has] using hd) i (by simpa [D.ids] using hi)
      | tup cs => exact ih.2 cs (by simp at hs; omega) (by simpa [D.has] using hd) i (by simpa [D.ids] using hi)
      | fn f cs => exact ih.2 cs (by simp at hs; omega) (by simpa [D.has] using hd) i (by simpa [D.ids] using hi)
      | sl id off cap sz es =>
        simp only [D.has, Bool.or_eq_false_iff] at hd
        simp only [D.ids, List.mem_cons] at hi
        rcases hi with rfl | hi
        · exact hd.1
        · exact ih.2 es (by simp at hs; omega) hd.2 i hi
      | pt id off es =>
        simp only [D.has, Bool.or_eq_false_iff] at hd
        simp only [D.ids, List.mem_cons] at hi
        rcases hi with rfl | hi
        · exact hd.1
        · exact ih.2 es (by simp at hs; omega) hd.2 i hi
    · cases l with
      | nil => simp [idsL] at hi
      | cons d ds =>
        simp only [hasL, Bool.or_eq_false_iff] at hd
        simp only [List.cons.sizeOf_spec] at hs
        simp only [idsL, List.mem_append] at hi
        rcases hi with hi | hi
        · exact ih.1 d (by omega) hd.1 i hi
        · exact ih.2 ds (by omega) hd.2 i hi
theorem closed_ids {l : List D} (h : hasL (· != 0) l = false) : ∀ i ∈ idsL l, i = 0 := fun i hi => by simpa using (has_ids (SizeOf.sizeOf l + 1)).2 l (by omega) h i hi
theorem GOk.no (h : GOk A φ w) (wf : WF φ w) : GOk A noPhi w := fun g cs hg => by
  obtain ⟨h1, h2⟩ := h g cs hg
  refine ⟨h1, ?_⟩
  have h3 := h2.ren (φ' := noPhi) (ρ := fun _ => 0) rfl (fun i _ h0 => absurd rfl h0) (fun j b p hj => by simp [noPhi] at hj) wf
  rwa [ren_fix (fun i hi => by
    simp only [D.ids, List.mem_cons] at hi
    rcases hi with rfl | hi
    · rfl
    · exact (closed_ids h1 i hi).symm)] at h3
theorem own0L_get {cs : List D} (h : own0L cs = true) : ∀ {j : Nat} {d : D}, cs[j]? = some d → d.own0 = true := by
  induction cs with
  | nil => intro j d hj; simp at hj
  | cons x xs ih =>
    simp only [own0L, Bool.and_eq_true] at h
    intro j d hj
    cases j with
    | zero => simp at hj; subst hj; exact h.1
    | succ j => simp at hj; exact ih h.2 hj
theorem own0L_flat : ∀ {es : List D}, own0L es = true → own0L (flat es) = true
  | [], _ => rfl
  | e :: es, h => by
    simp only [own0L, Bool.and_eq_true] at h
    have happ : ∀ a b : List D, own0L a = true → own0L b = true → own0L (a ++ b) = true := by
      intro a b ha hb
      induction a with
      | nil => exact hb
      | cons x a ih => simp only [own0L, Bool.and_eq_true] at ha; simp [own0L, ha.1, ih ha.2]
    rw [flat_cons]
    refine happ _ _ ?_ (own0L_flat h.2)
    have h1 := h.1
    cases e <;> simp_all [D.cells, D.own0, own0L]
/-- what names no frozen place stands where more is tracked -/
theorem R.more {φ' : Phi} {d : D} {v : Value} (h : R φ w d v) (ho : d.own0 = true) (h1 : ∀ i, φ i ≠ .no → φ' i = φ i) : R φ' w d v := by
  have hpl : ∀ id off A m, (id = 0 → m = 0) → Place φ w id off A m → Place φ' w id off A m := by
    intro id off A m hz hp
    unfold Place at *
    split
    · rename_i h0; exact .inl (hz h0)
    · rename_i h0
      rw [if_neg h0] at hp
      cases hφ : φ id with
      | no => rw [hφ] at hp; exact hp.elim
      | void => rw [hφ] at hp; rw [h1 id (by rw [hφ]; simp), hφ]; exact hp
      | «at» b base => rw [hφ] at hp; rw [h1 id (by rw [hφ]; simp), hφ]; exact hp
  induction h with
  | val v => exact .val v
  | ifc t x => exact .ifc t x
  | bad v => exact .bad v
  | @sl id off cap sz es A c u hc hcap hsz hp ha hcell hr ih =>
    simp only [D.own0, Bool.and_eq_true, Bool.or_eq_true, bne_iff_ne, ne_eq, beq_iff_eq] at ho
    refine .sl u hc hcap hsz (hpl _ _ _ _ (fun h0 => ?_) hp) ha hcell (fun j d hj => ih j d hj (own0L_get (own0L_flat ho.2) hj))
    rcases ho.1 with h2 | h2
    · exact absurd h0 h2
    · rw [hcap 0 h2]; simp
  | @pt id off cs a u hp hcell hr ih =>
    simp only [D.own0, Bool.and_eq_true, Bool.or_eq_true, bne_iff_ne, ne_eq, List.isEmpty_iff] at ho
    refine .pt u (hpl _ _ _ _ (fun h0 => ?_) hp) hcell (fun j d hj => ih j d hj (own0L_get ho.2 hj))
    rcases ho.1 with h2 | h2
    · exact absurd h0 h2
    · rw [h2]; rfl
  | agg vs hl hr ih => exact .agg vs hl (fun j d v h1 h2 => ih j d v h1 h2 (own0L_get (by simpa [D.own0] using ho) h1))
  | fn vs hl hr ih => exact .fn vs hl (fun j d v h1 h2 => ih j d v h1 h2 (own0L_get (by simpa [D.own0] using ho) h1))
  | tup vs hl hr ih => exact .tup vs hl (fun j d v h1 h2 => ih j d v h1 h2 (own0L_get (by simpa [D.own0] using ho) h1))

theorem lent_post {w' : World} {n n' : Nat} {d : D} {v : Value} (wf : WF φ w) (hf : Fresh φ n n') (ho : d.own0 = true) (h : Post noPhi w n n' [] d v w') : Post φ w n n' [] d v w' := by
  obtain ⟨φ1, t, hv⟩ := h
  have hd : ∀ i, φ1 i ≠ .no → n ≤ i ∧ i < n' := fun i hi => by
    rcases t.dom i hi with h | h
    · exact absurd rfl h
    · exact h
  have hnew : ∀ i b p, φ1 i = .at b p → w.heap.size ≤ b := fun i b p hi => by
    rcases Nat.lt_or_ge b w.heap.size with hlt | hge
    · exact absurd rfl ((t.old b hlt (untracked_no b)).2 i b p hi)
    · exact hge
  have hold : ∀ b, b < w.heap.size → w'.heap[b]? = w.heap[b]? := fun b hb => (t.old b hb (untracked_no b)).1
  let φ2 : Phi := fun i => if n ≤ i ∧ i < n' then φ1 i else φ i
  have e2 : ∀ i, φ2 i = if n ≤ i ∧ i < n' then φ1 i else φ i := fun _ => rfl
  have hφ : ∀ i, φ i ≠ .no → φ2 i = φ i := fun i hi => by
    rw [e2]; split
    · rename_i h; exact absurd (hf i h.1 h.2) hi
    · rfl
  refine ⟨φ2, ⟨⟨?_, fun i j b p q hi hj => ?_, fun i b p hi => ?_⟩, fun x u hx => ?_, fun i hi => ?_, t.size, fun b hb hu => ⟨hold b hb, fun i b' p hi => ?_⟩, t.os, t.tape, t.output⟩, ?_⟩
  · rw [e2]; split
    · exact t.wf.zero
    · exact wf.zero
  · rw [e2] at hi hj
    split at hi <;> split at hj
    · exact t.wf.inj i j b p q hi hj
    · have := hnew i b p hi; have := wf.lt hj; omega
    · have := hnew j b q hj; have := wf.lt hi; omega
    · exact wf.inj i j b p q hi hj
  · rw [e2] at hi
    split at hi
    · exact t.wf.live i b p hi
    · obtain ⟨cs, e, hb⟩ := wf.live i b p hi
      exact ⟨cs, e, by rw [hold b (wf.lt hi)]; exact hb⟩
  · refine hx.mono hφ hold (fun i b p hi => ?_) t.size
    rw [e2] at hi
    split at hi
    · exact .inr (hnew i b p hi)
    · exact .inl hi
  · rw [e2] at hi
    split at hi
    · exact .inr (by assumption)
    · exact .inl hi
  · rw [e2] at hi
    split at hi
    · have := hnew i b' p hi; omega
    · exact hu i b' p hi
  · exact hv.more ho (fun i hi => by rw [e2, if_pos (hd i hi)])

def Phi.less (φ : Phi) (K : List Nat) : Phi := fun i => if i ∈ K then .no else φ i
theorem R.killAll0 (K : List Nat) {d : D} {v : Value} (h : R φ w d v) : R φ w (killAll K d) v := by
  induction K generalizing d with
  | nil => exact h
  | cons i K ih => exact ih (h.kill i)
mutual
theorem ids_kill0 {j i : Nat} : ∀ {d : D}, i ∈ (d.kill j).ids → i ∈ d.ids ∧ i ≠ j
  | .val v, h => by simp [D.kill, D.ids] at h
  | .ifc, h => by simp [D.kill, D.ids] at h
  | .bad, h => by simp [D.kill, D.ids] at h
  | .agg cs, h => by simp only [D.kill, D.ids] at h ⊢; exact ids_killL0 h
  | .tup cs, h => by simp only [D.kill, D.ids] at h ⊢; exact ids_killL0 h
  | .fn f cs, h => by simp only [D.kill, D.ids] at h ⊢; exact ids_killL0 h
  | .sl id off cap sz es, h => by
    simp only [D.kill] at h
    split at h
    · simp [D.ids] at h
    · rename_i hne
      simp only [D.ids, List.mem_cons] at h ⊢
      rcases h with rfl | h
      · exact ⟨.inl rfl, hne⟩
      · exact ⟨.inr (ids_killL0 h).1, (ids_killL0 h).2⟩
  | .pt id off es, h => by
    simp only [D.kill] at h
    split at h
    · simp [D.ids] at h
    · rename_i hne
      simp only [D.ids, List.mem_cons] at h ⊢
      rcases h with rfl | h
      · exact ⟨.inl rfl, hne⟩
      · exact ⟨.inr (ids_killL0 h).1, (ids_killL0 h).2⟩
theorem ids_killL0 {j i : Nat} : ∀ {ds : List D}, i ∈ idsL (killL j ds) → i ∈ idsL ds ∧ i ≠ j
  | [], h => by simp [killL, idsL] at h
  | d :: ds, h => by
    simp only [killL, idsL, List.mem_append] at h ⊢
    rcases h with h | h
    · exact ⟨.inl (ids_kill0 h).1, (ids_kill0 h).2⟩
    · exact ⟨.inr (ids_killL0 h).1, (ids_killL0 h).2⟩
end
theorem ids_killAll0 {i : Nat} : ∀ (K : List Nat) {d : D}, i ∈ (killAll K d).ids → i ∈ d.ids ∧ i ∉ K
  | [], _, h => ⟨h, by simp⟩
  | j :: K, d, h => by
    have h1 := ids_killAll0 K (d := d.kill j) h
    have h2 := ids_kill0 h1.1
    exact ⟨h2.1, by simp [h1.2, h2.2]⟩
theorem appE_kills : ∀ (K : List Nat) (d : D), appE (K.map .kill) d = killAll K d
  | [], _ => rfl
  | i :: K, d => appE_kills K (d.kill i)
theorem R.less {d : D} {v : Value} (K : List Nat) (wf : WF φ w) (h0 : 0 ∉ K) (h : R φ w d v) : R (φ.less K) w (d.ren (fun i => if i ∈ K then 0 else i)) v := by
  refine h.ren (by simp [h0]) (fun i hi hz => ?_) (fun j b p hj => ?_) wf
  · by_cases hk : i ∈ K
    · simp [hk] at hz
    · simp [Phi.less, hk]
  · unfold Phi.less at hj
    split at hj
    · simp at hj
    · rename_i hk
      refine ⟨j, hj, by simp [hk], fun e => ?_⟩
      rw [e, wf.zero] at hj; simp at hj
theorem Trans.drop (K : List Nat) (wf : WF φ w) (h0 : 0 ∉ K) (n : Nat) : Trans φ w (φ.less K) w n n (K.map .kill) where
  wf := by
    have hle : ∀ i b p, φ.less K i = .at b p → φ i = .at b p := fun i b p hi => by
      unfold Phi.less at hi; split at hi
      · simp at hi
      · exact hi
    refine ⟨by unfold Phi.less; split; rfl; exact wf.zero, fun i j b p q hi hj => wf.inj i j b p q (hle _ _ _ hi) (hle _ _ _ hj), fun i b p hi => wf.live i b p (hle _ _ _ hi)⟩
  keep d v hr := by
    rw [appE_kills]
    have h1 := R.less K wf h0 (R.killAll0 K hr)
    rwa [ren_fix (fun i hi => by simp [(ids_killAll0 K hi).2])] at h1
  dom i hi := by
    unfold Phi.less at hi; split at hi
    · exact absurd rfl hi
    · exact .inl hi
  size := Nat.le_refl _
  old b hb hu := ⟨rfl, fun i b' p hi => by
    unfold Phi.less at hi; split at hi
    · simp at hi
    · exact hu i b' p hi⟩
  os := rfl
  tape := rfl
  output := rfl
theorem frz_less {d : D} (K : List Nat) (h : ∀ i ∈ d.ids, i ∈ K ∨ i = 0) : d.ren (fun i => if i ∈ K then 0 else i) = d.ren (fun _ => 0) :=
  ren_congr d (fun i hi => by rcases h i hi with h | h <;> simp [h])
theorem in_idsL0 {i : Nat} {d : D} (hi : i ∈ d.ids) : ∀ {ds : List D}, d ∈ ds → i ∈ idsL ds
  | y :: ys, h => by
    simp only [idsL, List.mem_append]
    rcases List.mem_cons.1 h with rfl | h
    · exact .inl hi
    · exact .inr (in_idsL0 hi h)

theorem Does.mono {P : Program} {s : Sem Next} {w : World} {K K' : Value → World → Prop} (h : Does P s w K) (hk : ∀ v w', K v w' → K' v w') : Does P s w K' := by
  unfold Does at *
  generalize s.run P w = r at *
  cases r with
  | ok n w' =>
    cases n with
    | value v => exact hk _ _ h
    | skip => exact hk _ _ h
    | enter f args =>
      refine Calls.mono h fun e w'' he => ?_
      cases e with
      | returned v => exact hk _ _ he
      | panicked c => exact he
      | outgrown => exact he
    | row row args => exact Rows.mono h fun v w'' he => hk _ _ he
    | _ => exact h
  | halt x w' => exact h

theorem callM_sound {call : Call'} (h : CallS A call) : CallS A (callM A call) := by
  intro g ds n d n' E hr hn
  unfold callM at hr
  split at hr
  · obtain ⟨h1, h2⟩ := h _ _ _ _ _ _ hr hn
    exact ⟨h1, fun φ w vs wf hg hf hl => h2 φ w vs wf hg hf (hl.trans D.norm (fun d v h => h.norm))⟩
  · exact h _ _ _ _ _ _ hr hn
  · obtain ⟨hc, h3, ho⟩ := lentR_some hr
    simp only at h3 ho
    subst h3
    obtain ⟨h1, h2⟩ := h _ _ _ _ _ _ hc hn
    refine ⟨h1, fun φ w vs wf hg hf hl => ?_⟩
    exact (h2 noPhi w vs (wf_no w) (hg.no wf) (fun _ _ _ => rfl) (hl.trans frz (fun d v h => h.frz0 wf))).mono fun v w' hp => lent_post wf hf ho hp
  · obtain ⟨hc, h3⟩ := goneR_some hr
    simp only at h3 hc
    subst h3
    obtain ⟨h1, h2⟩ := h _ _ _ _ _ _ hc hn
    refine ⟨h1, fun φ w vs wf hg hf hl => ?_⟩
    have h0 : 0 ∉ movK ds := by simp [movK]
    have t := Trans.drop (movK ds) wf h0 n
    have hl' : RL (φ.less (movK ds)) w (ds.map frz) vs := by
      refine ⟨by simpa using hl.1, fun j x v hj hv => ?_⟩
      obtain ⟨y, hy, rfl⟩ := getElem?_map_some hj
      have h4 := R.less (movK ds) wf h0 (hl.2 j y v hy hv)
      rw [frz_less _ (fun i hi => by
        by_cases hz : i = 0
        · exact .inr hz
        · exact .inl (by simp [movK, hz]; exact in_idsL0 hi (List.mem_of_getElem? hy)))] at h4
      exact h4.norm
    have hg' : GOk A (φ.less (movK ds)) w := fun g cs hgc => by
      obtain ⟨h5, h6⟩ := hg g cs hgc
      refine ⟨h5, ?_⟩
      have h7 := R.less (movK ds) wf h0 h6
      rwa [ren_fix (fun i hi => by
        simp only [D.ids, List.mem_cons] at hi
        rcases hi with rfl | hi
        · simp [h0]
        · rw [closed_ids h5 i hi]; simp [h0])] at h7
    refine (h2 _ w vs t.wf hg' (fun i a b => by unfold Phi.less; split; rfl; exact hf i a b) hl').mono fun v w' hp => ?_
    obtain ⟨φ', t', hv⟩ := hp
    exact ⟨φ', by have := t.trans t' (Nat.le_refl _) h1; rwa [List.append_nil] at this, hv⟩
end
end Go.Cv

namespace Go.Cv
open Go
section
variable {A : Cfg}

/-- the result of a pure operation -/
theorem pure_case1 {g : D → D} {o : Option D} {n : Nat} {d : D} {n' : Nat} {E : List Eff} (h : (o.map fun d => (g d, n, ([] : List Eff))) = some (d, n', E)) :
    ∃ d0, o = some d0 ∧ d = g d0 ∧ n' = n ∧ E = [] := by
  cases o with
  | none => simp at h
  | some x => simp at h; exact ⟨x, rfl, h.1.symm, h.2.1.symm, h.2.2⟩

theorem pure_case {o : Option D} {n : Nat} {d : D} {n' : Nat} {E : List Eff} (h : (o.map fun d => (d, n, ([] : List Eff))) = some (d, n', E)) :
    o = some d ∧ n' = n ∧ E = [] := by
  cases o with
  | none => simp at h
  | some x => simp at h; exact ⟨by rw [h.1], h.2.1.symm, h.2.2⟩

theorem builtin_sound {b : Builtin} {ts : Array TypeId} {xs : List D} {n n' : Nat} {d : D} {E : List Eff} (h : builtinD A.P b ts.toList xs n = some (d, n', E)) (hn : n ≠ 0) :
    n ≤ n' ∧ ∀ φ w vs ty ks, WF φ w → Fresh φ n n' → RL φ w xs vs → Does A.P (builtin b ts ty ks vs.toArray) w (Post φ w n n' E d) := by
  unfold builtinD at h
  split at h
  · rename_i t x hts
    obtain ⟨h1, rfl, rfl⟩ := pure_case h; clear h; have h := h1; clear h1
    refine ⟨Nat.le_refl _, fun φ w vs ty ks wf hf hr => ?_⟩
    obtain rfl : ts = #[t] := by cases ts; simp_all
    match vs, hr with
    | [v], hr =>
      obtain ⟨u, hu, hru⟩ := len_sound (ty := ty) h (hr.2 0 _ _ rfl rfl)
      exact does_v hu (Post.stay wf hru)
    | [], hr => exact absurd hr.1 (by simp)
    | _ :: _ :: _, hr => exact absurd hr.1 (by simp)
  · rename_i t t' s x hts
    split at h
    case isFalse => simp at h
    rename_i ht
    subst ht
    obtain rfl := dAppend_n h
    refine ⟨by omega, fun φ w vs ty ks wf hf hr => ?_⟩
    obtain rfl : ts = #[t', t'] := by cases ts; simp_all
    match vs, hr with
    | [v, u], hr =>
      obtain ⟨z, w', φ', hz, htr, hrz⟩ := append_sound (ty := ty) h wf hn (fresh1 hf) (hr.2 0 _ _ rfl rfl) (hr.2 1 _ _ rfl rfl)
      exact does_v hz ⟨φ', htr, hrz⟩
    | [], hr => exact absurd hr.1 (by simp)
    | [_], hr => exact absurd hr.1 (by simp)
    | _ :: _ :: _ :: _, hr => exact absurd hr.1 (by simp)
  · rename_i t t' dd s hts
    split at h
    case isFalse => simp at h
    rename_i ht
    subst ht
    cases hc : dCopy A.P t' dd s with
    | none => simp [hc] at h
    | some r =>
      obtain ⟨r1, r2⟩ := r
      simp [hc] at h
      obtain ⟨rfl, rfl, rfl⟩ := h
      refine ⟨Nat.le_refl _, fun φ w vs ty ks wf hf hr => ?_⟩
      obtain rfl : ts = #[t', t'] := by cases ts; simp_all
      match vs, hr with
      | [v, u], hr =>
        obtain ⟨z, w', hz, htr, hrz⟩ := copy_sound (ty := ty) hc wf (hr.2 0 _ _ rfl rfl) (hr.2 1 _ _ rfl rfl)
        exact does_v hz ⟨φ, htr _, hrz⟩
      | [], hr => exact absurd hr.1 (by simp)
      | [_], hr => exact absurd hr.1 (by simp)
      | _ :: _ :: _ :: _, hr => exact absurd hr.1 (by simp)
  · rename_i t x hts
    cases hc : dClear A.P t x with
    | none => simp [hc] at h
    | some r =>
      simp [hc] at h
      obtain ⟨rfl, rfl, rfl⟩ := h
      refine ⟨Nat.le_refl _, fun φ w vs ty ks wf hf hr => ?_⟩
      obtain rfl : ts = #[t] := by cases ts; simp_all
      match vs, hr with
      | [v], hr =>
        obtain ⟨w', hz, htr⟩ := clear_sound (ty := ty) hc wf (hr.2 0 _ _ rfl rfl)
        exact does_v hz ⟨φ, htr _, .tup #[] (by simp) (by simp)⟩
      | [], hr => exact absurd hr.1 (by simp)
      | _ :: _ :: _, hr => exact absurd hr.1 (by simp)
  · obtain ⟨h1, rfl, rfl⟩ := pure_case h; clear h; have h := h1; clear h1
    refine ⟨Nat.le_refl _, fun φ w vs ty ks wf hf hr => ?_⟩
    obtain ⟨u, hu, hru⟩ := minmax_sound (ty := ty) (at_ := ts) (P := A.P) h (vs := vs.toArray) (by simpa using hr)
    exact does_v (by simpa using hu) (Post.stay wf hru)
  · obtain ⟨h1, rfl, rfl⟩ := pure_case h; clear h; have h := h1; clear h1
    refine ⟨Nat.le_refl _, fun φ w vs ty ks wf hf hr => ?_⟩
    obtain ⟨u, hu, hru⟩ := minmax_sound (ty := ty) (at_ := ts) (P := A.P) h (vs := vs.toArray) (by simpa using hr)
    exact does_v (by simpa using hu) (Post.stay wf hru)
  · rename_i t id off k sz es hts
    split at h
    case isFalse => simp at h
    rename_i he
    obtain ⟨e, he⟩ := Option.isSome_iff_exists.1 he
    cases h
    refine ⟨Nat.le_refl _, fun φ w vs ty ks wf hf hr => ?_⟩
    obtain rfl : ts = #[t] := by cases ts; simp_all
    match vs, hr with
    | [v], hr =>
      have h0 := hr.2 0 _ _ rfl rfl
      cases h0 with
      | @sl _ _ _ _ _ a c u hc hcap =>
        have := hcap k rfl
        subst this
        exact does_v (v := .int .i64 c) (w' := w) (by simp [Builtin.cap_, run_underlying (elem_under he), goInt]) (Post.stay wf (.val _))
    | [], hr => exact absurd hr.1 (by simp)
    | _ :: _ :: _, hr => exact absurd hr.1 (by simp)
  · simp at h

set_option maxHeartbeats 1000000 in
theorem op_sound {call : Call'} {fr : Fr} {n n' : Nat} {o : Oper} {d : D} {E : List Eff} (h : opD A call fr n o.op = some (d, n', E)) (hn : n ≠ 0) (hcall : CallS A call) :
    n ≤ n' ∧ ∀ φ w ρ, Opn A φ w fr ρ o.op → Fresh φ n n' → Does A.P (execOp ρ o) w (Post φ w n n' E d) := by
  obtain ⟨dst, op, type, pos, after, guard⟩ := o
  simp only at h ⊢
  unfold opD at h
  split at h
  case h_1 x =>
    cases h
    exact ⟨Nat.le_refl _, fun φ w ρ ho hf => does_p (Post.stay ho.wf (ho.ev (by simp [Op.operands])))⟩
  case h_2 x =>
    cases h
    exact ⟨Nat.le_refl _, fun φ w ρ ho hf => does_p (Post.stay ho.wf (ho.ev (by simp [Op.operands])))⟩
  case h_3 c a b =>
    split at h
    case h_2 => simp at h
    rename_i t ht
    cases h
    refine ⟨Nat.le_refl _, fun φ w ρ ho hf => ?_⟩
    have hc := ho.ev (x := c) (by simp [Op.operands])
    rw [ht] at hc
    have ha := ho.ev (x := a) (by simp [Op.operands])
    have hb := ho.ev (x := b) (by simp [Op.operands])
    generalize hρ : ρ c = cv at hc
    cases hc
    have : (execOp ρ ⟨dst, .pick c a b, type, pos, after, guard⟩).run A.P w = .ok (.value (if t then ρ a else ρ b)) w := by simp [execOp, hρ, asBool]
    unfold Does
    rw [this]
    refine Post.stay ho.wf ?_
    cases t
    · exact hb
    · exact ha
  case h_4 elem =>
    cases hz : tyZero A.P elem with
    | none => simp [hz] at h
    | some zs =>
      simp [hz] at h
      obtain ⟨rfl, rfl, rfl⟩ := h
      refine ⟨by omega, fun φ w ρ ho hf => ?_⟩
      obtain ⟨w', φ', hr, ht, hd⟩ := alloc_sound ho.wf hn (fresh1 hf) hz
      exact does_v hr ⟨φ', ht, hd⟩
  case h_5 t x =>
    split at h
    case isFalse => simp at h
    rename_i hg
    cases h
    refine ⟨by omega, fun φ w ρ ho hf => ?_⟩
    obtain ⟨w', φ', hr, ht, hd⟩ := box_sound (P := A.P) (elem := t) ho.wf hn (fresh1 hf) (ho.ev (x := x) (by simp [Op.operands])) hg
    exact does_v hr ⟨φ', ht, hd⟩
  case h_6 t parts =>
    obtain ⟨h1, rfl, rfl⟩ := pure_case h; clear h; have h := h1; clear h1
    refine ⟨Nat.le_refl _, fun φ w ρ ho hf => ?_⟩
    obtain ⟨hl, hp⟩ := parts_ev ho parts (by simp [Op.operands])
    obtain ⟨v, hv, hrv⟩ := build_sound h hl hp
    exact does_v hv (Post.stay ho.wf hrv)
  case h_7 t len parts =>
    obtain rfl := dBuildSlice_n h
    refine ⟨by omega, fun φ w ρ ho hf => ?_⟩
    obtain ⟨hl, hp⟩ := parts_ev ho parts (by simp [Op.operands])
    obtain ⟨v, w', φ', hv, ht, hrv⟩ := buildSlice_sound h ho.wf hn (fresh1 hf) hl hp
    exact does_v hv ⟨φ', ht, hrv⟩
  case h_8 t a =>
    obtain ⟨h1, rfl, rfl⟩ := pure_case h; clear h; have h := h1; clear h1
    refine ⟨Nat.le_refl _, fun φ w ρ ho hf => ?_⟩
    obtain ⟨v, hv, hrv⟩ := load_sound h (ho.ev (x := a) (by simp [Op.operands]))
    exact does_v hv (Post.stay ho.wf hrv)
  case h_9 t a x =>
    cases hs : dStore A.P t (evD A fr a) (evD A fr x) with
    | none => simp [hs] at h
    | some E' =>
      simp [hs] at h
      obtain ⟨rfl, rfl, rfl⟩ := h
      refine ⟨Nat.le_refl _, fun φ w ρ ho hf => ?_⟩
      obtain ⟨w', hr, ht⟩ := store_sound hs ho.wf (ho.ev (x := a) (by simp [Op.operands])) (ho.ev (x := x) (by simp [Op.operands]))
      exact does_u hr ⟨φ, ht _, .bad _⟩
  case h_10 x =>
    split at h
    · rename_i id off cs hx
      cases h
      refine ⟨Nat.le_refl _, fun φ w ρ ho hf => ?_⟩
      have hr := ho.ev (x := x) (by simp [Op.operands])
      rw [hx] at hr
      generalize hρ : ρ x = v at hr
      have : (execOp ρ ⟨dst, .nilCheck x, type, pos, after, guard⟩).run A.P w = .ok (.value v) w := by
        cases hr
        simp [execOp, hρ]
      unfold Does
      rw [this]
      exact Post.stay ho.wf hr
    · rename_i f caps hx
      cases h
      refine ⟨Nat.le_refl _, fun φ w ρ ho hf => ?_⟩
      have hr := ho.ev (x := x) (by simp [Op.operands])
      rw [hx] at hr
      generalize hρ : ρ x = v at hr
      have : (execOp ρ ⟨dst, .nilCheck x, type, pos, after, guard⟩).run A.P w = .ok (.value v) w := by
        cases hr
        simp [execOp, hρ]
      unfold Does
      rw [this]
      exact Post.stay ho.wf hr
    · simp at h
  case h_11 op xt x y yt =>
    obtain ⟨h1, rfl, rfl⟩ := pure_case h; clear h; have h := h1; clear h1
    refine ⟨Nat.le_refl _, fun φ w ρ ho hf => ?_⟩
    obtain ⟨z, hz, hrz⟩ := bin_sound (ox := x) (oy := y) (fun h => h) h (ho.ev (x := x) (by simp [Op.operands])) (ho.ev (x := y) (by simp [Op.operands]))
    exact does_v hz (Post.stay ho.wf hrz)
  case h_12 op xt x =>
    obtain ⟨h1, rfl, rfl⟩ := pure_case h; clear h; have h := h1; clear h1
    refine ⟨Nat.le_refl _, fun φ w ρ ho hf => ?_⟩
    obtain ⟨z, hz, hrz⟩ := un_sound h (ho.ev (x := x) (by simp [Op.operands]))
    exact does_v hz (Post.stay ho.wf hrz)
  case h_13 src dst' x =>
    obtain ⟨h1, rfl, rfl⟩ := pure_case h; clear h; have h := h1; clear h1
    refine ⟨Nat.le_refl _, fun φ w ρ ho hf => ?_⟩
    obtain ⟨z, hz, hrz⟩ := conv_sound h (ho.ev (x := x) (by simp [Op.operands]))
    exact does_v hz (Post.stay ho.wf hrz)
  case h_14 t x =>
    split at h
    case isFalse => simp at h
    rename_i hc
    cases h
    refine ⟨Nat.le_refl _, fun φ w ρ ho hf => ?_⟩
    refine does_v (v := .iface t (ρ x)) (w' := w) ?_ (Post.stay ho.wf (.ifc _ _))
    unfold tyConcrete at hc
    cases hu : A.P.underlying t with
    | none => simp [hu] at hc
    | some dd => cases dd <;> simp [hu] at hc <;> simp [Instr.makeInterface, run_underlying hu]
  case h_15 fn first captured =>
    split at h
    case isFalse => simp at h
    rename_i hc
    cases h
    refine ⟨Nat.le_refl _, fun φ w ρ ho hf => ?_⟩
    have hf0 : first = #[] := by simpa using hc
    subst hf0
    have hl := args_ev ho captured.toList (by simp [Op.operands])
    refine does_v (v := .func fn #[] (captured.map ρ)) (w' := w) (by simp [Instr.makeFunc]) (Post.stay ho.wf (.fn _ (by simp) (fun j d v h1 h2 => hl.2 j d v h1 (by simpa using h2))))
  case h_16 t l c =>
    obtain rfl := dMake_n h
    refine ⟨by omega, fun φ w ρ ho hf => ?_⟩
    obtain ⟨v, w', φ', hv, ht, hrv⟩ := make_sound h ho.wf hn (fresh1 hf) (ho.ev (x := l) (by simp [Op.operands])) (ho.ev (x := c) (by simp [Op.operands]))
    exact does_v hv ⟨φ', ht, hrv⟩
  case h_17 t x lo hi mx =>
    obtain ⟨d0, h1, rfl, rfl, rfl⟩ := pure_case1 h; clear h; have h := h1; clear h1
    refine ⟨Nat.le_refl _, fun φ w ρ ho hf => ?_⟩
    obtain ⟨z, hz, hrz⟩ := slice_sound (lov := lo.map ρ) (hiv := hi.map ρ) (mxv := mx.map ρ) h (ho.ev (x := x) (by simp [Op.operands]))
      (opt_ev ho (by rintro y rfl; simp [Op.operands])) (by cases lo <;> simp) (opt_ev ho (by rintro y rfl; simp [Op.operands])) (by cases hi <;> simp)
      (opt_ev ho (by rintro y rfl; simp [Op.operands])) (by cases mx <;> simp)
    exact does_v hz (Post.stay ho.wf hrz.norm2)
  case h_18 t x f =>
    obtain ⟨d0, h1, rfl, rfl, rfl⟩ := pure_case1 h; clear h; have h := h1; clear h1
    refine ⟨Nat.le_refl _, fun φ w ρ ho hf => ?_⟩
    obtain ⟨z, hz, hrz⟩ := fieldAddr_sound h (ho.ev (x := x) (by simp [Op.operands]))
    exact does_v hz (Post.stay ho.wf hrz.norm1)
  case h_19 t x f =>
    obtain ⟨h1, rfl, rfl⟩ := pure_case h; clear h; have h := h1; clear h1
    refine ⟨Nat.le_refl _, fun φ w ρ ho hf => ?_⟩
    obtain ⟨z, hz, hrz⟩ := field_sound h (ho.ev (x := x) (by simp [Op.operands]))
    exact does_v hz (Post.stay ho.wf hrz)
  case h_20 t x i =>
    obtain ⟨d0, h1, rfl, rfl, rfl⟩ := pure_case1 h; clear h; have h := h1; clear h1
    refine ⟨Nat.le_refl _, fun φ w ρ ho hf => ?_⟩
    obtain ⟨z, hz, hrz⟩ := indexAddr_sound h (ho.ev (x := x) (by simp [Op.operands])) (ho.ev (x := i) (by simp [Op.operands]))
    exact does_v hz (Post.stay ho.wf hrz.norm1)
  case h_21 t x i =>
    obtain ⟨h1, rfl, rfl⟩ := pure_case h; clear h; have h := h1; clear h1
    refine ⟨Nat.le_refl _, fun φ w ρ ho hf => ?_⟩
    obtain ⟨z, hz, hrz⟩ := index_sound h (ho.ev (x := x) (by simp [Op.operands])) (ho.ev (x := i) (by simp [Op.operands]))
    exact does_v hz (Post.stay ho.wf hrz)
  case h_22 t ix =>
    split at h
    case h_2 => simp at h
    rename_i ds hds
    obtain ⟨h1, rfl, rfl⟩ := pure_case h; clear h; have h := h1; clear h1
    refine ⟨Nat.le_refl _, fun φ w ρ ho hf => ?_⟩
    have hr := ho.ev (x := t) (by simp [Op.operands])
    rw [hds] at hr
    generalize hρ : ρ t = v at hr
    cases hr with
    | tup vs hl hr =>
      have hlt : ix < vs.size := by have := (List.getElem?_eq_some_iff.1 h).1; omega
      refine does_v (v := vs[ix]) (w' := w) ?_ (Post.stay ho.wf (hr ix d _ h (by simp [hlt])))
      simp only [hρ, Instr.extract, Array.getElem?_eq_getElem hlt, Sem.run_pure]
  case h_23 c =>
    split at h
    · rename_i b hb
      obtain ⟨hle, hh⟩ := builtin_sound h hn
      refine ⟨hle, fun φ w ρ ho hf => ?_⟩
      have hl := args_ev ho c.args.toList (fun y hy => by simp [Op.operands, Call.operands]; exact .inr (by simpa using hy))
      have this := fun ks => hh φ w _ type ks ho.wf hf hl
      have e : (c.args.toList.map ρ).toArray = c.args.map ρ := by rw [← Array.toList_map]
      rw [e] at this
      unfold Does at this ⊢
      simp only [execOp, resolve, hb, invoke, Sem.run_bind, Sem.run_pure, Result.andThen_ok]
      exact this _
    · rename_i f hf'
      split at h
      case h_2 => simp at h
      rename_i g caps hg
      obtain ⟨hle, hh⟩ := callM_sound hcall _ _ _ _ _ _ h hn
      refine ⟨hle, fun φ w ρ ho hf => ?_⟩
      have hl := args_ev ho c.args.toList (fun y hy => by simp [Op.operands, Call.operands]; exact .inr (by simpa using hy))
      have hfv := ho.ev (x := f) (by simp [Op.operands, Call.operands, hf'])
      rw [hg] at hfv
      generalize hρ : ρ f = v at hfv
      cases hfv with
      | fn vs hl' hr' =>
        have hl2 : RL φ w caps vs.toList := ⟨by simpa using hl', fun j d v h1 h2 => hr' j d v h1 (by simpa using h2)⟩
        have hl3 := hl.append hl2
        have := hh φ w _ ho.wf ho.g hf hl3
        have e : (c.args.toList.map ρ ++ vs.toList).toArray = c.args.map ρ ++ vs := by rw [← Array.toList_map]; simp
        rw [e] at this
        unfold Does at this ⊢
        simpa [execOp, resolve, hf', hρ, Deferred.ofValue, invoke] using this
    · simp at h
  case h_24 => simp at h
end
end Go.Cv

namespace Go.Cv
open Go

abbrev Res := Option (D × Nat × List Eff)

/-! ### regions -/
def dWanted (ops : List Oper) (fr : Fr) (o : Oper) : Option Bool :=
  match o.guard with
  | none => some true
  | some (g, want) =>
    match (ops[g]?).bind (·.dst) with
    | some t => match fr t with
      | .val (.bool b) => some (b == want)
      | .val _ => some false
      | _ => none
    | none => none

/-- the operations in the order of the text -/
def opsD (A : Cfg) (call : Call') (ops : List Oper) : List Oper → Fr → Nat → Option (Fr × Nat × List Eff)
  | [], fr, n => some (fr, n, [])
  | o :: rest, fr, n =>
    match dWanted ops fr o with
    | some true =>
      match opD A call fr n o.op with
      | some (d, n1, E) => (opsD A call ops rest (upd (appF E fr) o.dst d) n1).map fun r => (r.1, r.2.1, E ++ r.2.2)
      | none => none
    | some false => opsD A call ops rest (upd fr o.dst (.val undef)) n
    | none => none

structure Rec where
  d : D
  n0 : Nat
  n1 : Nat
  E : List Eff
  sk : Bool
  xs : List D

def oTmps (op : Op) : List Tmp := op.operands.toList.filterMap fun | .tmp t => some t | _ => none
def slots (ops : List Oper) (o : Oper) : List Tmp :=
  oTmps o.op ++ (match o.guard with | some (g, _) => ((ops[g]?).bind (·.dst)).toList | none => [])

/-- the same, with a record of each operation -/
def opsR (A : Cfg) (call : Call') (ops : List Oper) : List Oper → Fr → Nat → Option (List Rec)
  | [], _, _ => some []
  | o :: rest, fr, n =>
    match dWanted ops fr o with
    | some true =>
      match opD A call fr n o.op with
      | some (d, n1, E) => (opsR A call ops rest (upd (appF E fr) o.dst d) n1).map fun r => ⟨d, n, n1, E, false, (slots ops o).map fr⟩ :: r
      | none => none
    | some false => (opsR A call ops rest (upd fr o.dst (.val undef)) n).map fun r => ⟨.val undef, n, n, [], true, (slots ops o).map fr⟩ :: r
    | none => none

mutual
def D.clean (p : Nat → Bool) : D → Bool
  | .sl id _ _ _ es => !p id && cleanL p es
  | .pt id _ cs => !p id && cleanL p cs
  | .agg cs => cleanL p cs
  | .fn _ caps => cleanL p caps
  | .tup ds => cleanL p ds
  | .val _ => true
  | .ifc => true
  | .bad => false
def cleanL (p : Nat → Bool) : List D → Bool
  | [] => true
  | d :: ds => d.clean p && cleanL p ds
end

def binding (o : Oper) : List Nat := (o.after.toList.filter (Region.binds .any)).map (·.on)
/-- what comes before each operation, as bits -/
def befs : List Oper → List Nat → List Nat
  | [], acc => acc
  | o :: rest, acc => befs rest (acc ++ [(binding o).foldl (fun s j => s ||| 2 ^ j ||| acc.getD j 0) 0])
def comparable (bs : List Nat) (i j : Nat) : Bool := (bs.getD i 0).testBit j || (bs.getD j 0).testBit i
def isMove : Op → Bool
  | .move _ => true
  | .assign _ => true
  | _ => false

def effIds (rs : List Rec) : List Nat := rs.flatMap fun r => r.E.map Eff.id

/-- operation i is beside an effect of j -/
def besideOk (ids : List Nat) (o : Oper) (r : Rec) : Bool :=
  r.E.isEmpty && ((isMove o.op && !r.sk && o.guard.isNone) || (r.xs.all (D.clean ids.contains) && r.d.clean ids.contains))

def dynR (ops : List Oper) (rs : List Rec) : Bool :=
  let bs := befs ops []
  let ids := effIds rs
  ids.all (· != 0) && (List.range rs.length).all fun j => match rs[j]? with
    | some rj => rj.E.isEmpty || (List.range rs.length).all fun i => i == j || comparable bs i j || (match ops[i]?, rs[i]? with | some o, some r => besideOk ids o r | _, _ => false)
    | none => false

def dyn (A : Cfg) (call : Call') (ops : List Oper) (fr : Fr) (n : Nat) : Bool :=
  match opsR A call ops ops fr n with
  | some rs => dynR ops rs
  | none => false

def regD (A : Cfg) (call : Call') (ops : List Oper) (draw : Bool) (fr : Fr) (n : Nat) : Option (Fr × Nat × List Eff) :=
  match opsD A call ops ops fr n with
  | some r => if draw && !r.2.2.isEmpty && !dyn A call ops fr n then none else some r
  | none => none

def namesOf (ops : List Oper) (o : Oper) : List Tmp := o.dst.toList ++ slots ops o
/-- edges go back; what shares a temporary is comparable -/
def statOk (ops : List Oper) : Bool :=
  let bs := befs ops []
  let ix := List.range ops.length
  (ix.all fun k => match ops[k]? with | some o => (binding o).all (· < k) | none => true) &&
  (ix.all fun k => match ops[k]? with
    | some o => (namesOf ops o).all fun t => ix.all fun i => i == k || comparable bs i k || (match ops[i]? with | some o' => o'.dst != some t | none => true)
    | none => true)

def codeOk (N : Nat) : Code → Bool
  | .skip => true
  | .label _ => true
  | .exit _ => true
  | .ret => true
  | .region _ ops draw => (ops.toList.all fun o => match o.dst with | some t => t < N | none => true) && (!draw || statOk ops.toList)
  | .seq a b => codeOk N a && codeOk N b
  | .cond _ a b => codeOk N a && codeOk N b
  | .block _ a => codeOk N a
  | .loop a => codeOk N a
  | _ => false
def fnOk (fn : Func) (c : Code) : Bool := fn.name != "runtime.NumGoroutine" && codeOk fn.ntmps c

/-! ### what a call leaves -/
def Eff.mapD (f : D → D) : Eff → Eff
  | .wr i k c => .wr i k (f c)
  | .kill i => .kill i
def Eff.pay : Eff → List Nat
  | .wr _ _ c => c.ids
  | .kill _ => []
def oldE (n : Nat) (E : List Eff) : List Eff :=
  let K := (E.map Eff.id).filter (n ≤ ·)
  (E.filter (fun e => e.id < n)).map (Eff.mapD (killAll K))
def keptIds (keep : Nat) (n : Nat) (d : D) (E : List Eff) : List Nat :=
  if keep = 1 then ((d.ids ++ E.flatMap Eff.pay).filter (n ≤ ·)).eraseDups else []
def posOf (i : Nat) : List Nat → Option Nat
  | [] => none
  | j :: l => if j = i then some 0 else (posOf i l).map (· + 1)
def renId (n : Nat) (kept : List Nat) (i : Nat) : Nat :=
  if i < n then i else match posOf i kept with | some j => n + j | none => 0
def leave (keep : Nat) (n : Nat) (d : D) (E : List Eff) : D × Nat × List Eff :=
  let E1 := oldE n E
  let kept := keptIds keep n d E1
  ((if keep = 0 then (d.ren (renId n kept)).norm else d.ren (renId n kept)), n + kept.length, E1.map (Eff.mapD (D.ren (renId n kept))))

def lowL (n : Nat) (ds : List D) : Bool := (idsL ds).all (· < n)

def argsFr (ds : List D) : Fr := fun t => (ds[t]?).getD .bad

def resV (P : Program) (fr : Fr) : ResultVar → Option D
  | .tmp t => some (fr t)
  | .cell a t => dLoad P t (fr a)
def resL (P : Program) (fr : Fr) : List ResultVar → Option (List D)
  | [] => some []
  | r :: rs => match resV P fr r, resL P fr rs with
    | some d, some ds => some (d :: ds)
    | _, _ => none
def resD (P : Program) (fr : Fr) (rs : List ResultVar) : Option D :=
  match resL P fr rs with
  | some [d] => some d
  | some ds => some (.tup ds)
  | none => none

/-! ### code -/
inductive Ex where
  | normal
  | exit (id : Nat)
  | ret
  deriving DecidableEq, Inhabited

abbrev CRes := Option (Ex × Fr × Nat × List Eff)

def seqR (r : CRes) (k : Fr → Nat → CRes) : CRes :=
  match r with
  | some (.normal, fr, n, E) => match k fr n with
    | some (x, fr', n', E') => some (x, fr', n', E ++ E')
    | none => none
  | r => r
def blockR (id : Nat) (r : CRes) : CRes :=
  match r with
  | some (.exit i, fr, n, E) => if i = id then some (.normal, fr, n, E) else some (.exit i, fr, n, E)
  | r => r
def endR (A : Cfg) (f : FuncId) (rs : List ResultVar) (n : Nat) (r : CRes) : Res :=
  match r with
  | some (.normal, fr, _, E) => (resD A.P fr rs).map fun d => leave (A.keep f) n d E
  | some (.ret, fr, _, E) => (resD A.P fr rs).map fun d => leave (A.keep f) n d E
  | _ => none

mutual
def evalF (A : Cfg) : Nat → Code → Fr → Nat → CRes
  | 0, _, _, _ => none
  | k + 1, c, fr, n =>
    match c with
    | .skip => some (.normal, fr, n, [])
    | .label _ => some (.normal, fr, n, [])
    | .region _ ops draw => (regD A (callF A k) ops.toList draw fr n).map fun r => (.normal, r.1, r.2.1, r.2.2)
    | .seq a b => seqR (evalF A k a fr n) (fun fr n => evalF A k b fr n)
    | .cond c x y => match evD A fr c with
      | .val (.bool t) => if t then evalF A k x fr n else evalF A k y fr n
      | _ => none
    | .block id c => blockR id (evalF A k c fr n)
    | .loop c => seqR (evalF A k c fr n) (fun fr n => evalF A k (.loop c) fr n)
    | .exit id => some (.exit id, fr, n, [])
    | .ret => some (.ret, fr, n, [])
    | _ => none
def callF (A : Cfg) : Nat → FuncId → List D → Nat → Res
  | 0, _, _, _ => none
  | k + 1, f, ds, n =>
    match A.ext f with
    | some h => h ds n
    | none =>
      match A.P.funcs[f]? with
      | some fn => match fn.body with
        | some c => if fnOk fn c = true ∧ lowL n ds = true then endR A f fn.results.toList n (evalF A k c (argsFr ds) n) else none
        | none => none
      | none => none
end

/-! ### more fuel, the same -/

theorem opD_mono {A : Cfg} {c c' : Call'} (h : Le c c') {fr : Fr} {n : Nat} {op : Op} {r : D × Nat × List Eff} (hr : opD A c fr n op = some r) : opD A c' fr n op = some r := by
  unfold opD at *
  split at hr <;> try exact hr
  rename_i c0
  revert hr
  split
  · exact id
  · split
    · exact callM_mono h _ _ _ _
    · exact id
  · exact id

theorem opsD_mono {A : Cfg} {c c' : Call'} (h : Le c c') {ops : List Oper} : ∀ (l : List Oper) {fr : Fr} {n : Nat} {r}, opsD A c ops l fr n = some r → opsD A c' ops l fr n = some r
  | [], _, _, _, hr => hr
  | o :: l, fr, n, r, hr => by
    simp only [opsD] at hr ⊢
    split at hr
    · cases ho : opD A c fr n o.op with
      | none => simp [ho] at hr
      | some q =>
        simp only [ho] at hr
        simp only [opD_mono h ho]
        cases hq : opsD A c ops l (upd (appF q.2.2 fr) o.dst q.1) q.2.1 with
        | none => simp [hq] at hr
        | some z => simp only [hq] at hr; simp only [opsD_mono h l hq]; exact hr
    · exact opsD_mono h l hr
    · simp at hr

theorem opsR_mono {A : Cfg} {c c' : Call'} (h : Le c c') {ops : List Oper} : ∀ (l : List Oper) {fr : Fr} {n : Nat} {r}, opsR A c ops l fr n = some r → opsR A c' ops l fr n = some r
  | [], _, _, _, hr => hr
  | o :: l, fr, n, r, hr => by
    simp only [opsR] at hr ⊢
    split at hr
    · cases ho : opD A c fr n o.op with
      | none => simp [ho] at hr
      | some q =>
        simp only [ho] at hr
        simp only [opD_mono h ho]
        cases hq : opsR A c ops l (upd (appF q.2.2 fr) o.dst q.1) q.2.1 with
        | none => simp [hq] at hr
        | some z => simp only [hq] at hr; simp only [opsR_mono h l hq]; exact hr
    · cases hq : opsR A c ops l (upd fr o.dst (.val undef)) n with
      | none => simp [hq] at hr
      | some z => simp only [hq] at hr; simp only [opsR_mono h l hq]; exact hr
    · simp at hr

theorem dyn_mono {A : Cfg} {c c' : Call'} (h : Le c c') {ops : List Oper} {fr : Fr} {n : Nat} (hr : dyn A c ops fr n = true) : dyn A c' ops fr n = true := by
  unfold dyn at *
  cases hq : opsR A c ops ops fr n with
  | none => simp [hq] at hr
  | some z => simp only [hq] at hr; simp only [opsR_mono h ops hq]; exact hr

theorem regD_some {A : Cfg} {c : Call'} {ops : List Oper} {draw : Bool} {fr : Fr} {n : Nat} {r : Fr × Nat × List Eff} :
    regD A c ops draw fr n = some r ↔ opsD A c ops ops fr n = some r ∧ (draw = true → r.2.2 ≠ [] → dyn A c ops fr n = true) := by
  unfold regD
  cases ho : opsD A c ops ops fr n with
  | none => simp
  | some q =>
    simp only [Option.some.injEq]
    constructor
    · intro h
      split at h
      · simp at h
      · rename_i hc
        simp at h
        subst h
        refine ⟨rfl, fun h1 h2 => ?_⟩
        simp only [h1, Bool.true_and, Bool.and_eq_true, Bool.not_eq_true', not_and, Bool.not_eq_false] at hc
        exact hc (by simpa using h2)
    · rintro ⟨rfl, h⟩
      rw [if_neg]
      intro hc
      simp only [Bool.and_eq_true, Bool.not_eq_true'] at hc
      obtain ⟨⟨h1, h2⟩, h3⟩ := hc
      rw [h h1 (by simpa using h2)] at h3
      simp at h3

theorem regD_mono {A : Cfg} {c c' : Call'} (h : Le c c') {ops : List Oper} {draw : Bool} {fr : Fr} {n : Nat} {r} (hr : regD A c ops draw fr n = some r) : regD A c' ops draw fr n = some r := by
  rw [regD_some] at *
  exact ⟨opsD_mono h _ hr.1, fun h1 h2 => dyn_mono h (hr.2 h1 h2)⟩

theorem seqR_mono {r r' : CRes} {k k' : Fr → Nat → CRes} {x} (h1 : ∀ x, r = some x → r' = some x) (h2 : ∀ fr n x, k fr n = some x → k' fr n = some x)
    (h : seqR r k = some x) : seqR r' k' = some x := by
  cases hr : r with
  | none => subst hr; simp [seqR] at h
  | some q =>
    rw [h1 q hr]
    subst hr
    obtain ⟨e, fr, n, E⟩ := q
    unfold seqR at *
    cases e <;> simp only at h ⊢
    · cases hk : k fr n with
      | none => simp [hk] at h
      | some z => simp only [hk] at h; simp only [h2 _ _ _ hk]; exact h
    · exact h
    · exact h

theorem mono_both (A : Cfg) : ∀ k, (∀ c fr n x, evalF A k c fr n = some x → evalF A (k + 1) c fr n = some x) ∧ Le (callF A k) (callF A (k + 1)) := by
  intro k
  induction k with
  | zero => exact ⟨fun c fr n x h => by simp [evalF] at h, fun f ds n r h => by simp [callF] at h⟩
  | succ k ih =>
    obtain ⟨ih1, ih2⟩ := ih
    refine ⟨fun c fr n x h => ?_, fun f ds n r h => ?_⟩
    · unfold evalF at h ⊢
      cases c <;> simp only at h ⊢ <;> try exact h
      case region id ops draw =>
        cases hr : regD A (callF A k) ops.toList draw fr n with
        | none => simp [hr] at h
        | some q => rw [regD_mono ih2 hr]; rw [hr] at h; exact h
      case seq a b => exact seqR_mono (fun x => ih1 _ _ _ x) (fun fr n x => ih1 _ _ _ x) h
      case cond c x y =>
        split at h
        · rename_i t ht
          cases t
          · exact ih1 _ _ _ _ h
          · exact ih1 _ _ _ _ h
        · simp at h
      case block id c =>
        cases hr : evalF A k c fr n with
        | none => simp [hr, blockR] at h
        | some q => rw [ih1 _ _ _ _ hr]; rw [hr] at h; exact h
      case loop c => exact seqR_mono (fun x => ih1 _ _ _ x) (fun fr n x => ih1 _ _ _ x) h
    · unfold callF at h ⊢
      split
      · rename_i hh he; simp only [he] at h; exact h
      · rename_i he
        simp only [he] at h
        split
        · rename_i fn hfn
          simp only [hfn] at h
          split
          · rename_i c hc
            simp only [hc] at h
            split at h
            · rename_i hok
              rw [if_pos hok]
              cases hr : evalF A k c (argsFr ds) n with
              | none => simp [hr, endR] at h
              | some q => rw [ih1 _ _ _ _ hr]; rw [hr] at h; exact h
            · simp at h
          · rename_i hc; simp [hc] at h
        · rename_i hfn; simp [hfn] at h

theorem evalF_le {A : Cfg} {k k' : Nat} (h : k ≤ k') {c : Code} {fr : Fr} {n : Nat} {x} (hx : evalF A k c fr n = some x) : evalF A k' c fr n = some x := by
  induction h with
  | refl => exact hx
  | step _ ih => exact (mono_both A _).1 _ _ _ _ ih
theorem callF_le {A : Cfg} {k k' : Nat} (h : k ≤ k') : Le (callF A k) (callF A k') := by
  induction h with
  | refl => exact fun _ _ _ _ h => h
  | step _ ih => exact fun f ds n r h => (mono_both A _).2 _ _ _ _ (ih _ _ _ _ h)

end Go.Cv

namespace Go.Cv
open Go

noncomputable def Cfg.call (A : Cfg) : Call' := fun f ds n => open Classical in if h : ∃ r k, callF A k f ds n = some r then some (Classical.choose h) else none
noncomputable def Cfg.code (A : Cfg) (c : Code) (fr : Fr) (n : Nat) : CRes := open Classical in if h : ∃ r k, evalF A k c fr n = some r then some (Classical.choose h) else none

section
variable {A : Cfg}

theorem call_some {f : FuncId} {ds : List D} {n : Nat} {r} : A.call f ds n = some r ↔ ∃ k, callF A k f ds n = some r := by
  unfold Cfg.call
  constructor
  · intro h
    split at h
    · rename_i hh
      cases h
      exact Classical.choose_spec hh
    · simp at h
  · rintro ⟨k, hk⟩
    have hh : ∃ r k, callF A k f ds n = some r := ⟨r, k, hk⟩
    rw [dif_pos hh]
    obtain ⟨k', hk'⟩ := Classical.choose_spec hh
    have h1 := callF_le (Nat.le_max_left k k') _ _ _ _ hk
    have h2 := callF_le (Nat.le_max_right k k') _ _ _ _ hk'
    rw [h1] at h2
    exact h2.symm

theorem code_some {c : Code} {fr : Fr} {n : Nat} {r} : A.code c fr n = some r ↔ ∃ k, evalF A k c fr n = some r := by
  unfold Cfg.code
  constructor
  · intro h
    split at h
    · rename_i hh
      cases h
      exact Classical.choose_spec hh
    · simp at h
  · rintro ⟨k, hk⟩
    have hh : ∃ r k, evalF A k c fr n = some r := ⟨r, k, hk⟩
    rw [dif_pos hh]
    obtain ⟨k', hk'⟩ := Classical.choose_spec hh
    have h1 := evalF_le (Nat.le_max_left k k') hk
    have h2 := evalF_le (Nat.le_max_right k k') hk'
    rw [h1] at h2
    exact h2.symm

theorem call_le (k : Nat) : Le (callF A k) A.call := fun _ _ _ _ h => call_some.2 ⟨k, h⟩

/-! ### one fuel is enough -/
theorem callM_cpt {g : FuncId} {xs : List D} {n : Nat} {r} (h : callM A A.call g xs n = some r) : ∃ k, callM A (callF A k) g xs n = some r := by
  unfold callM at *
  split at h
  · obtain ⟨k, hk⟩ := call_some.1 h; exact ⟨k, by simpa using hk⟩
  · obtain ⟨k, hk⟩ := call_some.1 h; exact ⟨k, by simpa using hk⟩
  · obtain ⟨h1, h2, h3⟩ := lentR_some h
    obtain ⟨k, hk⟩ := call_some.1 h1
    exact ⟨k, by simp only [hk]; exact lentR_of h2 h3⟩
  · obtain ⟨h1, h2⟩ := goneR_some h
    obtain ⟨k, hk⟩ := call_some.1 h1
    exact ⟨k, by simp only [hk]; exact goneR_of h2⟩
theorem opD_cpt {fr : Fr} {n : Nat} {op : Op} {r} (h : opD A A.call fr n op = some r) : ∃ k, opD A (callF A k) fr n op = some r := by
  unfold opD at h
  split at h
  case h_23 c =>
    split at h
    · rename_i b hb; exact ⟨0, by unfold opD; simp only [hb]; exact h⟩
    · rename_i f hf
      split at h
      · rename_i g caps hg
        obtain ⟨k, hk⟩ := callM_cpt h
        exact ⟨k, by unfold opD; simp only [hf, hg]; exact hk⟩
      · simp at h
    · simp at h
  all_goals first
    | (simp at h; done)
    | exact ⟨0, by unfold opD; exact h⟩

theorem opsD_cpt {ops : List Oper} : ∀ (l : List Oper) {fr : Fr} {n : Nat} {r}, opsD A A.call ops l fr n = some r → ∃ k, opsD A (callF A k) ops l fr n = some r
  | [], _, _, _, hr => ⟨0, hr⟩
  | o :: l, fr, n, r, hr => by
    simp only [opsD] at hr
    split at hr
    · rename_i hw
      cases ho : opD A A.call fr n o.op with
      | none => simp [ho] at hr
      | some q =>
        simp only [ho] at hr
        cases hq : opsD A A.call ops l (upd (appF q.2.2 fr) o.dst q.1) q.2.1 with
        | none => simp [hq] at hr
        | some z =>
          simp only [hq] at hr
          obtain ⟨k1, h1⟩ := opD_cpt ho
          obtain ⟨k2, h2⟩ := opsD_cpt l hq
          refine ⟨max k1 k2, ?_⟩
          simp only [opsD, hw, opD_mono (callF_le (Nat.le_max_left k1 k2)) h1, opsD_mono (callF_le (Nat.le_max_right k1 k2)) l h2]
          exact hr
    · rename_i hw
      obtain ⟨k, hk⟩ := opsD_cpt l hr
      exact ⟨k, by simp only [opsD, hw]; exact hk⟩
    · simp at hr

theorem opsR_cpt {ops : List Oper} : ∀ (l : List Oper) {fr : Fr} {n : Nat} {r}, opsR A A.call ops l fr n = some r → ∃ k, opsR A (callF A k) ops l fr n = some r
  | [], _, _, _, hr => ⟨0, hr⟩
  | o :: l, fr, n, r, hr => by
    simp only [opsR] at hr
    split at hr
    · rename_i hw
      cases ho : opD A A.call fr n o.op with
      | none => simp [ho] at hr
      | some q =>
        simp only [ho] at hr
        cases hq : opsR A A.call ops l (upd (appF q.2.2 fr) o.dst q.1) q.2.1 with
        | none => simp [hq] at hr
        | some z =>
          simp only [hq] at hr
          obtain ⟨k1, h1⟩ := opD_cpt ho
          obtain ⟨k2, h2⟩ := opsR_cpt l hq
          refine ⟨max k1 k2, ?_⟩
          simp only [opsR, hw, opD_mono (callF_le (Nat.le_max_left k1 k2)) h1, opsR_mono (callF_le (Nat.le_max_right k1 k2)) l h2]
          exact hr
    · rename_i hw
      cases hq : opsR A A.call ops l (upd fr o.dst (.val undef)) n with
      | none => simp [hq] at hr
      | some z =>
        simp only [hq] at hr
        obtain ⟨k, hk⟩ := opsR_cpt l hq
        exact ⟨k, by simp only [opsR, hw, hk]; exact hr⟩
    · simp at hr

theorem regD_cpt {ops : List Oper} {draw : Bool} {fr : Fr} {n : Nat} {r} (h : regD A A.call ops draw fr n = some r) : ∃ k, regD A (callF A k) ops draw fr n = some r := by
  rw [regD_some] at h
  obtain ⟨k1, h1⟩ := opsD_cpt ops h.1
  by_cases hd : draw = true ∧ r.2.2 ≠ []
  · have h2 := h.2 hd.1 hd.2
    unfold dyn at h2
    cases hq : opsR A A.call ops ops fr n with
    | none => simp [hq] at h2
    | some z =>
      obtain ⟨k2, h3⟩ := opsR_cpt ops hq
      refine ⟨max k1 k2, ?_⟩
      rw [regD_some]
      refine ⟨opsD_mono (callF_le (Nat.le_max_left k1 k2)) ops h1, fun _ _ => ?_⟩
      unfold dyn
      rw [opsR_mono (callF_le (Nat.le_max_right k1 k2)) ops h3]
      rw [hq] at h2
      exact h2
  · exact ⟨k1, by rw [regD_some]; exact ⟨h1, fun a b => absurd ⟨a, b⟩ hd⟩⟩

theorem ext_some {α : Type} {x y : Option α} (h : ∀ r, x = some r ↔ y = some r) : x = y := by
  cases x with
  | none => cases y with
    | none => rfl
    | some b => exact absurd ((h b).2 rfl) (by simp)
  | some a => exact ((h a).1 rfl).symm

/-! ### equations -/
theorem code_region (id : Nat) (ops : Array Oper) (draw : Bool) (fr : Fr) (n : Nat) :
    A.code (.region id ops draw) fr n = (regD A A.call ops.toList draw fr n).map fun r => (.normal, r.1, r.2.1, r.2.2) := by
  refine ext_some fun r => ?_
  rw [code_some]
  constructor
  · rintro ⟨k, hk⟩
    cases k with
    | zero => simp [evalF] at hk
    | succ k =>
      simp only [evalF] at hk
      cases hr : regD A (callF A k) ops.toList draw fr n with
      | none => simp [hr] at hk
      | some q => rw [regD_mono (call_le k) hr]; rw [hr] at hk; exact hk
  · intro h
    cases hr : regD A A.call ops.toList draw fr n with
    | none => simp [hr] at h
    | some q =>
      obtain ⟨k, hk⟩ := regD_cpt hr
      exact ⟨k + 1, by simp only [evalF, hk]; rw [hr] at h; exact h⟩

theorem seqR_some {r : CRes} {k : Fr → Nat → CRes} {x} (h : seqR r k = some x) :
    (∃ fr n E e fr' n' E', r = some (.normal, fr, n, E) ∧ k fr n = some (e, fr', n', E') ∧ x = (e, fr', n', E ++ E')) ∨ (r = some x ∧ x.1 ≠ .normal) := by
  unfold seqR at h
  split at h
  · rename_i fr n E
    cases hk : k fr n with
    | none => simp [hk] at h
    | some q =>
      obtain ⟨e, fr', n', E'⟩ := q
      simp only [hk] at h
      cases h
      exact .inl ⟨fr, n, E, e, fr', n', E', rfl, hk, rfl⟩
  · rename_i hne
    refine .inr ⟨h, fun he => ?_⟩
    obtain ⟨e, fr, n, E⟩ := x
    simp only at he
    subst he
    exact hne _ _ _ h

theorem seqR_left {x} {k : Fr → Nat → CRes} (h : x.1 ≠ Ex.normal) : seqR (some x) k = some x := by
  obtain ⟨e, fr, n, E⟩ := x
  cases e <;> simp_all [seqR]

theorem code_seq (a b : Code) (fr : Fr) (n : Nat) : A.code (.seq a b) fr n = seqR (A.code a fr n) (fun fr n => A.code b fr n) := by
  refine ext_some fun r => ?_
  rw [code_some]
  constructor
  · rintro ⟨k, hk⟩
    cases k with
    | zero => simp [evalF] at hk
    | succ k =>
      simp only [evalF] at hk
      exact seqR_mono (fun x hx => code_some.2 ⟨k, hx⟩) (fun fr n x hx => code_some.2 ⟨k, hx⟩) hk
  · intro h
    rcases seqR_some h with ⟨fr1, n1, E, e, fr', n', E', h1, h2, rfl⟩ | ⟨h1, h2⟩
    · obtain ⟨k1, h1⟩ := code_some.1 h1
      obtain ⟨k2, h2⟩ := code_some.1 h2
      refine ⟨max k1 k2 + 1, ?_⟩
      simp only [evalF, evalF_le (Nat.le_max_left k1 k2) h1, seqR, evalF_le (Nat.le_max_right k1 k2) h2]
    · obtain ⟨k1, h1⟩ := code_some.1 h1
      exact ⟨k1 + 1, by simp only [evalF, h1, seqR_left h2]⟩

theorem code_loop (c : Code) (fr : Fr) (n : Nat) : A.code (.loop c) fr n = seqR (A.code c fr n) (fun fr n => A.code (.loop c) fr n) := by
  refine ext_some fun r => ?_
  rw [code_some]
  constructor
  · rintro ⟨k, hk⟩
    cases k with
    | zero => simp [evalF] at hk
    | succ k =>
      simp only [evalF] at hk
      exact seqR_mono (fun x hx => code_some.2 ⟨k, hx⟩) (fun fr n x hx => code_some.2 ⟨k, hx⟩) hk
  · intro h
    rcases seqR_some h with ⟨fr1, n1, E, e, fr', n', E', h1, h2, rfl⟩ | ⟨h1, h2⟩
    · obtain ⟨k1, h1⟩ := code_some.1 h1
      obtain ⟨k2, h2⟩ := code_some.1 h2
      refine ⟨max k1 k2 + 1, ?_⟩
      rw [evalF]
      simp only [evalF_le (Nat.le_max_left k1 k2) h1, seqR, evalF_le (Nat.le_max_right k1 k2) h2]
    · obtain ⟨k1, h1⟩ := code_some.1 h1
      exact ⟨k1 + 1, by rw [evalF]; simp only [h1, seqR_left h2]⟩

theorem code_cond (c : Operand) (x y : Code) (fr : Fr) (n : Nat) : A.code (.cond c x y) fr n = match evD A fr c with
    | .val (.bool t) => if t then A.code x fr n else A.code y fr n
    | _ => none := by
  refine ext_some fun r => ?_
  rw [code_some]
  constructor
  · rintro ⟨k, hk⟩
    cases k with
    | zero => simp [evalF] at hk
    | succ k =>
      simp only [evalF] at hk
      split at hk
      · rename_i t ht
        try rw [ht]
        cases t
        · exact code_some.2 ⟨k, hk⟩
        · exact code_some.2 ⟨k, hk⟩
      · simp at hk
  · intro h
    split at h
    · rename_i t ht
      cases t
      · obtain ⟨k, hk⟩ := code_some.1 h
        exact ⟨k + 1, by simp only [evalF, ht]; exact hk⟩
      · obtain ⟨k, hk⟩ := code_some.1 h
        exact ⟨k + 1, by simp only [evalF, ht]; exact hk⟩
    · simp at h

theorem code_block (id : Nat) (c : Code) (fr : Fr) (n : Nat) : A.code (.block id c) fr n = blockR id (A.code c fr n) := by
  refine ext_some fun r => ?_
  rw [code_some]
  constructor
  · rintro ⟨k, hk⟩
    cases k with
    | zero => simp [evalF] at hk
    | succ k =>
      simp only [evalF] at hk
      cases hr : evalF A k c fr n with
      | none => simp [hr, blockR] at hk
      | some q => rw [code_some.2 ⟨k, hr⟩]; rw [hr] at hk; exact hk
  · intro h
    cases hr : A.code c fr n with
    | none => simp [hr, blockR] at h
    | some q =>
      obtain ⟨k, hk⟩ := code_some.1 hr
      exact ⟨k + 1, by simp only [evalF, hk]; rw [hr] at h; exact h⟩

theorem code_skip (fr : Fr) (n : Nat) : A.code .skip fr n = some (.normal, fr, n, []) := code_some.2 ⟨1, rfl⟩
theorem code_label (l : Nat) (fr : Fr) (n : Nat) : A.code (.label l) fr n = some (.normal, fr, n, []) := code_some.2 ⟨1, rfl⟩
theorem code_exit (id : Nat) (fr : Fr) (n : Nat) : A.code (.exit id) fr n = some (.exit id, fr, n, []) := code_some.2 ⟨1, rfl⟩
theorem code_ret (fr : Fr) (n : Nat) : A.code .ret fr n = some (.ret, fr, n, []) := code_some.2 ⟨1, rfl⟩

theorem call_ext {f : FuncId} {h} (he : A.ext f = some h) (ds : List D) (n : Nat) : A.call f ds n = h ds n := by
  refine ext_some fun r => ?_
  rw [call_some]
  constructor
  · rintro ⟨k, hk⟩
    cases k with
    | zero => simp [callF] at hk
    | succ k => simp only [callF, he] at hk; exact hk
  · intro h
    exact ⟨1, by simp only [callF, he]; exact h⟩

theorem call_eq {f : FuncId} {fn : Func} {c : Code} (he : A.ext f = none) (hf : A.P.funcs[f]? = some fn) (hb : fn.body = some c) (hok : fnOk fn c = true) {ds : List D} {n : Nat} (hlow : lowL n ds = true) :
    A.call f ds n = endR A f fn.results.toList n (A.code c (argsFr ds) n) := by
  refine ext_some fun r => ?_
  rw [call_some]
  constructor
  · rintro ⟨k, hk⟩
    cases k with
    | zero => simp [callF] at hk
    | succ k =>
      simp only [callF, he, hf, hb, hok, hlow, and_self, if_true] at hk
      cases hr : evalF A k c (argsFr ds) n with
      | none => simp [hr, endR] at hk
      | some q => rw [code_some.2 ⟨k, hr⟩]; rw [hr] at hk; exact hk
  · intro h
    cases hr : A.code c (argsFr ds) n with
    | none => simp [hr, endR] at h
    | some q =>
      obtain ⟨k, hk⟩ := code_some.1 hr
      exact ⟨k + 1, by simp only [callF, he, hf, hb, hk, hok, hlow, and_self, if_true]; rw [hr] at h; exact h⟩
end
end Go.Cv

namespace Go.Cv
open Go

/-! ### what an effect leaves alone -/
theorem app_wr (i k : Nat) (c : D) : (Eff.wr i k c).app = D.wr i k c := rfl
theorem app_kill (i : Nat) : (Eff.kill i).app = D.kill i := rfl
theorem app_val (e : Eff) (v : Value) : e.app (.val v) = .val v := by cases e <;> simp [Eff.app, D.wr, D.kill]
theorem app_ifc (e : Eff) : e.app .ifc = .ifc := by cases e <;> simp [Eff.app, D.wr, D.kill]
theorem app_bad (e : Eff) : e.app .bad = .bad := by cases e <;> simp [Eff.app, D.wr, D.kill]
theorem app_agg (e : Eff) (cs : List D) : e.app (.agg cs) = .agg (cs.map e.app) := by cases e <;> simp [Eff.app, D.wr, D.kill, wrL_map, killL_map, app_wr, app_kill]
theorem app_tup (e : Eff) (cs : List D) : e.app (.tup cs) = .tup (cs.map e.app) := by cases e <;> simp [Eff.app, D.wr, D.kill, wrL_map, killL_map, app_wr, app_kill]
theorem app_fn (e : Eff) (f : Fn) (cs : List D) : e.app (.fn f cs) = .fn f (cs.map e.app) := by cases e <;> simp [Eff.app, D.wr, D.kill, wrL_map, killL_map, app_wr, app_kill]
theorem app_sl {e : Eff} {id off : Nat} {cap : Option Nat} {sz : Nat} {es : List D} (h : id ≠ e.id) : e.app (.sl id off cap sz es) = .sl id off cap sz (es.map e.app) := by
  cases e <;> simp [Eff.id] at h <;> simp [Eff.app, D.wr, D.kill, wrL_map, killL_map, app_wr, app_kill, h]
theorem app_pt {e : Eff} {id off : Nat} {es : List D} (h : id ≠ e.id) : e.app (.pt id off es) = .pt id off (es.map e.app) := by
  cases e <;> simp [Eff.id] at h <;> simp [Eff.app, D.wr, D.kill, wrL_map, killL_map, app_wr, app_kill, h]
theorem clean_sl_self {p : Nat → Bool} {e : Eff} (hp : p e.id = true) {off : Nat} {cap : Option Nat} {sz : Nat} {es : List D} : (e.app (.sl e.id off cap sz es)).clean p = false := by
  cases e <;> simp [Eff.id] at hp <;> simp [Eff.app, D.wr, D.kill, D.clean, hp, Eff.id]
theorem clean_pt_self {p : Nat → Bool} {e : Eff} (hp : p e.id = true) {off : Nat} {es : List D} : (e.app (.pt e.id off es)).clean p = false := by
  cases e <;> simp [Eff.id] at hp <;> simp [Eff.app, D.wr, D.kill, D.clean, hp, Eff.id]

mutual
theorem clean_app {p : Nat → Bool} {e : Eff} (hp : p e.id = true) : ∀ d : D, (e.app d).clean p = true ∨ d.clean p = true → e.app d = d
  | .val v, _ => app_val e v
  | .ifc, _ => app_ifc e
  | .bad, _ => app_bad e
  | .agg cs, h => by rw [app_agg] at h ⊢; rw [clean_appL hp cs h]
  | .tup cs, h => by rw [app_tup] at h ⊢; rw [clean_appL hp cs h]
  | .fn f cs, h => by rw [app_fn] at h ⊢; rw [clean_appL hp cs h]
  | .sl id off cap sz es, h => by
    have hne : id ≠ e.id := by
      intro he
      subst he
      rcases h with h | h
      · rw [clean_sl_self hp] at h; simp at h
      · simp [D.clean, hp] at h
    rw [app_sl hne] at h ⊢
    rw [clean_appL hp es (h.imp (fun h => by simp only [D.clean, Bool.and_eq_true] at h; exact h.2) (fun h => by simp only [D.clean, Bool.and_eq_true] at h; exact h.2))]
  | .pt id off es, h => by
    have hne : id ≠ e.id := by
      intro he
      subst he
      rcases h with h | h
      · rw [clean_pt_self hp] at h; simp at h
      · simp [D.clean, hp] at h
    rw [app_pt hne] at h ⊢
    rw [clean_appL hp es (h.imp (fun h => by simp only [D.clean, Bool.and_eq_true] at h; exact h.2) (fun h => by simp only [D.clean, Bool.and_eq_true] at h; exact h.2))]
theorem clean_appL {p : Nat → Bool} {e : Eff} (hp : p e.id = true) : ∀ ds : List D, cleanL p (ds.map e.app) = true ∨ cleanL p ds = true → ds.map e.app = ds
  | [], _ => rfl
  | d :: ds, h => by
    simp only [List.map_cons, cleanL, Bool.and_eq_true] at h
    simp only [List.map_cons]
    rw [clean_app hp d (h.imp (·.1) (·.1)), clean_appL hp ds (h.imp (·.2) (·.2))]
end

theorem clean_appE {p : Nat → Bool} : ∀ (E : List Eff) (d : D), (∀ e ∈ E, p e.id = true) → d.clean p = true → appE E d = d
  | [], _, _, _ => rfl
  | e :: E, d, h, hd => by rw [appE_cons, clean_app (h e (by simp)) d (.inr hd)]; exact clean_appE E d (fun x hx => h x (by simp [hx])) hd
theorem clean_back {p : Nat → Bool} : ∀ (E : List Eff) (d : D), (∀ e ∈ E, p e.id = true) → (appE E d).clean p = true → appE E d = d
  | [], _, _, _ => rfl
  | e :: E, d, h, hd => by
    rw [appE_cons] at hd ⊢
    have h1 := clean_back E (e.app d) (fun x hx => h x (by simp [hx])) hd
    rw [h1] at hd ⊢
    exact clean_app (h e (by simp)) d (.inl hd)

/-! what names no id -/
mutual
theorem closed_app {e : Eff} (he : e.id ≠ 0) : ∀ {d : D}, d.has (· != 0) = false → e.app d = d
  | .val v, _ => app_val e v
  | .ifc, _ => app_ifc e
  | .bad, _ => app_bad e
  | .agg cs, h => by rw [app_agg, closed_appL he cs (by simpa [D.has] using h)]
  | .tup cs, h => by rw [app_tup, closed_appL he cs (by simpa [D.has] using h)]
  | .fn f cs, h => by rw [app_fn, closed_appL he cs (by simpa [D.has] using h)]
  | .sl id off cap sz es, h => by
    simp only [D.has, Bool.or_eq_false_iff] at h
    have h0 : id = 0 := by simpa using h.1
    subst h0
    rw [app_sl (fun h => he h.symm), closed_appL he es h.2]
  | .pt id off es, h => by
    simp only [D.has, Bool.or_eq_false_iff] at h
    have h0 : id = 0 := by simpa using h.1
    subst h0
    rw [app_pt (fun h => he h.symm), closed_appL he es h.2]
theorem closed_appL {e : Eff} (he : e.id ≠ 0) : ∀ (ds : List D), hasL (· != 0) ds = false → ds.map e.app = ds
  | [], _ => rfl
  | d :: ds, h => by
    simp only [hasL, Bool.or_eq_false_iff] at h
    simp only [List.map_cons]
    rw [closed_app he h.1, closed_appL he ds h.2]
end
theorem closed_appE {d : D} (hd : d.has (· != 0) = false) : ∀ (E : List Eff), (∀ e ∈ E, e.id ≠ 0) → appE E d = d
  | [], _ => rfl
  | e :: E, h => by rw [appE_cons, closed_app (h e (by simp)) hd]; exact closed_appE hd E (fun x hx => h x (by simp [hx]))

theorem closed_leafD (v : Value) : (leafD v).has (· != 0) = false := by
  unfold leafD nilD
  split <;> simp [D.has, hasL]
theorem closed_constD (v : Value) : (constD v).has (· != 0) = false := by
  unfold constD
  split
  · rename_i vs
    simp only [D.has, hasL_any, List.any_map]
    rw [List.any_eq_false]
    intro x _
    simp [closed_leafD]
  · exact closed_leafD v

def GClosed (A : Cfg) : Prop := ∀ g cs, A.glob g = some cs → hasL (· != 0) cs = false

theorem evD_app {A : Cfg} (hA : GClosed A) (fr : Fr) (E : List Eff) (hE : ∀ e ∈ E, e.id ≠ 0) (x : Operand) : evD A (appF E fr) x = appE E (evD A fr x) := by
  cases x with
  | tmp t => rfl
  | const v => exact (closed_appE (closed_constD v) E hE).symm
  | global g =>
    simp only [evD]
    split
    · rename_i cs h; exact (closed_appE (by simp [D.has, hA g cs h]) E hE).symm
    · exact (closed_appE (by simp [D.has]) E hE).symm
  | func f => exact (closed_appE (d := .fn (.func f) []) (by simp [D.has, hasL]) E hE).symm

theorem evD_upd {A : Cfg} (fr : Fr) (dst : Option Tmp) (d : D) (x : Operand) (h : ∀ t, x = .tmp t → dst ≠ some t) : evD A (upd fr dst d) x = evD A fr x := by
  cases x with
  | tmp t =>
    cases dst with
    | none => rfl
    | some s =>
      have : t ≠ s := fun e => h t rfl (by rw [e])
      simp [evD, upd, this]
  | _ => rfl

/-! ### steps, and that they commute -/
section
variable (A : Cfg) (ops : List Oper)

def mvB (p : Oper × Rec) : Bool := isMove p.1.op && !p.2.sk && p.1.guard.isNone
def srcOf : Op → Operand
  | .move x => x
  | .assign x => x
  | _ => .const undef
def vl (p : Oper × Rec) (fr : Fr) : D := if mvB p = true then evD A fr (srcOf p.1.op) else p.2.d
def stepF (p : Oper × Rec) (fr : Fr) : Fr := upd (appF p.2.E fr) p.1.dst (vl A p fr)

theorem src_slot {o : Oper} {t : Tmp} (hm : isMove o.op = true) (h : srcOf o.op = .tmp t) : t ∈ slots ops o := by
  unfold slots oTmps
  refine List.mem_append_left _ (List.mem_filterMap.2 ⟨.tmp t, ?_, rfl⟩)
  cases hop : o.op <;> simp [hop, isMove] at hm <;> simp [hop, srcOf] at h <;> simp [Op.operands, h]

def Beside (p : Oper × Rec) (E : List Eff) : Prop := mvB p = true ∨ appE E p.2.d = p.2.d

theorem vl_step {p q : Oper × Rec} (hA : GClosed A) (hE : ∀ e ∈ q.2.E, e.id ≠ 0) (h1 : ∀ t, q.1.dst = some t → t ∉ slots ops p.1) (h2 : q.2.E = [] ∨ Beside p q.2.E) (f : Fr) :
    vl A p (stepF A q f) = appE q.2.E (vl A p f) := by
  unfold vl
  split
  · rename_i hm
    unfold stepF
    rw [evD_upd, evD_app hA f q.2.E hE]
    intro t ht hd
    have hmm : isMove p.1.op = true := by unfold mvB at hm; simp at hm; exact hm.1.1
    exact h1 t hd (src_slot ops hmm ht)
  · rename_i hm
    rcases h2 with h2 | h2
    · rw [h2]; rfl
    · rcases h2 with h2 | h2
      · exact absurd h2 hm
      · exact h2.symm

structure PairOk (p q : Oper × Rec) : Prop where
  d1 : ∀ t, q.1.dst = some t → t ∉ slots ops p.1
  d2 : ∀ t, p.1.dst = some t → t ∉ slots ops q.1
  d3 : ∀ t, p.1.dst = some t → q.1.dst ≠ some t
  one : p.2.E = [] ∨ q.2.E = []
  b1 : q.2.E = [] ∨ Beside p q.2.E
  b2 : p.2.E = [] ∨ Beside q p.2.E

theorem step_comm {p q : Oper × Rec} (hA : GClosed A) (hp : ∀ e ∈ p.2.E, e.id ≠ 0) (hq : ∀ e ∈ q.2.E, e.id ≠ 0) (h : PairOk ops p q) (f : Fr) :
    stepF A q (stepF A p f) = stepF A p (stepF A q f) := by
  have e1 := vl_step A ops hA hq h.d1 h.b1 f
  have e2 := vl_step A ops hA hp h.d2 h.b2 f
  have hE : ∀ d, appE q.2.E (appE p.2.E d) = appE p.2.E (appE q.2.E d) := by
    intro d
    rcases h.one with h | h <;> rw [h] <;> rfl
  funext t
  show upd (appF q.2.E (stepF A p f)) q.1.dst (vl A q (stepF A p f)) t = upd (appF p.2.E (stepF A q f)) p.1.dst (vl A p (stepF A q f)) t
  rw [e1, e2]
  unfold stepF upd appF
  have d3 := h.d3
  cases hpd : p.1.dst with
  | none =>
    cases hqd : q.1.dst with
    | none => exact hE _
    | some s =>
      by_cases hts : t = s
      · subst hts; simp
      · simp only [hts, if_false]; exact hE _
  | some r =>
    cases hqd : q.1.dst with
    | none =>
      by_cases htr : t = r
      · subst htr; simp
      · simp only [htr, if_false]; exact hE _
    | some s =>
      have hrs : r ≠ s := fun e => d3 r hpd (by rw [hqd, e])
      by_cases htr : t = r
      · subst htr; simp [hrs]
      · by_cases hts : t = s
        · subst hts; simp [htr]
        · simp only [htr, hts, if_false]; exact hE _

/-! ### a region, where some have come up -/
variable (L : List (Oper × Rec)) (fr0 : Fr)
def FS (S : Nat → Bool) : Nat → Fr
  | 0 => fr0
  | k + 1 => if S k = true then (match L[k]? with | some p => stepF A p (FS S k) | none => FS S k) else FS S k
def ES (S : Nat → Bool) : Nat → List Eff
  | 0 => []
  | k + 1 => if S k = true then (match L[k]? with | some p => ES S k ++ p.2.E | none => ES S k) else ES S k
def ins (S : Nat → Bool) (i : Nat) : Nat → Bool := fun j => S j || j == i

theorem FS_congr {S T : Nat → Bool} : ∀ k, (∀ j, j < k → S j = T j) → FS A L fr0 S k = FS A L fr0 T k
  | 0, _ => rfl
  | k + 1, h => by
    have ih := FS_congr k (fun j hj => h j (by omega))
    simp only [FS, h k (by omega), ih]
theorem ES_congr {S T : Nat → Bool} : ∀ k, (∀ j, j < k → S j = T j) → ES L S k = ES L T k
  | 0, _ => rfl
  | k + 1, h => by
    have ih := ES_congr k (fun j hj => h j (by omega))
    simp only [ES, h k (by omega), ih]

/-- one more has come up -/
theorem FS_ins {S : Nat → Bool} {i : Nat} {p : Oper × Rec} (hA : GClosed A) (hz : ∀ q ∈ L, ∀ e ∈ q.2.E, e.id ≠ 0) (hi : L[i]? = some p) (hS : S i = false)
    (hpair : ∀ k q, i < k → L[k]? = some q → S k = true → PairOk ops p q) :
    ∀ k, i < k → FS A L fr0 (ins S i) k = stepF A p (FS A L fr0 S k) ∧ ES L (ins S i) k = ES L S k ++ p.2.E := by
  intro k
  induction k with
  | zero => intro h; omega
  | succ k ih =>
    intro hk
    by_cases hik : i = k
    · subst hik
      have h1 : FS A L fr0 (ins S i) i = FS A L fr0 S i := FS_congr A L fr0 i (fun j hj => by simp [ins]; intro h; omega)
      have h2 : ES L (ins S i) i = ES L S i := ES_congr L i (fun j hj => by simp [ins]; intro h; omega)
      constructor
      · simp only [FS, hS, hi, h1]; simp [ins]
      · simp only [ES, hS, hi, h2]; simp [ins]
    · obtain ⟨h1, h2⟩ := ih (by omega)
      have hk' : ins S i k = S k := by simp [ins]; intro h; exact absurd h.symm hik
      cases hSk : S k with
      | false =>
        constructor
        · simp only [FS, hk', hSk]; simpa using h1
        · simp only [ES, hk', hSk]; simpa using h2
      | true =>
        cases hL : L[k]? with
        | none =>
          constructor
          · simp only [FS, hk', hSk, hL]; simpa using h1
          · simp only [ES, hk', hSk, hL]; simpa using h2
        | some q =>
          have hpq := hpair k q (by omega) hL hSk
          constructor
          · simp only [FS, hk', hSk, hL, if_true, h1]
            exact step_comm A ops hA (hz p (List.mem_of_getElem? hi)) (hz q (List.mem_of_getElem? hL)) hpq _
          · simp only [ES, hk', hSk, hL, if_true, h2]
            rcases hpq.one with h | h <;> rw [h] <;> simp
end
end Go.Cv

namespace Go.Cv
open Go

section
variable (ops : List Oper)
def dc (S : Nat → Bool) : Prop := ∀ k o, ops[k]? = some o → S k = true → ∀ j ∈ binding o, S j = true
def Bef (i j : Nat) : Prop := j < i ∧ ∀ S, dc ops S → S i = true → S j = true
def low : Prop := ∀ k o, ops[k]? = some o → ∀ j ∈ binding o, j < k

theorem fold_bits (acc : List Nat) (j : Nat) : ∀ (bl : List Nat) (s : Nat), (bl.foldl (fun s p => s ||| 2 ^ p ||| acc.getD p 0) s).testBit j = true →
    s.testBit j = true ∨ j ∈ bl ∨ ∃ p ∈ bl, (acc.getD p 0).testBit j = true
  | [], s, h => .inl h
  | b :: bl, s, h => by
    rcases fold_bits acc j bl _ h with h | h | ⟨p, hp, h⟩
    · simp only [Nat.testBit_or, Bool.or_eq_true] at h
      rcases h with (h | h) | h
      · exact .inl h
      · rw [Nat.testBit_two_pow] at h
        exact .inr (.inl (by simp at h; simp [h]))
      · exact .inr (.inr ⟨b, by simp, h⟩)
    · exact .inr (.inl (by simp [h]))
    · exact .inr (.inr ⟨p, by simp [hp], h⟩)

theorem befs_sound (hl : low ops) : ∀ (l pre : List Oper) (acc : List Nat), ops = pre ++ l → acc.length = pre.length →
    (∀ i j, (acc.getD i 0).testBit j = true → Bef ops i j) → ∀ i j, ((befs l acc).getD i 0).testBit j = true → Bef ops i j
  | [], _, acc, _, _, h, i, j, hb => h i j hb
  | o :: l, pre, acc, he, hlen, h, i, j, hb => by
    refine befs_sound hl l (pre ++ [o]) _ (by simp [he]) (by simp [hlen]) (fun i j hb => ?_) i j hb
    have ho : ops[pre.length]? = some o := by simp [he]
    by_cases hi : i < acc.length
    · rw [List.getD_eq_getElem?_getD, List.getElem?_append_left hi, ← List.getD_eq_getElem?_getD] at hb
      exact h i j hb
    · by_cases hi' : i = acc.length
      · subst hi'
        have hg : (acc ++ [(binding o).foldl (fun s j => s ||| 2 ^ j ||| acc.getD j 0) 0]).getD acc.length 0 = (binding o).foldl (fun s j => s ||| 2 ^ j ||| acc.getD j 0) 0 := by simp
        rw [hg] at hb
        rcases fold_bits acc j (binding o) 0 hb with hb | hb | ⟨p, hp, hb⟩
        · simp at hb
        · rw [hlen]
          exact ⟨hl _ o ho j hb, fun S hS h1 => hS _ o ho h1 j hb⟩
        · have h1 := h p j hb
          rw [hlen]
          have h2 := hl _ o ho p hp
          exact ⟨by have := h1.1; omega, fun S hS h3 => h1.2 S hS (hS _ o ho h3 p hp)⟩
      · rw [List.getD_eq_getElem?_getD, List.getElem?_eq_none (by simp; omega)] at hb
        simp at hb

theorem comparable_bef (hl : low ops) {i j : Nat} (h : comparable (befs ops []) i j = true) : Bef ops i j ∨ Bef ops j i := by
  have hs := befs_sound ops hl ops [] [] rfl rfl (fun i j h => by simp at h)
  unfold comparable at h
  simp only [Bool.or_eq_true] at h
  exact h.imp (hs i j) (hs j i)

theorem dc_ins {S : Nat → Bool} {i : Nat} (hS : dc ops S) (h : ∀ o, ops[i]? = some o → ∀ j ∈ binding o, S j = true) : dc ops (ins S i) := by
  intro k o hk hS' j hj
  unfold ins at hS' ⊢
  simp only [Bool.or_eq_true, beq_iff_eq] at hS' ⊢
  rcases hS' with h1 | h1
  · exact .inl (hS k o hk h1 j hj)
  · subst h1; exact .inl (h o hk j hj)

/-- what stands before i has come up, if i may -/
theorem bef_ready {S : Nat → Bool} {i j : Nat} (hS : dc ops S) (h : ∀ o, ops[i]? = some o → ∀ j ∈ binding o, S j = true) (hb : Bef ops i j) : S j = true := by
  have := hb.2 (ins S i) (dc_ins ops hS h) (by simp [ins])
  unfold ins at this
  simp only [Bool.or_eq_true, beq_iff_eq] at this
  rcases this with h | h
  · exact h
  · have := hb.1; omega
end

section
variable (A : Cfg) (ops : List Oper) (L : List (Oper × Rec)) (fr0 : Fr)

/-- what is asked of a region, in one place -/
structure RegOk : Prop where
  g : GClosed A
  low : low ops
  len : L.length = ops.length
  fst : ∀ (k : Nat) (p : Oper × Rec), L[k]? = some p → ops[k]? = some p.1
  nz : ∀ q ∈ L, ∀ e ∈ q.2.E, e.id ≠ 0
  names : ∀ (i k : Nat) (p q : Oper × Rec), L[i]? = some p → L[k]? = some q → i ≠ k → comparable (befs ops []) i k = false → ∀ t, p.1.dst = some t → q.1.dst ≠ some t ∧ t ∉ slots ops q.1
  beside : ∀ (i k : Nat) (p q : Oper × Rec), L[i]? = some p → L[k]? = some q → i ≠ k → comparable (befs ops []) i k = false → q.2.E = [] ∨
    (p.2.E = [] ∧ (mvB p = true ∨ (p.2.d.clean (effIds (L.map (·.2))).contains = true ∧ ∀ x ∈ p.2.xs, x.clean (effIds (L.map (·.2))).contains = true)))

theorem comparable_symm {bs : List Nat} {i j : Nat} : comparable bs i j = comparable bs j i := by simp [comparable, Bool.or_comm]

theorem idsIn {L : List (Oper × Rec)} {q : Oper × Rec} (hq : q ∈ L) : ∀ e ∈ q.2.E, (effIds (L.map (·.2))).contains e.id = true := by
  intro e he
  simp only [effIds, List.contains_iff_mem, List.mem_flatMap, List.mem_map]
  exact ⟨q.2, ⟨q, hq, rfl⟩, e, he, rfl⟩

theorem RegOk.pair {A : Cfg} {ops : List Oper} {L : List (Oper × Rec)} (H : RegOk A ops L) {i k : Nat} {p q : Oper × Rec} (hi : L[i]? = some p) (hk : L[k]? = some q) (hik : i ≠ k)
    (hc : comparable (befs ops []) i k = false) : PairOk ops p q := by
  have hc' : comparable (befs ops []) k i = false := by rw [comparable_symm]; exact hc
  have n1 := H.names i k p q hi hk hik hc
  have n2 := H.names k i q p hk hi (Ne.symm hik) hc'
  have b1 := H.beside i k p q hi hk hik hc
  have b2 := H.beside k i q p hk hi (Ne.symm hik) hc'
  refine ⟨fun t ht => (n2 t ht).2, fun t ht => (n1 t ht).2, fun t ht => (n1 t ht).1, ?_, ?_, ?_⟩
  · rcases b1 with b1 | b1
    · exact .inr b1
    · exact .inl b1.1
  · refine b1.imp id (fun h => h.2.imp id (fun h => clean_appE _ _ (idsIn (List.mem_of_getElem? hk)) h.1))
  · refine b2.imp id (fun h => h.2.imp id (fun h => clean_appE _ _ (idsIn (List.mem_of_getElem? hi)) h.1))

/-- i may come up, k is not before it nor behind it -/
theorem incomparable {ops : List Oper} (hl : low ops) {S : Nat → Bool} {i k : Nat} (hS : dc ops S) (hr : ∀ o, ops[i]? = some o → ∀ j ∈ binding o, S j = true)
    (hi : S i = false) (h : (k < i ∧ S k = false) ∨ (i < k ∧ S k = true)) : comparable (befs ops []) i k = false := by
  cases hc : comparable (befs ops []) i k with
  | false => rfl
  | true =>
    exfalso
    rcases comparable_bef ops hl hc with hb | hb
    · have h1 := bef_ready ops hS hr hb
      rcases h with h | h
      · rw [h.2] at h1; simp at h1
      · have := hb.1; omega
    · rcases h with h | h
      · have := hb.1; omega
      · have := hb.2 S hS h.2
        rw [hi] at this; simp at this

/-- one more has come up: at a slot of an operation beside it -/
theorem FS_ins_slot (H : RegOk A ops L) {S : Nat → Bool} {k : Nat} {q : Oper × Rec} (hk : L[k]? = some q) (hS : dc ops S) (hSk : S k = false)
    (hr : ∀ o, ops[k]? = some o → ∀ j ∈ binding o, S j = true) {x : Tmp} (hx : q.1.dst ≠ some x) :
    FS A L fr0 (ins S k) L.length x = appE q.2.E (FS A L fr0 S L.length x) := by
  have hlt : k < L.length := (List.getElem?_eq_some_iff.1 hk).1
  have h := (FS_ins A ops L fr0 H.g H.nz hk hSk (fun k' q' hkk hq hS' => H.pair hk hq (by omega) (incomparable H.low hS hr hSk (.inr ⟨hkk, hS'⟩))) L.length hlt).1
  rw [h]
  unfold stepF upd appF
  cases hd : q.1.dst with
  | none => rfl
  | some t =>
    have : x ≠ t := fun e => hx (by rw [hd, e])
    simp [this]

/-- **the slots of an operation that may come up hold what they hold in the order of the text** -/
theorem slot_same (H : RegOk A ops L) {S : Nat → Bool} {i : Nat} {p : Oper × Rec} (hi : L[i]? = some p) (hS : dc ops S) (hSi : S i = false)
    (hr : ∀ o, ops[i]? = some o → ∀ j ∈ binding o, S j = true) (hm : mvB p = false) {x : Tmp} (hx : x ∈ slots ops p.1)
    (hxs : p.2.xs = (slots ops p.1).map (FS A L fr0 (fun _ => true) i)) :
    FS A L fr0 S L.length x = FS A L fr0 (fun _ => true) i x := by
  have hlt : i < L.length := (List.getElem?_eq_some_iff.1 hi).1
  have hslot : ∀ {k q}, L[k]? = some q → k ≠ i → comparable (befs ops []) i k = false → q.1.dst ≠ some x := by
    intro k q hk hki hc hd
    exact (H.names k i q p hk hi hki (by rw [comparable_symm]; exact hc) x hd).2 hx
  have hcase : ∀ {k q}, L[k]? = some q → k ≠ i → comparable (befs ops []) i k = false → q.2.E ≠ [] → (FS A L fr0 (fun _ => true) i x).clean (effIds (L.map (·.2))).contains = true := by
    intro k q hk hki hc hE
    rcases H.beside i k p q hi hk (Ne.symm hki) hc with h | h
    · exact absurd h hE
    · rcases h.2 with h | h
      · rw [hm] at h; simp at h
      · exact h.2 _ (by rw [hxs]; exact List.mem_map.2 ⟨x, hx, rfl⟩)
  -- from S up
  have up : ∀ k, k ≤ i → ∃ F, (∀ e ∈ F, (effIds (L.map (·.2))).contains e.id = true) ∧ (F = [] ∨ (FS A L fr0 (fun _ => true) i x).clean (effIds (L.map (·.2))).contains = true) ∧
      FS A L fr0 (fun j => S j || decide (j < k)) L.length x = appE F (FS A L fr0 S L.length x) := by
    intro k
    induction k with
    | zero => intro _; exact ⟨[], by simp, .inl rfl, by rw [FS_congr A L fr0 (S := fun j => S j || decide (j < 0)) (T := S) L.length (fun j _ => by simp)]; rfl⟩
    | succ k ih =>
      intro hk
      obtain ⟨F, h1, h2, h3⟩ := ih (by omega)
      cases hSk : S k with
      | true =>
        refine ⟨F, h1, h2, ?_⟩
        rw [← h3]
        rw [FS_congr A L fr0 (T := fun j => S j || decide (j < k)) L.length (fun j _ => ?_)]
        by_cases hjk : j = k
        · subst hjk; simp [hSk]
        · have : (j < k + 1) ↔ (j < k) := by omega
          simp [this]
      | false =>
        have hkL : k < L.length := by omega
        obtain ⟨q, hq⟩ : ∃ q, L[k]? = some q := ⟨_, List.getElem?_eq_getElem hkL⟩
        have hinc := incomparable H.low hS hr hSi (.inl ⟨(by omega : k < i), hSk⟩)
        have hdc : dc ops (fun j => S j || decide (j < k)) := by
          intro k' o ho hk' j hj
          simp only [Bool.or_eq_true, decide_eq_true_eq] at hk' ⊢
          rcases hk' with h | h
          · exact .inl (hS k' o ho h j hj)
          · have := H.low k' o ho j hj; exact .inr (by omega)
        have := FS_ins_slot A ops L fr0 H hq hdc (by simp [hSk]) (fun o ho j hj => by simp [H.low k o ho j hj]) (hslot hq (by omega) hinc)
        refine ⟨F ++ q.2.E, ?_, ?_, ?_⟩
        · intro e he
          rcases List.mem_append.1 he with he | he
          · exact h1 e he
          · exact idsIn (List.mem_of_getElem? hq) e he
        · by_cases hE : q.2.E = []
          · rw [hE]; simpa using h2
          · exact .inr (hcase hq (by omega) hinc hE)
        · rw [appE_append, ← h3, ← this]
          rw [FS_congr A L fr0 (T := ins (fun j => S j || decide (j < k)) k) L.length (fun j _ => ?_)]
          unfold ins
          by_cases hjk : j = k
          · subst hjk; simp
          · have : (j < k + 1) ↔ (j < k) := by omega
            simp [this, hjk]
  -- from the text's order up
  have upT : ∀ k, k ≤ L.length → ∃ F, (∀ e ∈ F, (effIds (L.map (·.2))).contains e.id = true) ∧ (F = [] ∨ (FS A L fr0 (fun _ => true) i x).clean (effIds (L.map (·.2))).contains = true) ∧
      FS A L fr0 (fun j => decide (j < i) || (S j && decide (j < k))) L.length x = appE F (FS A L fr0 (fun _ => true) i x) := by
    have hbase : FS A L fr0 (fun j => decide (j < i)) L.length x = FS A L fr0 (fun _ => true) i x := by
      have : ∀ d, i + d ≤ L.length → FS A L fr0 (fun j => decide (j < i)) (i + d) = FS A L fr0 (fun _ => true) i := by
        intro d
        induction d with
        | zero => intro _; exact FS_congr A L fr0 i (fun j hj => by simp [hj])
        | succ d ih =>
          intro h
          show FS A L fr0 (fun j => decide (j < i)) ((i + d) + 1) = _
          simp only [FS]
          rw [if_neg (by simp)]
          exact ih (by omega)
      have h := this (L.length - i) (by omega)
      rw [show i + (L.length - i) = L.length by omega] at h
      rw [h]
    intro k
    induction k with
    | zero =>
      intro _
      refine ⟨[], by simp, .inl rfl, ?_⟩
      rw [FS_congr A L fr0 (T := fun j => decide (j < i)) L.length (fun j _ => by simp), hbase]; rfl
    | succ k ih =>
      intro hk
      obtain ⟨F, h1, h2, h3⟩ := ih (by omega)
      by_cases hadd : S k = true ∧ i < k
      · obtain ⟨q, hq⟩ : ∃ q, L[k]? = some q := ⟨_, List.getElem?_eq_getElem (by omega)⟩
        have hinc := incomparable H.low hS hr hSi (.inr ⟨hadd.2, hadd.1⟩)
        have hdc : dc ops (fun j => decide (j < i) || (S j && decide (j < k))) := by
          intro k' o ho hk' j hj
          have hlo := H.low k' o ho j hj
          simp only [Bool.or_eq_true, decide_eq_true_eq, Bool.and_eq_true] at hk' ⊢
          rcases hk' with h | h
          · exact .inl (by omega)
          · exact .inr ⟨hS k' o ho h.1 j hj, by omega⟩
        have := FS_ins_slot A ops L fr0 H hq hdc (by simp; omega) (fun o ho j hj => by
          have hlo := H.low k o ho j hj
          simp [hS k o ho hadd.1 j hj, hlo]) (hslot hq (by omega) hinc)
        refine ⟨F ++ q.2.E, ?_, ?_, ?_⟩
        · intro e he
          rcases List.mem_append.1 he with he | he
          · exact h1 e he
          · exact idsIn (List.mem_of_getElem? hq) e he
        · by_cases hE : q.2.E = []
          · rw [hE]; simpa using h2
          · exact .inr (hcase hq (by omega) hinc hE)
        · rw [appE_append, ← h3, ← this]
          rw [FS_congr A L fr0 (T := ins (fun j => decide (j < i) || (S j && decide (j < k))) k) L.length (fun j _ => ?_)]
          unfold ins
          by_cases hjk : j = k
          · subst hjk; simp [hadd.1]
          · have : (j < k + 1) ↔ (j < k) := by omega
            simp [this, hjk]
      · refine ⟨F, h1, h2, ?_⟩
        rw [← h3]
        rw [FS_congr A L fr0 (T := fun j => decide (j < i) || (S j && decide (j < k))) L.length (fun j _ => ?_)]
        by_cases hjk : j = k
        · subst hjk
          by_cases hji : j < i
          · simp [hji]
          · by_cases hji' : j = i
            · subst hji'; simp [hSi]
            · have : S j = false := by
                cases hSj : S j with
                | false => rfl
                | true => exact absurd ⟨hSj, by omega⟩ hadd
              simp [this]
        · have : (j < k + 1) ↔ (j < k) := by omega
          simp [this]
  obtain ⟨F1, a1, a2, a3⟩ := up i (Nat.le_refl _)
  obtain ⟨F2, b1, b2, b3⟩ := upT L.length (Nat.le_refl _)
  have hsame : FS A L fr0 (fun j => S j || decide (j < i)) L.length x = FS A L fr0 (fun j => decide (j < i) || (S j && decide (j < L.length))) L.length x := by
    rw [FS_congr A L fr0 (T := fun j => decide (j < i) || (S j && decide (j < L.length))) L.length (fun j hj => by simp [hj, Bool.or_comm])]
  rw [a3, b3] at hsame
  have hR : appE F2 (FS A L fr0 (fun _ => true) i x) = FS A L fr0 (fun _ => true) i x := by
    rcases b2 with h | h
    · rw [h]; rfl
    · exact clean_appE F2 _ b1 h
  rw [hR] at hsame
  rcases a2 with h | h
  · rw [h] at hsame; exact hsame
  · rw [← hsame] at h
    rw [← clean_back F1 _ a1 h]; exact hsame
end
end Go.Cv
