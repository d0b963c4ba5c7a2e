/- Readings, on: append, build, make, copy, clear; every operation is sound. No condition. -/
import Derived.Test.YtlokmogjbpcmgaaCva
import Derived.Laws.Tables
import Derived.Calls
set_option linter.unusedVariables false
set_option linter.unusedSimpArgs false
namespace Go.Cv
open Go

section
variable {P : Program} {φ : Phi} {w : World}

/-- a row of stores, by what it leaves -/
theorem store_raw {b : Nat} {e : TypeId} : ∀ (vs : List Value) (c0 n : Nat) (w : World) (arr : Array Value), w.heap[b]? = some (.cells arr e (0, 0)) → c0 + n + vs.length ≤ arr.size → (∀ v ∈ vs, v.oneCell' = true) →
    ∃ w' arr', (storeCells ⟨b, c0, none⟩ vs n).run P w = .ok () w' ∧ w'.heap[b]? = some (.cells arr' e (0, 0)) ∧ arr'.size = arr.size ∧
      (∀ j, j < vs.length → arr'[c0 + n + j]? = vs[j]?) ∧ (∀ j, j < c0 + n → arr'[j]? = arr[j]?) ∧
      (∀ k, k ≠ b → w'.heap[k]? = w.heap[k]?) ∧ w'.heap.size = w.heap.size ∧ w'.os = w.os ∧ w'.tape = w.tape ∧ w'.output = w.output
  | [], c0, n, w, arr, hb, _, _ => ⟨w, arr, rfl, hb, rfl, fun j h => absurd h (by simp), fun _ _ => rfl, fun _ _ => rfl, rfl, rfl, rfl, rfl⟩
  | v :: vs, c0, n, w, arr, hb, hle, h1 => by
    simp only [List.length_cons] at hle
    have hcell : w.cell? ⟨b, c0 + n, none⟩ = some (arr[c0 + n]'(by omega)) := by simp [World.cell?, hb]
    have hfz : w.frozen? ⟨b, c0 + n, none⟩ = false := by simp [World.frozen?, hb]
    have hst : (store ((⟨b, c0, none⟩ : Addr).add n) v).run P w = .ok () (w.setCell ⟨b, c0 + n, none⟩ v) := by
      rw [add_eq _ _ rfl, run_store P w _ v _ (h1 v (by simp))]
      simp [hcell, hfz]
    obtain ⟨w', arr', hr, hb', hs', hn', ho', hk', hz', e1, e2, e3⟩ := store_raw (b := b) (e := e) vs c0 (n + 1) (w.setCell ⟨b, c0 + n, none⟩ v) (arr.setIfInBounds (c0 + n) v)
      (by simp [World.setCell, Array.getElem?_modify, hb]) (by simp; omega) (fun u hu => h1 u (by simp [hu]))
    refine ⟨w', arr', by simp only [storeCells, Sem.run_bind, hst, Result.andThen_ok]; exact hr, hb', by simpa using hs', fun j hj => ?_, fun j hj => ?_, fun k hk => ?_, by simpa [World.setCell] using hz', e1, e2, e3⟩
    · cases j with
      | zero =>
        have := ho' (c0 + n) (by omega)
        simp only [Nat.add_zero, List.getElem?_cons_zero]
        rw [this, Array.getElem?_setIfInBounds_self_of_lt (by omega)]
      | succ j =>
        have := hn' j (by simp at hj; omega)
        rw [show c0 + n + (j + 1) = c0 + (n + 1) + j by omega, this]; rfl
    · rw [ho' j (by omega), Array.getElem?_setIfInBounds_ne (by omega)]
    · rw [hk' k hk]; exact heap_setCell _ _ _ _ hk

theorem R.sl_cells {id off sz : Nat} {cap : Option Nat} {es : List D} {v : Value} (h : R φ w (.sl id off cap sz es) v) :
    ∃ A c vs, v = .slice A es.length c ∧ RL φ w (flat es) vs ∧ (∀ a, A = some a → ∀ (j : Nat) (v : Value), vs[j]? = some v → w.cell? (a.add j) = some v) ∧ (A = none → vs = []) ∧
      es.length ≤ c ∧ (∀ k, cap = some k → c = k) ∧ (∀ e ∈ es, e.cells.length = sz) ∧ Place φ w id off A (c * sz) := by
  cases h with
  | @sl _ _ _ _ _ A c u hc hcap hsz hp ha hcell hr =>
    refine ⟨A, c, (List.range (flat es).length).map u, rfl, ⟨by simp, fun j d v h1 h2 => ?_⟩, ?_, ?_, hc, hcap, hsz, hp⟩
    · obtain ⟨x, hx, rfl⟩ := getElem?_map_some h2
      obtain ⟨_, h'⟩ := List.getElem?_eq_some_iff.1 hx
      simp at h'
      subst h'
      exact hr j d h1
    · rintro a rfl j v hv
      obtain ⟨x, hx, rfl⟩ := getElem?_map_some hv
      obtain ⟨hlt, h'⟩ := List.getElem?_eq_some_iff.1 hx
      simp at h' hlt
      subst h'
      exact hcell j _ (List.getElem?_eq_getElem hlt)
    · rintro rfl
      have : flat es = [] := by
        cases hf : flat es with
        | nil => rfl
        | cons x xs => have := ha (by rw [hf]; simp); simp at this
      rw [this]; rfl

theorem firstCells_run {A : Option Addr} {c m size : Nat} {vs : List Value} (hl : vs.length = m * size) (h1 : ∀ a, A = some a → ∀ (j : Nat) (v : Value), vs[j]? = some v → w.cell? (a.add j) = some v) (h2 : A = none → vs = []) :
    (Builtin.firstCells size m (.slice A m c)).run P w = .ok vs.toArray w := by
  cases A with
  | none => rw [h2 rfl]; exact run_firstCells_none (P := P) w size m m c
  | some a => exact run_firstCells_some (P := P) w size m a m c vs hl (h1 a rfl)

theorem pre_get (vs : List Value) (X : Array Value) : ∀ (j : Nat) (v : Value), vs[j]? = some v → (vs.toArray ++ X)[0 + 0 + j]? = some v := by
  intro j v hv
  have hlt := (List.getElem?_eq_some_iff.1 hv).1
  have e0 : 0 + 0 + j = j := by omega
  rw [e0, Array.getElem?_append, if_pos (by simpa using hlt)]
  simpa using hv
theorem pre_size (vs : List Value) (z : Array Value) (k : Nat) : (vs.toArray ++ Builtin.zeroCells z k).size = vs.length + k * z.size := by
  simp [size_zeroCells]

def noInt (P : Program) (t : Nat) : Bool :=
  match P.underlying t with
  | some (.int _) => false
  | some _ => true
  | none => false

def dAppend (P : Program) (t : Nat) (s x : D) (n : Nat) : Option (D × Nat × List Eff) :=
  match s, x with
  | .sl id _ cap sz es, .sl _ _ cap2 sz2 xs =>
    match (tyElem P t).bind (tySz P), (tyElem P t).bind (tyBytes P), (tyElem P t).bind (tyZero P) with
    | some esz, some by_, some z =>
      if esz ≠ 0 ∧ z.length = esz ∧ (sz = esz ∨ cap = some 0) ∧ (sz2 = esz ∨ cap2 = some 0) ∧ (es.length + xs.length) * by_ ≤ 140737488355328 ∧ es.length + xs.length ≤ 140737488355328 ∧
          ((flat xs).all fun c => c.leaf && c.good) = true then
        if id = 0 then
          if cap = some 0 then some (.sl n 0 none esz xs, n + 1, []) else none
        else some (.sl n 0 none esz ((es ++ xs).map (D.kill id)), n + 1, [.kill id])
      else none
    | _, _, _ => none
  | _, _ => none

theorem append_sound {t ty : Nat} {s x r : D} {sv xv : Value} {n n' : Nat} {E : List Eff} (h : dAppend P t s x n = some (r, n', E)) (wf : WF φ w) (hn : n ≠ 0) (hf : φ n = .no)
    (hs : R φ w s sv) (hx : R φ w x xv) :
    ∃ v w' φ', (Builtin.append_ #[t, t] ty #[sv, xv]).run P w = .ok v w' ∧ Trans φ w φ' w' n n' E ∧ R φ' w' r v := by
  unfold dAppend at h
  split at h
  case h_2 => simp at h
  rename_i id off cap sz es id2 off2 cap2 sz2 xs
  split at h
  case h_2 => simp at h
  rename_i esz by_ z hes hby hz
  split at h
  case isFalse => simp at h
  rename_i hc
  obtain ⟨hesz, hzl, hsz, hsz2, hbytes, h63, hall⟩ := hc
  obtain ⟨e, he, i, hi, hiz, hib, zv, hzv, hzl'⟩ : ∃ e, tyElem P t = some e ∧ ∃ i, P.info? e = some i ∧ i.size = esz ∧ i.bytes = by_ ∧ ∃ zv, i.zero = some zv ∧ zv.cells.size = esz := by
    cases hel : tyElem P t with
    | none => simp [hel] at hes
    | some e =>
      cases hi : P.info? e with
      | none => simp [hel, tySz, hi] at hes
      | some i =>
        simp [hel, tySz, hi] at hes
        simp [hel, tyBytes, hi] at hby
        simp [hel, tyZero, hi] at hz
        obtain ⟨zv, hzv, hz⟩ := hz
        exact ⟨e, rfl, i, hi, hes, hby, zv, hzv, by rw [← hzl, ← hz]; simp⟩
  have hun := elem_under he
  obtain ⟨A, c, vs, rfl, hvs, hvc, hvn, hlc, hcap, hszs, hp⟩ := hs.sl_cells
  obtain ⟨A2, c2, us, rfl, hus, huc, hun2, hlc2, hcap2, hszs2, hp2⟩ := hx.sl_cells
  have hxs0 : sz2 ≠ esz → xs = [] := fun hne => by
    have := hsz2.resolve_left hne
    have := hcap2 0 this
    exact List.eq_nil_of_length_eq_zero (by omega)
  have hes0 : sz ≠ esz → es = [] ∧ c = 0 := fun hne => by
    have := hsz.resolve_left hne
    have := hcap 0 this
    exact ⟨List.eq_nil_of_length_eq_zero (by omega), this⟩
  have hszs' : ∀ e ∈ es, e.cells.length = esz := by
    intro e he
    by_cases hne : sz = esz
    · rw [← hne]; exact hszs e he
    · rw [(hes0 hne).1] at he; simp at he
  have hszs2' : ∀ e ∈ xs, e.cells.length = esz := by
    intro e he
    by_cases hne : sz2 = esz
    · rw [← hne]; exact hszs2 e he
    · rw [hxs0 hne] at he; simp at he
  have hvl : vs.length = es.length * esz := by rw [← hvs.1]; exact flat_length hszs'
  have hul : us.length = xs.length * esz := by rw [← hus.1]; exact flat_length hszs2'
  have hone : ∀ u ∈ us, u.oneCell' = true := by
    intro u hu
    obtain ⟨j, hj⟩ := List.getElem?_of_mem hu
    have hlt : j < (flat xs).length := by rw [hus.1]; exact (List.getElem?_eq_some_iff.1 hj).1
    have hd := hus.2 j _ u (List.getElem?_eq_getElem hlt) hj
    have := List.all_eq_true.1 hall _ (List.getElem_mem hlt)
    simp at this
    exact hd.oneCell this.2 this.1
  have hfc2 : ∀ w1 : World, (∀ a x, w.cell? a = some x → w1.cell? a = some x) → (Builtin.firstCells i.size xs.length (.slice A2 xs.length c2)).run P w1 = .ok us.toArray w1 := by
    intro w1 h1
    exact firstCells_run (by rw [hiz]; exact hul) (fun a ha j v hv => h1 _ _ (huc a ha j v hv)) hun2
  have hnI : ((match TypeDesc.slice e with | .int _ => true | _ => false) : Bool) = false := rfl
  -- the new block
  have grow : c < es.length + xs.length → ∃ cap', es.length + xs.length ≤ cap' ∧
      (Builtin.append_ #[t, t] ty #[.slice A es.length c, .slice A2 xs.length c2]).run P w = .ok (.slice (some ⟨w.heap.size, 0, none⟩) (es.length + xs.length) cap')
        (w.drew.alloc (.cells ((vs ++ us).toArray ++ Builtin.zeroCells zv.cells (cap' - (es.length + xs.length))) e)) := by
    intro hlt
    have hxpos : 0 < xs.length := by omega
    have hupos : us ≠ [] := by
      intro h0
      have h1 : xs.length * esz = 0 := by rw [← hul, h0]; rfl
      rcases Nat.mul_eq_zero.1 h1 with h | h <;> omega
    obtain ⟨a2, rfl⟩ : ∃ a2, A2 = some a2 := by
      cases A2 with
      | none => exact absurd (hun2 rfl) hupos
      | some a => exact ⟨a, rfl⟩
    cases A with
    | none =>
      have hv0 := hvn rfl
      have hel0 : es.length = 0 := by
        have h1 : es.length * esz = 0 := by rw [← hvl, hv0]; rfl
        exact (Nat.mul_eq_zero.1 h1).resolve_right hesz
      have hc0 : c = 0 := by
        by_cases hne : sz = esz
        · unfold Place at hp
          rw [hne] at hp
          split at hp
          · rcases hp with hp | ⟨a, ha, _⟩
            · exact (Nat.mul_eq_zero.1 hp).resolve_right hesz
            · simp at ha
          · split at hp
            · exact hp.elim
            · exact (Nat.mul_eq_zero.1 hp).resolve_right hesz
            · rcases hp with hp | ⟨ha, _⟩
              · exact (Nat.mul_eq_zero.1 hp).resolve_right hesz
              · simp at ha
        · exact (hes0 hne).2
      have hr := run_append_nil (P := P) w t ty e i zv hun hi hzv a2 xs.length c2 us (by rw [hiz]; exact hul) (huc a2 rfl) hxpos (by omega) (by
        rw [hib]; rw [hel0, Nat.zero_add] at hbytes; omega)
      refine ⟨grownCap w xs.length 0 e, by have := grownCap_ge w xs.length 0 e; omega, ?_⟩
      rw [hc0, hel0, hv0]
      simpa using hr
    | some a =>
      have hr := run_append_grow (P := P) w t ty e i zv hun hi hzv a es.length c vs (by rw [hiz]; exact hvl) (hvc a rfl) a2 xs.length c2 us (by rw [hiz]; exact hul) (huc a2 rfl) hlt (by omega)
        (by rw [hib]; exact growslice_fits hlt hbytes)
      exact ⟨grownCap w (es.length + xs.length) c e, grownCap_ge _ _ _ _, by simpa using hr⟩
  -- in place
  have room : es.length + xs.length ≤ c → (Builtin.append_ #[t, t] ty #[.slice A es.length c, .slice A2 xs.length c2]).run P w =
      ((match A with | some a => storeCells (a.add (es.length * i.size)) us | none => pure ()).run P w).andThen fun _ w' => .ok (.slice A (es.length + xs.length) c) w' := by
    intro hle
    have hf := hfc2 w (fun _ _ h => h)
    cases A <;> simp [Builtin.append_, run_underlying hun, sizeOf, typeInfo, hi, Builtin.lenOf, hle, hf]
  split at h
  · rename_i hid
    split at h
    case isFalse => simp at h
    rename_i hcap0
    cases h
    have hc0 : c = 0 := hcap 0 hcap0
    have hes : es = [] := List.eq_nil_of_length_eq_zero (by omega)
    subst hes
    subst hc0
    have hv0 : vs = [] := List.eq_nil_of_length_eq_zero (by rw [hvl]; simp)
    subst hv0
    by_cases hx0 : xs = []
    · subst hx0
      have hu0 : us = [] := List.eq_nil_of_length_eq_zero (by rw [hul]; simp)
      subst hu0
      refine ⟨.slice A 0 0, w, φ.set n .void, ?_, Trans.void wf hn hf, ?_⟩
      · rw [room (by simp)]
        cases A <;> simp [storeCells]
      · have : R (φ.set n .void) w (.sl n 0 none esz []) (.slice A ([] : List D).length 0) :=
          .sl (fun _ => undef) (by simp) (by simp) (by simp) (by unfold Place; rw [if_neg hn]; simp) (by simp) (by simp) (by simp)
        exact this
    · have hpos : 0 < xs.length := List.length_pos_iff.2 hx0
      obtain ⟨cap', hge, hr⟩ := grow (by simpa using hpos)
      have hd := Trans.drew wf n (w.drawn + 1)
      have ht := Trans.alloc (w := w.drew) hd.wf hn hf (us.toArray ++ Builtin.zeroCells zv.cells (cap' - xs.length)) e
      have htt := hd.trans ht (Nat.le_refl _) (by omega)
      simp only [List.length_nil, Nat.zero_add, List.nil_append] at hge hr
      refine ⟨_, _, _, hr, htt, ?_⟩
      have := R.newSl (φ' := φ.set n (.at w.heap.size 0)) (w' := w.drew.alloc (.cells (us.toArray ++ Builtin.zeroCells zv.cells (cap' - xs.length)) e))
        (n := n) (b := w.heap.size) (c := cap') (sz := esz) (off := 0) (base := 0) (cap := none) (es := xs) (vs := us) (e := e) hn (by simp) (heap_alloc_new w.drew _) hszs2'
        (hus.keep (fun d v h => htt.keep d v h)) (pre_get us _) hge (by simp) (by
          rw [pre_size, hul, hzl', ← Nat.add_mul]; simp only [Nat.zero_add]; exact Nat.mul_le_mul_right _ (by omega))
      exact this
  · rename_i hid
    cases h
    have hszc : c * sz = c * esz := by
      by_cases hne : sz = esz
      · rw [hne]
      · rw [(hes0 hne).2]; simp
    have hφn : φ id ≠ .no := by
      intro h0
      unfold Place at hp
      rw [if_neg hid, h0] at hp
      exact hp
    have hrl : RL φ w (flat (es ++ xs)) (vs ++ us) := by rw [flat_append]; exact hvs.append hus
    have hsz3 : ∀ e ∈ (es ++ xs).map (D.kill id), e.cells.length = esz := by
      intro e he
      obtain ⟨x, hx, rfl⟩ := List.mem_map.1 he
      rw [cells_kill]
      simp only [List.length_map]
      rcases List.mem_append.1 hx with hx | hx
      · exact hszs' x hx
      · exact hszs2' x hx
    by_cases hroom : es.length + xs.length ≤ c
    · by_cases hc0 : c = 0
      · have hes : es = [] := List.eq_nil_of_length_eq_zero (by omega)
        have hx0 : xs = [] := List.eq_nil_of_length_eq_zero (by omega)
        subst hes; subst hx0; subst hc0
        have hu0 : us = [] := List.eq_nil_of_length_eq_zero (by rw [hul]; simp)
        subst hu0
        have ht : Trans φ w ((φ.set id .no).set n .void) w n (n + 1) [.kill id] :=
          Trans.handOver (b := w.heap.size) wf hid hn hφn hf (.inr (Nat.le_refl _)) (fun k p hk => by simp at hk) (fun _ _ _ => rfl) (Nat.le_refl _) rfl rfl rfl
        refine ⟨.slice A 0 0, w, _, ?_, ht, ?_⟩
        · rw [room (by simp)]
          cases A <;> simp [storeCells]
        · have : R ((φ.set id .no).set n .void) w (.sl n 0 none esz []) (.slice A ([] : List D).length 0) :=
            .sl (fun _ => undef) (by simp) (by simp) (by simp) (by unfold Place; rw [if_neg hn]; simp) (by simp) (by simp) (by simp)
          exact this
      · have hcs : c * sz ≠ 0 := by rw [hszc]; exact Nat.mul_ne_zero hc0 hesz
        unfold Place at hp
        rw [if_neg hid] at hp
        cases hφ : φ id with
        | no => exact absurd hφ hφn
        | void => rw [hφ] at hp; exact absurd hp hcs
        | «at» b base =>
          rw [hφ] at hp
          obtain ⟨rfl, arr, e', hb, hle⟩ := hp.resolve_left hcs
          rw [hszc] at hle
          have hm1 : es.length * esz + xs.length * esz ≤ c * esz := by rw [← Nat.add_mul]; exact Nat.mul_le_mul_right _ hroom
          obtain ⟨w', arr', hst, hb', hs', hnew, hold, hoth, hsize, e1, e2, e3⟩ := store_raw (P := P) us (base + off + es.length * esz) 0 w arr hb (by rw [hul]; omega) hone
          have ht : Trans φ w ((φ.set id .no).set n (.at b (base + off))) w' n (n + 1) [.kill id] :=
            Trans.handOver (b := b) wf hid hn hφn hf (.inl ⟨base, hφ⟩) (fun k p hk => by simp at hk; obtain ⟨rfl, rfl⟩ := hk; exact ⟨.inl ⟨base, hφ⟩, arr', e', hb'⟩) (fun k _ hk => hoth k hk) (by omega) e1 e2 e3
          refine ⟨.slice (some ⟨b, base + off, none⟩) (es.length + xs.length) c, w', _, ?_, ht, ?_⟩
          · rw [room hroom, hiz]
            show (((storeCells ((⟨b, base + off, none⟩ : Addr).add (es.length * esz)) us).run P w).andThen _) = _
            rw [add_eq _ _ rfl]
            show (((storeCells ⟨b, base + off + es.length * esz, none⟩ us 0).run P w).andThen _) = _
            rw [hst]; rfl
          · have hlen : ((es ++ xs).map (D.kill id)).length = es.length + xs.length := by simp
            have := R.newSl (φ' := (φ.set id .no).set n (.at b (base + off))) (w' := w') (n := n) (b := b) (c := c) (sz := esz) (off := 0) (base := base + off) (cap := none) (es := (es ++ xs).map (D.kill id)) (vs := vs ++ us) (e := e')
              hn (by simp) hb' hsz3 (by rw [flat_map_kill]; exact hrl.trans (D.kill id) (fun d v h => ht.keep d v h))
              (fun j v hv => by
                by_cases hj : j < vs.length
                · rw [List.getElem?_append_left hj] at hv
                  have := hvc _ rfl j v hv
                  rw [add_eq _ _ rfl] at this
                  simp [World.cell?, hb] at this
                  rw [hold _ (by omega)]
                  exact this
                · rw [List.getElem?_append_right (by omega)] at hv
                  have hlt := (List.getElem?_eq_some_iff.1 hv).1
                  have := hnew (j - vs.length) hlt
                  rw [← hv, ← this]
                  congr 1
                  omega) (by rw [hlen]; exact hroom) (by simp) (by rw [hs']; omega)
            rw [hlen] at this
            simpa using this
    · obtain ⟨cap', hge, hr⟩ := grow (by omega)
      have hd := Trans.drew wf n (w.drawn + 1)
      have hsz' : (w.drew.alloc (.cells ((vs ++ us).toArray ++ Builtin.zeroCells zv.cells (cap' - (es.length + xs.length))) e)).heap.size = w.heap.size + 1 := by
        exact Array.size_push _
      have ht : Trans φ w.drew ((φ.set id .no).set n (.at w.heap.size 0)) (w.drew.alloc (.cells ((vs ++ us).toArray ++ Builtin.zeroCells zv.cells (cap' - (es.length + xs.length))) e)) n (n + 1) [.kill id] :=
        Trans.handOver (b := w.heap.size) hd.wf hid hn hφn hf (.inr (Nat.le_refl _)) (fun k p hk => by
          simp at hk; obtain ⟨rfl, rfl⟩ := hk; exact ⟨.inr (Nat.le_refl _), _, _, heap_alloc_new w.drew _⟩) (fun k hk _ => heap_alloc_old w.drew _ k hk) (by rw [hsz']; show w.heap.size ≤ _; omega) rfl rfl rfl
      have htt := hd.trans ht (Nat.le_refl _) (by omega)
      refine ⟨_, _, _, hr, htt, ?_⟩
      have hlen : ((es ++ xs).map (D.kill id)).length = es.length + xs.length := by simp
      have := R.newSl (φ' := (φ.set id .no).set n (.at w.heap.size 0)) (w' := w.drew.alloc (.cells ((vs ++ us).toArray ++ Builtin.zeroCells zv.cells (cap' - (es.length + xs.length))) e))
        (n := n) (b := w.heap.size) (c := cap') (sz := esz) (off := 0) (base := 0) (cap := none) (es := (es ++ xs).map (D.kill id)) (vs := vs ++ us) (e := e) hn (by simp) (heap_alloc_new w.drew _) hsz3
        (by rw [flat_map_kill]; exact hrl.trans (D.kill id) (fun d v h => htt.keep d v h)) (pre_get (vs ++ us) _) (by rw [hlen]; exact hge) (by simp) (by
          rw [pre_size, List.length_append, hul, hvl, hzl', ← Nat.add_mul, ← Nat.add_mul]; simp only [Nat.zero_add]; exact Nat.mul_le_mul_right _ (by omega))
      rw [hlen] at this
      simpa using this
end
end Go.Cv
namespace Go.Cv
open Go

section
variable {P : Program} {φ : Phi} {w : World}

/-! ### literals -/
def putAt (cs : List D) (off : Nat) (xs : List D) : List D := cs.take off ++ xs ++ cs.drop (off + xs.length)

theorem fold_put (v : List Value) : ∀ (k off : Nat) (cells : Array Value), off + k + v.length ≤ cells.size →
    ((v.zipIdx k).foldl (fun cs x => cs.setIfInBounds (off + x.2) x.1) cells).toList = cells.toList.take (off + k) ++ v ++ cells.toList.drop (off + k + v.length) := by
  induction v with
  | nil => intro k off cells _; simp
  | cons c v ih =>
    intro k off cells h
    simp only [List.length_cons] at h
    simp only [List.zipIdx_cons, List.foldl_cons]
    rw [ih (k + 1) off _ (by simp; omega)]
    simp only [Array.toList_setIfInBounds]
    have h1 : off + k < cells.toList.length := by simp; omega
    have e1 : (cells.toList.set (off + k) c).take (off + (k + 1)) = cells.toList.take (off + k) ++ [c] := by
      rw [show off + (k + 1) = off + k + 1 by omega, List.take_succ_eq_append_getElem (by simpa using h1)]
      rw [List.take_set_of_le (Nat.le_refl _)]
      simp
    have e2 : (cells.toList.set (off + k) c).drop (off + (k + 1) + v.length) = cells.toList.drop (off + k + (v.length + 1)) := by
      rw [List.drop_set_of_lt (by omega)]
      congr 1; omega
    rw [e1, e2]
    simp

theorem RL.putAt {cs xs : List D} {vs us : List Value} (h : RL φ w cs vs) (k : RL φ w xs us) (off : Nat) : RL φ w (putAt cs off xs) (vs.take off ++ us ++ vs.drop (off + us.length)) := by
  unfold Cv.putAt
  rw [k.1]
  exact ((h.take off).append k).append (h.drop _)

def dFill (pl : Nat → Option (Nat × Nat)) : List D → List (Nat × D) → Option (List D)
  | cs, [] => some cs
  | cs, (i, x) :: rest =>
    match pl i with
    | some (off, sz) => if x.good = true ∧ x.cells.length = sz ∧ off + sz ≤ cs.length then dFill pl (putAt cs off x.cells) rest else none
    | none => none

theorem fill_sound {pl : Nat → Option (Nat × Nat)} : ∀ (parts : List (Nat × D)) (pv : List (Nat × Value)) (cs r : List D) (cells : Array Value),
    dFill pl cs parts = some r → RL φ w cs cells.toList → parts.length = pv.length → (∀ (j : Nat) (a : Nat × D) (b : Nat × Value), parts[j]? = some a → pv[j]? = some b → a.1 = b.1 ∧ R φ w a.2 b.2) →
    ∃ out, Instr.fill pl cells pv = some out ∧ RL φ w r out.toList
  | [], [], cs, r, cells, h, hr, _, _ => by simp [dFill] at h; subst h; exact ⟨cells, rfl, hr⟩
  | [], _ :: _, _, _, _, _, _, hl, _ => by simp at hl
  | _ :: _, [], _, _, _, _, _, hl, _ => by simp at hl
  | (i, x) :: parts, (i', v) :: pv, cs, r, cells, h, hr, hl, hp => by
    obtain ⟨hi, hx⟩ := hp 0 (i, x) (i', v) rfl rfl
    simp only at hi hx
    subst hi
    simp only [dFill] at h
    split at h
    · rename_i off sz hpl
      split at h
      · rename_i hc
        obtain ⟨hg, hlen, hle⟩ := hc
        have hxc := hx.cells hg
        have hvl : v.cells.size = sz := by have := hxc.1; simp at this; omega
        have hcl : cs.length = cells.size := by simpa using hr.1
        have hsz : off + v.cells.size ≤ cells.size := by omega
        have hfold := fold_put v.cells.toList 0 off cells (by simpa using hsz)
        have hr' := hr.putAt hxc off
        obtain ⟨out, ho, hro⟩ := fill_sound parts pv (putAt cs off x.cells) r (v.cells.zipIdx.foldl (fun cs x => cs.setIfInBounds (off + x.2) x.1) cells) h (by
            have e : (v.cells.zipIdx.foldl (fun cs x => cs.setIfInBounds (off + x.2) x.1) cells) = (v.cells.toList.zipIdx 0).foldl (fun cs x => cs.setIfInBounds (off + x.2) x.1) cells := by
              rw [← Array.foldl_toList]; simp
            rw [e, hfold]; simpa using hr') (by simpa using hl) (fun j a b h1 h2 => hp (j + 1) a b (by simpa using h1) (by simpa using h2))
        refine ⟨out, ?_, hro⟩
        simp only [Instr.fill, hpl]
        rw [if_neg (by simp [hvl]; omega)]
        exact ho
      · simp at h
    · simp at h

def tyPlaces (P : Program) (t : Nat) : Option (List (Nat × Nat)) :=
  match P.underlying t with
  | some (.struct fs) => fs.toList.mapM fun f => (P.info? f.type).map fun i => (f.offset, i.size)
  | _ => none

def dBuild (P : Program) (t : Nat) (parts : List (Nat × D)) : Option D :=
  match tyPlaces P t, tyArr P t, tyZero P t with
  | some pl, none, some zs => (dFill (fun i => pl[i]?) zs parts).map D.agg
  | none, some (_, e), some zs =>
    match tySz P e with
    | some sz => (dFill (fun i => some (i * sz, sz)) zs parts).map D.agg
    | none => none
  | _, _, _ => none

theorem zero_run {t : Nat} {zs : List D} (h : tyZero P t = some zs) : ∃ z i, (zeroValue t).run P w = .ok z w ∧ zs = z.cells.toList.map leafD ∧ P.info? t = some i ∧ i.zero = some z := by
  unfold tyZero at h
  cases hi : P.info? t with
  | none => simp [hi] at h
  | some i =>
    cases hz : i.zero with
    | none => simp [hi, hz] at h
    | some z =>
      simp [hi, hz] at h
      exact ⟨z, i, by simp [zeroValue, typeInfo, hi, hz], h.symm, rfl, hz⟩

theorem build_sound {t : Nat} {parts : List (Nat × D)} {pv : Array (Nat × Value)} {r : D} (h : dBuild P t parts = some r) (hl : parts.length = pv.size)
    (hp : ∀ (j : Nat) (a : Nat × D) (b : Nat × Value), parts[j]? = some a → pv[j]? = some b → a.1 = b.1 ∧ R φ w a.2 b.2) :
    ∃ v, (Instr.build t pv).run P w = .ok v w ∧ R φ w r v := by
  unfold dBuild at h
  split at h
  · rename_i pl zs hpl _ hz
    obtain ⟨z, i, hzr, rfl, hi, hiz⟩ := zero_run (w := w) hz
    cases hf : dFill (fun i => pl[i]?) (z.cells.toList.map leafD) parts with
    | none => simp [hf] at h
    | some cs =>
      simp [hf] at h
      subst h
      obtain ⟨out, ho, hro⟩ := fill_sound (φ := φ) (w := w) parts pv.toList _ cs z.cells hf (RL.leafs φ w _) (by simpa using hl) (fun j a b h1 h2 => hp j a b h1 (by simpa using h2))
      unfold tyPlaces at hpl
      split at hpl
      · rename_i fs hu
        refine ⟨.agg out, run_build w t pv out ?_, by simpa using R.ofCells_agg hro⟩
        unfold Program.built
        simp only [hi, hu, hiz, hpl]
        simpa using ho
      · simp at hpl
  · rename_i n e zs _ ha hz
    obtain ⟨z, i, hzr, rfl, hi, hiz⟩ := zero_run (w := w) hz
    split at h
    · rename_i sz hsz
      cases hf : dFill (fun i => some (i * sz, sz)) (z.cells.toList.map leafD) parts with
      | none => simp [hf] at h
      | some cs =>
        simp [hf] at h
        subst h
        obtain ⟨out, ho, hro⟩ := fill_sound (φ := φ) (w := w) parts pv.toList _ cs z.cells hf (RL.leafs φ w _) (by simpa using hl) (fun j a b h1 h2 => hp j a b h1 (by simpa using h2))
        have hu : P.underlying t = some (.array n e) := by
          unfold tyArr at ha
          split at ha
          · rename_i hx; cases ha; exact hx
          · simp at ha
        cases hie : P.info? e with
        | none => simp [tySz, hie] at hsz
        | some ie =>
          simp [tySz, hie] at hsz
          refine ⟨.agg out, run_build w t pv out ?_, by simpa using R.ofCells_agg hro⟩
          unfold Program.built
          simp only [hi, hu, hiz, hie, hsz]
          exact ho
    · simp at h
  · simp at h

/-- a slice literal, all its elements in order -/
def dBuildSlice (P : Program) (t len : Nat) (parts : List (Nat × D)) (n : Nat) : Option (D × Nat × List Eff) :=
  match (tyElem P t).bind (tySz P), (tyElem P t).bind (tyZero P) with
  | some sz, some z =>
    if sz ≠ 0 ∧ z.length = sz ∧ parts.length = len ∧ len * sz ≤ 16777216 ∧ (parts.zipIdx.all fun x => x.1.1 == x.2 && x.1.2.good && (x.1.2.cells.length == sz)) = true then
      some (.sl n 0 (some len) sz (parts.map (·.2)), n + 1, [])
    else none
  | _, _ => none

theorem fill_all {sz len : Nat} : ∀ (parts : List (Nat × D)) (pv : List (Nat × Value)) (k : Nat) (cells : Array Value) (done : List Value), k + parts.length = len → cells.size = len * sz →
    done.length = k * sz → cells.toList.take (k * sz) = done → parts.length = pv.length →
    (∀ (j : Nat) (a : Nat × D) (b : Nat × Value), parts[j]? = some a → pv[j]? = some b → a.1 = b.1 ∧ R φ w a.2 b.2) →
    (∀ (j : Nat) (a : Nat × D), parts[j]? = some a → a.1 = k + j ∧ a.2.good = true ∧ a.2.cells.length = sz) →
    ∃ out vs, Instr.fill (fun i => some (i * sz, sz)) cells pv = some out ∧ RL φ w (flat (parts.map (·.2))) vs ∧ out.toList = done ++ vs
  | [], [], k, cells, done, h1, h2, h3, h4, _, _, _ => by
    refine ⟨cells, [], rfl, RL.nil, ?_⟩
    simp only [List.length_nil, Nat.add_zero] at h1
    rw [← h4, h1, List.take_of_length_le (by simp [h2])]; simp
  | [], _ :: _, _, _, _, _, _, _, _, hl, _, _ => by simp at hl
  | _ :: _, [], _, _, _, _, _, _, _, hl, _, _ => by simp at hl
  | (i, x) :: parts, (i', v) :: pv, k, cells, done, h1, h2, h3, h4, hl, hp, hq => by
    obtain ⟨hi, hx⟩ := hp 0 (i, x) (i', v) rfl rfl
    obtain ⟨hk, hg, hlen⟩ := hq 0 (i, x) rfl
    simp only at hi hx hk hg hlen
    subst hi
    simp only [Nat.add_zero] at hk
    subst hk
    have hxc := hx.cells hg
    have hvl : v.cells.size = sz := by have := hxc.1; simp at this; omega
    simp only [List.length_cons] at h1
    have hroom : i * sz + sz ≤ len * sz := by rw [← Nat.succ_mul]; exact Nat.mul_le_mul_right _ (by omega)
    have hfold := fold_put v.cells.toList 0 (i * sz) cells (by simp [hvl]; omega)
    have hcs : ((v.cells.zipIdx.foldl (fun cs x => cs.setIfInBounds (i * sz + x.2) x.1) cells)).toList = cells.toList.take (i * sz) ++ v.cells.toList ++ cells.toList.drop (i * sz + sz) := by
      have e : (v.cells.zipIdx.foldl (fun cs x => cs.setIfInBounds (i * sz + x.2) x.1) cells) = (v.cells.toList.zipIdx 0).foldl (fun cs x => cs.setIfInBounds (i * sz + x.2) x.1) cells := by
        rw [← Array.foldl_toList]; simp
      rw [e, hfold]
      simp [hvl]
    have hsize : (v.cells.zipIdx.foldl (fun cs x => cs.setIfInBounds (i * sz + x.2) x.1) cells).size = len * sz := by
      rw [← Array.length_toList, hcs, List.length_append, List.length_append, List.length_take, List.length_drop, Array.length_toList, Array.length_toList, h2, hvl]
      omega
    obtain ⟨out, vs, ho, hro, hout⟩ := fill_all parts pv (i + 1) (v.cells.zipIdx.foldl (fun cs x => cs.setIfInBounds (i * sz + x.2) x.1) cells) (done ++ v.cells.toList) (by omega) hsize
      (by simp [h3, hvl, Nat.succ_mul]) (by
        rw [hcs, h4, Nat.succ_mul]
        rw [List.take_append_of_le_length (by simp [h3, hvl])]
        exact List.take_of_length_le (by simp [h3, hvl])) (by simpa using hl) (fun j a b h1 h2 => hp (j + 1) a b (by simpa using h1) (by simpa using h2))
      (fun j a h => by have := hq (j + 1) a (by simpa using h); exact ⟨by omega, this.2⟩)
    refine ⟨out, v.cells.toList ++ vs, ?_, by simpa using hxc.append hro, by simpa using hout⟩
    simp only [Instr.fill]
    rw [if_neg (by simp [hvl]; omega)]
    exact ho

theorem buildSlice_sound {t len n n' : Nat} {parts : List (Nat × D)} {pv : Array (Nat × Value)} {r : D} {E : List Eff} (h : dBuildSlice P t len parts n = some (r, n', E)) (wf : WF φ w) (hn : n ≠ 0) (hf : φ n = .no)
    (hl : parts.length = pv.size) (hp : ∀ (j : Nat) (a : Nat × D) (b : Nat × Value), parts[j]? = some a → pv[j]? = some b → a.1 = b.1 ∧ R φ w a.2 b.2) :
    ∃ v w' φ', (Instr.buildSlice t len pv).run P w = .ok v w' ∧ Trans φ w φ' w' n n' E ∧ R φ' w' r v := by
  unfold dBuildSlice at h
  split at h
  case h_2 => simp at h
  rename_i sz z hsz hz
  split at h
  case isFalse => simp at h
  rename_i hc
  obtain ⟨hs0, hzl, hpl, hle, hall⟩ := hc
  cases h
  obtain ⟨e, he, hes, hez⟩ : ∃ e, tyElem P t = some e ∧ tySz P e = some sz ∧ tyZero P e = some z := by
    cases hel : tyElem P t with
    | none => simp [hel] at hsz
    | some e => exact ⟨e, rfl, by simpa [hel] using hsz, by simpa [hel] using hz⟩
  obtain ⟨zv, i, hzr, rfl, hi, hiz⟩ := zero_run (w := w) hez
  have hso := run_sizeOf' (P := P) (w := w) hes
  have hq : ∀ (j : Nat) (a : Nat × D), parts[j]? = some a → a.1 = 0 + j ∧ a.2.good = true ∧ a.2.cells.length = sz := by
    intro j a hj
    have hlt := (List.getElem?_eq_some_iff.1 hj).1
    have := List.all_eq_true.1 hall (a, j) (by rw [List.mem_zipIdx_iff_getElem?]; simpa using hj)
    simp at this
    exact ⟨by omega, this.1.2, this.2⟩
  obtain ⟨out, vs, ho, hro, hout⟩ := fill_all (φ := φ) (w := w) (sz := sz) (len := len) parts pv.toList 0 ((Array.range (len * sz)).map (fun x => if len * sz = 0 then default else zv.cells[x % zv.cells.size]!)) [] (by omega) (by simp) (by simp) (by simp) (by simpa using hl)
    (fun j a b h1 h2 => hp j a b h1 (by simpa using h2)) hq
  have ht := Trans.alloc wf hn hf out e
  have hlen : (parts.map (·.2)).length = len := by simp [hpl]
  have hszs : ∀ e ∈ parts.map (·.2), e.cells.length = sz := by
    intro d hd
    obtain ⟨a, ha, rfl⟩ := List.mem_map.1 hd
    obtain ⟨j, hj⟩ := List.getElem?_of_mem ha
    exact (hq j a hj).2.2
  refine ⟨.slice (some ⟨w.heap.size, 0, none⟩) len len, _, _, ?_, ht, ?_⟩
  · have hnle : ¬ (len * sz > 2 ^ 24) := by omega
    by_cases h0 : len * sz = 0
    · have e0 : (Array.range (len * sz)).map (fun x => if len * sz = 0 then default else zv.cells[x % zv.cells.size]!) = #[] := by simp [h0]
      rw [e0] at ho
      have e1 : (Array.map (fun _ => default) (Array.range 0) : Array Value) = #[] := by apply Array.ext <;> simp
      simp [Instr.buildSlice, run_underlying (elem_under he), hso, h0, e1, ho, newRow]
    · simp only [h0, if_false] at ho
      simp [Instr.buildSlice, run_underlying (elem_under he), hso, hnle, h0, hzr, ho, newRow]
  · have := R.newSl (φ' := φ.set n (.at w.heap.size 0)) (w' := { w with heap := w.heap.push (.cells out e) }) (n := n) (b := w.heap.size) (c := len) (sz := sz) (off := 0) (base := 0) (cap := some len) (es := parts.map (·.2)) (vs := vs) (e := e) (arr := out)
      hn (by simp) (by simp) hszs (hro.keep (fun d v h => ht.keep d v h)) (fun j v hv => by
        simp at hout
        have e0 : 0 + 0 + j = j := by omega
        rw [e0, ← Array.getElem?_toList, hout]; exact hv) (by rw [hlen]; exact Nat.le_refl _) (fun k hk => by simpa using hk) (by
        have : out.size = vs.length := by rw [← Array.length_toList, hout]; simp
        rw [this, ← hro.1, flat_length hszs, hlen]; omega)
    rw [hlen] at this
    simpa using this

/-! ### make -/
def zeroElem (a : Bool) (z : List D) : D := if a then .agg z else z.headD .bad

def dMake (P : Program) (t : Nat) (l c : D) (n : Nat) : Option (D × Nat × List Eff) :=
  match l, c with
  | .val (.int _ l), .val (.int _ c) =>
    match (tyElem P t).bind (tySz P), (tyElem P t).bind (tyZero P), (tyElem P t).bind (tyBytes P), (tyElem P t).bind (tyAgg P) with
    | some sz, some z, some by_, some a =>
      if sz ≠ 0 ∧ z.length = sz ∧ (a = true ∨ (sz = 1 ∧ (z.all D.leaf) = true)) ∧ 0 ≤ l ∧ l ≤ c ∧ c * by_ ≤ 140737488355328 ∧ c ≤ 140737488355328 then
        some (.sl n 0 (some c.toNat) sz (List.replicate l.toNat (zeroElem a z)), n + 1, [])
      else none
    | _, _, _, _ => none
  | _, _ => none

theorem make_sound {t n n' : Nat} {l c r : D} {lv cv : Value} {E : List Eff} (h : dMake P t l c n = some (r, n', E)) (wf : WF φ w) (hn : n ≠ 0) (hf : φ n = .no)
    (hl : R φ w l lv) (hcv : R φ w c cv) : ∃ v w' φ', (Instr.makeSlice t lv cv).run P w = .ok v w' ∧ Trans φ w φ' w' n n' E ∧ R φ' w' r v := by
  unfold dMake at h
  split at h
  case h_2 => simp at h
  rename_i kl l kc c
  cases hl; cases hcv
  split at h
  case h_2 => simp at h
  rename_i sz z by_ a hsz hz hby ha
  split at h
  case isFalse => simp at h
  rename_i hc
  obtain ⟨hs0, hzl, hag, h0, hlc, hbytes, h63⟩ := hc
  cases h
  obtain ⟨e, he, hes, hez, heb⟩ : ∃ e, tyElem P t = some e ∧ tySz P e = some sz ∧ tyZero P e = some z ∧ tyBytes P e = some by_ := by
    cases hel : tyElem P t with
    | none => simp [hel] at hsz
    | some e => exact ⟨e, rfl, by simpa [hel] using hsz, by simpa [hel] using hz, by simpa [hel] using hby⟩
  obtain ⟨zv, i, hzr, rfl, hi, hiz⟩ := zero_run (w := w) hez
  have his : i.size = sz := by simpa [tySz, hi] using hes
  have hib : i.bytes = by_ := by simpa [tyBytes, hi] using heb
  have hr := run_make (P := P) w t e i zv (elem_under he) hi hiz kl kc l c h0 hlc (by rw [hib, Int.mul_comm]; omega) (by omega)
  have ht := Trans.alloc wf hn hf (madeCells zv.cells (c.toNat * i.size)) e
  have hzs : zv.cells.size = sz := by simpa using hzl
  have hcz : (zeroElem a (zv.cells.toList.map leafD)).cells = zv.cells.toList.map leafD := by
    unfold zeroElem
    cases a with
    | true => simp [D.cells]
    | false =>
      obtain ⟨h1, h2⟩ := hag.resolve_left (by simp)
      simp only [Bool.false_eq_true, if_false]
      have hl1 : (zv.cells.toList.map leafD).length = 1 := by rw [hzl, h1]
      match hm : zv.cells.toList.map leafD, hl1 with
      | [d], _ =>
        rw [hm] at h2
        simp at h2
        simp [D.leaf_cells h2]
  have hfl : ∀ k, flat (List.replicate k (zeroElem a (zv.cells.toList.map leafD))) = (List.range (k * sz)).map (fun j => leafD (zv.cells[j % sz]!)) := by
    intro k
    induction k with
    | zero => simp
    | succ k ih =>
      rw [List.replicate_succ', flat_append, ih, flat_cons, hcz]
      simp only [flat_nil, List.append_nil]
      rw [Nat.succ_mul, List.range_add, List.map_append]
      congr 1
      apply List.ext_getElem
      · simp [hzs]
      · intro j h1 h2
        simp at h1
        simp [Nat.mul_add_mod_self_right, Nat.mod_eq_of_lt (show j < sz by omega)]
        rw [getElem!_pos zv.cells j h1]
  have hlt : l.toNat ≤ c.toNat := by omega
  have hmul : l.toNat * sz ≤ c.toNat * sz := Nat.mul_le_mul_right _ hlt
  refine ⟨_, _, _, hr, ht, ?_⟩
  have := R.newSl (φ' := φ.set n (.at w.heap.size 0)) (w' := w.alloc (.cells (madeCells zv.cells (c.toNat * i.size)) e)) (n := n) (b := w.heap.size) (c := c.toNat) (sz := sz) (off := 0) (base := 0) (cap := some c.toNat)
    (es := List.replicate l.toNat (zeroElem a (zv.cells.toList.map leafD))) (vs := (List.range (l.toNat * sz)).map (fun j => zv.cells[j % sz]!)) (e := e) (arr := madeCells zv.cells (c.toNat * i.size))
    hn (by simp) (heap_alloc_new w _) (fun d hd => by rw [List.eq_of_mem_replicate hd, hcz]; simpa using hzs) (by
      rw [hfl]
      have := RL.leafs (φ.set n (.at w.heap.size 0)) (w.alloc (.cells (madeCells zv.cells (c.toNat * i.size)) e)) ((List.range (l.toNat * sz)).map (fun j => zv.cells[j % sz]!))
      simpa [List.map_map, Function.comp_def] using this) (fun j v hv => by
      obtain ⟨x, hx, rfl⟩ := getElem?_map_some hv
      obtain ⟨hj, h'⟩ := List.getElem?_eq_some_iff.1 hx
      simp at h' hj
      subst h'
      have e0 : 0 + 0 + j = j := by omega
      have hj2 : j < l.toNat * sz := by simpa using hj
      rw [e0]
      simp [madeCells, his, hzs]
      exact ⟨j, by rw [Array.getElem?_eq_getElem (by simp; omega)]; simp, rfl⟩) (by simpa using hlt) (fun k hk => by simpa using hk) (by rw [size_madeCells, his]; omega)
  simpa using this

/-! ### len, copy, min, max, clear -/
def dLen (P : Program) (t : Nat) (x : D) : Option D :=
  match x with
  | .sl _ _ _ _ es => if (tyElem P t).isSome = true then some (.val (.int .i64 es.length)) else none
  | .val (.string s) => if tyStr P t = true then some (.val (.int .i64 s.size)) else none
  | _ => none

theorem len_sound {t ty : Nat} {x r : D} {v : Value} (h : dLen P t x = some r) (hx : R φ w x v) : ∃ u, (Builtin.len_ #[t] ty #[v]).run P w = .ok u w ∧ R φ w r u := by
  unfold dLen at h
  split at h
  · rename_i id off cap sz es
    split at h
    · rename_i hs
      obtain ⟨e, he⟩ := Option.isSome_iff_exists.1 hs
      cases h
      cases hx
      exact ⟨_, by simp [Builtin.len_, run_underlying (elem_under he)]; rfl, .val _⟩
    · simp at h
  · cases hx
    split at h
    · rename_i hs
      cases h
      exact ⟨_, by simp [Builtin.len_, run_underlying (str_under hs)]; rfl, .val _⟩
    · simp at h
  · simp at h

def dMinMax (mx : Bool) : List D → Option D
  | [.val (.int k x), .val (.int _ y)] => some (.val (.int k (if mx then (if y > x then y else x) else (if y < x then y else x))))
  | _ => none

theorem minmax_sound {mx : Bool} {xs : List D} {vs : Array Value} {at_ : Array TypeId} {ty : Nat} {r : D} (h : dMinMax mx xs = some r) (hx : RL φ w xs vs.toList) :
    ∃ u, (if mx then Builtin.max_ at_ ty vs else Builtin.min_ at_ ty vs).run P w = .ok u w ∧ R φ w r u := by
  unfold dMinMax at h
  split at h
  · rename_i k x k' y
    cases h
    have hl := hx.1
    match hv : vs.toList, hl with
    | [a, b], _ =>
      rw [hv] at hx
      have h1 := hx.2 0 _ a rfl rfl
      have h2 := hx.2 1 _ b rfl rfl
      cases h1; cases h2
      refine ⟨_, ?_, .val _⟩
      cases mx <;> simp [Builtin.max_, Builtin.min_, hv, Builtin.max2, Builtin.min2]
  · simp at h

/-- what is copied comes from where nothing is written, or is read before -/
def dCopy (P : Program) (t : Nat) (d s : D) : Option (D × List Eff) :=
  match d, s with
  | .sl id off _ sz es, .sl _ _ _ sz2 xs =>
    if (tyElem P t).bind (tySz P) = some sz ∧ sz2 = sz ∧ sz ≠ 0 ∧ id ≠ 0 ∧ ((flat (xs.take es.length)).all fun c => c.leaf && c.good && !c.has (· == id)) = true then
      some (.val (.int .i64 (min xs.length es.length : Nat)), wrs id off (flat (xs.take es.length)))
    else none
  | _, _ => none

theorem copy_sound {t ty : Nat} {d s r : D} {dv sv : Value} {E : List Eff} (h : dCopy P t d s = some (r, E)) (wf : WF φ w) (hd : R φ w d dv) (hs : R φ w s sv) :
    ∃ v w', (Builtin.copy_ #[t, t] ty #[dv, sv]).run P w = .ok v w' ∧ (∀ n, Trans φ w φ w' n n E) ∧ R φ w' r v := by
  unfold dCopy at h
  split at h
  case h_2 => simp at h
  rename_i id off cap sz es id2 off2 cap2 sz2 xs
  split at h
  case isFalse => simp at h
  rename_i hc
  obtain ⟨hsz, rfl, hs0, hid, hall⟩ := hc
  cases h
  obtain ⟨e, he, hes⟩ : ∃ e, tyElem P t = some e ∧ tySz P e = some sz2 := by
    cases hel : tyElem P t with
    | none => simp [hel] at hsz
    | some e => exact ⟨e, rfl, by simpa [hel] using hsz⟩
  have hso := run_sizeOf' (P := P) (w := w) hes
  obtain ⟨A, c, vs, rfl, hvs, hvc, hvn, hlc, hcap, hszs, hp⟩ := hd.sl_cells
  obtain ⟨A2, c2, us, rfl, hus, huc, hun, hlc2, hcap2, hszs2, hp2⟩ := hs.sl_cells
  have hul : us.length = xs.length * sz2 := by rw [← hus.1]; exact flat_length hszs2
  have hmin : Nat.min xs.length es.length = min es.length xs.length := Nat.min_comm _ _
  have hft : flat (xs.take es.length) = (flat xs).take (es.length * sz2) := flat_take _ _ hszs2
  have hus' : RL φ w (flat (xs.take es.length)) (us.take (es.length * sz2)) := by rw [hft]; exact hus.take _
  have hlen' : (us.take (es.length * sz2)).length = (min xs.length es.length) * sz2 := by
    rw [List.length_take, hul]
    rcases Nat.le_total xs.length es.length with hle | hle
    · rw [Nat.min_eq_left hle, Nat.min_eq_right (Nat.mul_le_mul_right _ hle)]
    · rw [Nat.min_eq_right hle, Nat.min_eq_left (Nat.mul_le_mul_right _ hle)]
  have hfc : (Builtin.firstCells sz2 (min xs.length es.length) (.slice A2 xs.length c2)).run P w = .ok (us.take (es.length * sz2)).toArray w := by
    cases A2 with
    | none =>
      rw [hun rfl]
      simpa using run_firstCells_none (P := P) w sz2 (min xs.length es.length) xs.length c2
    | some a => exact run_firstCells_some (P := P) w sz2 _ a xs.length c2 _ hlen' (fun j v hv => huc a rfl j v (by
        rw [List.getElem?_take] at hv
        split at hv
        · exact hv
        · simp at hv))
  have hall' : ∀ c ∈ flat (xs.take es.length), c.leaf = true ∧ c.good = true ∧ c.has (· == id) = false := by
    intro c hc
    have := List.all_eq_true.1 hall c hc
    simp at this
    exact ⟨this.1.1, this.1.2, this.2⟩
  have fin : ∀ w', (match A with | some a => storeCells a (us.take (es.length * sz2)) | none => pure ()).run P w = .ok () w' →
      (Builtin.copy_ #[t, t] ty #[.slice A es.length c, .slice A2 xs.length c2]).run P w = .ok (.int .i64 (min xs.length es.length : Nat)) w' := by
    intro w' hw'
    have hfc' : (Builtin.firstCells sz2 (Nat.min xs.length es.length) (.slice A2 xs.length c2)).run P w = .ok (us.take (es.length * sz2)).toArray w := hfc
    cases A with
    | none =>
      simp at hw'
      subst hw'
      simp [Builtin.copy_, run_underlying (elem_under he), Builtin.lenOf, hso, hfc', goInt]
    | some a =>
      simp at hw'
      simp [Builtin.copy_, run_underlying (elem_under he), Builtin.lenOf, hso, hfc', goInt, hw']
  by_cases h0 : (us.take (es.length * sz2)) = []
  · have hf0 : flat (xs.take es.length) = [] := List.eq_nil_of_length_eq_zero (by rw [hus'.1, h0]; rfl)
    refine ⟨_, w, fin w ?_, fun n => ?_, .val _⟩
    · rw [h0]; cases A <;> simp [storeCells]
    · rw [hf0]; exact Trans.refl wf n
  · have hpos : es.length * sz2 ≠ 0 := by
      intro h1
      rw [h1] at h0
      simp at h0
    have hm : es.length * sz2 ≤ c * sz2 := Nat.mul_le_mul_right _ hlc
    unfold Place at hp
    rw [if_neg hid] at hp
    cases hφ : φ id with
    | no => rw [hφ] at hp; exact hp.elim
    | void => rw [hφ] at hp; omega
    | «at» b base =>
      rw [hφ] at hp
      obtain ⟨rfl, arr, e', hb, hle⟩ := hp.resolve_left (by omega)
      obtain ⟨w', hw', ht⟩ := storeCells_sound (P := P) (n := 0) hφ (flat (xs.take es.length)) (us.take (es.length * sz2)) off w (base + off) wf hus' hall' ⟨arr, e', hb, by
        have : (flat (xs.take es.length)).length ≤ es.length * sz2 := by rw [hus'.1, List.length_take]; omega
        omega⟩ (by omega)
      exact ⟨_, w', fin w' hw', ht, .val _⟩

/-- clear of a slice: its elements become zero -/
def dClear (P : Program) (t : Nat) (x : D) : Option (List Eff) :=
  match x with
  | .sl id off _ sz es =>
    match (tyElem P t).bind (tySz P), (tyElem P t).bind (tyZero P) with
    | some s, some z =>
      if es = [] then some []
      else if s = sz ∧ sz ≠ 0 ∧ z.length = sz ∧ id ≠ 0 ∧ (z.all fun c => c.leaf && c.good && !c.has (· == id)) = true then
        some (wrs id off ((List.replicate es.length z).flatten))
      else none
    | _, _ => none
  | _ => none
end
end Go.Cv
namespace Go.Cv
open Go
section
variable {P : Program} {φ : Phi} {w : World}

theorem zero_flat (z : List D) (vs : Array Value) (hz : z = vs.toList.map leafD) : ∀ k, (List.replicate k z).flatten = ((Builtin.zeroCells vs k).toList).map leafD := by
  intro k
  have e : (Builtin.zeroCells vs k).toList = (List.range (k * vs.size)).map (fun j => vs[j % vs.size]!) := by simp [Builtin.zeroCells]
  rw [e]
  induction k with
  | zero => simp
  | succ k ih =>
    have e' : (Builtin.zeroCells vs k).toList = (List.range (k * vs.size)).map (fun j => vs[j % vs.size]!) := by simp [Builtin.zeroCells]
    rw [List.replicate_succ', List.flatten_append, ih e', Nat.succ_mul, List.range_add, List.map_append, List.map_append]
    congr 1
    rw [hz]
    apply List.ext_getElem
    · simp
    · intro j h1 h2
      simp at h1
      simp [Nat.mul_add_mod_self_right, Nat.mod_eq_of_lt h1]
      rw [getElem!_pos vs j h1]

theorem clear_sound {t ty : Nat} {x : D} {v : Value} {E : List Eff} (h : dClear P t x = some E) (wf : WF φ w) (hx : R φ w x v) :
    ∃ w', (Builtin.clear_ #[t] ty #[v]).run P w = .ok (.tuple #[]) w' ∧ ∀ n, Trans φ w φ w' n n E := by
  unfold dClear at h
  split at h
  case h_2 => simp at h
  rename_i id off cap sz es
  split at h
  case h_2 => simp at h
  rename_i s z hs hz
  obtain ⟨e, he, hes, hez⟩ : ∃ e, tyElem P t = some e ∧ tySz P e = some s ∧ tyZero P e = some z := by
    cases hel : tyElem P t with
    | none => simp [hel] at hs
    | some e => exact ⟨e, rfl, by simpa [hel] using hs, by simpa [hel] using hz⟩
  obtain ⟨zv, i, hzr, hzz, hi, hiz⟩ := zero_run (w := w) hez
  obtain ⟨A, c, vs, rfl, hvs, hvc, hvn, hlc, hcap, hszs, hp⟩ := hx.sl_cells
  split at h
  · rename_i h0
    cases h
    subst h0
    refine ⟨w, ?_, fun n => Trans.refl wf n⟩
    cases A <;> simp [Builtin.clear_, run_underlying (elem_under he)]
  rename_i hne
  split at h
  case isFalse => simp at h
  rename_i hc
  obtain ⟨rfl, hs0, hzl, hid, hall⟩ := hc
  cases h
  have hln : es.length ≠ 0 := by simpa using hne
  have hpos : c * s ≠ 0 := Nat.mul_ne_zero (by omega) hs0
  unfold Place at hp
  rw [if_neg hid] at hp
  cases hφ : φ id with
  | no => rw [hφ] at hp; exact hp.elim
  | void => rw [hφ] at hp; omega
  | «at» b base =>
    rw [hφ] at hp
    obtain ⟨rfl, arr, e', hb, hle⟩ := hp.resolve_left hpos
    have hzf := zero_flat z zv.cells hzz es.length
    have hmul : es.length * s ≤ c * s := Nat.mul_le_mul_right _ hlc
    have hlen : ((List.replicate es.length z).flatten).length = es.length * s := by simp [hzl]
    obtain ⟨w', hw', ht⟩ := storeCells_sound (P := P) (n := 0) hφ ((List.replicate es.length z).flatten) (Builtin.zeroCells zv.cells es.length).toList off w (base + off) wf
      (by rw [hzf]; exact RL.leafs φ w _) (fun d hd => by
        obtain ⟨l, hl, hd⟩ := List.mem_flatten.1 hd
        rw [List.eq_of_mem_replicate hl] at hd
        have := List.all_eq_true.1 hall d hd
        simp at this
        exact ⟨this.1.1, this.1.2, this.2⟩) ⟨arr, e', hb, by rw [hlen]; omega⟩ (by omega)
    refine ⟨w', ?_, ht⟩
    obtain ⟨m, hm⟩ : ∃ m, es.length = m + 1 := ⟨es.length - 1, by omega⟩
    rw [hm] at hw' ⊢
    simp [Builtin.clear_, run_underlying (elem_under he), hzr, hw']

/-! ### the machine's configuration -/
abbrev Call' := FuncId → List D → Nat → Option (D × Nat × List Eff)
structure Cfg where
  P : Program
  keep : FuncId → Bool
  ext : FuncId → Option (List D → Nat → Option (D × Nat × List Eff))
  glob : Nat → Option (List D)

abbrev Fr := Nat → D
def upd (fr : Fr) (dst : Option Tmp) (d : D) : Fr := match dst with | some t => fun i => if i = t then d else fr i | none => fr
def appF (E : List Eff) (fr : Fr) : Fr := fun t => appE E (fr t)

def evD (A : Cfg) (fr : Fr) : Operand → D
  | .tmp t => fr t
  | .const v => constD v
  | .global g => match A.glob g with | some cs => .pt 0 0 cs | none => .bad
  | .func f => .fn (.func f) []

def builtinD (P : Program) (b : Builtin) (ts : List TypeId) (xs : List D) (n : Nat) : Option (D × Nat × List Eff) :=
  match b, ts, xs with
  | .len, [t], [x] => (dLen P t x).map fun d => (d, n, [])
  | .append, [t, t'], [s, x] => if t' = t then dAppend P t s x n else none
  | .copy, [t, t'], [d, s] => if t' = t then (dCopy P t d s).map fun r => (r.1, n, r.2) else none
  | .clear, [t], [x] => (dClear P t x).map fun E => (.tup [], n, E)
  | .min, _, xs => (dMinMax false xs).map fun d => (d, n, [])
  | .max, _, xs => (dMinMax true xs).map fun d => (d, n, [])
  | .cap, [t], [.sl _ _ (some k) _ _] => if (tyElem P t).isSome then some (.val (.int .i64 k), n, []) else none
  | _, _, _ => none

def tyConcrete (P : Program) (t : TypeId) : Bool :=
  match P.underlying t with
  | some (.interface _) => false
  | some _ => true
  | none => false

def opD (A : Cfg) (call : Call') (fr : Fr) (n : Nat) (op : Op) : Option (D × Nat × List Eff) :=
  match op with
  | .move x | .assign x => some (evD A fr x, n, [])
  | .pick c a b => match evD A fr c with | .val (.bool t) => some (if t then evD A fr a else evD A fr b, n, []) | _ => none
  | .alloc elem => (tyZero A.P elem).map fun zs => (.pt n 0 zs, n + 1, [])
  | .box _ x => if (evD A fr x).good = true then some (.pt n 0 (evD A fr x).cells, n + 1, []) else none
  | .build t parts => (dBuild A.P t (parts.toList.map fun p => (p.1, evD A fr p.2))).map fun d => (d, n, [])
  | .buildSlice t len parts => dBuildSlice A.P t len (parts.toList.map fun p => (p.1, evD A fr p.2)) n
  | .load t a => (dLoad A.P t (evD A fr a)).map fun d => (d, n, [])
  | .store t a x => (dStore A.P t (evD A fr a) (evD A fr x)).map fun E => (.bad, n, E)
  | .nilCheck x => match evD A fr x with
    | .pt id off cs => some (.pt id off cs, n, [])
    | .fn (.func f) caps => some (.fn (.func f) caps, n, [])
    | _ => none
  | .binOp op xt x y _ => (dBin A.P op xt ((x matches .const _) || (y matches .const _)) (evD A fr x) (evD A fr y)).map fun d => (d, n, [])
  | .unOp op _ x => (dUn op (evD A fr x)).map fun d => (d, n, [])
  | .convert src dst x => (dConv A.P src dst (evD A fr x)).map fun d => (d, n, [])
  | .makeInterface t _ => if tyConcrete A.P t then some (.ifc, n, []) else none
  | .makeFunc fn first captured => if first.isEmpty then some (.fn fn (captured.toList.map (evD A fr)), n, []) else none
  | .makeSlice t l c => dMake A.P t (evD A fr l) (evD A fr c) n
  | .slice t x lo hi mx => (dSlice A.P t (evD A fr x) (lo.map (evD A fr)) (hi.map (evD A fr)) (mx.map (evD A fr))).map fun d => (d, n, [])
  | .fieldAddr t x f => (dFieldAddr A.P t f (evD A fr x)).map fun d => (d, n, [])
  | .field t x f => (dField A.P t f (evD A fr x)).map fun d => (d, n, [])
  | .indexAddr t x i => (dIndexAddr A.P t (evD A fr x) (evD A fr i)).map fun d => (d, n, [])
  | .index t x i => (dIndex A.P t (evD A fr x) (evD A fr i)).map fun d => (d, n, [])
  | .extract t ix => match evD A fr t with | .tup ds => (ds[ix]?).map fun d => (d, n, []) | _ => none
  | .call c => match c.callee with
    | .builtin b => builtinD A.P b c.argTypes.toList (c.args.toList.map (evD A fr)) n
    | .value f => match evD A fr f with
      | .fn (.func g) caps => call g (c.args.toList.map (evD A fr) ++ caps) n
      | _ => none
    | .invoke _ _ => none
  | _ => none

/-- an operation does -/
def DoesR (P : Program) (K : Value → World → Prop) : Result Next → Prop
  | .ok (.value v) w' => K v w'
  | .ok .skip w' => K undef w'
  | .ok (.enter f args) w' => Calls P f args w' (fun e w'' => match e with | .returned v => K v w'' | _ => False)
  | .ok (.row row args) w' => Rows P row args w' K
  | _ => False
def Does (P : Program) (s : Sem Next) (w : World) (K : Value → World → Prop) : Prop := DoesR P K (s.run P w)

theorem Does.wp {o : Oper} {a : Act} {w : World} {K : Value → World → Prop} {next : Act → World → Prop} {Q : Exit → Act → World → Prop}
    (h : Does P (execOp a.eval o) w K) (hk : ∀ v w', K v w' → next (a.put o.dst v) w') : o.wp P a w next Q := by
  unfold Does at h
  unfold Oper.wp
  generalize (execOp a.eval o).run P w = r at *
  cases r with
  | ok n w' =>
    cases n <;> simp only [DoesR] at h <;> simp only [Oper.upon]
    case value => exact hk _ _ h
    case skip => exact hk _ _ h
    case enter =>
      refine Calls.mono h fun e w'' he => ?_
      cases e with
      | returned v => exact hk _ _ he
      | panicked c => exact he.elim
      | outgrown => exact he.elim
    case row => exact Rows.mono h fun v w'' he => hk _ _ he
  | halt x w' => simp only [DoesR] at h

end
end Go.Cv
namespace Go.Cv
open Go
section
variable {A : Cfg} {φ : Phi} {w : World}

def GOk (A : Cfg) (φ : Phi) (w : World) : Prop := ∀ g cs, A.glob g = some cs → R φ w (.pt 0 0 cs) (.pointer (some ⟨g, 0, none⟩))

def Fresh (φ : Phi) (lo hi : Nat) : Prop := ∀ i, lo ≤ i → i < hi → φ i = .no

def Post (φ : Phi) (w : World) (n n' : Nat) (E : List Eff) (d : D) (v : Value) (w' : World) : Prop := ∃ φ', Trans φ w φ' w' n n' E ∧ R φ' w' d v

def CallS (A : Cfg) (call : Call') : Prop := ∀ g ds n d n' E, call g ds n = some (d, n', E) → n ≠ 0 → n ≤ n' ∧ ∀ φ w vs, WF φ w → GOk A φ w → Fresh φ n n' → RL φ w ds vs →
  Does A.P (callFunc g vs.toArray) w (Post φ w n n' E d)

theorem evD_sound {fr : Fr} {ρ : Operand → Value} {x : Operand} (hg : GOk A φ w) (ht : ∀ t, x = .tmp t → R φ w (fr t) (ρ (.tmp t)))
    (hc : ∀ v, ρ (.const v) = v) (hgl : ∀ g, ρ (.global g) = .pointer (some ⟨g, 0, none⟩)) (hf : ∀ f, ρ (.func f) = .func (.func f) #[] #[]) : R φ w (evD A fr x) (ρ x) := by
  cases x with
  | tmp t => exact ht t rfl
  | const v => rw [hc]; exact R.constD φ w v
  | global g =>
    rw [hgl]
    simp only [evD]
    split
    · rename_i cs h; exact hg g cs h
    · exact .bad _
  | func f =>
    rw [hf]
    exact .fn #[] (by simp) (by simp)

theorem does_v {P : Program} {s : Sem Value} {w w' : World} {v : Value} {K : Value → World → Prop} (h : s.run P w = .ok v w') (hk : K v w') : Does P (do pure (Next.value (← s))) w K := by
  unfold Does
  simp only [Sem.run_bind, h, Result.andThen_ok, Sem.run_pure]
  exact hk
theorem does_u {P : Program} {s : Sem Unit} {w w' : World} {K : Value → World → Prop} (h : s.run P w = .ok () w') (hk : K undef w') : Does P (do s; pure Next.skip) w K := by
  unfold Does
  simp only [Sem.run_bind, h, Result.andThen_ok, Sem.run_pure]
  exact hk
theorem does_p {P : Program} {w : World} {v : Value} {K : Value → World → Prop} (hk : K v w) : Does P (pure (.value v)) w K := by
  unfold Does
  simp only [Sem.run_pure]
  exact hk

theorem Post.stay (wf : WF φ w) {n : Nat} {d : D} {v : Value} (h : R φ w d v) : Post φ w n n [] d v w := ⟨φ, Trans.refl wf n, h⟩

theorem fresh1 {n : Nat} (h : Fresh φ n (n + 1)) : φ n = .no := h n (Nat.le_refl _) (by omega)

theorem dBuildSlice_n {P : Program} {t len n : Nat} {ps : List (Nat × D)} {d : D} {n' : Nat} {E : List Eff} (h : dBuildSlice P t len ps n = some (d, n', E)) : n' = n + 1 := by
  unfold dBuildSlice at h
  split at h
  · split at h
    · cases h; rfl
    · simp at h
  · simp at h
theorem dMake_n {P : Program} {t n : Nat} {l c d : D} {n' : Nat} {E : List Eff} (h : dMake P t l c n = some (d, n', E)) : n' = n + 1 := by
  unfold dMake at h
  split at h
  · split at h
    · split at h
      · cases h; rfl
      · simp at h
    · simp at h
  · simp at h
theorem dAppend_n {P : Program} {t n : Nat} {s x d : D} {n' : Nat} {E : List Eff} (h : dAppend P t s x n = some (d, n', E)) : n' = n + 1 := by
  unfold dAppend at h
  split at h
  · split at h
    · split at h
      · split at h
        · split at h
          · cases h; rfl
          · simp at h
        · cases h; rfl
      · simp at h
    · simp at h
  · simp at h

/-- the frame stands for the temporaries -/
structure Opn (A : Cfg) (φ : Phi) (w : World) (fr : Fr) (ρ : Operand → Value) (op : Op) : Prop where
  wf : WF φ w
  g : GOk A φ w
  tmps : ∀ t, Operand.tmp t ∈ op.operands → R φ w (fr t) (ρ (.tmp t))
  const : ∀ v, ρ (.const v) = v
  glob : ∀ g, ρ (.global g) = .pointer (some ⟨g, 0, none⟩)
  func : ∀ f, ρ (.func f) = .func (.func f) #[] #[]

theorem Opn.ev {fr : Fr} {ρ : Operand → Value} {op : Op} (h : Opn A φ w fr ρ op) {x : Operand} (hx : x ∈ op.operands) : R φ w (evD A fr x) (ρ x) :=
  evD_sound h.g (fun t ht => h.tmps t (ht ▸ hx)) h.const h.glob h.func

theorem opt_ev {fr : Fr} {ρ : Operand → Value} {op : Op} (h : Opn A φ w fr ρ op) {x : Option Operand} (hx : ∀ y, x = some y → y ∈ op.operands) : ∀ d, x.map (evD A fr) = some d → ∃ v, x.map ρ = some v ∧ R φ w d v := by
  intro d hd
  cases x with
  | none => simp at hd
  | some y => simp at hd; subst hd; exact ⟨_, rfl, h.ev (hx y rfl)⟩

theorem args_ev {fr : Fr} {ρ : Operand → Value} {op : Op} (h : Opn A φ w fr ρ op) (xs : List Operand) (hx : ∀ y ∈ xs, y ∈ op.operands) : RL φ w (xs.map (evD A fr)) (xs.map ρ) := by
  refine ⟨by simp, fun j d v h1 h2 => ?_⟩
  obtain ⟨x, hj, rfl⟩ := getElem?_map_some h1
  simp [hj] at h2
  subst h2
  exact h.ev (hx x (List.mem_of_getElem? hj))

theorem parts_ev {fr : Fr} {ρ : Operand → Value} {op : Op} (h : Opn A φ w fr ρ op) (ps : Array (Nat × Operand)) (hx : ∀ y ∈ ps.toList.map (·.2), y ∈ op.operands) :
    (ps.toList.map fun p => (p.1, evD A fr p.2)).length = (ps.map fun (i, x) => (i, ρ x)).size ∧
    ∀ (j : Nat) (a : Nat × D) (b : Nat × Value), (ps.toList.map fun p => (p.1, evD A fr p.2))[j]? = some a → (ps.map fun (i, x) => (i, ρ x))[j]? = some b → a.1 = b.1 ∧ R φ w a.2 b.2 := by
  refine ⟨by simp, fun j a b h1 h2 => ?_⟩
  obtain ⟨x, hj, rfl⟩ := getElem?_map_some h1
  have hj' : ps[j]? = some x := by simpa using hj
  simp [hj'] at h2
  subst h2
  exact ⟨rfl, h.ev (hx _ (List.mem_map.2 ⟨x, List.mem_of_getElem? hj, rfl⟩))⟩
end
end Go.Cv
namespace Go.Cv
open Go
section
variable {A : Cfg}

/-- the result of a pure operation -/
theorem pure_case {o : Option D} {n : Nat} {d : D} {n' : Nat} {E : List Eff} (h : (o.map fun d => (d, n, ([] : List Eff))) = some (d, n', E)) :
    o = some d ∧ n' = n ∧ E = [] := by
  cases o with
  | none => simp at h
  | some x => simp at h; exact ⟨by rw [h.1], h.2.1.symm, h.2.2⟩

theorem builtin_sound {b : Builtin} {ts : Array TypeId} {xs : List D} {n n' : Nat} {d : D} {E : List Eff} (h : builtinD A.P b ts.toList xs n = some (d, n', E)) (hn : n ≠ 0) :
    n ≤ n' ∧ ∀ φ w vs ty ks, WF φ w → Fresh φ n n' → RL φ w xs vs → Does A.P (builtin b ts ty ks vs.toArray) w (Post φ w n n' E d) := by
  unfold builtinD at h
  split at h
  · rename_i t x hts
    obtain ⟨h1, rfl, rfl⟩ := pure_case h; clear h; have h := h1; clear h1
    refine ⟨Nat.le_refl _, fun φ w vs ty ks wf hf hr => ?_⟩
    obtain rfl : ts = #[t] := by cases ts; simp_all
    match vs, hr with
    | [v], hr =>
      obtain ⟨u, hu, hru⟩ := len_sound (ty := ty) h (hr.2 0 _ _ rfl rfl)
      exact does_v hu (Post.stay wf hru)
    | [], hr => exact absurd hr.1 (by simp)
    | _ :: _ :: _, hr => exact absurd hr.1 (by simp)
  · rename_i t t' s x hts
    split at h
    case isFalse => simp at h
    rename_i ht
    subst ht
    obtain rfl := dAppend_n h
    refine ⟨by omega, fun φ w vs ty ks wf hf hr => ?_⟩
    obtain rfl : ts = #[t', t'] := by cases ts; simp_all
    match vs, hr with
    | [v, u], hr =>
      obtain ⟨z, w', φ', hz, htr, hrz⟩ := append_sound (ty := ty) h wf hn (fresh1 hf) (hr.2 0 _ _ rfl rfl) (hr.2 1 _ _ rfl rfl)
      exact does_v hz ⟨φ', htr, hrz⟩
    | [], hr => exact absurd hr.1 (by simp)
    | [_], hr => exact absurd hr.1 (by simp)
    | _ :: _ :: _ :: _, hr => exact absurd hr.1 (by simp)
  · rename_i t t' dd s hts
    split at h
    case isFalse => simp at h
    rename_i ht
    subst ht
    cases hc : dCopy A.P t' dd s with
    | none => simp [hc] at h
    | some r =>
      obtain ⟨r1, r2⟩ := r
      simp [hc] at h
      obtain ⟨rfl, rfl, rfl⟩ := h
      refine ⟨Nat.le_refl _, fun φ w vs ty ks wf hf hr => ?_⟩
      obtain rfl : ts = #[t', t'] := by cases ts; simp_all
      match vs, hr with
      | [v, u], hr =>
        obtain ⟨z, w', hz, htr, hrz⟩ := copy_sound (ty := ty) hc wf (hr.2 0 _ _ rfl rfl) (hr.2 1 _ _ rfl rfl)
        exact does_v hz ⟨φ, htr _, hrz⟩
      | [], hr => exact absurd hr.1 (by simp)
      | [_], hr => exact absurd hr.1 (by simp)
      | _ :: _ :: _ :: _, hr => exact absurd hr.1 (by simp)
  · rename_i t x hts
    cases hc : dClear A.P t x with
    | none => simp [hc] at h
    | some r =>
      simp [hc] at h
      obtain ⟨rfl, rfl, rfl⟩ := h
      refine ⟨Nat.le_refl _, fun φ w vs ty ks wf hf hr => ?_⟩
      obtain rfl : ts = #[t] := by cases ts; simp_all
      match vs, hr with
      | [v], hr =>
        obtain ⟨w', hz, htr⟩ := clear_sound (ty := ty) hc wf (hr.2 0 _ _ rfl rfl)
        exact does_v hz ⟨φ, htr _, .tup #[] (by simp) (by simp)⟩
      | [], hr => exact absurd hr.1 (by simp)
      | _ :: _ :: _, hr => exact absurd hr.1 (by simp)
  · obtain ⟨h1, rfl, rfl⟩ := pure_case h; clear h; have h := h1; clear h1
    refine ⟨Nat.le_refl _, fun φ w vs ty ks wf hf hr => ?_⟩
    obtain ⟨u, hu, hru⟩ := minmax_sound (ty := ty) (at_ := ts) (P := A.P) h (vs := vs.toArray) (by simpa using hr)
    exact does_v (by simpa using hu) (Post.stay wf hru)
  · obtain ⟨h1, rfl, rfl⟩ := pure_case h; clear h; have h := h1; clear h1
    refine ⟨Nat.le_refl _, fun φ w vs ty ks wf hf hr => ?_⟩
    obtain ⟨u, hu, hru⟩ := minmax_sound (ty := ty) (at_ := ts) (P := A.P) h (vs := vs.toArray) (by simpa using hr)
    exact does_v (by simpa using hu) (Post.stay wf hru)
  · rename_i t id off k sz es hts
    split at h
    case isFalse => simp at h
    rename_i he
    obtain ⟨e, he⟩ := Option.isSome_iff_exists.1 he
    cases h
    refine ⟨Nat.le_refl _, fun φ w vs ty ks wf hf hr => ?_⟩
    obtain rfl : ts = #[t] := by cases ts; simp_all
    match vs, hr with
    | [v], hr =>
      have h0 := hr.2 0 _ _ rfl rfl
      cases h0 with
      | @sl _ _ _ _ _ a c u hc hcap =>
        have := hcap k rfl
        subst this
        exact does_v (v := .int .i64 c) (w' := w) (by simp [Builtin.cap_, run_underlying (elem_under he), goInt]) (Post.stay wf (.val _))
    | [], hr => exact absurd hr.1 (by simp)
    | _ :: _ :: _, hr => exact absurd hr.1 (by simp)
  · simp at h

set_option maxHeartbeats 1000000 in
theorem op_sound {call : Call'} {fr : Fr} {n n' : Nat} {o : Oper} {d : D} {E : List Eff} (h : opD A call fr n o.op = some (d, n', E)) (hn : n ≠ 0) (hcall : CallS A call) :
    n ≤ n' ∧ ∀ φ w ρ, Opn A φ w fr ρ o.op → Fresh φ n n' → Does A.P (execOp ρ o) w (Post φ w n n' E d) := by
  obtain ⟨dst, op, type, pos, after, guard⟩ := o
  simp only at h ⊢
  unfold opD at h
  split at h
  case h_1 x =>
    cases h
    exact ⟨Nat.le_refl _, fun φ w ρ ho hf => does_p (Post.stay ho.wf (ho.ev (by simp [Op.operands])))⟩
  case h_2 x =>
    cases h
    exact ⟨Nat.le_refl _, fun φ w ρ ho hf => does_p (Post.stay ho.wf (ho.ev (by simp [Op.operands])))⟩
  case h_3 c a b =>
    split at h
    case h_2 => simp at h
    rename_i t ht
    cases h
    refine ⟨Nat.le_refl _, fun φ w ρ ho hf => ?_⟩
    have hc := ho.ev (x := c) (by simp [Op.operands])
    rw [ht] at hc
    have ha := ho.ev (x := a) (by simp [Op.operands])
    have hb := ho.ev (x := b) (by simp [Op.operands])
    generalize hρ : ρ c = cv at hc
    cases hc
    have : (execOp ρ ⟨dst, .pick c a b, type, pos, after, guard⟩).run A.P w = .ok (.value (if t then ρ a else ρ b)) w := by simp [execOp, hρ, asBool]
    unfold Does
    rw [this]
    refine Post.stay ho.wf ?_
    cases t
    · exact hb
    · exact ha
  case h_4 elem =>
    cases hz : tyZero A.P elem with
    | none => simp [hz] at h
    | some zs =>
      simp [hz] at h
      obtain ⟨rfl, rfl, rfl⟩ := h
      refine ⟨by omega, fun φ w ρ ho hf => ?_⟩
      obtain ⟨w', φ', hr, ht, hd⟩ := alloc_sound ho.wf hn (fresh1 hf) hz
      exact does_v hr ⟨φ', ht, hd⟩
  case h_5 t x =>
    split at h
    case isFalse => simp at h
    rename_i hg
    cases h
    refine ⟨by omega, fun φ w ρ ho hf => ?_⟩
    obtain ⟨w', φ', hr, ht, hd⟩ := box_sound (P := A.P) (elem := t) ho.wf hn (fresh1 hf) (ho.ev (x := x) (by simp [Op.operands])) hg
    exact does_v hr ⟨φ', ht, hd⟩
  case h_6 t parts =>
    obtain ⟨h1, rfl, rfl⟩ := pure_case h; clear h; have h := h1; clear h1
    refine ⟨Nat.le_refl _, fun φ w ρ ho hf => ?_⟩
    obtain ⟨hl, hp⟩ := parts_ev ho parts (by simp [Op.operands])
    obtain ⟨v, hv, hrv⟩ := build_sound h hl hp
    exact does_v hv (Post.stay ho.wf hrv)
  case h_7 t len parts =>
    obtain rfl := dBuildSlice_n h
    refine ⟨by omega, fun φ w ρ ho hf => ?_⟩
    obtain ⟨hl, hp⟩ := parts_ev ho parts (by simp [Op.operands])
    obtain ⟨v, w', φ', hv, ht, hrv⟩ := buildSlice_sound h ho.wf hn (fresh1 hf) hl hp
    exact does_v hv ⟨φ', ht, hrv⟩
  case h_8 t a =>
    obtain ⟨h1, rfl, rfl⟩ := pure_case h; clear h; have h := h1; clear h1
    refine ⟨Nat.le_refl _, fun φ w ρ ho hf => ?_⟩
    obtain ⟨v, hv, hrv⟩ := load_sound h (ho.ev (x := a) (by simp [Op.operands]))
    exact does_v hv (Post.stay ho.wf hrv)
  case h_9 t a x =>
    cases hs : dStore A.P t (evD A fr a) (evD A fr x) with
    | none => simp [hs] at h
    | some E' =>
      simp [hs] at h
      obtain ⟨rfl, rfl, rfl⟩ := h
      refine ⟨Nat.le_refl _, fun φ w ρ ho hf => ?_⟩
      obtain ⟨w', hr, ht⟩ := store_sound hs ho.wf (ho.ev (x := a) (by simp [Op.operands])) (ho.ev (x := x) (by simp [Op.operands]))
      exact does_u hr ⟨φ, ht _, .bad _⟩
  case h_10 x =>
    split at h
    · rename_i id off cs hx
      cases h
      refine ⟨Nat.le_refl _, fun φ w ρ ho hf => ?_⟩
      have hr := ho.ev (x := x) (by simp [Op.operands])
      rw [hx] at hr
      generalize hρ : ρ x = v at hr
      have : (execOp ρ ⟨dst, .nilCheck x, type, pos, after, guard⟩).run A.P w = .ok (.value v) w := by
        cases hr
        simp [execOp, hρ]
      unfold Does
      rw [this]
      exact Post.stay ho.wf hr
    · rename_i f caps hx
      cases h
      refine ⟨Nat.le_refl _, fun φ w ρ ho hf => ?_⟩
      have hr := ho.ev (x := x) (by simp [Op.operands])
      rw [hx] at hr
      generalize hρ : ρ x = v at hr
      have : (execOp ρ ⟨dst, .nilCheck x, type, pos, after, guard⟩).run A.P w = .ok (.value v) w := by
        cases hr
        simp [execOp, hρ]
      unfold Does
      rw [this]
      exact Post.stay ho.wf hr
    · simp at h
  case h_11 op xt x y yt =>
    obtain ⟨h1, rfl, rfl⟩ := pure_case h; clear h; have h := h1; clear h1
    refine ⟨Nat.le_refl _, fun φ w ρ ho hf => ?_⟩
    obtain ⟨z, hz, hrz⟩ := bin_sound (ox := x) (oy := y) (fun h => h) h (ho.ev (x := x) (by simp [Op.operands])) (ho.ev (x := y) (by simp [Op.operands]))
    exact does_v hz (Post.stay ho.wf hrz)
  case h_12 op xt x =>
    obtain ⟨h1, rfl, rfl⟩ := pure_case h; clear h; have h := h1; clear h1
    refine ⟨Nat.le_refl _, fun φ w ρ ho hf => ?_⟩
    obtain ⟨z, hz, hrz⟩ := un_sound h (ho.ev (x := x) (by simp [Op.operands]))
    exact does_v hz (Post.stay ho.wf hrz)
  case h_13 src dst' x =>
    obtain ⟨h1, rfl, rfl⟩ := pure_case h; clear h; have h := h1; clear h1
    refine ⟨Nat.le_refl _, fun φ w ρ ho hf => ?_⟩
    obtain ⟨z, hz, hrz⟩ := conv_sound h (ho.ev (x := x) (by simp [Op.operands]))
    exact does_v hz (Post.stay ho.wf hrz)
  case h_14 t x =>
    split at h
    case isFalse => simp at h
    rename_i hc
    cases h
    refine ⟨Nat.le_refl _, fun φ w ρ ho hf => ?_⟩
    refine does_v (v := .iface t (ρ x)) (w' := w) ?_ (Post.stay ho.wf (.ifc _ _))
    unfold tyConcrete at hc
    cases hu : A.P.underlying t with
    | none => simp [hu] at hc
    | some dd => cases dd <;> simp [hu] at hc <;> simp [Instr.makeInterface, run_underlying hu]
  case h_15 fn first captured =>
    split at h
    case isFalse => simp at h
    rename_i hc
    cases h
    refine ⟨Nat.le_refl _, fun φ w ρ ho hf => ?_⟩
    have hf0 : first = #[] := by simpa using hc
    subst hf0
    have hl := args_ev ho captured.toList (by simp [Op.operands])
    refine does_v (v := .func fn #[] (captured.map ρ)) (w' := w) (by simp [Instr.makeFunc]) (Post.stay ho.wf (.fn _ (by simp) (fun j d v h1 h2 => hl.2 j d v h1 (by simpa using h2))))
  case h_16 t l c =>
    obtain rfl := dMake_n h
    refine ⟨by omega, fun φ w ρ ho hf => ?_⟩
    obtain ⟨v, w', φ', hv, ht, hrv⟩ := make_sound h ho.wf hn (fresh1 hf) (ho.ev (x := l) (by simp [Op.operands])) (ho.ev (x := c) (by simp [Op.operands]))
    exact does_v hv ⟨φ', ht, hrv⟩
  case h_17 t x lo hi mx =>
    obtain ⟨h1, rfl, rfl⟩ := pure_case h; clear h; have h := h1; clear h1
    refine ⟨Nat.le_refl _, fun φ w ρ ho hf => ?_⟩
    obtain ⟨z, hz, hrz⟩ := slice_sound (lov := lo.map ρ) (hiv := hi.map ρ) (mxv := mx.map ρ) h (ho.ev (x := x) (by simp [Op.operands]))
      (opt_ev ho (by rintro y rfl; simp [Op.operands])) (by cases lo <;> simp) (opt_ev ho (by rintro y rfl; simp [Op.operands])) (by cases hi <;> simp)
      (opt_ev ho (by rintro y rfl; simp [Op.operands])) (by cases mx <;> simp)
    exact does_v hz (Post.stay ho.wf hrz)
  case h_18 t x f =>
    obtain ⟨h1, rfl, rfl⟩ := pure_case h; clear h; have h := h1; clear h1
    refine ⟨Nat.le_refl _, fun φ w ρ ho hf => ?_⟩
    obtain ⟨z, hz, hrz⟩ := fieldAddr_sound h (ho.ev (x := x) (by simp [Op.operands]))
    exact does_v hz (Post.stay ho.wf hrz)
  case h_19 t x f =>
    obtain ⟨h1, rfl, rfl⟩ := pure_case h; clear h; have h := h1; clear h1
    refine ⟨Nat.le_refl _, fun φ w ρ ho hf => ?_⟩
    obtain ⟨z, hz, hrz⟩ := field_sound h (ho.ev (x := x) (by simp [Op.operands]))
    exact does_v hz (Post.stay ho.wf hrz)
  case h_20 t x i =>
    obtain ⟨h1, rfl, rfl⟩ := pure_case h; clear h; have h := h1; clear h1
    refine ⟨Nat.le_refl _, fun φ w ρ ho hf => ?_⟩
    obtain ⟨z, hz, hrz⟩ := indexAddr_sound h (ho.ev (x := x) (by simp [Op.operands])) (ho.ev (x := i) (by simp [Op.operands]))
    exact does_v hz (Post.stay ho.wf hrz)
  case h_21 t x i =>
    obtain ⟨h1, rfl, rfl⟩ := pure_case h; clear h; have h := h1; clear h1
    refine ⟨Nat.le_refl _, fun φ w ρ ho hf => ?_⟩
    obtain ⟨z, hz, hrz⟩ := index_sound h (ho.ev (x := x) (by simp [Op.operands])) (ho.ev (x := i) (by simp [Op.operands]))
    exact does_v hz (Post.stay ho.wf hrz)
  case h_22 t ix =>
    split at h
    case h_2 => simp at h
    rename_i ds hds
    obtain ⟨h1, rfl, rfl⟩ := pure_case h; clear h; have h := h1; clear h1
    refine ⟨Nat.le_refl _, fun φ w ρ ho hf => ?_⟩
    have hr := ho.ev (x := t) (by simp [Op.operands])
    rw [hds] at hr
    generalize hρ : ρ t = v at hr
    cases hr with
    | tup vs hl hr =>
      have hlt : ix < vs.size := by have := (List.getElem?_eq_some_iff.1 h).1; omega
      refine does_v (v := vs[ix]) (w' := w) ?_ (Post.stay ho.wf (hr ix d _ h (by simp [hlt])))
      simp only [hρ, Instr.extract, Array.getElem?_eq_getElem hlt, Sem.run_pure]
  case h_23 c =>
    split at h
    · rename_i b hb
      obtain ⟨hle, hh⟩ := builtin_sound h hn
      refine ⟨hle, fun φ w ρ ho hf => ?_⟩
      have hl := args_ev ho c.args.toList (fun y hy => by simp [Op.operands, Call.operands]; exact .inr (by simpa using hy))
      have this := fun ks => hh φ w _ type ks ho.wf hf hl
      have e : (c.args.toList.map ρ).toArray = c.args.map ρ := by rw [← Array.toList_map]
      rw [e] at this
      unfold Does at this ⊢
      simp only [execOp, resolve, hb, invoke, Sem.run_bind, Sem.run_pure, Result.andThen_ok]
      exact this _
    · rename_i f hf'
      split at h
      case h_2 => simp at h
      rename_i g caps hg
      obtain ⟨hle, hh⟩ := hcall _ _ _ _ _ _ h hn
      refine ⟨hle, fun φ w ρ ho hf => ?_⟩
      have hl := args_ev ho c.args.toList (fun y hy => by simp [Op.operands, Call.operands]; exact .inr (by simpa using hy))
      have hfv := ho.ev (x := f) (by simp [Op.operands, Call.operands, hf'])
      rw [hg] at hfv
      generalize hρ : ρ f = v at hfv
      cases hfv with
      | fn vs hl' hr' =>
        have hl2 : RL φ w caps vs.toList := ⟨by simpa using hl', fun j d v h1 h2 => hr' j d v h1 (by simpa using h2)⟩
        have := hh φ w _ ho.wf ho.g hf (hl.append hl2)
        have e : (c.args.toList.map ρ ++ vs.toList).toArray = c.args.map ρ ++ vs := by rw [← Array.toList_map]; simp
        rw [e] at this
        unfold Does at this ⊢
        simpa [execOp, resolve, hf', hρ, Deferred.ofValue, invoke] using this
    · simp at h
  case h_24 => simp at h
end
end Go.Cv
