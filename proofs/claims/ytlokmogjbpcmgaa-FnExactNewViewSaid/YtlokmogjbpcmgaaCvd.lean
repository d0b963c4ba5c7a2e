/- Readings, on: calls; what the machine of readings gives, the program does. No condition. -/
import Derived.Test.YtlokmogjbpcmgaaCvc
import Derived.Below
import Derived.SizedLaws
set_option linter.unusedVariables false
set_option linter.unusedSimpArgs false
namespace Go.Cv
open Go

/-! ### no effect names 0 -/
def Nz (E : List Eff) : Prop := ∀ e ∈ E, e.id ≠ 0
def CallNz (call : Call') : Prop := ∀ f ds n d n' E, call f ds n = some (d, n', E) → Nz E

theorem Nz.nil : Nz [] := fun e h => by cases h
theorem Nz.append {E F : List Eff} (h : Nz E) (k : Nz F) : Nz (E ++ F) := fun e he => by
  rcases List.mem_append.1 he with he | he
  · exact h e he
  · exact k e he

theorem wrs_id (i : Nat) : ∀ (cs : List D) (k : Nat), ∀ e ∈ wrs i k cs, e.id = i
  | [], _, e, h => by cases h
  | c :: cs, k, e, h => by
    simp only [wrs, List.mem_cons] at h
    rcases h with rfl | h
    · rfl
    · exact wrs_id i cs _ e h

theorem builtin_nz {P : Program} {b : Builtin} {ts : List TypeId} {xs : List D} {n n' : Nat} {d : D} {E : List Eff} (h : builtinD P b ts xs n = some (d, n', E)) : Nz E := by
  unfold builtinD at h
  split at h
  · obtain ⟨_, _, rfl⟩ := pure_case h; exact Nz.nil
  · split at h
    · unfold dAppend at h
      split at h
      · split at h
        · split at h
          · split at h
            · split at h
              · cases h; exact Nz.nil
              · simp at h
            · rename_i h0
              cases h
              intro e he
              simp at he
              subst he
              exact h0
          · simp at h
        · simp at h
      · simp at h
    · simp at h
  · split at h
    · rename_i t t' dd s _
      cases hc : dCopy P t dd s with
      | none => simp [hc] at h
      | some r =>
        simp [hc] at h
        obtain ⟨_, _, rfl⟩ := h
        unfold dCopy at hc
        split at hc
        · split at hc
          · rename_i hcc
            cases hc
            intro e he
            rw [wrs_id _ _ _ e he]
            exact hcc.2.2.2.1
          · simp at hc
        · simp at hc
    · simp at h
  · rename_i t x
    cases hc : dClear P t x with
    | none => simp [hc] at h
    | some r =>
      simp [hc] at h
      obtain ⟨_, _, rfl⟩ := h
      unfold dClear at hc
      split at hc
      · split at hc
        · split at hc
          · cases hc; exact Nz.nil
          · split at hc
            · rename_i hcc
              cases hc
              intro e he
              rw [wrs_id _ _ _ e he]
              exact hcc.2.2.2.1
            · simp at hc
        · simp at hc
      · simp at hc
  · obtain ⟨_, _, rfl⟩ := pure_case h; exact Nz.nil
  · obtain ⟨_, _, rfl⟩ := pure_case h; exact Nz.nil
  · split at h
    · cases h; exact Nz.nil
    · simp at h
  · simp at h

theorem op_nz {A : Cfg} {call : Call'} (hc : CallNz call) {fr : Fr} {n n' : Nat} {op : Op} {d : D} {E : List Eff} (h : opD A call fr n op = some (d, n', E)) : Nz E := by
  unfold opD at h
  split at h
  case h_7 =>
    unfold dBuildSlice at h
    split at h
    · split at h
      · cases h; exact Nz.nil
      · simp at h
    · simp at h
  case h_9 t a x =>
    cases hs : dStore A.P t (evD A fr a) (evD A fr x) with
    | none => simp [hs] at h
    | some E' =>
      simp [hs] at h
      obtain ⟨_, _, rfl⟩ := h
      unfold dStore at hs
      split at hs
      · split at hs
        · rename_i hcc
          cases hs
          intro e he
          rw [wrs_id _ _ _ e he]
          exact hcc.1
        · simp at hs
      · simp at hs
  case h_16 =>
    unfold dMake at h
    split at h
    · split at h
      · split at h
        · cases h; exact Nz.nil
        · simp at h
      · simp at h
    · simp at h
  case h_23 c =>
    split at h
    · exact builtin_nz h
    · split at h
      · exact hc _ _ _ _ _ _ h
      · simp at h
    · simp at h
  case h_1 => cases h; exact Nz.nil
  case h_2 => cases h; exact Nz.nil
  case h_3 => split at h <;> first | (cases h; exact Nz.nil) | simp at h
  case h_4 t => cases hz : tyZero A.P t <;> simp [hz] at h; obtain ⟨_, _, rfl⟩ := h; exact Nz.nil
  case h_5 => split at h <;> first | (cases h; exact Nz.nil) | simp at h
  case h_10 => split at h <;> first | (cases h; exact Nz.nil) | simp at h
  case h_14 => split at h <;> first | (cases h; exact Nz.nil) | simp at h
  case h_15 => split at h <;> first | (cases h; exact Nz.nil) | simp at h
  case h_22 => split at h <;> first | (obtain ⟨_, _, rfl⟩ := pure_case h; exact Nz.nil) | simp at h
  case h_24 => simp at h
  all_goals (obtain ⟨_, _, rfl⟩ := pure_case h; exact Nz.nil)

theorem opsD_nz {A : Cfg} {call : Call'} (hc : CallNz call) {ops : List Oper} : ∀ (l : List Oper) {fr : Fr} {n : Nat} {fr' : Fr} {n' : Nat} {E : List Eff},
    opsD A call ops l fr n = some (fr', n', E) → Nz E
  | [], _, _, _, _, _, h => by simp [opsD] at h; obtain ⟨_, _, rfl⟩ := h; exact Nz.nil
  | o :: l, fr, n, fr', n', E, h => by
    simp only [opsD] at h
    split at h
    · cases ho : opD A call fr n o.op with
      | none => simp [ho] at h
      | some q =>
        obtain ⟨d, n1, E1⟩ := q
        simp only [ho] at h
        cases hq : opsD A call ops l (upd (appF E1 fr) o.dst d) n1 with
        | none => simp [hq] at h
        | some z =>
          obtain ⟨f2, n2, E2⟩ := z
          simp only [hq, Option.map_some, Option.some.injEq, Prod.mk.injEq] at h
          rw [← h.2.2]
          exact (op_nz hc ho).append (opsD_nz hc l hq)
    · exact opsD_nz hc l h
    · simp at h

theorem eff_mapD_id (f : D → D) (e : Eff) : (e.mapD f).id = e.id := by cases e <;> rfl

theorem oldE_mem {n : Nat} {E : List Eff} {e : Eff} (h : e ∈ oldE n E) : ∃ e' ∈ E, e.id = e'.id ∧ e'.id < n := by
  unfold oldE at h
  obtain ⟨e', he', rfl⟩ := List.mem_map.1 h
  obtain ⟨h1, h2⟩ := List.mem_filter.1 he'
  exact ⟨e', h1, eff_mapD_id _ _, by simpa using h2⟩

theorem leave_nz {keep : Bool} {n : Nat} {d : D} {E : List Eff} (h : Nz E) : Nz (leave keep n d E).2.2 := by
  intro e he
  unfold leave at he
  obtain ⟨e', he', rfl⟩ := List.mem_map.1 he
  rw [eff_mapD_id]
  obtain ⟨e'', h1, h2, _⟩ := oldE_mem he'
  rw [h2]; exact h e'' h1

theorem nz_both {A : Cfg} (hx : ∀ f h, A.ext f = some h → ∀ ds n d n' E, h ds n = some (d, n', E) → Nz E) :
    ∀ k, (∀ c fr n x fr' n' E, evalF A k c fr n = some (x, fr', n', E) → Nz E) ∧ CallNz (callF A k) := by
  intro k
  induction k with
  | zero => exact ⟨fun c fr n x fr' n' E h => by simp [evalF] at h, fun f ds n d n' E h => by simp [callF] at h⟩
  | succ k ih =>
    obtain ⟨ih1, ih2⟩ := ih
    have hseq : ∀ {r : CRes} {kk : Fr → Nat → CRes} {x fr' n' E}, (∀ x fr' n' E, r = some (x, fr', n', E) → Nz E) → (∀ fr n x fr' n' E, kk fr n = some (x, fr', n', E) → Nz E) →
        seqR r kk = some (x, fr', n', E) → Nz E := by
      intro r kk x fr' n' E h1 h2 h
      rcases seqR_some h with ⟨fr1, n1, E1, e, fr2, n2, E2, ha, hb, hc⟩ | ⟨ha, _⟩
      · cases hc; exact (h1 _ _ _ _ ha).append (h2 _ _ _ _ _ _ hb)
      · exact h1 _ _ _ _ ha
    refine ⟨fun c fr n x fr' n' E h => ?_, fun f ds n d n' E h => ?_⟩
    · unfold evalF at h
      cases c <;> simp only at h <;> try (first | (cases h; exact Nz.nil) | (simp at h; done))
      case region id ops draw =>
        cases hr : regD A (callF A k) ops.toList draw fr n with
        | none => simp [hr] at h
        | some q =>
          simp [hr] at h
          have := (regD_some.1 hr).1
          obtain ⟨q1, q2, q3⟩ := q
          rw [← h.2.2.2]
          exact opsD_nz ih2 _ this
      case seq a b => exact hseq (ih1 _ _ _) (fun fr n => ih1 _ fr n) h
      case cond c x y =>
        split at h
        · rename_i t ht
          cases t
          · exact ih1 _ _ _ _ _ _ _ h
          · exact ih1 _ _ _ _ _ _ _ h
        · simp at h
      case block id c =>
        cases hr : evalF A k c fr n with
        | none => simp [hr, blockR] at h
        | some q =>
          obtain ⟨e, f1, n1, E1⟩ := q
          have := ih1 _ _ _ _ _ _ _ hr
          rw [hr] at h
          unfold blockR at h
          split at h
          · rename_i i fr2 n2 E2 heq
            cases heq
            split at h
            · cases h; exact this
            · cases h; exact this
          · cases h; exact this
      case loop c => exact hseq (ih1 _ _ _) (fun fr n => ih1 _ fr n) h
    · unfold callF at h
      split at h
      · rename_i hh he; exact hx f hh he _ _ _ _ _ h
      · split at h
        · split at h
          · rename_i c hc
            split at h
            · cases hr : evalF A k c (argsFr ds) n with
              | none => simp [hr, endR] at h
              | some q =>
                obtain ⟨e, f1, n1, E1⟩ := q
                have := ih1 _ _ _ _ _ _ _ hr
                rw [hr] at h
                cases e <;> simp only [endR] at h
                · obtain ⟨dd, _, h⟩ := Option.map_eq_some_iff.1 h
                  have h2 := leave_nz (keep := A.keep f) (n := n) (d := dd) this
                  rw [h] at h2; exact h2
                · simp at h
                · obtain ⟨dd, _, h⟩ := Option.map_eq_some_iff.1 h
                  have h2 := leave_nz (keep := A.keep f) (n := n) (d := dd) this
                  rw [h] at h2; exact h2
            · simp at h
          · simp at h
        · simp at h
end Go.Cv
namespace Go.Cv
open Go

/-! ### laws of effects, kills and names -/
theorem map_setFlat {f : D → D} (hc : ∀ d, (f d).cells.length = d.cells.length) (ha : ∀ cs, f (.agg cs) = .agg (cs.map f)) (hl : ∀ d, d.leaf = true → (f d).leaf = true) :
    ∀ (es : List D) (k : Nat) (c : D), (setFlat es k c).map f = setFlat (es.map f) k (f c)
  | [], _, _ => rfl
  | e :: es, k, c => by
    have he := hc e
    simp only [setFlat, List.map_cons, he]
    split
    · simp only [List.map_cons]
      congr 1
      cases hle : e.leaf with
      | true =>
        have h2 := hl e hle
        revert h2
        generalize f e = z
        intro h2
        cases e <;> first | (simp [D.leaf] at hle; done) | (cases z <;> first | rfl | simp [D.leaf] at h2)
      | false =>
        cases e <;> simp [D.leaf] at hle
        simp only [ha, List.map_set]
    · simp only [List.map_cons, map_setFlat hc ha hl es]

theorem len_kill (i : Nat) (d : D) : (d.kill i).cells.length = d.cells.length := by rw [cells_kill]; simp
theorem leaf_kill (i : Nat) (d : D) (h : d.leaf = true) : (d.kill i).leaf = true := by
  cases d <;> simp [D.leaf] at h <;> simp [D.kill] <;> (try split) <;> rfl
theorem len_ren (ρ : Nat → Nat) (d : D) : (d.ren ρ).cells.length = d.cells.length := by rw [cells_ren]; simp
theorem leaf_ren (ρ : Nat → Nat) (d : D) (h : d.leaf = true) : (d.ren ρ).leaf = true := by
  cases d <;> simp [D.leaf] at h <;> simp [D.ren] <;> rfl

/-- a kill forgets what was done under the id -/
theorem kill_app_self (e : Eff) : ∀ d : D, (e.app d).kill e.id = d.kill e.id := by
  have key : ∀ n, (∀ d : D, SizeOf.sizeOf d < n → (e.app d).kill e.id = d.kill e.id) ∧ (∀ l : List D, SizeOf.sizeOf l < n → (l.map e.app).map (D.kill e.id) = l.map (D.kill e.id)) := by
    intro n
    induction n with
    | zero => exact ⟨fun d h => by omega, fun l h => by omega⟩
    | succ n ih =>
      refine ⟨fun d hs => ?_, fun l hs => ?_⟩
      · cases d with
        | val v => rw [app_val]
        | ifc => rw [app_ifc]
        | bad => rw [app_bad]
        | agg cs => rw [app_agg]; simp only [D.kill, killL_map]; rw [ih.2 cs (by simp at hs; omega)]
        | tup cs => rw [app_tup]; simp only [D.kill, killL_map]; rw [ih.2 cs (by simp at hs; omega)]
        | fn f cs => rw [app_fn]; simp only [D.kill, killL_map]; rw [ih.2 cs (by simp at hs; omega)]
        | sl id off cap sz es =>
          by_cases h : id = e.id
          · subst h
            have h1 : (D.sl e.id off cap sz es).kill e.id = .bad := by simp [D.kill]
            rw [h1]
            cases e <;> simp [Eff.app, D.wr, D.kill, Eff.id]
          · rw [app_sl h]; simp only [D.kill, killL_map, h, if_false]; rw [ih.2 es (by simp at hs; omega)]
        | pt id off es =>
          by_cases h : id = e.id
          · subst h
            have h1 : (D.pt e.id off es).kill e.id = .bad := by simp [D.kill]
            rw [h1]
            cases e <;> simp [Eff.app, D.wr, D.kill, Eff.id]
          · rw [app_pt h]; simp only [D.kill, killL_map, h, if_false]; rw [ih.2 es (by simp at hs; omega)]
      · cases l with
        | nil => rfl
        | cons d ds =>
          simp only [List.cons.sizeOf_spec] at hs
          simp only [List.map_cons]
          rw [ih.1 d (by omega), ih.2 ds (by omega)]
  exact fun d => (key (SizeOf.sizeOf d + 1)).1 d (by omega)

/-- a kill of another id goes under -/
theorem kill_app_ne {i : Nat} {e : Eff} (hi : i ≠ e.id) : ∀ d : D, (e.app d).kill i = (e.mapD (D.kill i)).app (d.kill i) := by
  have key : ∀ n, (∀ d : D, SizeOf.sizeOf d < n → (e.app d).kill i = (e.mapD (D.kill i)).app (d.kill i)) ∧ (∀ l : List D, SizeOf.sizeOf l < n → (l.map e.app).map (D.kill i) = (l.map (D.kill i)).map (e.mapD (D.kill i)).app) := by
    intro n
    induction n with
    | zero => exact ⟨fun d h => by omega, fun l h => by omega⟩
    | succ n ih =>
      refine ⟨fun d hs => ?_, fun l hs => ?_⟩
      · cases d with
        | val v => rw [app_val]; simp only [D.kill]; rw [app_val]
        | ifc => rw [app_ifc]; simp only [D.kill]; rw [app_ifc]
        | bad => rw [app_bad]; simp only [D.kill]; rw [app_bad]
        | agg cs => rw [app_agg]; simp only [D.kill, killL_map]; rw [app_agg, ih.2 cs (by simp at hs; omega)]
        | tup cs => rw [app_tup]; simp only [D.kill, killL_map]; rw [app_tup, ih.2 cs (by simp at hs; omega)]
        | fn f cs => rw [app_fn]; simp only [D.kill, killL_map]; rw [app_fn, ih.2 cs (by simp at hs; omega)]
        | sl id off cap sz es =>
          have hl := ih.2 es (by simp at hs; omega)
          by_cases h : id = e.id
          · subst h
            cases e with
            | wr j k c =>
              simp only [Eff.id] at hi ⊢
              simp only [app_wr, Eff.mapD] at hl ⊢
              simp only [D.wr, D.kill, wrL_map, killL_map, Ne.symm hi, if_false, true_and]
              split
              · rw [map_setFlat (len_kill i) (fun cs => by simp [D.kill, killL_map]) (leaf_kill i), hl]
              · rw [hl]
            | kill j =>
              simp only [Eff.id] at hi ⊢
              simp [Eff.app, Eff.mapD, D.kill, Ne.symm hi]
          · by_cases h' : id = i
            · subst h'
              rw [app_sl h]
              simp only [D.kill, if_true]
              rw [app_bad]
            · rw [app_sl h]
              simp only [D.kill, h', if_false, killL_map]
              rw [app_sl (by rw [eff_mapD_id]; exact h), hl]
        | pt id off es =>
          have hl := ih.2 es (by simp at hs; omega)
          by_cases h : id = e.id
          · subst h
            cases e with
            | wr j k c =>
              simp only [Eff.id] at hi ⊢
              simp only [app_wr, Eff.mapD] at hl ⊢
              simp only [D.wr, D.kill, wrL_map, killL_map, Ne.symm hi, if_false, true_and]
              split
              · rw [List.map_set, hl]
              · rw [hl]
            | kill j =>
              simp only [Eff.id] at hi ⊢
              simp [Eff.app, Eff.mapD, D.kill, Ne.symm hi]
          · by_cases h' : id = i
            · subst h'
              rw [app_pt h]
              simp only [D.kill, if_true]
              rw [app_bad]
            · rw [app_pt h]
              simp only [D.kill, h', if_false, killL_map]
              rw [app_pt (by rw [eff_mapD_id]; exact h), hl]
      · cases l with
        | nil => rfl
        | cons d ds =>
          simp only [List.cons.sizeOf_spec] at hs
          simp only [List.map_cons]
          rw [ih.1 d (by omega), ih.2 ds (by omega)]
  exact fun d => (key (SizeOf.sizeOf d + 1)).1 d (by omega)

/-- a renaming goes under an effect, if it keeps apart what the effect names -/
theorem ren_app {ρ : Nat → Nat} {e : Eff} (hρ : ∀ i, ρ i = e.id ↔ i = e.id) : ∀ d : D, (e.app d).ren ρ = (e.mapD (D.ren ρ)).app (d.ren ρ) := by
  have hself : ρ e.id = e.id := (hρ e.id).2 rfl
  have key : ∀ n, (∀ d : D, SizeOf.sizeOf d < n → (e.app d).ren ρ = (e.mapD (D.ren ρ)).app (d.ren ρ)) ∧ (∀ l : List D, SizeOf.sizeOf l < n → (l.map e.app).map (D.ren ρ) = (l.map (D.ren ρ)).map (e.mapD (D.ren ρ)).app) := by
    intro n
    induction n with
    | zero => exact ⟨fun d h => by omega, fun l h => by omega⟩
    | succ n ih =>
      refine ⟨fun d hs => ?_, fun l hs => ?_⟩
      · cases d with
        | val v => rw [app_val]; simp only [D.ren]; rw [app_val]
        | ifc => rw [app_ifc]; simp only [D.ren]; rw [app_ifc]
        | bad => rw [app_bad]; simp only [D.ren]; rw [app_bad]
        | agg cs => rw [app_agg]; simp only [D.ren, renL_map]; rw [app_agg, ih.2 cs (by simp at hs; omega)]
        | tup cs => rw [app_tup]; simp only [D.ren, renL_map]; rw [app_tup, ih.2 cs (by simp at hs; omega)]
        | fn f cs => rw [app_fn]; simp only [D.ren, renL_map]; rw [app_fn, ih.2 cs (by simp at hs; omega)]
        | sl id off cap sz es =>
          have hl := ih.2 es (by simp at hs; omega)
          by_cases h : id = e.id
          · subst h
            cases e with
            | wr j k c =>
              simp only [Eff.id] at hself ⊢
              simp only [app_wr, Eff.mapD] at hl ⊢
              simp only [D.wr, D.ren, wrL_map, renL_map, hself, true_and]
              split
              · rw [map_setFlat (len_ren ρ) (fun cs => by simp [D.ren, renL_map]) (leaf_ren ρ), hl]
              · rw [hl]
            | kill j =>
              simp only [Eff.id] at hself ⊢
              simp [Eff.app, Eff.mapD, D.kill, D.ren, hself]
          · rw [app_sl h]
            simp only [D.ren, renL_map]
            rw [app_sl (by rw [eff_mapD_id]; exact fun h2 => h ((hρ id).1 h2)), hl]
        | pt id off es =>
          have hl := ih.2 es (by simp at hs; omega)
          by_cases h : id = e.id
          · subst h
            cases e with
            | wr j k c =>
              simp only [Eff.id] at hself ⊢
              simp only [app_wr, Eff.mapD] at hl ⊢
              simp only [D.wr, D.ren, wrL_map, renL_map, hself, true_and]
              split
              · rw [List.map_set, hl]
              · rw [hl]
            | kill j =>
              simp only [Eff.id] at hself ⊢
              simp [Eff.app, Eff.mapD, D.kill, D.ren, hself]
          · rw [app_pt h]
            simp only [D.ren, renL_map]
            rw [app_pt (by rw [eff_mapD_id]; exact fun h2 => h ((hρ id).1 h2)), hl]
      · cases l with
        | nil => rfl
        | cons d ds =>
          simp only [List.cons.sizeOf_spec] at hs
          simp only [List.map_cons]
          rw [ih.1 d (by omega), ih.2 ds (by omega)]
  exact fun d => (key (SizeOf.sizeOf d + 1)).1 d (by omega)

theorem ren_appE {ρ : Nat → Nat} : ∀ (E : List Eff) (d : D), (∀ e ∈ E, ∀ i, ρ i = e.id ↔ i = e.id) → (appE E d).ren ρ = appE (E.map (Eff.mapD (D.ren ρ))) (d.ren ρ)
  | [], _, _ => rfl
  | e :: E, d, h => by
    rw [appE_cons, List.map_cons, appE_cons, ren_appE E _ (fun x hx => h x (by simp [hx])), ren_app (h e (by simp))]

mutual
theorem ren_congr {ρ σ : Nat → Nat} : ∀ d : D, (∀ i ∈ d.ids, ρ i = σ i) → d.ren ρ = d.ren σ
  | .val v, _ => rfl
  | .ifc, _ => rfl
  | .bad, _ => rfl
  | .agg cs, h => by simp only [D.ren]; rw [ren_congrL cs (by simpa [D.ids] using h)]
  | .tup cs, h => by simp only [D.ren]; rw [ren_congrL cs (by simpa [D.ids] using h)]
  | .fn f cs, h => by simp only [D.ren]; rw [ren_congrL cs (by simpa [D.ids] using h)]
  | .sl id off cap sz es, h => by simp only [D.ren]; rw [ren_congrL es (fun i hi => h i (by simp [D.ids, hi])), h id (by simp [D.ids])]
  | .pt id off es, h => by simp only [D.ren]; rw [ren_congrL es (fun i hi => h i (by simp [D.ids, hi])), h id (by simp [D.ids])]
theorem ren_congrL {ρ σ : Nat → Nat} : ∀ ds : List D, (∀ i ∈ idsL ds, ρ i = σ i) → renL ρ ds = renL σ ds
  | [], _ => rfl
  | d :: ds, h => by
    simp only [renL]
    rw [ren_congr d (fun i hi => h i (by simp [idsL, hi])), ren_congrL ds (fun i hi => h i (by simp [idsL, hi]))]
end
mutual
theorem ren_id : ∀ d : D, d.ren (fun i => i) = d
  | .val v => rfl
  | .ifc => rfl
  | .bad => rfl
  | .agg cs => by simp only [D.ren]; rw [ren_idL cs]
  | .tup cs => by simp only [D.ren]; rw [ren_idL cs]
  | .fn f cs => by simp only [D.ren]; rw [ren_idL cs]
  | .sl id off cap sz es => by simp only [D.ren]; rw [ren_idL es]
  | .pt id off es => by simp only [D.ren]; rw [ren_idL es]
theorem ren_idL : ∀ ds : List D, renL (fun i => i) ds = ds
  | [] => rfl
  | d :: ds => by simp only [renL]; rw [ren_id d, ren_idL ds]
end
mutual
theorem ren_ren {ρ σ : Nat → Nat} : ∀ d : D, (d.ren ρ).ren σ = d.ren (fun i => σ (ρ i))
  | .val v => rfl
  | .ifc => rfl
  | .bad => rfl
  | .agg cs => by simp only [D.ren]; rw [ren_renL cs]
  | .tup cs => by simp only [D.ren]; rw [ren_renL cs]
  | .fn f cs => by simp only [D.ren]; rw [ren_renL cs]
  | .sl id off cap sz es => by simp only [D.ren]; rw [ren_renL es]
  | .pt id off es => by simp only [D.ren]; rw [ren_renL es]
theorem ren_renL {ρ σ : Nat → Nat} : ∀ ds : List D, renL σ (renL ρ ds) = renL (fun i => σ (ρ i)) ds
  | [] => rfl
  | d :: ds => by simp only [renL]; rw [ren_ren d, ren_renL ds]
end
theorem ren_fix {ρ : Nat → Nat} {d : D} (h : ∀ i ∈ d.ids, ρ i = i) : d.ren ρ = d := by rw [ren_congr (σ := fun i => i) d h, ren_id]

mutual
theorem kill_fix {j : Nat} : ∀ {d : D}, j ∉ d.ids → d.kill j = d
  | .val v, _ => rfl
  | .ifc, _ => rfl
  | .bad, _ => rfl
  | .agg cs, h => by simp only [D.kill]; rw [kill_fixL (by simpa [D.ids] using h)]
  | .tup cs, h => by simp only [D.kill]; rw [kill_fixL (by simpa [D.ids] using h)]
  | .fn f cs, h => by simp only [D.kill]; rw [kill_fixL (by simpa [D.ids] using h)]
  | .sl id off cap sz es, h => by
    simp only [D.ids, List.mem_cons, not_or] at h
    simp only [D.kill]; rw [if_neg (Ne.symm h.1), kill_fixL h.2]
  | .pt id off es, h => by
    simp only [D.ids, List.mem_cons, not_or] at h
    simp only [D.kill]; rw [if_neg (Ne.symm h.1), kill_fixL h.2]
theorem kill_fixL {j : Nat} : ∀ {ds : List D}, j ∉ idsL ds → killL j ds = ds
  | [], _ => rfl
  | d :: ds, h => by
    simp only [idsL, List.mem_append, not_or] at h
    simp only [killL]; rw [kill_fix h.1, kill_fixL h.2]
end

/-- what a reading names, is there -/
theorem idsL_flat : ∀ (es : List D), idsL es = idsL (flat es)
  | [] => rfl
  | e :: es => by
    have h : ∀ a b : List D, idsL (a ++ b) = idsL a ++ idsL b := by
      intro a b
      induction a with
      | nil => rfl
      | cons x a ih => simp [idsL, ih]
    have h1 : idsL e.cells = e.ids := by cases e <;> simp [D.cells, D.ids, idsL]
    rw [flat_cons, h, ← idsL_flat es, h1]; rfl

theorem mem_idsL {i : Nat} : ∀ {l : List D}, i ∈ idsL l → ∃ d ∈ l, i ∈ d.ids
  | d :: l, h => by
    simp only [idsL, List.mem_append] at h
    rcases h with h | h
    · exact ⟨d, by simp, h⟩
    · obtain ⟨x, hx, hi⟩ := mem_idsL h
      exact ⟨x, by simp [hx], hi⟩

theorem R.ids {φ : Phi} {w : World} {d : D} {v : Value} (h : R φ w d v) : ∀ i ∈ d.ids, i = 0 ∨ φ i ≠ .no := by
  have hp : ∀ {id off A m}, Place φ w id off A m → id = 0 ∨ φ id ≠ .no := by
    intro id off A m hp
    by_cases h0 : id = 0
    · exact .inl h0
    · refine .inr fun hn => ?_
      unfold Place at hp
      rw [if_neg h0, hn] at hp
      exact hp
  induction h with
  | val v => intro i hi; simp [D.ids] at hi
  | ifc t x => intro i hi; simp [D.ids] at hi
  | bad v => intro i hi; simp [D.ids] at hi
  | @sl id off cap sz es A c u hc hcap hsz hpl ha hcell hr ih =>
    intro i hi
    simp only [D.ids, List.mem_cons] at hi
    rcases hi with rfl | hi
    · exact hp hpl
    · rw [idsL_flat] at hi
      obtain ⟨x, hx, hi⟩ := mem_idsL hi
      obtain ⟨j, hj⟩ := List.getElem?_of_mem hx
      exact ih j x hj i hi
  | @pt id off cs a u hpl hcell hr ih =>
    intro i hi
    simp only [D.ids, List.mem_cons] at hi
    rcases hi with rfl | hi
    · exact hp hpl
    · obtain ⟨x, hx, hi⟩ := mem_idsL hi
      obtain ⟨j, hj⟩ := List.getElem?_of_mem hx
      exact ih j x hj i hi
  | @agg cs vs hl hr ih =>
    intro i hi
    simp only [D.ids] at hi
    obtain ⟨x, hx, hi⟩ := mem_idsL hi
    obtain ⟨j, hj⟩ := List.getElem?_of_mem hx
    have hlt := (List.getElem?_eq_some_iff.1 hj).1
    exact ih j x (vs[j]'(by omega)) hj (by rw [Array.getElem?_eq_getElem]) i hi
  | @fn f cs vs hl hr ih =>
    intro i hi
    simp only [D.ids] at hi
    obtain ⟨x, hx, hi⟩ := mem_idsL hi
    obtain ⟨j, hj⟩ := List.getElem?_of_mem hx
    have hlt := (List.getElem?_eq_some_iff.1 hj).1
    exact ih j x (vs[j]'(by omega)) hj (by rw [Array.getElem?_eq_getElem]) i hi
  | @tup cs vs hl hr ih =>
    intro i hi
    simp only [D.ids] at hi
    obtain ⟨x, hx, hi⟩ := mem_idsL hi
    obtain ⟨j, hj⟩ := List.getElem?_of_mem hx
    have hlt := (List.getElem?_eq_some_iff.1 hj).1
    exact ih j x (vs[j]'(by omega)) hj (by rw [Array.getElem?_eq_getElem]) i hi
end Go.Cv
namespace Go.Cv
open Go

theorem posOf_get {i j : Nat} : ∀ {l : List Nat}, posOf i l = some j → l[j]? = some i
  | [], h => by simp [posOf] at h
  | x :: l, h => by
    unfold posOf at h
    split at h
    · rename_i hx; cases h; simp [hx]
    · cases hp : posOf i l with
      | none => simp [hp] at h
      | some k => simp [hp] at h; subst h; simpa using posOf_get hp

theorem renId_le {n : Nat} {kept : List Nat} {i : Nat} (hn : n ≠ 0) : renId n kept i < n + kept.length := by
  unfold renId
  split
  · omega
  · split
    · rename_i j hj
      have := (List.getElem?_eq_some_iff.1 (posOf_get hj)).1
      omega
    · omega

/-- new names: what is not kept is forgotten, what is foreign (F and up) stays -/
def rhoF (n : Nat) (kept : List Nat) (F i : Nat) : Nat := if F ≤ i then i else renId n kept i
def phiRen (n : Nat) (kept : List Nat) (F : Nat) (φ : Phi) : Phi := fun j =>
  if j < n then φ j else if F ≤ j then φ j else match kept[j - n]? with
    | some i => if i < F ∧ renId n kept i = j then φ i else .no
    | none => .no

theorem phiRen_at {n F : Nat} {kept : List Nat} {φ : Phi} {j : Nat} (hF : n + kept.length ≤ F) (h : phiRen n kept F φ j ≠ .no) :
    ∃ i, phiRen n kept F φ j = φ i ∧ rhoF n kept F i = j ∧ (j < n ∨ F ≤ j ∨ (n ≤ j ∧ j < n + kept.length)) := by
  unfold phiRen at h ⊢
  unfold rhoF
  by_cases hj : j < n
  · exact ⟨j, by rw [if_pos hj], by rw [if_neg (by omega)]; simp [renId, hj], .inl hj⟩
  · rw [if_neg hj] at h ⊢
    by_cases hFj : F ≤ j
    · exact ⟨j, by rw [if_pos hFj], by rw [if_pos hFj], .inr (.inl hFj)⟩
    · rw [if_neg hFj] at h ⊢
      cases hk : kept[j - n]? with
      | none => simp [hk] at h
      | some i =>
        simp only [hk] at h ⊢
        by_cases hr : i < F ∧ renId n kept i = j
        · have := (List.getElem?_eq_some_iff.1 hk).1
          exact ⟨i, by rw [if_pos hr], by rw [if_neg (by omega)]; exact hr.2, .inr (.inr ⟨by omega, by omega⟩)⟩
        · rw [if_neg hr] at h; exact absurd rfl h

theorem phiRen_of {n F : Nat} {kept : List Nat} {φ : Phi} {i : Nat} (hF : n + kept.length ≤ F) (h0 : rhoF n kept F i ≠ 0) : phiRen n kept F φ (rhoF n kept F i) = φ i := by
  unfold rhoF at h0 ⊢
  by_cases hFi : F ≤ i
  · rw [if_pos hFi]; unfold phiRen; rw [if_neg (by omega), if_pos hFi]
  · rw [if_neg hFi] at h0 ⊢
    by_cases hi : i < n
    · have : renId n kept i = i := by simp [renId, hi]
      rw [this]; simp [phiRen, hi]
    · cases hp : posOf i kept with
      | none => exact absurd (by simp [renId, hi, hp]) h0
      | some j =>
        have hr : renId n kept i = n + j := by simp [renId, hi, hp]
        have hg := posOf_get hp
        have hlt := (List.getElem?_eq_some_iff.1 hg).1
        rw [hr]
        unfold phiRen
        rw [if_neg (by omega), if_neg (by omega), show n + j - n = j by omega, hg]
        simp only
        rw [if_pos ⟨by omega, hr⟩]

theorem phiRen_zero {n F : Nat} {kept : List Nat} {φ : Phi} (hn : n ≠ 0) : phiRen n kept F φ 0 = φ 0 := by unfold phiRen; rw [if_pos (by omega)]

theorem ren_sound {n F : Nat} {kept : List Nat} {φ : Phi} {w : World} {d : D} {v : Value} (hn : n ≠ 0) (hF : n + kept.length ≤ F) (wf : WF φ w) (h : R φ w d v) :
    R (phiRen n kept F φ) w (d.ren (rhoF n kept F)) v := by
  refine h.ren (by unfold rhoF; rw [if_neg (by omega)]; simp [renId]; omega) (fun i _ h0 => phiRen_of hF h0) (fun j b p hj => ?_) wf
  obtain ⟨i, h1, h2, _⟩ := phiRen_at (n := n) (kept := kept) (φ := φ) (j := j) hF (by rw [hj]; simp)
  refine ⟨i, by rw [← h1]; exact hj, h2, fun h0 => ?_⟩
  subst h0
  rw [phiRen_zero hn, wf.zero] at hj
  simp at hj

theorem wf_ren {n F : Nat} {kept : List Nat} {φ : Phi} {w : World} (hn : n ≠ 0) (hF : n + kept.length ≤ F) (wf : WF φ w) : WF (phiRen n kept F φ) w where
  zero := by rw [phiRen_zero hn, wf.zero]
  inj i j b p q hi hj := by
    obtain ⟨i', h1, h2, _⟩ := phiRen_at (n := n) (kept := kept) (φ := φ) (j := i) hF (by rw [hi]; simp)
    obtain ⟨j', h3, h4, _⟩ := phiRen_at (n := n) (kept := kept) (φ := φ) (j := j) hF (by rw [hj]; simp)
    have := wf.inj i' j' b p q (by rw [← h1]; exact hi) (by rw [← h3]; exact hj)
    subst this
    rw [← h2, ← h4]
  live i b p hi := by
    obtain ⟨i', h1, _⟩ := phiRen_at (n := n) (kept := kept) (φ := φ) (j := i) hF (by rw [hi]; simp)
    exact wf.live i' b p (by rw [← h1]; exact hi)

mutual
theorem ids_kill {j i : Nat} : ∀ {d : D}, i ∈ (d.kill j).ids → i ∈ d.ids
  | .val v, h => h
  | .ifc, h => h
  | .bad, h => h
  | .agg cs, h => by simp only [D.kill, D.ids] at h ⊢; exact ids_killL h
  | .tup cs, h => by simp only [D.kill, D.ids] at h ⊢; exact ids_killL h
  | .fn f cs, h => by simp only [D.kill, D.ids] at h ⊢; exact ids_killL h
  | .sl id off cap sz es, h => by
    simp only [D.kill] at h
    split at h
    · simp [D.ids] at h
    · simp only [D.ids, List.mem_cons] at h ⊢
      exact h.imp_right ids_killL
  | .pt id off es, h => by
    simp only [D.kill] at h
    split at h
    · simp [D.ids] at h
    · simp only [D.ids, List.mem_cons] at h ⊢
      exact h.imp_right ids_killL
theorem ids_killL {j i : Nat} : ∀ {ds : List D}, i ∈ idsL (killL j ds) → i ∈ idsL ds
  | [], h => h
  | d :: ds, h => by
    simp only [killL, idsL, List.mem_append] at h ⊢
    exact h.imp ids_kill ids_killL
end
theorem ids_killAll {i : Nat} : ∀ (K : List Nat) {d : D}, i ∈ (killAll K d).ids → i ∈ d.ids
  | [], _, h => h
  | j :: K, _, h => ids_kill (ids_killAll K h)

/-! ### effects on old names alone -/
theorem killAll_app {e : Eff} : ∀ (K : List Nat) (d : D), e.id ∉ K → killAll K (e.app d) = (e.mapD (killAll K)).app (killAll K d)
  | [], d, _ => by cases e <;> rfl
  | i :: K, d, h => by
    simp only [List.mem_cons, not_or] at h
    show killAll K ((e.app d).kill i) = _
    rw [kill_app_ne (Ne.symm h.1), killAll_app K _ (by rw [eff_mapD_id]; exact h.2)]
    cases e <;> rfl

theorem killAll_append (K L : List Nat) (d : D) : killAll (K ++ L) d = killAll L (killAll K d) := by simp [killAll]

theorem killAll_self {e : Eff} : ∀ (K : List Nat) (d : D), e.id ∈ K → killAll K (e.app d) = killAll K d
  | i :: K, d, h => by
    by_cases hi : e.id = i
    · subst hi
      show killAll K ((e.app d).kill e.id) = killAll K (d.kill e.id)
      rw [kill_app_self]
    · have h2 : e.id ∈ K := by simpa [hi] using h
      show killAll K ((e.app d).kill i) = killAll K (d.kill i)
      rw [kill_app_ne (fun h => hi h.symm)]
      have := killAll_self (e := e.mapD (D.kill i)) K (d.kill i) (by rw [eff_mapD_id]; exact h2)
      exact this

theorem killAll_E (n : Nat) (K : List Nat) (hK : ∀ i ∈ K, n ≤ i) : ∀ (F : List Eff) (d : D), (∀ e ∈ F, n ≤ e.id → e.id ∈ K) →
    killAll K (appE F d) = appE ((F.filter (fun e => e.id < n)).map (Eff.mapD (killAll K))) (killAll K d)
  | [], d, _ => rfl
  | e :: F, d, h => by
    rw [appE_cons, killAll_E n K hK F _ (fun x hx => h x (by simp [hx]))]
    by_cases he : e.id < n
    · rw [List.filter_cons_of_pos (by simpa using he), List.map_cons, appE_cons]
      rw [killAll_app K d (fun hm => by have := hK _ hm; omega)]
    · rw [List.filter_cons_of_neg (by simpa using he)]
      rw [killAll_self K d (h e (by simp) (by omega))]

theorem killAll_fix : ∀ {K : List Nat} {d : D}, (∀ i ∈ K, i ∉ d.ids) → killAll K d = d
  | [], _, _ => rfl
  | i :: K, d, h => by
    show killAll K (d.kill i) = d
    rw [kill_fix (h i (by simp))]
    exact killAll_fix (fun j hj => h j (by simp [hj]))

theorem R.killAll {φ : Phi} {w : World} {v : Value} : ∀ (K : List Nat) {d : D}, R φ w d v → R φ w (killAll K d) v
  | [], _, h => h
  | i :: K, _, h => R.killAll K (h.kill i)

/-- **what a call leaves** -/
theorem leave_sound {φ φ1 : Phi} {w w1 : World} {n m F : Nat} {E : List Eff} {d : D} {v : Value} {keep : Bool} (t : Trans φ w φ1 w1 n m E) (hall : ∀ i, n ≤ i → i < F → φ i = .no) (hn : n ≠ 0) (nz : Nz E)
    (hmF : m ≤ F) (hF : (leave keep n d E).2.1 ≤ F) (hdF : ∀ i ∈ d.ids, i < F) (hEF : ∀ e ∈ E, e.id < F ∧ ∀ i ∈ e.pay, i < F)
    (hv : R φ1 w1 d v) : ∃ φ2, Trans φ w φ2 w1 n (leave keep n d E).2.1 (leave keep n d E).2.2 ∧ R φ2 w1 (leave keep n d E).1 v := by
  unfold leave at hF ⊢
  simp only at hF ⊢
  generalize hk : keptIds keep n d (oldE n E) = kept at hF ⊢
  have hfix : ∀ d : D, (∀ i ∈ d.ids, i < F) → d.ren (renId n kept) = d.ren (rhoF n kept F) := fun d hd => ren_congr d (fun i hi => by have := hd i hi; unfold rhoF; rw [if_neg (by omega)])
  have hEfix : (oldE n E).map (Eff.mapD (D.ren (renId n kept))) = (oldE n E).map (Eff.mapD (D.ren (rhoF n kept F))) := by
    refine List.map_congr_left fun e he => ?_
    unfold oldE at he
    obtain ⟨e', he', rfl⟩ := List.mem_map.1 he
    have h1 := hEF e' (List.mem_filter.1 he').1
    cases e' with
    | wr i k c => simp only [Eff.mapD]; rw [hfix _ (fun i hi => h1.2 i (ids_killAll _ hi))]
    | kill i => rfl
  rw [hfix d hdF, hEfix]
  refine ⟨phiRen n kept F φ1, ⟨wf_ren hn hF t.wf, fun x u hx => ?_, fun i hi => ?_, t.size, fun b hb hu => ?_, t.os, t.tape, t.output⟩, ren_sound hn hF t.wf hv⟩
  · -- an older reading
    have hlow : ∀ i ∈ x.ids, i < n ∨ F ≤ i := by
      intro i hi
      rcases hx.ids i hi with h | h
      · omega
      · rcases Nat.lt_or_ge i n with h' | h'
        · exact .inl h'
        · rcases Nat.lt_or_ge i F with h2 | h2
          · exact absurd (hall i h' h2) h
          · exact .inr h2
    have h1 := ren_sound (n := n) (kept := kept) hn hF t.wf ((t.keep x u hx).killAll ((E.map Eff.id).filter (n ≤ ·)))
    rw [killAll_E n _ (fun i hi => by simpa using (List.mem_filter.1 hi).2) E x (fun e he hle => List.mem_filter.2 ⟨List.mem_map.2 ⟨e, he, rfl⟩, by simpa using hle⟩)] at h1
    rw [killAll_fix (fun i hi hm => by
      obtain ⟨h2, h3⟩ := List.mem_filter.1 hi
      obtain ⟨e, he, rfl⟩ := List.mem_map.1 h2
      have h4 : n ≤ e.id := by simpa using h3
      have h5 := (hEF e he).1
      rcases hlow _ hm with h | h <;> omega)] at h1
    rw [ren_appE _ _ (fun e he i => by
      obtain ⟨e', he', rfl⟩ := List.mem_map.1 he
      obtain ⟨h3, h4⟩ := List.mem_filter.1 he'
      rw [eff_mapD_id]
      have h5 : e'.id < n := by simpa using h4
      have h6 := nz e' h3
      unfold rhoF
      constructor
      · intro hr
        split at hr
        · exact hr
        · by_cases hi : i < n
          · rw [← hr]; simp [renId, hi]
          · unfold renId at hr
            rw [if_neg hi] at hr
            split at hr
            · omega
            · omega
      · rintro rfl; rw [if_neg (by omega)]; simp [renId, h5])] at h1
    rw [ren_fix (d := x) (fun i hi => by
      unfold rhoF
      rcases hlow i hi with h | h
      · rw [if_neg (by omega)]; simp [renId, h]
      · rw [if_pos h])] at h1
    exact h1
  · obtain ⟨i', h1, h2, h4⟩ := phiRen_at hF hi
    rcases h4 with h4 | h4 | h4
    · have : phiRen n kept F φ1 i = φ1 i := by simp [phiRen, h4]
      rw [this] at hi
      rcases t.dom i hi with h | h
      · exact .inl h
      · omega
    · have : phiRen n kept F φ1 i = φ1 i := by unfold phiRen; rw [if_neg (by omega), if_pos h4]
      rw [this] at hi
      rcases t.dom i hi with h | h
      · exact .inl h
      · omega
    · exact .inr h4
  · obtain ⟨h1, h2⟩ := t.old b hb hu
    refine ⟨h1, fun i b' p hi => ?_⟩
    obtain ⟨i', h3, _⟩ := phiRen_at (n := n) (kept := kept) (φ := φ1) (j := i) hF (by rw [hi]; simp)
    exact h2 i' b' p (by rw [← h3]; exact hi)

theorem leave_ids {keep : Bool} {n : Nat} {d : D} {E : List Eff} (hn : n ≠ 0) : (∀ i ∈ (leave keep n d E).1.ids, i < (leave keep n d E).2.1) ∧
    ∀ e ∈ (leave keep n d E).2.2, e.id < n ∧ ∀ i ∈ e.pay, i < (leave keep n d E).2.1 := by
  have hren : ∀ (ρ : Nat → Nat) (B : Nat), (∀ i, ρ i < B) → (∀ d : D, ∀ i ∈ (d.ren ρ).ids, i < B) := by
    intro ρ B h
    have key : ∀ m, (∀ d : D, SizeOf.sizeOf d < m → ∀ i ∈ (d.ren ρ).ids, i < B) ∧ (∀ l : List D, SizeOf.sizeOf l < m → ∀ i ∈ idsL (renL ρ l), i < B) := by
      intro m
      induction m with
      | zero => exact ⟨fun d h => by omega, fun l h => by omega⟩
      | succ m ih =>
        refine ⟨fun d hs i hi => ?_, fun l hs i hi => ?_⟩
        · cases d with
          | val v => simp [D.ren, D.ids] at hi
          | ifc => simp [D.ren, D.ids] at hi
          | bad => simp [D.ren, D.ids] at hi
          | agg cs => simp only [D.ren, D.ids] at hi; exact ih.2 cs (by simp at hs; omega) i hi
          | tup cs => simp only [D.ren, D.ids] at hi; exact ih.2 cs (by simp at hs; omega) i hi
          | fn f cs => simp only [D.ren, D.ids] at hi; exact ih.2 cs (by simp at hs; omega) i hi
          | sl id off cap sz es =>
            simp only [D.ren, D.ids, List.mem_cons] at hi
            rcases hi with rfl | hi
            · exact h _
            · exact ih.2 es (by simp at hs; omega) i hi
          | pt id off es =>
            simp only [D.ren, D.ids, List.mem_cons] at hi
            rcases hi with rfl | hi
            · exact h _
            · exact ih.2 es (by simp at hs; omega) i hi
        · cases l with
          | nil => simp [renL, idsL] at hi
          | cons d ds =>
            simp only [List.cons.sizeOf_spec] at hs
            simp only [renL, idsL, List.mem_append] at hi
            rcases hi with hi | hi
            · exact ih.1 d (by omega) i hi
            · exact ih.2 ds (by omega) i hi
    exact fun d => (key (SizeOf.sizeOf d + 1)).1 d (by omega)
  unfold leave
  simp only
  refine ⟨hren _ _ (fun i => renId_le hn) d, fun e he => ?_⟩
  obtain ⟨e', he', rfl⟩ := List.mem_map.1 he
  obtain ⟨e'', _, h2, h3⟩ := oldE_mem he'
  refine ⟨by rw [eff_mapD_id, h2]; exact h3, fun i hi => ?_⟩
  cases e' with
  | wr j k c => exact hren _ _ (fun i => renId_le hn) c i hi
  | kill j => simp [Eff.mapD, Eff.pay] at hi

/-! ### a call beside names that are in use -/
def up (n' M i : Nat) : Nat := if i < n' then i else i + M
def down (n' M i : Nat) : Nat := if i < n' then i else if i < n' + M then 0 else i - M
theorem down_up (n' M i : Nat) : down n' M (up n' M i) = i := by
  unfold down up
  by_cases h : i < n'
  · simp [h]
  · rw [if_neg h, if_neg (by omega), if_neg (by omega)]; omega

theorem conj {φ : Phi} {w : World} {n n' M : Nat} {E : List Eff} {d : D} {v : Value} {w' : World} (wf : WF φ w) (hn : n ≠ 0) (hle : n ≤ n') (hE : Nz E) (hE2 : ∀ e ∈ E, e.id < n ∧ ∀ i ∈ e.pay, i < n') (hd : ∀ i ∈ d.ids, i < n')
    (h : ∃ φ2', Trans (fun j => if j < n' then φ j else if j < n' + M then .no else φ (j - M)) w φ2' w' n n' E ∧ R φ2' w' d v) : Post φ w n n' E d v w' := by
  obtain ⟨φ2', t, hv⟩ := h
  generalize hφ2 : (fun j => if j < n' then φ j else if j < n' + M then Tr.no else φ (j - M)) = φ2 at t
  have hup : ∀ i, φ2 (up n' M i) = φ i := by
    intro i
    rw [← hφ2]
    unfold up
    by_cases h : i < n'
    · simp [h]
    · simp only
      rw [if_neg h, if_neg (by omega), if_neg (by omega)]; congr 1; omega
  have hinv : ∀ j, φ2 j ≠ .no → up n' M (down n' M j) = j := by
    intro j hj
    rw [← hφ2] at hj
    simp only at hj
    unfold up down
    by_cases h1 : j < n'
    · simp [h1]
    · rw [if_neg h1] at hj ⊢
      by_cases h2 : j < n' + M
      · rw [if_pos h2] at hj; exact absurd rfl hj
      · rw [if_neg h2, if_neg (by omega)]; omega
  have hinv' : ∀ j, φ2' j ≠ .no → up n' M (down n' M j) = j := by
    intro j hj
    rcases t.dom j hj with h | h
    · exact hinv j h
    · unfold up down; simp [h.2]
  have hback : ∀ {d v}, R φ2' w' d v → R (fun i => φ2' (up n' M i)) w' (d.ren (down n' M)) v := by
    intro d v h
    refine h.ren (by unfold down; rw [if_pos (by omega)]) (fun i hi _ => by rw [hinv' i hi]) (fun j b p hj => ⟨up n' M j, hj, down_up n' M j, fun h0 => ?_⟩) t.wf
    subst h0
    have : up n' M 0 = 0 := by unfold up; rw [if_pos (by omega)]
    rw [this, t.wf.zero] at hj
    simp at hj
  have hdfix : ∀ d : D, (∀ i ∈ d.ids, i < n') → d.ren (down n' M) = d := fun d hd => ren_fix (fun i hi => by simp [down, hd i hi])
  refine ⟨fun i => φ2' (up n' M i), ⟨⟨?_, ?_, ?_⟩, fun x u hx => ?_, fun i hi => ?_, t.size, fun b hb hu => ?_, t.os, t.tape, t.output⟩, ?_⟩
  · have : up n' M 0 = 0 := by unfold up; rw [if_pos (by omega)]
    simp only [this, t.wf.zero]
  · intro i j b p q hi hj
    have := t.wf.inj _ _ b p q hi hj
    have h2 := congrArg (down n' M) this
    rwa [down_up, down_up] at h2
  · intro i b p hi; exact t.wf.live _ b p hi
  · have h1 : R φ2 w (x.ren (up n' M)) u := by
      refine hx.ren (by unfold up; rw [if_pos (by omega)]) (fun i _ _ => hup i) (fun j b p hj => ⟨down n' M j, ?_, hinv j (by rw [hj]; simp), fun h0 => ?_⟩) wf
      · rw [← hup, hinv j (by rw [hj]; simp)]; exact hj
      · subst h0
        have : φ2 0 = φ 0 := by have := hup 0; unfold up at this; rwa [if_pos (by omega)] at this
        rw [this, wf.zero] at hj
        simp at hj
    have h2 := hback (t.keep _ _ h1)
    rw [ren_appE _ _ (fun e he i => by
      obtain ⟨h3, _⟩ := hE2 e he
      have h0 := hE e he
      unfold down
      constructor
      · intro h
        split at h
        · exact h
        · split at h
          · omega
          · omega
      · rintro rfl; rw [if_pos (by omega)])] at h2
    have hE3 : E.map (Eff.mapD (D.ren (down n' M))) = E := by
      rw [List.map_congr_left (g := id) (fun e he => ?_), List.map_id]
      obtain ⟨_, h4⟩ := hE2 e he
      cases e with
      | wr i k c => simp only [Eff.mapD, id]; rw [hdfix c h4]
      | kill i => rfl
    rw [hE3, ren_ren, ren_fix (fun i _ => down_up n' M i)] at h2
    exact h2
  · rcases t.dom _ hi with h | h
    · rw [hup] at h; exact .inl h
    · right
      unfold up at h
      split at h
      · exact h
      · omega
  · obtain ⟨h1, h2⟩ := t.old b hb (fun i b' base hi => by
      have := hinv i (by rw [hi]; simp)
      rw [← this, hup] at hi
      exact hu _ b' base hi)
    exact ⟨h1, fun i b' p hi => h2 _ b' p hi⟩
  · have := hback hv
    rwa [hdfix d hd] at this
end Go.Cv
namespace Go.Cv
open Go

theorem wp_loop_n {P : Program} {c : Code} {Q : Exit → Act → World → Prop} (I : Nat → Act → World → Prop)
    (round : ∀ j a w, I j a w → c.wp P (Exit.then (fun a' w' => ∃ i, i < j ∧ I i a' w') Q) a w) {m : Nat} {a : Act} {w : World} (h0 : I m a w) : (Code.loop c).wp P Q a w := by
  classical
  have least : ∀ (a : Act) (w : World) (m : Nat), I m a w → ∃ j, I j a w ∧ ∀ i, i < j → ¬ I i a w := by
    intro a w m
    induction m using Nat.strongRecOn with
    | _ m ih =>
      intro hm
      by_cases h : ∃ i, i < m ∧ I i a w
      · obtain ⟨i, hi, hI⟩ := h; exact ih i hi hI
      · exact ⟨m, hm, fun i hi hI => h ⟨i, hi, hI⟩⟩
  let μ : Act → World → Nat := fun a w => if h : ∃ j, I j a w ∧ ∀ i, i < j → ¬ I i a w then Classical.choose h else 0
  have hμ : ∀ a w, (∃ j, I j a w) → I (μ a w) a w ∧ ∀ i, I i a w → μ a w ≤ i := by
    intro a w ⟨j, hj⟩
    have h := least a w j hj
    have e : μ a w = Classical.choose h := dif_pos h
    rw [e]
    obtain ⟨h1, h2⟩ := Classical.choose_spec h
    exact ⟨h1, fun i hi => Nat.le_of_not_lt fun hlt => h2 i hlt hi⟩
  refine wp_loop (fun a w => ∃ j, I j a w) μ ⟨m, h0⟩ (fun a w hI => ?_)
  refine wp_mono (round _ a w (hμ a w hI).1) (fun e a' w' hq => ?_)
  cases e <;> simp only [Exit.then] at hq ⊢ <;> try exact hq
  obtain ⟨i, hi, hI'⟩ := hq
  exact ⟨⟨i, hI'⟩, Nat.lt_of_le_of_lt ((hμ a' w' ⟨i, hI'⟩).2 i hI') hi⟩

def Ex.to : Ex → Exit
  | .normal => .normal
  | .exit id => .exit id
  | .ret => .ret

def EvalS (A : Cfg) (k : Nat) : Prop := ∀ N c fr n x fr' n' E, evalF A k c fr n = some (x, fr', n', E) → n ≠ 0 → codeOk N c = true → n ≤ n' ∧
  ∀ B φ w a (Q : Exit → Act → World → Prop), n' ≤ B → St A N B φ w fr a n → (∀ φ' w' a', Trans φ w φ' w' n n' E → St A N B φ' w' fr' a' n' → Q x.to a' w') → c.wp A.P Q a w

theorem then_ne {next : Act → World → Prop} {Q : Exit → Act → World → Prop} {x : Ex} (h : x ≠ .normal) {a : Act} {w : World} (hq : Q x.to a w) : Exit.then next Q x.to a w := by
  cases x <;> first | exact hq | exact absurd rfl h

theorem eval_step {A : Cfg} (hA : Good A) (k : Nat) (hE : ∀ j, j ≤ k → EvalS A j) (hC : CallS A (callF A k)) : EvalS A (k + 1) := by
  intro N c fr n x fr' n' E h hn hok
  cases c with
  | skip =>
    simp only [evalF, Option.some.injEq, Prod.mk.injEq] at h
    obtain ⟨rfl, rfl, rfl, rfl⟩ := h
    exact ⟨Nat.le_refl _, fun B φ w a Q hB hs hq => wp_skip (hq φ w a (Trans.refl hs.wf n) hs)⟩
  | label l =>
    simp only [evalF, Option.some.injEq, Prod.mk.injEq] at h
    obtain ⟨rfl, rfl, rfl, rfl⟩ := h
    exact ⟨Nat.le_refl _, fun B φ w a Q hB hs hq => wp_label (hq φ w a (Trans.refl hs.wf n) hs)⟩
  | exit id =>
    simp only [evalF, Option.some.injEq, Prod.mk.injEq] at h
    obtain ⟨rfl, rfl, rfl, rfl⟩ := h
    exact ⟨Nat.le_refl _, fun B φ w a Q hB hs hq => wp_exit (hq φ w a (Trans.refl hs.wf n) hs)⟩
  | ret =>
    simp only [evalF, Option.some.injEq, Prod.mk.injEq] at h
    obtain ⟨rfl, rfl, rfl, rfl⟩ := h
    exact ⟨Nat.le_refl _, fun B φ w a Q hB hs hq => wp_ret (hq φ w a (Trans.refl hs.wf n) hs)⟩
  | goto l => simp [evalF] at h
  | scope b => simp [evalF] at h
  | refuse y => simp [evalF] at h
  | rangeFunc f p a b => simp [evalF] at h
  | region id ops draw =>
    simp only [evalF] at h
    cases hr : regD A (callF A k) ops.toList draw fr n with
    | none => simp [hr] at h
    | some q =>
      obtain ⟨f1, n1, E1⟩ := q
      simp only [hr, Option.map_some, Option.some.injEq, Prod.mk.injEq] at h
      obtain ⟨rfl, rfl, rfl, rfl⟩ := h
      simp only [codeOk, Bool.and_eq_true] at hok
      have hreg := fun B => reg_sound (id := id) (N := N) (B := B) hA hC (fun hd => by have h2 := hok.2; rw [hd] at h2; simpa using h2) (fun o ho t ht => by
        have := List.all_eq_true.1 hok.1 o ho
        rw [ht] at this
        simpa using this) hr hn
      exact ⟨(hreg 0).1, fun B φ w a Q hB hs hq => (hreg B).2 hB hs (fun φ' w' a' t s => hq φ' w' a' t s)⟩
  | seq c1 c2 =>
    simp only [codeOk, Bool.and_eq_true] at hok
    simp only [evalF] at h
    rcases seqR_some h with ⟨f1, n1, E1, e, f2, n2, E2, h1, h2, h3⟩ | ⟨h1, h2⟩
    · cases h3
      obtain ⟨l1, g1⟩ := hE k (Nat.le_refl _) N c1 _ _ _ _ _ _ h1 hn hok.1
      obtain ⟨l2, g2⟩ := hE k (Nat.le_refl _) N c2 _ _ _ _ _ _ h2 (by omega) hok.2
      refine ⟨by omega, fun B φ w a Q hB hs hq => wp_seq (g1 B φ w a _ (by omega) hs fun φ1 w1 a1 t1 s1 => ?_)⟩
      exact g2 B φ1 w1 a1 Q hB s1 fun φ2 w2 a2 t2 s2 => hq φ2 w2 a2 (t1.trans t2 l1 l2) s2
    · obtain ⟨l1, g1⟩ := hE k (Nat.le_refl _) N c1 _ _ _ _ _ _ h1 hn hok.1
      refine ⟨l1, fun B φ w a Q hB hs hq => wp_seq (g1 B φ w a _ hB hs fun φ1 w1 a1 t1 s1 => then_ne h2 (hq φ1 w1 a1 t1 s1))⟩
  | cond cd c1 c2 =>
    simp only [codeOk, Bool.and_eq_true] at hok
    simp only [evalF] at h
    split at h
    · rename_i t ht
      have hev : ∀ {B φ w a}, St A N B φ w fr a n → a.eval cd = .bool t := by
        intro B φ w a hs
        have := evD_sound (A := A) (fr := fr) (ρ := a.eval) (x := cd) hs.g (fun s _ => hs.tm s) (fun _ => rfl) (fun _ => rfl) (fun _ => rfl)
        rw [ht] at this
        generalize a.eval cd = v at this
        cases this
        rfl
      cases t with
      | true =>
        obtain ⟨l1, g1⟩ := hE k (Nat.le_refl _) N c1 _ _ _ _ _ _ h hn hok.1
        exact ⟨l1, fun B φ w a Q hB hs hq => wp_cond_true (hev hs) (g1 B φ w a Q hB hs hq)⟩
      | false =>
        obtain ⟨l1, g1⟩ := hE k (Nat.le_refl _) N c2 _ _ _ _ _ _ h hn hok.2
        exact ⟨l1, fun B φ w a Q hB hs hq => wp_cond_false (hev hs) (g1 B φ w a Q hB hs hq)⟩
    · simp at h
  | block id c1 =>
    simp only [codeOk] at hok
    simp only [evalF] at h
    cases hr : evalF A k c1 fr n with
    | none => simp [hr, blockR] at h
    | some q =>
      obtain ⟨e, f1, n1, E1⟩ := q
      obtain ⟨l1, g1⟩ := hE k (Nat.le_refl _) N c1 _ _ _ _ _ _ hr hn hok
      rw [hr] at h
      cases e with
      | normal =>
        simp only [blockR, Option.some.injEq, Prod.mk.injEq] at h
        obtain ⟨rfl, rfl, rfl, rfl⟩ := h
        exact ⟨l1, fun B φ w a Q hB hs hq => wp_block (g1 B φ w a _ hB hs hq)⟩
      | ret =>
        simp only [blockR, Option.some.injEq, Prod.mk.injEq] at h
        obtain ⟨rfl, rfl, rfl, rfl⟩ := h
        exact ⟨l1, fun B φ w a Q hB hs hq => wp_block (g1 B φ w a _ hB hs hq)⟩
      | exit i =>
        simp only [blockR] at h
        split at h
        · rename_i hi
          simp only [Option.some.injEq, Prod.mk.injEq] at h
          obtain ⟨rfl, rfl, rfl, rfl⟩ := h
          refine ⟨l1, fun B φ w a Q hB hs hq => wp_block (g1 B φ w a _ hB hs fun φ1 w1 a1 t1 s1 => ?_)⟩
          simp only [Ex.to, Exit.inBlock, hi, if_true]
          exact hq φ1 w1 a1 t1 s1
        · rename_i hi
          simp only [Option.some.injEq, Prod.mk.injEq] at h
          obtain ⟨rfl, rfl, rfl, rfl⟩ := h
          refine ⟨l1, fun B φ w a Q hB hs hq => wp_block (g1 B φ w a _ hB hs fun φ1 w1 a1 t1 s1 => ?_)⟩
          simp only [Ex.to, Exit.inBlock, hi, if_false]
          exact hq φ1 w1 a1 t1 s1
  | loop c1 =>
    simp only [codeOk] at hok
    -- the counter does not fall
    have hle : ∀ j, j ≤ k + 1 → ∀ fr1 n1 E1, n1 ≠ 0 → evalF A j (.loop c1) fr1 n1 = some (x, fr', n', E1) → n1 ≤ n' := by
      intro j
      induction j with
      | zero => intro _ fr1 n1 E1 _ h; simp [evalF] at h
      | succ j ih =>
        intro hj fr1 n1 E1 hn1 h
        simp only [evalF] at h
        rcases seqR_some h with ⟨f1, n2, E2, e, f2, n3, E3, h1, h2, h3⟩ | ⟨h1, h2⟩
        · cases h3
          have l1 := (hE j (by omega) N c1 _ _ _ _ _ _ h1 hn1 hok).1
          have := ih (by omega) _ _ _ (by omega) h2
          omega
        · exact (hE j (by omega) N c1 _ _ _ _ _ _ h1 hn1 hok).1
    refine ⟨hle (k + 1) (Nat.le_refl _) _ _ _ hn h, fun B φ w a Q hB hs hq => ?_⟩
    refine wp_loop_n (fun j a1 w1 => ∃ fr1 n1 φ1 E1 E2, j ≤ k + 1 ∧ evalF A j (.loop c1) fr1 n1 = some (x, fr', n', E2) ∧ n ≤ n1 ∧ Trans φ w φ1 w1 n n1 E1 ∧ St A N B φ1 w1 fr1 a1 n1 ∧ E1 ++ E2 = E) ?_
      (m := k + 1) ⟨fr, n, φ, [], E, Nat.le_refl _, h, Nat.le_refl _, Trans.refl hs.wf n, hs, rfl⟩
    rintro j a1 w1 ⟨fr1, n1, φ1, E1, E2, hj, hev, hn1, t1, s1, rfl⟩
    cases j with
    | zero => simp [evalF] at hev
    | succ j =>
      have hlen1 := hle (j + 1) hj _ _ _ (by omega) hev
      simp only [evalF] at hev
      rcases seqR_some hev with ⟨f1, n2, Ea, e, f2, n3, Eb, h1, h2, h3⟩ | ⟨h1, h2⟩
      · cases h3
        obtain ⟨l1, g1⟩ := hE j (by omega) N c1 _ _ _ _ _ _ h1 (by omega) hok
        have hlen2 := hle j (by omega) _ _ _ (by omega) h2
        refine g1 B φ1 w1 a1 _ (by omega) s1 fun φ2 w2 a2 t2 s2 => ?_
        exact ⟨j, Nat.lt_succ_self j, f1, n2, φ2, E1 ++ Ea, Eb, by omega, h2, by omega, t1.trans t2 hn1 l1, s2, by simp⟩
      · obtain ⟨l1, g1⟩ := hE j (by omega) N c1 _ _ _ _ _ _ h1 (by omega) hok
        refine g1 B φ1 w1 a1 _ hB s1 fun φ2 w2 a2 t2 s2 => then_ne h2 ?_
        exact hq φ2 w2 a2 (t1.trans t2 hn1 l1) s2

/-! ### results -/
def resOf (tmps : Array Value) : ResultVar → Sem Value
  | .tmp t => pure (tmps.getD t undef)
  | .cell a t => do loadVar t (← asAddr (tmps.getD a undef))

theorem results_of (fn : Func) (tmps : Array Value) : results fn tmps = (do
    let vs ← fn.results.mapM (resOf tmps)
    pure (if h : vs.size = 1 then vs[0] else .tuple vs)) := by
  unfold results
  congr 1

theorem res_sound {A : Cfg} {φ : Phi} {w : World} {fr : Fr} {tmps : Array Value} (ht : ∀ t, R φ w (fr t) (tmps.getD t undef)) :
    ∀ (rs : List ResultVar) (ds : List D), resL A.P fr rs = some ds → ∃ vs, (rs.mapM (resOf tmps)).run A.P w = Result.ok vs w ∧ RL φ w ds vs
  | [], ds, h => by simp [resL] at h; subst h; exact ⟨[], rfl, RL.nil⟩
  | r :: rs, ds, h => by
    simp only [resL] at h
    split at h
    · rename_i d ds' hd hds
      cases h
      obtain ⟨vs, hv, hr⟩ := res_sound ht rs ds' hds
      rw [List.mapM_cons]
      cases r with
      | tmp t =>
        simp only [resV, Option.some.injEq] at hd
        subst hd
        refine ⟨tmps.getD t undef :: vs, ?_, RL.cons (ht t) hr⟩
        simp only [resOf, Sem.run_bind, Sem.run_pure, Result.andThen_ok, hv]
      | cell a t =>
        simp only [resV] at hd
        obtain ⟨x, hx, hxr⟩ := load_sound hd (ht a)
        have hx2 : (resOf tmps (.cell a t)).run A.P w = .ok x w := by
          have hp := ht a
          simp only [resOf]
          generalize tmps.getD a undef = v at hx hp ⊢
          generalize fr a = dd at hd hp
          cases hp <;> simp [dLoad] at hd
          simp only [Instr.loadAt, Instr.sureAddr] at hx
          simpa [asAddr] using hx
        refine ⟨x :: vs, ?_, RL.cons hxr hr⟩
        simp only [Sem.run_bind, hx2, Result.andThen_ok, hv, Sem.run_pure]
    · simp at h

theorem results_sound {A : Cfg} {φ : Phi} {w : World} {fr : Fr} {tmps : Array Value} {fn : Func} {d : D} (ht : ∀ t, R φ w (fr t) (tmps.getD t undef))
    (h : resD A.P fr fn.results.toList = some d) : ∃ v, (results fn tmps).run A.P w = .ok v w ∧ R φ w d v := by
  unfold resD at h
  cases hl : resL A.P fr fn.results.toList with
  | none => simp [hl] at h
  | some ds =>
    rw [hl] at h
    obtain ⟨vs, hv, hr⟩ := res_sound ht _ _ hl
    have hrun : (results fn tmps).run A.P w = .ok (if h : vs.toArray.size = 1 then vs.toArray[0] else .tuple vs.toArray) w := by
      rw [results_of, Array.mapM_eq_mapM_toList]
      simp only [Sem.run_bind, Sem.run_map, hv, Result.andThen_ok, Sem.run_pure, bind_map_left]
    rw [hrun]
    match ds, vs, hr, h with
    | [], [], hr, h => cases h; exact ⟨_, rfl, .tup _ (by simp) (by simp)⟩
    | [d1], [v1], hr, h => cases h; exact ⟨_, rfl, hr.2 0 _ _ rfl rfl⟩
    | d1 :: d2 :: ds, v1 :: v2 :: vs, hr, h =>
      cases h
      refine ⟨_, rfl, ?_⟩
      rw [dif_neg (by simp)]
      exact .tup _ (by have := hr.1; simpa using this) (fun j d v h1 h2 => hr.2 j d v h1 (by simpa using h2))
    | [], _ :: _, hr, _ => exact absurd hr.1 (by simp)
    | [_], [], hr, _ => exact absurd hr.1 (by simp)
    | [_], _ :: _ :: _, hr, _ => exact absurd hr.1 (by simp)
    | _ :: _ :: _, [], hr, _ => exact absurd hr.1 (by simp)
    | _ :: _ :: _, [_], hr, _ => exact absurd hr.1 (by simp)
end Go.Cv
namespace Go.Cv
open Go

def ExtNz (A : Cfg) : Prop := ∀ f h, A.ext f = some h → ∀ ds n d n' E, h ds n = some (d, n', E) → Nz E

theorem bounded : ∀ l : List Nat, ∃ B, ∀ i ∈ l, i < B
  | [] => ⟨0, by simp⟩
  | x :: l => by
    obtain ⟨B, h⟩ := bounded l
    refine ⟨max B (x + 1), fun i hi => ?_⟩
    rcases List.mem_cons.1 hi with rfl | hi
    · omega
    · have := h i hi; omega

theorem in_idsL {i : Nat} {d : D} (hi : i ∈ d.ids) : ∀ {ds : List D}, d ∈ ds → i ∈ idsL ds
  | y :: ys, h => by
    simp only [idsL, List.mem_append]
    rcases List.mem_cons.1 h with rfl | h
    · exact .inl hi
    · exact .inr (in_idsL hi h)

theorem fnOk_name {fn : Func} {c : Code} (h : fnOk fn c = true) : (fn.name == "runtime.NumGoroutine") = false := by
  unfold fnOk at h
  simp only [Bool.and_eq_true, bne, Bool.not_eq_true'] at h
  exact h.1

theorem callFunc_run {P : Program} {f : FuncId} {fn : Func} {c : Code} {args : Array Value} {w : World} (hf : P.funcs[f]? = some fn) (hb : fn.body = some c) (hn : (fn.name == "runtime.NumGoroutine") = false) :
    (callFunc f args).run P w = .ok (.enter f args) w := by
  have hn' : ¬ fn.name = "runtime.NumGoroutine" := by simpa using hn
  unfold callFunc
  simp [hf, hn', hb]

theorem start_tm {φ : Phi} {w : World} {ds : List D} {vs : List Value} (h : RL φ w ds vs) (m : Nat) : ∀ t, R φ w (argsFr ds t) ((vs.toArray ++ Array.replicate m undef).getD t undef) := by
  intro t
  unfold argsFr
  cases hd : ds[t]? with
  | none => exact .bad _
  | some d =>
    obtain ⟨v, hv, hr⟩ := h.get hd
    have hlt := (List.getElem?_eq_some_iff.1 hv).1
    have : (vs.toArray ++ Array.replicate m undef).getD t undef = v := by
      rw [Array.getD_eq_getD_getElem?, Array.getElem?_append_left (by simpa using hlt)]
      simp [hv]
    rw [this]; exact hr

theorem call_step {A : Cfg} (hA : Good A) (hx : ExtNz A) (k : Nat) (hE : EvalS A k) : CallS A (callF A (k + 1)) := by
  intro f ds n d n' E h hn
  simp only [callF] at h
  split at h
  · rename_i g hg; exact hA.ext f g hg ds n d n' E h hn
  · split at h
    · rename_i fn hfn
      split at h
      · rename_i c hc
        split at h
        · rename_i hok2
          obtain ⟨hok, hlow⟩ := hok2
          cases hr : evalF A k c (argsFr ds) n with
          | none => simp [hr, endR] at h
          | some q =>
            obtain ⟨x, f1, m, E0⟩ := q
            have hok' := hok
            unfold fnOk at hok'
            simp only [Bool.and_eq_true] at hok'
            obtain ⟨hle, hev⟩ := hE fn.ntmps c _ _ _ _ _ _ hr hn hok'.2
            have hnz := (nz_both hx k).1 _ _ _ _ _ _ _ hr
            have hend : ∃ d0, resD A.P f1 fn.results.toList = some d0 ∧ leave (A.keep f) n d0 E0 = (d, n', E) ∧ (x = .normal ∨ x = .ret) := by
              rw [hr] at h
              cases x with
              | normal => simp only [endR] at h; obtain ⟨d0, h1, h2⟩ := Option.map_eq_some_iff.1 h; exact ⟨d0, h1, h2, .inl rfl⟩
              | exit i => simp [endR] at h
              | ret => simp only [endR] at h; obtain ⟨d0, h1, h2⟩ := Option.map_eq_some_iff.1 h; exact ⟨d0, h1, h2, .inr rfl⟩
            obtain ⟨d0, hres, hlv, hx'⟩ := hend
            have hids := leave_ids (keep := A.keep f) (d := d0) (E := E0) hn
            have hlnz := leave_nz (keep := A.keep f) (n := n) (d := d0) hnz
            have hn' : n ≤ (leave (A.keep f) n d0 E0).2.1 := by unfold leave; simp
            rw [hlv] at hids hlnz hn'
            simp only at hids hlnz hn'
            refine ⟨hn', fun φ w vs wf hg hf hr' => ?_⟩
            unfold Does
            rw [callFunc_run hfn hc (fnOk_name hok)]
            simp only [DoesR]
            obtain ⟨B1, hB1⟩ := bounded (d0.ids ++ E0.flatMap Eff.pay ++ E0.map Eff.id)
            -- the names that are in use and not ours move out of the way
            let M := m + B1
            let φ2 : Phi := fun j => if j < n' then φ j else if j < n' + M then .no else φ (j - M)
            have hφ2 : φ2 = fun j => if j < n' then φ j else if j < n' + M then .no else φ (j - M) := rfl
            have hup : ∀ i, φ2 (Cv.up n' M i) = φ i := by
              intro i
              simp only [hφ2]
              unfold Cv.up
              by_cases h : i < n'
              · simp [h]
              · rw [if_neg h, if_neg (by omega), if_neg (by omega)]; congr 1; omega
            have hinv : ∀ j, φ2 j ≠ .no → Cv.up n' M (down n' M j) = j := by
              intro j hj
              rw [hφ2] at hj
              simp only at hj
              unfold Cv.up down
              by_cases h1 : j < n'
              · simp [h1]
              · rw [if_neg h1] at hj ⊢
                by_cases h2 : j < n' + M
                · rw [if_pos h2] at hj; exact absurd rfl hj
                · rw [if_neg h2, if_neg (by omega)]; omega
            have hto : ∀ {x u}, R φ w x u → R φ2 w (x.ren (Cv.up n' M)) u := by
              intro x u hx
              refine hx.ren (by unfold Cv.up; rw [if_pos (by omega)]) (fun i _ _ => hup i) (fun j b p hj => ⟨down n' M j, ?_, hinv j (by rw [hj]; simp), fun h0 => ?_⟩) wf
              · rw [← hup, hinv j (by rw [hj]; simp)]; exact hj
              · subst h0
                have : φ2 0 = φ 0 := by have := hup 0; unfold Cv.up at this; rwa [if_pos (by omega)] at this
                rw [this, wf.zero] at hj
                simp at hj
            have wf2 : WF φ2 w := by
              refine ⟨?_, fun i j b p q hi hj => ?_, fun i b p hi => ?_⟩
              · have := hup 0; unfold Cv.up at this; rw [if_pos (by omega)] at this; rw [this, wf.zero]
              · have h1 := hinv i (by rw [hi]; simp)
                have h2 := hinv j (by rw [hj]; simp)
                rw [← h1, hup] at hi
                rw [← h2, hup] at hj
                have := wf.inj _ _ b p q hi hj
                rw [← h1, ← h2, this]
              · have h1 := hinv i (by rw [hi]; simp)
                rw [← h1, hup] at hi
                exact wf.live _ b p hi
            have hargs : RL φ2 w ds vs := by
              refine ⟨hr'.1, fun j dd v h1 h2 => ?_⟩
              have h3 := hto (hr'.2 j dd v h1 h2)
              rw [ren_fix (fun i hi => ?_)] at h3
              · exact h3
              · have hm : i ∈ idsL ds := by
                  have hmem := List.mem_of_getElem? h1
                  exact in_idsL hi hmem
                unfold lowL at hlow
                have := List.all_eq_true.1 hlow i hm
                simp at this
                unfold Cv.up; rw [if_pos (by omega)]
            have hg2 : GOk A φ2 w := fun g cs hcs => (hg g cs hcs).closed (by simp [D.has, hA.g g cs hcs]) (fun b hb hu => ⟨rfl, fun i b' p hi => by
              have h1 := hinv i (by rw [hi]; simp)
              rw [← h1, hup] at hi
              exact hu _ b' p hi⟩) (Nat.le_refl _)
            have hst : St A fn.ntmps (n' + M) φ2 w (argsFr ds) { tmps := vs.toArray ++ Array.replicate (fn.ntmps - vs.toArray.size) undef, defers := [] } n := by
              refine ⟨wf2, hg2, fun i h1 h2 => ?_, start_tm hargs _, rfl, by simp; omega⟩
              rw [hφ2]
              simp only
              by_cases h3 : i < n'
              · rw [if_pos h3]; exact hf i h1 h3
              · rw [if_neg h3, if_pos h2]
            refine calls_of_wp hfn hc (hev (n' + M) φ2 w _ _ (by omega) hst fun φ3 w3 a3 t3 s3 => ?_)
            obtain ⟨v, hv, hvr⟩ := results_sound s3.tm hres
            have hl := leave_sound (keep := A.keep f) (F := n' + M) t3 hst.fresh hn hnz (by omega) (by rw [hlv]; simp only; omega)
              (fun i hi => by have := hB1 i (by simp [hi]); omega)
              (fun e he => ⟨by have := hB1 e.id (by simp; exact .inr (.inr ⟨e, he, rfl⟩)); omega, fun i hi => by have := hB1 i (by simp; exact .inr (.inl ⟨e, he, hi⟩)); omega⟩) hvr
            rw [hlv] at hl
            simp only at hl
            have hpost : Post φ w n n' E d v w3 := conj wf hn hn' hlnz hids.2 hids.1 hl
            rcases hx' with rfl | rfl
            · exact ⟨s3.df, v, hv, hpost⟩
            · exact ⟨s3.df, v, hv, hpost⟩
        · simp at h
      · simp at h
    · simp at h

theorem both_sound {A : Cfg} (hA : Good A) (hx : ExtNz A) : ∀ k, (∀ j, j ≤ k → EvalS A j) ∧ CallS A (callF A k) := by
  intro k
  induction k with
  | zero =>
    refine ⟨fun j hj => ?_, fun f ds n d n' E h => by simp [callF] at h⟩
    obtain rfl : j = 0 := by omega
    intro N c fr n x fr' n' E h
    simp [evalF] at h
  | succ k ih =>
    refine ⟨fun j hj => ?_, call_step hA hx k (ih.1 k (Nat.le_refl _))⟩
    by_cases h : j = k + 1
    · subst h; exact eval_step hA k ih.1 ih.2
    · exact ih.1 j (by omega)

/-- **what the machine of readings gives, the program does** -/
theorem call_sound {A : Cfg} (hA : Good A) (hx : ExtNz A) : CallS A A.call := by
  intro f ds n d n' E h
  obtain ⟨k, hk⟩ := call_some.1 h
  exact (both_sound hA hx k).2 f ds n d n' E hk
end Go.Cv
namespace Go.Cv
open Go Go.RowKit

def noPhi : Phi := fun _ => .no
theorem wf_no (w : World) : WF noPhi w := ⟨rfl, fun i j b p q h => by simp [noPhi] at h, fun i b p h => by simp [noPhi] at h⟩
theorem untracked_no (b : Nat) : Untracked noPhi b := fun i b' p h => by simp [noPhi] at h

/-- **a law that the machine of readings answers with true** -/
theorem law_calls {A : Cfg} (hA : Good A) (hx : ExtNz A) {f : FuncId} {fn : Func} {c : Code} (hf : A.P.funcs[f]? = some fn) (hb : fn.body = some c) (hn : (fn.name == "runtime.NumGoroutine") = false)
    {ds : List D} {vs : List Value} {n' : Nat} {E : List Eff} (h : A.call f ds 1 = some (.val (.bool true), n', E)) {W : World} (hg : GOk A noPhi W) (hr : RL noPhi W ds vs) :
    Calls A.P f vs.toArray W (fun e W' => e = .returned (.bool true) ∧ Below W.heap.size W W') := by
  obtain ⟨_, h2⟩ := call_sound hA hx f ds 1 _ _ _ h (by simp)
  have h3 := h2 noPhi W vs (wf_no W) hg (fun _ _ _ => rfl) hr
  unfold Does at h3
  rw [callFunc_run hf hb hn] at h3
  simp only [DoesR] at h3
  refine h3.mono fun e W' he => ?_
  cases e with
  | returned v =>
    obtain ⟨φ', t, hv⟩ := he
    cases hv
    exact ⟨rfl, t.os, t.tape, t.output, t.size, fun k hk => (t.old k hk (untracked_no k)).1⟩
  | panicked c => exact he.elim
  | outgrown => exact he.elim
end Go.Cv
