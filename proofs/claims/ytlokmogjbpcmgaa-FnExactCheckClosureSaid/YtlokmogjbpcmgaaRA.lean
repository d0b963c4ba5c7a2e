/- Readings of memory, and a machine over them that is sound (part A). No condition. -/
import Derived.Orders
import Derived.Below
import Derived.KernelRfl
import Derived.Laws.AppendOwn
import Derived.Laws.IdiomCopy
import Derived.Laws.StructEq
import Derived.Laws.Append
import Derived.Laws.Slices
import Derived.Laws.MakeOwn
set_option linter.unusedVariables false
set_option linter.unusedSimpArgs false
namespace Go.Cv
open Go

/-- Values that carry the memory that they reach. -/
inductive D where
  | val (v : Value)
  | ifc
  | sl (id off : Nat) (cap : Option Nat) (sz : Nat) (es : List D)
  | pt (id off : Nat) (cs : List D)
  | agg (cs : List D)
  | fn (f : Fn) (caps : List D)
  | tup (ds : List D)
  | bad
  deriving Inhabited

def D.cells : D → List D
  | .agg cs => cs
  | d => [d]

def flat (es : List D) : List D := es.flatMap D.cells

@[simp] theorem flat_nil : flat [] = [] := rfl
@[simp] theorem flat_cons (e : D) (es : List D) : flat (e :: es) = e.cells ++ flat es := by simp [flat]
@[simp] theorem flat_append (a b : List D) : flat (a ++ b) = flat a ++ flat b := by simp [flat]

theorem flat_length {sz : Nat} : ∀ {es : List D}, (∀ e ∈ es, e.cells.length = sz) → (flat es).length = es.length * sz
  | [], _ => by simp
  | e :: es, h => by
    have h1 := h e (by simp)
    have h2 := flat_length (es := es) (sz := sz) (fun x hx => h x (by simp [hx]))
    simp [h1, h2, Nat.succ_mul]; omega

/-- where the block of an id lies -/
inductive Tr where
  | no
  | void
  | at (b base : Nat)
  deriving DecidableEq

abbrev Phi := Nat → Tr

def Untracked (φ : Phi) (b : Nat) : Prop := ∀ i b' base, φ i = .at b' base → b' ≠ b

/-- a place of m cells -/
def Place (φ : Phi) (w : World) (id off : Nat) (A : Option Addr) (m : Nat) : Prop :=
  if id = 0 then m = 0 ∨ ∃ a, A = some a ∧ a.block < w.heap.size ∧ Untracked φ a.block
  else match φ id with
    | .no => False
    | .void => m = 0
    | .at b base => m = 0 ∨ (A = some ⟨b, base + off, none⟩ ∧ ∃ cs e, w.heap[b]? = some (.cells cs e (0, 0)) ∧ base + off + m ≤ cs.size)

inductive R (φ : Phi) (w : World) : D → Value → Prop
  | val (v : Value) : R φ w (.val v) v
  | ifc (t : TypeId) (x : Value) : R φ w .ifc (.iface t x)
  | sl {id off : Nat} {cap : Option Nat} {sz : Nat} {es : List D} {A : Option Addr} {c : Nat} (u : Nat → Value) (hc : es.length ≤ c) (hcap : ∀ k, cap = some k → c = k)
      (hsz : ∀ e ∈ es, e.cells.length = sz) (hp : Place φ w id off A (c * sz)) (ha : flat es ≠ [] → A.isSome = true)
      (hcell : ∀ (j : Nat) (d : D), (flat es)[j]? = some d → w.cell? ((A.getD default).add j) = some (u j))
      (hr : ∀ (j : Nat) (d : D), (flat es)[j]? = some d → R φ w d (u j)) : R φ w (.sl id off cap sz es) (.slice A es.length c)
  | pt {id off : Nat} {cs : List D} {a : Addr} (u : Nat → Value) (hp : Place φ w id off (some a) cs.length)
      (hcell : ∀ (j : Nat) (d : D), cs[j]? = some d → w.cell? (a.add j) = some (u j))
      (hr : ∀ (j : Nat) (d : D), cs[j]? = some d → R φ w d (u j)) : R φ w (.pt id off cs) (.pointer (some a))
  | agg {cs : List D} (vs : Array Value) (hl : cs.length = vs.size) (hr : ∀ (j : Nat) (d : D) (v : Value), cs[j]? = some d → vs[j]? = some v → R φ w d v) : R φ w (.agg cs) (.agg vs)
  | fn {f : Fn} {caps : List D} (vs : Array Value) (hl : caps.length = vs.size) (hr : ∀ (j : Nat) (d : D) (v : Value), caps[j]? = some d → vs[j]? = some v → R φ w d v) : R φ w (.fn f caps) (.func f #[] vs)
  | tup {ds : List D} (vs : Array Value) (hl : ds.length = vs.size) (hr : ∀ (j : Nat) (d : D) (v : Value), ds[j]? = some d → vs[j]? = some v → R φ w d v) : R φ w (.tup ds) (.tuple vs)
  | bad (v : Value) : R φ w .bad v

/-- well formed: the tracked blocks are distinct, and are rows of cells without a frozen range -/
structure WF (φ : Phi) (w : World) : Prop where
  zero : φ 0 = .no
  inj : ∀ i j b p q, φ i = .at b p → φ j = .at b q → i = j
  live : ∀ i b p, φ i = .at b p → ∃ cs e, w.heap[b]? = some (.cells cs e (0, 0))

theorem WF.lt {φ : Phi} {w : World} (h : WF φ w) {i b p : Nat} (hi : φ i = .at b p) : b < w.heap.size := by
  obtain ⟨cs, e, hb⟩ := h.live i b p hi
  exact (Array.getElem?_eq_some_iff.1 hb).1

/-- What stands stays: nothing is written to, new ids may come. -/
theorem R.mono {φ φ' : Phi} {w w' : World} {d : D} {v : Value} (h : R φ w d v)
    (h1 : ∀ i, φ i ≠ .no → φ' i = φ i) (h2 : ∀ b, b < w.heap.size → w'.heap[b]? = w.heap[b]?)
    (h4 : ∀ i b p, φ' i = .at b p → φ i = .at b p ∨ w.heap.size ≤ b) (h5 : w.heap.size ≤ w'.heap.size) : R φ' w' d v := by
  have hpl : ∀ id off A m, Place φ w id off A m → Place φ' w' id off A m := by
    intro id off A m hp
    unfold Place at *
    split
    · rename_i h0
      rw [if_pos h0] at hp
      rcases hp with hp | ⟨a, rfl, hlt, hu⟩
      · exact .inl hp
      · refine .inr ⟨a, rfl, by omega, fun i b' base hi => ?_⟩
        rcases h4 i b' base hi with hi | hge
        · exact hu i b' base hi
        · omega
    · rename_i h0
      rw [if_neg h0] at hp
      cases hφ : φ id with
      | no => rw [hφ] at hp; exact hp.elim
      | void => rw [hφ] at hp; rw [h1 id (by rw [hφ]; simp), hφ]; exact hp
      | «at» b base =>
        rw [hφ] at hp
        rw [h1 id (by rw [hφ]; simp), hφ]
        rcases hp with hp | ⟨hA, cs, e, hb, hle⟩
        · exact .inl hp
        have hlt : b < w.heap.size := (Array.getElem?_eq_some_iff.1 hb).1
        exact .inr ⟨hA, cs, e, by rw [h2 b hlt]; exact hb, hle⟩
  have hcl : ∀ a x, w.cell? a = some x → w'.cell? a = some x := by
    intro a x hx
    have hlt := World.block_lt_of_cell? w a hx
    rw [World.cell?_of_block (w := w) (h2 a.block hlt)]; exact hx
  induction h with
  | val v => exact .val v
  | ifc t x => exact .ifc t x
  | bad v => exact .bad v
  | sl u hc hcap hsz hp ha hcell hr ih => exact .sl u hc hcap hsz (hpl _ _ _ _ hp) ha (fun j d hj => hcl _ _ (hcell j d hj)) ih
  | pt u hp hcell hr ih => exact .pt u (hpl _ _ _ _ hp) (fun j d hj => hcl _ _ (hcell j d hj)) ih
  | agg vs hl hr ih => exact .agg vs hl ih
  | fn vs hl hr ih => exact .fn vs hl ih
  | tup vs hl hr ih => exact .tup vs hl ih

theorem heap_setCell (w : World) (a : Addr) (u : Value) (k : Nat) (h : k ≠ a.block) : (w.setCell a u).heap[k]? = w.heap[k]? := by
  simp only [World.setCell, Array.getElem?_modify]
  rw [if_neg (Ne.symm h)]

/-! ### effects -/
def setFlat : List D → Nat → D → List D
  | [], _, _ => []
  | e :: es, k, c => if k < e.cells.length then (match e with | .agg cs => D.agg (cs.set k c) | _ => c) :: es else e :: setFlat es (k - e.cells.length) c

def D.leaf : D → Bool
  | .agg _ => false
  | _ => true

theorem D.leaf_cells {c : D} (h : c.leaf = true) : c.cells = [c] := by cases c <;> simp_all [D.leaf, D.cells]

theorem setFlat_length : ∀ (es : List D) (k : Nat) (c : D), (setFlat es k c).length = es.length
  | [], _, _ => rfl
  | e :: es, k, c => by
    unfold setFlat; split
    · simp
    · simp [setFlat_length es]

theorem flat_setFlat {c : D} (hc : c.leaf = true) : ∀ (es : List D) (k : Nat), flat (setFlat es k c) = (flat es).set k c
  | [], _ => rfl
  | e :: es, k => by
    unfold setFlat
    split
    · rename_i h
      cases e with
      | agg cs => simp only [flat_cons, D.cells] at h ⊢; rw [List.set_append_left _ _ h]
      | _ => simp only [D.cells, List.length_cons, List.length_nil] at h; obtain rfl : k = 0 := by omega
             show c.cells ++ flat es = _
             rw [D.leaf_cells hc]; rfl
    · rename_i h
      rw [flat_cons, flat_setFlat hc es, flat_cons, List.set_append_right _ _ (by omega)]

theorem setFlat_sz {c : D} (hc : c.leaf = true) {sz : Nat} : ∀ (es : List D) (k : Nat), (∀ e ∈ es, e.cells.length = sz) → ∀ e ∈ setFlat es k c, e.cells.length = sz
  | [], _, _ => by simp [setFlat]
  | e :: es, k, h => by
    have h0 := h e (by simp)
    have h1 : ∀ x ∈ es, x.cells.length = sz := fun x hx => h x (by simp [hx])
    unfold setFlat
    split
    · rename_i hk
      intro x hx
      rcases List.mem_cons.1 hx with rfl | hx
      · cases e with
        | agg cs => simpa [D.cells] using h0
        | _ => show c.cells.length = sz; rw [D.leaf_cells hc]; simpa [D.cells] using h0
      · exact h1 x hx
    · intro x hx
      rcases List.mem_cons.1 hx with rfl | hx
      · exact h0
      · exact setFlat_sz hc es _ h1 x hx

mutual
def D.wr (i k : Nat) (c : D) : D → D
  | .sl id off cap sz es => .sl id off cap sz (if id = i ∧ off ≤ k then setFlat (wrL i k c es) (k - off) c else wrL i k c es)
  | .pt id off cs => .pt id off (if id = i ∧ off ≤ k then (wrL i k c cs).set (k - off) c else wrL i k c cs)
  | .agg cs => .agg (wrL i k c cs)
  | .fn f caps => .fn f (wrL i k c caps)
  | .tup ds => .tup (wrL i k c ds)
  | .val v => .val v
  | .ifc => .ifc
  | .bad => .bad
def wrL (i k : Nat) (c : D) : List D → List D
  | [] => []
  | d :: ds => D.wr i k c d :: wrL i k c ds
end

mutual
def D.kill (i : Nat) : D → D
  | .sl id off cap sz es => if id = i then .bad else .sl id off cap sz (killL i es)
  | .pt id off cs => if id = i then .bad else .pt id off (killL i cs)
  | .agg cs => .agg (killL i cs)
  | .fn f caps => .fn f (killL i caps)
  | .tup ds => .tup (killL i ds)
  | .val v => .val v
  | .ifc => .ifc
  | .bad => .bad
def killL (i : Nat) : List D → List D
  | [] => []
  | d :: ds => d.kill i :: killL i ds
end

mutual
def D.has (p : Nat → Bool) : D → Bool
  | .sl id _ _ _ es => p id || hasL p es
  | .pt id _ cs => p id || hasL p cs
  | .agg cs => hasL p cs
  | .fn _ caps => hasL p caps
  | .tup ds => hasL p ds
  | .val _ => false
  | .ifc => false
  | .bad => false
def hasL (p : Nat → Bool) : List D → Bool
  | [] => false
  | d :: ds => d.has p || hasL p ds
end

mutual
def D.ren (ρ : Nat → Nat) : D → D
  | .sl id off cap sz es => .sl (ρ id) off cap sz (renL ρ es)
  | .pt id off cs => .pt (ρ id) off (renL ρ cs)
  | .agg cs => .agg (renL ρ cs)
  | .fn f caps => .fn f (renL ρ caps)
  | .tup ds => .tup (renL ρ ds)
  | .val v => .val v
  | .ifc => .ifc
  | .bad => .bad
def renL (ρ : Nat → Nat) : List D → List D
  | [] => []
  | d :: ds => d.ren ρ :: renL ρ ds
end

theorem wrL_map (i k : Nat) (c : D) : ∀ l, wrL i k c l = l.map (D.wr i k c)
  | [] => rfl
  | d :: ds => by simp [wrL, wrL_map i k c ds]
theorem killL_map (i : Nat) : ∀ l, killL i l = l.map (D.kill i)
  | [] => rfl
  | d :: ds => by simp [killL, killL_map i ds]
theorem renL_map (ρ : Nat → Nat) : ∀ l, renL ρ l = l.map (D.ren ρ)
  | [] => rfl
  | d :: ds => by simp [renL, renL_map ρ ds]
theorem hasL_any (p : Nat → Bool) : ∀ l, hasL p l = l.any (D.has p)
  | [] => rfl
  | d :: ds => by simp [hasL, hasL_any p ds]

theorem cells_wr (i k : Nat) (c d : D) : (D.wr i k c d).cells = d.cells.map (D.wr i k c) := by
  cases d <;> simp [D.wr, D.cells, wrL_map]
theorem cells_ren (ρ : Nat → Nat) (d : D) : (d.ren ρ).cells = d.cells.map (D.ren ρ) := by
  cases d <;> simp [D.ren, D.cells, renL_map]
theorem cells_kill (i : Nat) (d : D) : (d.kill i).cells = d.cells.map (D.kill i) := by
  cases d with
  | sl id => by_cases h : id = i <;> simp [D.kill, D.cells, killL_map, h]
  | pt id => by_cases h : id = i <;> simp [D.kill, D.cells, killL_map, h]
  | _ => simp [D.kill, D.cells, killL_map]

theorem flat_map_wr (i k : Nat) (c : D) : ∀ l, flat (l.map (D.wr i k c)) = (flat l).map (D.wr i k c)
  | [] => rfl
  | d :: ds => by simp [cells_wr, flat_map_wr i k c ds]
theorem flat_map_kill (i : Nat) : ∀ l, flat (l.map (D.kill i)) = (flat l).map (D.kill i)
  | [] => rfl
  | d :: ds => by simp [cells_kill, flat_map_kill i ds]
theorem flat_map_ren (ρ : Nat → Nat) : ∀ l, flat (l.map (D.ren ρ)) = (flat l).map (D.ren ρ)
  | [] => rfl
  | d :: ds => by simp [cells_ren, flat_map_ren ρ ds]

theorem leaf_wr (i k : Nat) (c d : D) : (D.wr i k c d).leaf = d.leaf := by cases d <;> simp [D.wr, D.leaf]

theorem add_eq (a : Addr) (j : Nat) (hs : a.spot = none) : a.add j = ⟨a.block, a.off + j, none⟩ := by
  unfold Addr.add
  split
  · rename_i h; subst h; cases a; simp_all
  · cases a; simp_all

theorem add_block (a : Addr) (j : Nat) : (a.add j).block = a.block := by unfold Addr.add; split <;> rfl


theorem getElem?_map_some {α β : Type} {f : α → β} {l : List α} {j : Nat} {y : β} (h : (l.map f)[j]? = some y) : ∃ x, l[j]? = some x ∧ f x = y := by
  simpa [List.getElem?_map] using h

theorem has_false_sl {p : Nat → Bool} {id off : Nat} {cap : Option Nat} {sz : Nat} {es : List D} (h : (D.sl id off cap sz es).has p = false) :
    p id = false ∧ ∀ (j : Nat) (d : D), (flat es)[j]? = some d → d.has p = false := by
  simp [D.has, hasL_any] at h
  refine ⟨h.1, fun j d hj => ?_⟩
  have hm := List.mem_of_getElem? hj
  obtain ⟨e, he, hd⟩ := List.mem_flatMap.1 hm
  have h2 := h.2 e he
  cases e with
  | agg cs => simp [D.has, hasL_any] at h2; exact h2 d hd
  | _ => simp [D.cells] at hd; subst hd; exact h2

theorem has_false_list {p : Nat → Bool} {cs : List D} (h : hasL p cs = false) : ∀ (j : Nat) (d : D), cs[j]? = some d → d.has p = false := by
  intro j d hj
  have hm := List.mem_of_getElem? hj
  simp [hasL_any] at h
  exact h d hm

/-- A block that an id tracks is written, or killed: what does not name the id stands. -/
theorem R.apart {φ φ' : Phi} {w w' : World} {d : D} {v : Value} {i b : Nat} (h : R φ w d v) (hφ : (∃ base, φ i = .at b base) ∨ w.heap.size ≤ b)
    (wf : WF φ w) (hno : d.has (· == i) = false)
    (h1 : ∀ j, j ≠ i → φ j ≠ .no → φ' j = φ j) (h2 : ∀ k, k < w.heap.size → k ≠ b → w'.heap[k]? = w.heap[k]?)
    (h4 : ∀ j k p, φ' j = .at k p → (∃ j' p', φ j' = .at k p') ∨ w.heap.size ≤ k) (h5 : w.heap.size ≤ w'.heap.size) : R φ' w' d v := by
  have hpl : ∀ id off A m, id ≠ i → Place φ w id off A m → Place φ' w' id off A m := by
    intro id off A m hne hp
    unfold Place at *
    split
    · rename_i h0
      rw [if_pos h0] at hp
      rcases hp with hp | ⟨a, rfl, hlt, hu⟩
      · exact .inl hp
      · refine .inr ⟨a, rfl, by omega, fun j b' p hj => ?_⟩
        rcases h4 j b' p hj with ⟨j', p', hj'⟩ | hge
        · exact hu j' b' p' hj'
        · omega
    · rename_i h0
      rw [if_neg h0] at hp
      cases hp' : φ id with
      | no => rw [hp'] at hp; exact hp.elim
      | void => rw [hp'] at hp; rw [h1 id hne (by rw [hp']; simp), hp']; exact hp
      | «at» b' base' =>
        rw [hp'] at hp
        rw [h1 id hne (by rw [hp']; simp), hp']
        rcases hp with hp | ⟨hA, cs, e, hb, hle⟩
        · exact .inl hp
        have hlt : b' < w.heap.size := (Array.getElem?_eq_some_iff.1 hb).1
        have hne' : b' ≠ b := by
          intro e'
          rcases hφ with ⟨base, hφ⟩ | hge
          · exact hne (wf.inj id i b base' base (e' ▸ hp') hφ)
          · omega
        exact .inr ⟨hA, cs, e, by rw [h2 b' hlt hne']; exact hb, hle⟩
  have hblk : ∀ id off A m, id ≠ i → Place φ w id off A m → m ≠ 0 → ∀ a, A = some a → a.block ≠ b := by
    intro id off A m hne hp hm a ha
    unfold Place at hp
    split at hp
    · rcases hp with hp | ⟨a', ha', hlt', hu⟩
      · exact absurd hp hm
      · rw [ha] at ha'; cases ha'
        rcases hφ with ⟨base, hφ⟩ | hge
        · exact fun e => hu i b base hφ e.symm
        · intro e; omega
    · cases hp' : φ id with
      | no => rw [hp'] at hp; exact hp.elim
      | void => rw [hp'] at hp; exact absurd hp hm
      | «at» b' base' =>
        rw [hp'] at hp
        rcases hp with hp | ⟨hA, cs, e, hb, hle⟩
        · exact absurd hp hm
        rw [ha] at hA; cases hA
        intro e'
        simp only at e'
        rcases hφ with ⟨base, hφ⟩ | hge
        · exact hne (wf.inj id i b base' base (e' ▸ hp') hφ)
        · have := wf.lt hp'; omega
  have hcl : ∀ a x, a.block ≠ b → w.cell? a = some x → w'.cell? a = some x := by
    intro a x hne hx
    have hlt := World.block_lt_of_cell? w a hx
    rw [World.cell?_of_block (w := w) (h2 a.block hlt hne)]; exact hx
  induction h with
  | val v => exact .val v
  | ifc t x => exact .ifc t x
  | bad v => exact .bad v
  | @sl id off cap sz es A c u hc hcap hsz hp ha hcell hr ih =>
    obtain ⟨hid, hes⟩ := has_false_sl hno
    have hid : id ≠ i := by simpa using hid
    refine .sl u hc hcap hsz (hpl _ _ _ _ hid hp) ha (fun j d hj => ?_) (fun j d hj => ih j d hj (hes j d hj))
    have hjl : j < (flat es).length := (List.getElem?_eq_some_iff.1 hj).1
    rw [flat_length hsz] at hjl
    have hm : c * sz ≠ 0 := by
      intro h0
      have : es.length * sz ≤ c * sz := Nat.mul_le_mul_right _ hc
      omega
    have hA := ha (fun h0 => by rw [h0] at hj; simp at hj)
    obtain ⟨a, rfl⟩ := Option.isSome_iff_exists.1 hA
    refine hcl _ _ ?_ (hcell j d hj)
    rw [add_block]; exact hblk _ _ _ _ hid hp hm a rfl
  | @pt id off cs a u hp hcell hr ih =>
    simp [D.has] at hno
    have hid : id ≠ i := hno.1
    refine .pt u (hpl _ _ _ _ hid hp) (fun j d hj => ?_) (fun j d hj => ih j d hj (has_false_list hno.2 j d hj))
    have hjl : j < cs.length := (List.getElem?_eq_some_iff.1 hj).1
    refine hcl _ _ ?_ (hcell j d hj)
    rw [add_block]; exact hblk _ _ _ _ hid hp (by omega) a rfl
  | agg vs hl hr ih => exact .agg vs hl (fun j d v h1 h2 => ih j d v h1 h2 (has_false_list (by simpa [D.has] using hno) j d h1))
  | fn vs hl hr ih => exact .fn vs hl (fun j d v h1 h2 => ih j d v h1 h2 (has_false_list (by simpa [D.has] using hno) j d h1))
  | tup vs hl hr ih => exact .tup vs hl (fun j d v h1 h2 => ih j d v h1 h2 (has_false_list (by simpa [D.has] using hno) j d h1))

/-- what kills an id does not name it -/
theorem kill_has_aux (i : Nat) : (∀ d : D, (d.kill i).has (· == i) = false) ∧ (∀ l : List D, hasL (· == i) (killL i l) = false) := by
  suffices h : ∀ n, (∀ d : D, SizeOf.sizeOf d < n → (d.kill i).has (· == i) = false) ∧ (∀ l : List D, SizeOf.sizeOf l < n → hasL (· == i) (killL i l) = false) from
    ⟨fun d => (h (SizeOf.sizeOf d + 1)).1 d (by omega), fun l => (h (SizeOf.sizeOf l + 1)).2 l (by omega)⟩
  intro n
  induction n with
  | zero => exact ⟨fun d h => by omega, fun l h => by omega⟩
  | succ n ih =>
    refine ⟨fun d h => ?_, fun l h => ?_⟩
    · cases d with
      | sl id off cap sz es =>
        by_cases hid : id = i
        · simp [D.kill, hid, D.has]
        · simp at h; simp [D.kill, hid, D.has]; exact ih.2 es (by omega)
      | pt id off cs =>
        by_cases hid : id = i
        · simp [D.kill, hid, D.has]
        · simp at h; simp [D.kill, hid, D.has]; exact ih.2 cs (by omega)
      | agg cs => simp at h; simp [D.kill, D.has]; exact ih.2 cs (by omega)
      | fn f caps => simp at h; simp [D.kill, D.has]; exact ih.2 caps (by omega)
      | tup ds => simp at h; simp [D.kill, D.has]; exact ih.2 ds (by omega)
      | _ => simp [D.kill, D.has]
    · cases l with
      | nil => rfl
      | cons d ds => simp at h; simp [killL, hasL]; exact ⟨ih.1 d (by omega), ih.2 ds (by omega)⟩

theorem kill_has (i : Nat) (d : D) : (d.kill i).has (· == i) = false := (kill_has_aux i).1 d

/-- killing an id keeps a reading -/
theorem R.kill {φ : Phi} {w : World} {d : D} {v : Value} (i : Nat) (h : R φ w d v) : R φ w (d.kill i) v := by
  induction h with
  | val v => exact .val v
  | ifc t x => exact .ifc t x
  | bad v => exact .bad v
  | @sl id off cap sz es A c u hc hcap hsz hp ha hcell hr ih =>
    by_cases hid : id = i
    · simp only [D.kill, hid, if_true]; exact .bad _
    · simp only [D.kill, hid, if_false, killL_map]
      have hl : (es.map (D.kill i)).length = es.length := by simp
      rw [← hl]
      refine .sl u (by rw [hl]; exact hc) hcap (fun e he => ?_) hp (fun h0 => ha (fun h1 => h0 (by rw [flat_map_kill, h1]; rfl))) (fun j d hj => ?_) (fun j d hj => ?_)
      · obtain ⟨x, hx, rfl⟩ := List.mem_map.1 he
        rw [cells_kill]; simp [hsz x hx]
      · rw [flat_map_kill] at hj
        obtain ⟨x, hx, rfl⟩ := getElem?_map_some hj
        exact hcell j x hx
      · rw [flat_map_kill] at hj
        obtain ⟨x, hx, rfl⟩ := getElem?_map_some hj
        exact ih j x hx
  | @pt id off cs a u hp hcell hr ih =>
    by_cases hid : id = i
    · simp only [D.kill, hid, if_true]; exact .bad _
    · simp only [D.kill, hid, if_false, killL_map]
      refine .pt u (by simpa using hp) (fun j d hj => ?_) (fun j d hj => ?_)
      · obtain ⟨x, hx, rfl⟩ := getElem?_map_some hj
        exact hcell j x hx
      · obtain ⟨x, hx, rfl⟩ := getElem?_map_some hj
        exact ih j x hx
  | agg vs hl hr ih =>
    simp only [D.kill, killL_map]
    refine .agg vs (by simpa using hl) (fun j d v h1 h2 => ?_)
    obtain ⟨x, hx, rfl⟩ := getElem?_map_some h1
    exact ih j x v hx h2
  | fn vs hl hr ih =>
    simp only [D.kill, killL_map]
    refine .fn vs (by simpa using hl) (fun j d v h1 h2 => ?_)
    obtain ⟨x, hx, rfl⟩ := getElem?_map_some h1
    exact ih j x v hx h2
  | tup vs hl hr ih =>
    simp only [D.kill, killL_map]
    refine .tup vs (by simpa using hl) (fun j d v h1 h2 => ?_)
    obtain ⟨x, hx, rfl⟩ := getElem?_map_some h1
    exact ih j x v hx h2

/-- one cell of a tracked block is written -/
theorem R.write {φ : Phi} {w : World} {d : D} {v : Value} {i b base k : Nat} {c : D} {u0 : Value} (h : R φ w d v) (hφ : φ i = .at b base) (hi : i ≠ 0)
    (wf : WF φ w) (hc : c.leaf = true) (hno : c.has (· == i) = false) (hcu : R φ w c u0) {x0 : Value} (hx0 : w.cell? ⟨b, base + k, none⟩ = some x0) :
    R φ (w.setCell ⟨b, base + k, none⟩ u0) (D.wr i k c d) v := by
  have hs : (w.setCell ⟨b, base + k, none⟩ u0).heap.size = w.heap.size := by simp [World.setCell]
  have hoth : ∀ m, m ≠ b → (w.setCell ⟨b, base + k, none⟩ u0).heap[m]? = w.heap[m]? := fun m hm => heap_setCell w _ _ m hm
  have hcu' : R φ (w.setCell ⟨b, base + k, none⟩ u0) c u0 :=
    hcu.apart (.inl ⟨base, hφ⟩) wf hno (fun j _ _ => rfl) (fun m _ hm => hoth m hm) (fun j m p hj => .inl ⟨j, p, hj⟩) (by rw [hs]; exact Nat.le_refl _)
  have hnew : (w.setCell ⟨b, base + k, none⟩ u0).cell? ⟨b, base + k, none⟩ = some u0 := by
    obtain ⟨cs, e, hb⟩ := wf.live i b base hφ
    simp [World.cell?, hb] at hx0
    obtain ⟨hlt, _⟩ := Array.getElem?_eq_some_iff.1 hx0
    simp [World.setCell, World.cell?, Array.getElem?_modify, hb, hlt]
  have hold : ∀ a x, a ≠ ⟨b, base + k, none⟩ → w.cell? a = some x → (w.setCell ⟨b, base + k, none⟩ u0).cell? a = some x := by
    intro a x hne hx
    by_cases hb : a.block = b
    · obtain ⟨cs, e, hbk⟩ := wf.live i b base hφ
      have hsp : a.spot = none := by
        cases hsp : a.spot with
        | none => rfl
        | some s => simp [World.cell?, hb, hbk, hsp] at hx
      have ho : base + k ≠ a.off := by
        intro e'
        apply hne
        cases a; simp_all
      simp [World.cell?, hb, hbk, hsp] at hx
      simp [World.setCell, World.cell?, Array.getElem?_modify, hbk, hb, hsp, Array.getElem?_setIfInBounds_ne ho, hx]
    · rw [World.cell?_of_block (w := w) (hoth a.block hb)]; exact hx
  have hpl : ∀ id off A m, Place φ w id off A m → Place φ (w.setCell ⟨b, base + k, none⟩ u0) id off A m := by
    intro id off A m hp
    unfold Place at *
    split
    · rename_i h0; rw [if_pos h0] at hp; rw [hs]; exact hp
    · rename_i h0; rw [if_neg h0] at hp
      cases hp' : φ id with
      | no => rw [hp'] at hp; exact hp.elim
      | void => rw [hp'] at hp; exact hp
      | «at» b' base' =>
        rw [hp'] at hp
        rcases hp with hp | ⟨hA, cs, e, hb, hle⟩
        · exact .inl hp
        refine .inr ⟨hA, ?_⟩
        by_cases hbb : b' = b
        · subst hbb
          exact ⟨cs.setIfInBounds (base + k) u0, e, by simp [World.setCell, Array.getElem?_modify, hb], by simpa using hle⟩
        · exact ⟨cs, e, by rw [hoth b' hbb]; exact hb, hle⟩
  -- the cells of a place: which of them is the one that is written
  have haddr : ∀ id off A m, Place φ w id off A m → ∀ j, j < m → ∀ a, A = some a → (a.add j = ⟨b, base + k, none⟩ ↔ id = i ∧ off + j = k) := by
    intro id off A m hp j hj a ha
    unfold Place at hp
    split at hp
    · rename_i h0
      rcases hp with hp | ⟨a', ha', _, hu⟩
      · omega
      · rw [ha] at ha'; cases ha'
        constructor
        · intro e
          have := congrArg Addr.block e
          rw [add_block] at this
          exact absurd this.symm (hu i b base hφ)
        · rintro ⟨rfl, _⟩; exact absurd h0 hi
    · rename_i h0
      cases hp' : φ id with
      | no => rw [hp'] at hp; exact hp.elim
      | void => rw [hp'] at hp; omega
      | «at» b' base' =>
        rw [hp'] at hp
        rcases hp with hp | ⟨hA, _⟩
        · omega
        rw [ha] at hA; cases hA
        rw [add_eq _ _ rfl]
        constructor
        · intro e
          simp at e
          obtain ⟨e1, e2⟩ := e
          have hid := wf.inj id i b base' base (e1 ▸ hp') hφ
          subst hid
          rw [hφ] at hp'; cases hp'
          exact ⟨rfl, by omega⟩
        · rintro ⟨rfl, rfl⟩
          rw [hφ] at hp'; cases hp'
          simp; omega
  induction h with
  | val v => exact .val v
  | ifc t x => exact .ifc t x
  | bad v => exact .bad v
  | @sl id off cap sz es A cp u hc' hcap hsz hp ha hcell hr ih =>
    have hl : (if id = i ∧ off ≤ k then setFlat (es.map (D.wr i k c)) (k - off) c else es.map (D.wr i k c)).length = es.length := by
      split <;> simp [setFlat_length]
    have hfl : flat (if id = i ∧ off ≤ k then setFlat (es.map (D.wr i k c)) (k - off) c else es.map (D.wr i k c)) =
        if id = i ∧ off ≤ k then ((flat es).map (D.wr i k c)).set (k - off) c else (flat es).map (D.wr i k c) := by
      split
      · rw [flat_setFlat hc, flat_map_wr]
      · rw [flat_map_wr]
    have hsz' : ∀ e ∈ es.map (D.wr i k c), e.cells.length = sz := by
      intro e he
      obtain ⟨x, hx, rfl⟩ := List.mem_map.1 he
      rw [cells_wr]; simp [hsz x hx]
    have hlen := flat_length hsz
    have hcm : es.length * sz ≤ cp * sz := Nat.mul_le_mul_right _ hc'
    simp only [D.wr, wrL_map]
    rw [← hl]
    refine .sl (fun j => if id = i ∧ off + j = k then u0 else u j) (by rw [hl]; exact hc') hcap (fun e he => ?_) (hpl _ _ _ _ hp)
      (fun h0 => ha (fun h1 => h0 (by rw [hfl, h1]; split <;> simp))) (fun j d hj => ?_) (fun j d hj => ?_)
    · split at he
      · exact setFlat_sz hc _ _ hsz' e he
      · exact hsz' e he
    · rw [hfl] at hj
      have hjl : j < (flat es).length := by
        have := (List.getElem?_eq_some_iff.1 hj).1
        split at this <;> simpa using this
      have hx : (flat es)[j]? = some (flat es)[j] := List.getElem?_eq_getElem hjl
      have hA := ha (fun h0 => by simp [h0] at hjl)
      obtain ⟨a, rfl⟩ := Option.isSome_iff_exists.1 hA
      have had := haddr _ _ _ _ hp j (by omega) a rfl
      by_cases hw : id = i ∧ off + j = k
      · simp only [hw, and_self, if_true]
        rw [show (some a).getD default = a from rfl, had.2 hw]; exact hnew
      · simp only [hw, if_false]
        exact hold _ _ (fun e => hw (had.1 e)) (hcell j _ hx)
    · rw [hfl] at hj
      have hjl : j < (flat es).length := by
        have := (List.getElem?_eq_some_iff.1 hj).1
        split at this <;> simpa using this
      by_cases hw : id = i ∧ off + j = k
      · simp only [hw, and_self, if_true]
        rw [if_pos ⟨hw.1, by omega⟩] at hj
        have : k - off = j := by omega
        rw [this, List.getElem?_set_self (by simpa using hjl)] at hj
        cases hj; exact hcu'
      · simp only [hw, if_false]
        have hj' : ((flat es).map (D.wr i k c))[j]? = some d := by
          split at hj
          · rename_i h0
            rw [List.getElem?_set_ne (by intro e; exact hw ⟨h0.1, by omega⟩)] at hj
            exact hj
          · exact hj
        obtain ⟨x, hx, rfl⟩ := getElem?_map_some hj'
        exact ih j x hx
  | @pt id off cs a u hp hcell hr ih =>
    have hl : (if id = i ∧ off ≤ k then (cs.map (D.wr i k c)).set (k - off) c else cs.map (D.wr i k c)).length = cs.length := by
      split <;> simp
    simp only [D.wr, wrL_map]
    refine .pt (fun j => if id = i ∧ off + j = k then u0 else u j) (by rw [hl]; exact hpl _ _ _ _ hp) (fun j d hj => ?_) (fun j d hj => ?_)
    · have hjl : j < cs.length := by rw [← hl]; exact (List.getElem?_eq_some_iff.1 hj).1
      have hx : cs[j]? = some cs[j] := List.getElem?_eq_getElem hjl
      have had := haddr _ _ _ _ hp j hjl a rfl
      by_cases hw : id = i ∧ off + j = k
      · simp only [hw, and_self, if_true]
        rw [had.2 hw]; exact hnew
      · simp only [hw, if_false]
        exact hold _ _ (fun e => hw (had.1 e)) (hcell j _ hx)
    · have hjl : j < cs.length := by rw [← hl]; exact (List.getElem?_eq_some_iff.1 hj).1
      by_cases hw : id = i ∧ off + j = k
      · simp only [hw, and_self, if_true]
        rw [if_pos ⟨hw.1, by omega⟩] at hj
        have : k - off = j := by omega
        rw [this, List.getElem?_set_self (by simpa using hjl)] at hj
        cases hj; exact hcu'
      · simp only [hw, if_false]
        have hj' : (cs.map (D.wr i k c))[j]? = some d := by
          split at hj
          · rename_i h0
            rw [List.getElem?_set_ne (by intro e; exact hw ⟨h0.1, by omega⟩)] at hj
            exact hj
          · exact hj
        obtain ⟨x, hx, rfl⟩ := getElem?_map_some hj'
        exact ih j x hx
  | agg vs hl hr ih =>
    simp only [D.wr, wrL_map]
    refine .agg vs (by simpa using hl) (fun j d v h1 h2 => ?_)
    obtain ⟨x, hx, rfl⟩ := getElem?_map_some h1
    exact ih j x v hx h2
  | fn vs hl hr ih =>
    simp only [D.wr, wrL_map]
    refine .fn vs (by simpa using hl) (fun j d v h1 h2 => ?_)
    obtain ⟨x, hx, rfl⟩ := getElem?_map_some h1
    exact ih j x v hx h2
  | tup vs hl hr ih =>
    simp only [D.wr, wrL_map]
    refine .tup vs (by simpa using hl) (fun j d v h1 h2 => ?_)
    obtain ⟨x, hx, rfl⟩ := getElem?_map_some h1
    exact ih j x v hx h2

/-- ids get new names, or none (0: no one writes there any more) -/
theorem R.ren {φ φ' : Phi} {w : World} {d : D} {v : Value} {ρ : Nat → Nat} (h : R φ w d v) (h0 : ρ 0 = 0)
    (h1 : ∀ i, φ i ≠ .no → ρ i ≠ 0 → φ' (ρ i) = φ i) (h2 : ∀ j b p, φ' j = .at b p → ∃ i, φ i = .at b p ∧ ρ i = j ∧ j ≠ 0)
    (wf : WF φ w) : R φ' w (d.ren ρ) v := by
  have hpl : ∀ id off A m, Place φ w id off A m → Place φ' w (ρ id) off A m := by
    intro id off A m hp
    unfold Place at hp
    split at hp
    · rename_i hz
      subst hz
      rw [h0]
      unfold Place
      rw [if_pos rfl]
      rcases hp with hp | ⟨a, rfl, hlt, hu⟩
      · exact .inl hp
      · refine .inr ⟨a, rfl, hlt, fun j b p hj => ?_⟩
        obtain ⟨i, hi, _⟩ := h2 j b p hj
        exact hu i b p hi
    · cases hp' : φ id with
      | no => rw [hp'] at hp; exact hp.elim
      | void =>
        rw [hp'] at hp
        unfold Place
        split
        · exact .inl hp
        · rename_i hz; rw [h1 id (by rw [hp']; simp) hz, hp']; exact hp
      | «at» b base =>
        rw [hp'] at hp
        unfold Place
        rcases hp with hp | ⟨rfl, cs, e, hb, hle⟩
        · split
          · exact .inl hp
          · rename_i hz; rw [h1 id (by rw [hp']; simp) hz, hp']; exact .inl hp
        split
        · rename_i hz
          refine .inr ⟨_, rfl, (Array.getElem?_eq_some_iff.1 hb).1, fun j b' p hj e' => ?_⟩
          obtain ⟨i, hi, hij, hj0⟩ := h2 j b' p hj
          simp only at e'
          subst e'
          have := wf.inj i id _ p base hi hp'
          subst this
          exact hj0 (hij ▸ hz)
        · rename_i hz
          rw [h1 id (by rw [hp']; simp) hz, hp']
          exact .inr ⟨rfl, cs, e, hb, hle⟩
  induction h with
  | val v => exact .val v
  | ifc t x => exact .ifc t x
  | bad v => exact .bad v
  | @sl id off cap sz es A c u hc hcap hsz hp ha hcell hr ih =>
    simp only [D.ren, renL_map]
    have hl : (es.map (D.ren ρ)).length = es.length := by simp
    rw [← hl]
    refine .sl u (by rw [hl]; exact hc) hcap (fun e he => ?_) (hpl _ _ _ _ hp) (fun h0 => ha (fun h1 => h0 (by rw [flat_map_ren, h1]; rfl))) (fun j d hj => ?_) (fun j d hj => ?_)
    · obtain ⟨x, hx, rfl⟩ := List.mem_map.1 he
      rw [cells_ren]; simp [hsz x hx]
    · rw [flat_map_ren] at hj
      obtain ⟨x, hx, rfl⟩ := getElem?_map_some hj
      exact hcell j x hx
    · rw [flat_map_ren] at hj
      obtain ⟨x, hx, rfl⟩ := getElem?_map_some hj
      exact ih j x hx
  | @pt id off cs a u hp hcell hr ih =>
    simp only [D.ren, renL_map]
    refine .pt u (by simpa using hpl _ _ _ _ hp) (fun j d hj => ?_) (fun j d hj => ?_)
    · obtain ⟨x, hx, rfl⟩ := getElem?_map_some hj
      exact hcell j x hx
    · obtain ⟨x, hx, rfl⟩ := getElem?_map_some hj
      exact ih j x hx
  | agg vs hl hr ih =>
    simp only [D.ren, renL_map]
    refine .agg vs (by simpa using hl) (fun j d v h1 h2 => ?_)
    obtain ⟨x, hx, rfl⟩ := getElem?_map_some h1
    exact ih j x v hx h2
  | fn vs hl hr ih =>
    simp only [D.ren, renL_map]
    refine .fn vs (by simpa using hl) (fun j d v h1 h2 => ?_)
    obtain ⟨x, hx, rfl⟩ := getElem?_map_some h1
    exact ih j x v hx h2
  | tup vs hl hr ih =>
    simp only [D.ren, renL_map]
    refine .tup vs (by simpa using hl) (fun j d v h1 h2 => ?_)
    obtain ⟨x, hx, rfl⟩ := getElem?_map_some h1
    exact ih j x v hx h2

end Go.Cv

namespace Go.Cv
open Go

inductive Eff where
  | wr (id k : Nat) (c : D)
  | kill (id : Nat)
  deriving Inhabited

def Eff.app : Eff → D → D
  | .wr i k c, d => D.wr i k c d
  | .kill i, d => d.kill i
def Eff.id : Eff → Nat
  | .wr i _ _ => i
  | .kill i => i
def appE (E : List Eff) (d : D) : D := E.foldl (fun d e => e.app d) d
@[simp] theorem appE_nil (d : D) : appE [] d = d := rfl
@[simp] theorem appE_cons (e : Eff) (E : List Eff) (d : D) : appE (e :: E) d = appE E (e.app d) := rfl
theorem appE_append (E F : List Eff) (d : D) : appE (E ++ F) d = appE F (appE E d) := by simp [appE]

structure Trans (φ : Phi) (w : World) (φ' : Phi) (w' : World) (lo hi : Nat) (E : List Eff) : Prop where
  wf : WF φ' w'
  keep : ∀ d v, R φ w d v → R φ' w' (appE E d) v
  dom : ∀ i, φ' i ≠ .no → φ i ≠ .no ∨ (lo ≤ i ∧ i < hi)
  size : w.heap.size ≤ w'.heap.size
  old : ∀ b, b < w.heap.size → Untracked φ b → w'.heap[b]? = w.heap[b]? ∧ Untracked φ' b
  os : w'.os = w.os
  tape : w'.tape = w.tape
  output : w'.output = w.output

theorem Trans.refl {φ : Phi} {w : World} (h : WF φ w) (n : Nat) : Trans φ w φ w n n [] :=
  ⟨h, fun _ _ hr => hr, fun _ hi => .inl hi, Nat.le_refl _, fun _ _ hu => ⟨rfl, hu⟩, rfl, rfl, rfl⟩

theorem Trans.trans {φ φ1 φ2 : Phi} {w w1 w2 : World} {lo mid hi : Nat} {E F : List Eff} (h : Trans φ w φ1 w1 lo mid E) (k : Trans φ1 w1 φ2 w2 mid hi F)
    (h1 : lo ≤ mid) (h2 : mid ≤ hi) : Trans φ w φ2 w2 lo hi (E ++ F) where
  wf := k.wf
  keep d v hr := by rw [appE_append]; exact k.keep _ _ (h.keep _ _ hr)
  dom i hi' := by
    rcases k.dom i hi' with hi' | ⟨a, b⟩
    · rcases h.dom i hi' with hi' | ⟨a, b⟩
      · exact .inl hi'
      · exact .inr ⟨a, by omega⟩
    · exact .inr ⟨by omega, b⟩
  size := Nat.le_trans h.size k.size
  old b hb hu := by
    obtain ⟨e1, u1⟩ := h.old b hb hu
    obtain ⟨e2, u2⟩ := k.old b (Nat.lt_of_lt_of_le hb h.size) u1
    exact ⟨e2.trans e1, u2⟩
  os := k.os.trans h.os
  tape := k.tape.trans h.tape
  output := k.output.trans h.output

theorem Trans.widen {φ φ' : Phi} {w w' : World} {lo hi lo' hi' : Nat} {E : List Eff} (h : Trans φ w φ' w' lo hi E) (h1 : lo' ≤ lo) (h2 : hi ≤ hi') : Trans φ w φ' w' lo' hi' E :=
  ⟨h.wf, h.keep, fun i hi => (h.dom i hi).imp id (fun ⟨a, b⟩ => ⟨by omega, by omega⟩), h.size, h.old, h.os, h.tape, h.output⟩

/-- a draw -/
theorem Trans.drew {φ : Phi} {w : World} (h : WF φ w) (n m : Nat) : Trans φ w φ { w with drawn := m } n n [] where
  wf := ⟨h.zero, h.inj, h.live⟩
  keep d v hr := hr.mono (fun _ _ => rfl) (fun _ _ => rfl) (fun _ _ _ h => .inl h) (Nat.le_refl _)
  dom i hi := .inl hi
  size := Nat.le_refl _
  old b hb hu := ⟨rfl, hu⟩
  os := rfl
  tape := rfl
  output := rfl

def Phi.set (φ : Phi) (n : Nat) (t : Tr) : Phi := fun i => if i = n then t else φ i
@[simp] theorem Phi.set_same (φ : Phi) (n : Nat) (t : Tr) : φ.set n t n = t := by simp [Phi.set]
theorem Phi.set_ne (φ : Phi) {n i : Nat} (t : Tr) (h : i ≠ n) : φ.set n t i = φ i := by simp [Phi.set, h]

/-- a new row of cells, tracked -/
theorem Trans.alloc {φ : Phi} {w : World} (h : WF φ w) {n : Nat} (hn : n ≠ 0) (hf : φ n = .no) (cs : Array Value) (e : TypeId) :
    Trans φ w (φ.set n (.at w.heap.size 0)) { w with heap := w.heap.push (.cells cs e) } n (n + 1) [] where
  wf := by
    refine ⟨?_, ?_, ?_⟩
    · rw [Phi.set_ne _ _ (Ne.symm hn)]; exact h.zero
    · intro i j b p q hi hj
      by_cases ei : i = n <;> by_cases ej : j = n
      · rw [ei, ej]
      · subst ei; rw [Phi.set_same] at hi; rw [Phi.set_ne _ _ ej] at hj
        have := h.lt hj; simp at hi; omega
      · subst ej; rw [Phi.set_same] at hj; rw [Phi.set_ne _ _ ei] at hi
        have := h.lt hi; simp at hj; omega
      · rw [Phi.set_ne _ _ ei] at hi; rw [Phi.set_ne _ _ ej] at hj; exact h.inj i j b p q hi hj
    · intro i b p hi
      by_cases ei : i = n
      · subst ei; rw [Phi.set_same] at hi; simp at hi; obtain ⟨rfl, rfl⟩ := hi
        exact ⟨cs, e, by simp⟩
      · rw [Phi.set_ne _ _ ei] at hi
        obtain ⟨cs', e', hb⟩ := h.live i b p hi
        have hlt := h.lt hi
        exact ⟨cs', e', by rw [Array.getElem?_push, if_neg (by omega)]; exact hb⟩
  keep d v hr := by
    refine hr.mono (fun i hi => ?_) (fun b hb => by rw [Array.getElem?_push, if_neg (by omega)]) (fun i b p hi => ?_) (by simp)
    · by_cases ei : i = n
      · subst ei; exact absurd hf hi
      · rw [Phi.set_ne _ _ ei]
    · by_cases ei : i = n
      · subst ei; rw [Phi.set_same] at hi; simp at hi; omega
      · rw [Phi.set_ne _ _ ei] at hi; exact .inl hi
  dom i hi := by
    by_cases ei : i = n
    · subst ei; exact .inr ⟨Nat.le_refl _, by omega⟩
    · rw [Phi.set_ne _ _ ei] at hi; exact .inl hi
  size := by simp
  old b hb hu := by
    refine ⟨by rw [Array.getElem?_push, if_neg (by omega)], fun i b' p hi => ?_⟩
    by_cases ei : i = n
    · subst ei; rw [Phi.set_same] at hi; simp at hi; omega
    · rw [Phi.set_ne _ _ ei] at hi; exact hu i b' p hi
  os := rfl
  tape := rfl
  output := rfl

/-- an id without a block -/
theorem Trans.void {φ : Phi} {w : World} (h : WF φ w) {n : Nat} (hn : n ≠ 0) (hf : φ n = .no) : Trans φ w (φ.set n .void) w n (n + 1) [] where
  wf := by
    refine ⟨?_, ?_, ?_⟩
    · rw [Phi.set_ne _ _ (Ne.symm hn)]; exact h.zero
    · intro i j b p q hi hj
      by_cases ei : i = n
      · subst ei; simp at hi
      · by_cases ej : j = n
        · subst ej; simp at hj
        · rw [Phi.set_ne _ _ ei] at hi; rw [Phi.set_ne _ _ ej] at hj; exact h.inj i j b p q hi hj
    · intro i b p hi
      by_cases ei : i = n
      · subst ei; simp at hi
      · rw [Phi.set_ne _ _ ei] at hi; exact h.live i b p hi
  keep d v hr := by
    refine hr.mono (fun i hi => ?_) (fun b hb => rfl) (fun i b p hi => ?_) (Nat.le_refl _)
    · by_cases ei : i = n
      · subst ei; exact absurd hf hi
      · rw [Phi.set_ne _ _ ei]
    · by_cases ei : i = n
      · subst ei; simp at hi
      · rw [Phi.set_ne _ _ ei] at hi; exact .inl hi
  dom i hi := by
    by_cases ei : i = n
    · subst ei; exact .inr ⟨Nat.le_refl _, by omega⟩
    · rw [Phi.set_ne _ _ ei] at hi; exact .inl hi
  size := Nat.le_refl _
  old b hb hu := by
    refine ⟨rfl, fun i b' p hi => ?_⟩
    by_cases ei : i = n
    · subst ei; simp at hi
    · rw [Phi.set_ne _ _ ei] at hi; exact hu i b' p hi
  os := rfl
  tape := rfl
  output := rfl

/-- a store -/
theorem Trans.write {φ : Phi} {w : World} (h : WF φ w) {i b base k : Nat} {c : D} {u0 x0 : Value} (hφ : φ i = .at b base)
    (hc : c.leaf = true) (hno : c.has (· == i) = false) (hcu : R φ w c u0) (hx0 : w.cell? ⟨b, base + k, none⟩ = some x0) (n : Nat) :
    Trans φ w φ (w.setCell ⟨b, base + k, none⟩ u0) n n [.wr i k c] where
  wf := by
    refine ⟨h.zero, h.inj, fun j b' p hj => ?_⟩
    obtain ⟨cs, e, hb⟩ := h.live j b' p hj
    by_cases hbb : b' = b
    · subst hbb
      exact ⟨cs.setIfInBounds (base + k) u0, e, by simp [World.setCell, Array.getElem?_modify, hb]⟩
    · exact ⟨cs, e, by rw [heap_setCell _ _ _ _ hbb]; exact hb⟩
  keep d v hr := by
    have hi : i ≠ 0 := fun e => by rw [e, h.zero] at hφ; simp at hφ
    exact hr.write hφ hi h hc hno hcu hx0
  dom i hi := .inl hi
  size := by simp [World.setCell]
  old b' hb' hu := ⟨heap_setCell _ _ _ _ (Ne.symm (hu i b base hφ)), hu⟩
  os := rfl
  tape := rfl
  output := rfl

/-- an id gives its block to a new one (or a new block comes): what named the old id is void -/
theorem Trans.handOver {φ : Phi} {w w' : World} (h : WF φ w) {i n b : Nat} {t : Tr} (hi0 : i ≠ 0) (hn : n ≠ 0) (hin : φ i ≠ .no) (hf : φ n = .no)
    (hb : (∃ base, φ i = .at b base) ∨ w.heap.size ≤ b)
    (ht : ∀ k p, t = .at k p → ((∃ p', φ i = .at k p') ∨ w.heap.size ≤ k) ∧ ∃ cs e, w'.heap[k]? = some (.cells cs e (0, 0)))
    (h2 : ∀ k, k < w.heap.size → k ≠ b → w'.heap[k]? = w.heap[k]?)
    (h5 : w.heap.size ≤ w'.heap.size) (hos : w'.os = w.os) (htp : w'.tape = w.tape) (ho : w'.output = w.output) :
    Trans φ w ((φ.set i .no).set n t) w' n (n + 1) [.kill i] := by
  have hne : n ≠ i := fun e => hin (e ▸ hf)
  have hold : ∀ j, j ≠ i → φ j ≠ .no → ((φ.set i .no).set n t) j = φ j := by
    intro j hj hjn
    have : j ≠ n := fun e => hjn (e ▸ hf)
    rw [Phi.set_ne _ _ this, Phi.set_ne _ _ hj]
  have hcase : ∀ j, ((φ.set i .no).set n t) j = if j = n then t else if j = i then .no else φ j := by
    intro j
    by_cases ej : j = n
    · subst ej; simp
    · rw [Phi.set_ne _ _ ej, if_neg ej]; by_cases ei : j = i
      · subst ei; simp
      · rw [Phi.set_ne _ _ ei, if_neg ei]
  refine ⟨⟨?_, ?_, ?_⟩, ?_, ?_, h5, ?_, hos, htp, ho⟩
  · rw [hcase, if_neg (Ne.symm hn), if_neg (Ne.symm hi0)]; exact h.zero
  · intro j j' k p q hj hj'
    rw [hcase] at hj hj'
    split at hj <;> split at hj'
    · rename_i a b; rw [a, b]
    · rename_i a b
      split at hj'
      · simp at hj'
      · rename_i c
        rcases (ht k p hj).1 with ⟨p', hp'⟩ | hge
        · exact absurd (h.inj j' i k q p' hj' hp') c
        · have := h.lt hj'; omega
    · rename_i a b
      split at hj
      · simp at hj
      · rename_i c
        rcases (ht k q hj').1 with ⟨p', hp'⟩ | hge
        · exact absurd (h.inj j i k p p' hj hp') c
        · have := h.lt hj; omega
    · rename_i a b
      split at hj
      · simp at hj
      · split at hj'
        · simp at hj'
        · exact h.inj j j' k p q hj hj'
  · intro j k p hj
    rw [hcase] at hj
    split at hj
    · exact (ht k p hj).2
    · split at hj
      · simp at hj
      · rename_i a c
        obtain ⟨cs, e, hk⟩ := h.live j k p hj
        have hkb : k ≠ b := by
          intro e'
          rcases hb with ⟨base, hb⟩ | hge
          · exact c (h.inj j i k p base hj (e' ▸ hb))
          · have := h.lt hj; omega
        exact ⟨cs, e, by rw [h2 k (h.lt hj) hkb]; exact hk⟩
  · intro d v hr
    exact (hr.kill i).apart hb h (kill_has i d) hold h2 (fun j k p hj => by
      rw [hcase] at hj
      split at hj
      · rcases (ht k p hj).1 with ⟨p', hp'⟩ | hge
        · exact .inl ⟨i, p', hp'⟩
        · exact .inr hge
      · split at hj
        · simp at hj
        · exact .inl ⟨j, p, hj⟩) h5
  · intro j hj
    rw [hcase] at hj
    split at hj
    · rename_i e; subst e; exact .inr ⟨Nat.le_refl _, by omega⟩
    · split at hj
      · exact absurd rfl hj
      · exact .inl hj
  · intro k hk hu
    have hkb : k ≠ b := by
      intro e'
      rcases hb with ⟨base, hb⟩ | hge
      · exact hu i b base hb e'.symm
      · omega
    refine ⟨h2 k hk hkb, fun j k' p hj e' => ?_⟩
    subst e'
    rw [hcase] at hj
    split at hj
    · rcases (ht k' p hj).1 with ⟨p', hp'⟩ | hge
      · exact hu i k' p' hp' rfl
      · omega
    · split at hj
      · simp at hj
      · exact hu j k' p hj rfl

end Go.Cv

namespace Go.Cv
open Go

/-! ### types -/
def tySz (P : Program) (t : TypeId) : Option Nat := (P.info? t).map (·.size)
def tyBytes (P : Program) (t : TypeId) : Option Nat := (P.info? t).map (·.bytes)
def tyAgg (P : Program) (t : TypeId) : Option Bool :=
  match P.underlying t with
  | some (.struct _) => some true
  | some (.array _ _) => some true
  | some _ => some false
  | none => none
def tyElem (P : Program) (t : TypeId) : Option TypeId :=
  match P.underlying t with
  | some (.slice e) => some e
  | _ => none
def tyArr (P : Program) (t : TypeId) : Option (Nat × TypeId) :=
  match P.underlying t with
  | some (.array n e) => some (n, e)
  | _ => none
/-- offset, type of a field -/
def tyField (P : Program) (t : TypeId) (f : Nat) : Option (Nat × TypeId) :=
  match P.underlying t with
  | some (.struct fs) => (fs[f]?).map fun x => (x.offset, x.type)
  | _ => none
def nilD : D := .sl 0 0 (some 0) 0 []
def leafD : Value → D
  | .slice none 0 0 => nilD
  | v => .val v
def constD : Value → D
  | .agg vs => .agg (vs.toList.map leafD)
  | v => leafD v
def tyZero (P : Program) (t : TypeId) : Option (List D) := ((P.info? t).bind (·.zero)).map fun v => v.cells.toList.map leafD

section
variable {P : Program} {φ : Phi} {w : World}

theorem run_isAgg' {t : TypeId} {b : Bool} (h : tyAgg P t = some b) : (isAgg t).run P w = .ok b w := by
  unfold tyAgg at h
  cases hu : P.underlying t with
  | none => simp [hu] at h
  | some d => cases d <;> simp [hu] at h <;> subst h <;> simp [isAgg, run_underlying hu]

theorem run_sizeOf' {t : TypeId} {n : Nat} (h : tySz P t = some n) : (sizeOf t).run P w = .ok n w := by
  unfold tySz at h
  cases hi : P.info? t with
  | none => simp [hi] at h
  | some i => simp [hi] at h; subst h; simp [sizeOf, typeInfo, hi]

theorem R.nil (φ : Phi) (w : World) : R φ w nilD (.slice none 0 0) := by
  have : R φ w (.sl 0 0 (some 0) 0 []) (.slice none ([] : List D).length 0) :=
    .sl (fun _ => undef) (by simp) (by simp) (by simp) (by simp [Place]) (by simp) (by simp) (by simp)
  exact this

theorem R.leafD (φ : Phi) (w : World) (v : Value) : R φ w (leafD v) v := by
  unfold Cv.leafD
  split
  · exact R.nil φ w
  · exact .val v

theorem R.constD (φ : Phi) (w : World) (v : Value) : R φ w (constD v) v := by
  unfold Cv.constD
  split
  · rename_i vs
    refine .agg vs (by simp) (fun j d v h1 h2 => ?_)
    obtain ⟨x, hx, rfl⟩ := getElem?_map_some h1
    simp at hx
    rw [hx] at h2; cases h2
    exact R.leafD φ w _
  · exact R.leafD φ w v

/-! ### lists of cells -/
def RL (φ : Phi) (w : World) (cs : List D) (vs : List Value) : Prop := cs.length = vs.length ∧ ∀ (j : Nat) (d : D) (v : Value), cs[j]? = some d → vs[j]? = some v → R φ w d v

theorem RL.nil : RL φ w [] [] := ⟨rfl, fun j d v h => by simp at h⟩
theorem RL.cons {d : D} {v : Value} {cs : List D} {vs : List Value} (h : R φ w d v) (k : RL φ w cs vs) : RL φ w (d :: cs) (v :: vs) := by
  refine ⟨by simp [k.1], fun j d' v' h1 h2 => ?_⟩
  cases j with
  | zero => simp at h1 h2; subst h1; subst h2; exact h
  | succ j => simp at h1 h2; exact k.2 j d' v' h1 h2
theorem RL.append {as bs : List D} {vs us : List Value} (h : RL φ w as vs) (k : RL φ w bs us) : RL φ w (as ++ bs) (vs ++ us) := by
  refine ⟨by simp [h.1, k.1], fun j d v h1 h2 => ?_⟩
  by_cases hj : j < as.length
  · rw [List.getElem?_append_left hj] at h1
    rw [List.getElem?_append_left (by rw [← h.1]; exact hj)] at h2
    exact h.2 j d v h1 h2
  · rw [List.getElem?_append_right (by omega)] at h1
    rw [List.getElem?_append_right (by rw [← h.1]; omega), ← h.1] at h2
    exact k.2 _ d v h1 h2
theorem RL.get {cs : List D} {vs : List Value} (h : RL φ w cs vs) {j : Nat} {d : D} (hj : cs[j]? = some d) : ∃ v, vs[j]? = some v ∧ R φ w d v := by
  have hl : j < vs.length := by rw [← h.1]; exact (List.getElem?_eq_some_iff.1 hj).1
  exact ⟨vs[j], List.getElem?_eq_getElem hl, h.2 j d _ hj (List.getElem?_eq_getElem hl)⟩
theorem RL.take {cs : List D} {vs : List Value} (h : RL φ w cs vs) (n : Nat) : RL φ w (cs.take n) (vs.take n) := by
  refine ⟨by simp [h.1], fun j d v h1 h2 => ?_⟩
  rw [List.getElem?_take] at h1 h2
  split at h1
  · rw [if_pos ‹_›] at h2; exact h.2 j d v h1 h2
  · simp at h1
theorem RL.drop {cs : List D} {vs : List Value} (h : RL φ w cs vs) (n : Nat) : RL φ w (cs.drop n) (vs.drop n) := by
  refine ⟨by simp [h.1], fun j d v h1 h2 => ?_⟩
  rw [List.getElem?_drop] at h1 h2
  exact h.2 _ d v h1 h2
theorem RL.set {cs : List D} {vs : List Value} (h : RL φ w cs vs) (i : Nat) {d : D} {v : Value} (hd : R φ w d v) : RL φ w (cs.set i d) (vs.set i v) := by
  refine ⟨by simp [h.1], fun j d' v' h1 h2 => ?_⟩
  by_cases hj : i = j
  · subst hj
    have hl : i < cs.length := by have := (List.getElem?_eq_some_iff.1 h1).1; simpa using this
    rw [List.getElem?_set_self hl] at h1
    rw [List.getElem?_set_self (by rw [← h.1]; exact hl)] at h2
    cases h1; cases h2; exact hd
  · rw [List.getElem?_set_ne hj] at h1
    rw [List.getElem?_set_ne hj] at h2
    exact h.2 j d' v' h1 h2
theorem RL.leafs (φ : Phi) (w : World) (vs : List Value) : RL φ w (vs.map Cv.leafD) vs := by
  refine ⟨by simp, fun j d v h1 h2 => ?_⟩
  obtain ⟨x, hx, rfl⟩ := getElem?_map_some h1
  rw [hx] at h2; cases h2
  exact R.leafD φ w _
theorem RL.trans {φ' : Phi} {w' : World} {cs : List D} {vs : List Value} (h : RL φ w cs vs) (f : D → D) (hf : ∀ d v, R φ w d v → R φ' w' (f d) v) : RL φ' w' (cs.map f) vs := by
  refine ⟨by simp [h.1], fun j d v h1 h2 => ?_⟩
  obtain ⟨x, hx, rfl⟩ := getElem?_map_some h1
  exact hf x v (h.2 j x v hx h2)

/-- what can lie in memory -/
def D.good : D → Bool
  | .bad => false
  | .tup _ => false
  | .val v => v.oneCell'
  | _ => true

theorem R.cells {d : D} {v : Value} (h : R φ w d v) (hg : d.good = true) : RL φ w d.cells v.cells.toList := by
  cases h with
  | val v =>
    have : v.cells.toList = [v] := by cases v <;> simp_all [D.good, Value.oneCell', Value.cells]
    rw [this]; exact .cons (.val v) .nil
  | ifc t x => exact .cons (.ifc t x) .nil
  | sl u hc hcap hsz hp ha hcell hr => exact .cons (.sl u hc hcap hsz hp ha hcell hr) .nil
  | pt u hp hcell hr => exact .cons (.pt u hp hcell hr) .nil
  | agg vs hl hr => exact ⟨by simp [D.cells, Value.cells, hl], fun j d v h1 h2 => hr j d v h1 (by simpa [Value.cells] using h2)⟩
  | fn vs hl hr => exact .cons (.fn vs hl hr) .nil
  | tup vs hl hr => simp [D.good] at hg
  | bad v => simp [D.good] at hg

theorem R.oneCell {d : D} {v : Value} (h : R φ w d v) (hg : d.good = true) (hl : d.leaf = true) : v.oneCell' = true := by
  cases h <;> simp_all [D.good, D.leaf, Value.oneCell']

theorem R.ofCells_agg {cs : List D} {vs : List Value} (h : RL φ w cs vs) : R φ w (.agg cs) (.agg vs.toArray) :=
  .agg vs.toArray (by simpa using h.1) (fun j d v h1 h2 => h.2 j d v h1 (by simpa using h2))

theorem R.pt_cells {id off : Nat} {cs : List D} {a : Addr} (h : R φ w (.pt id off cs) (.pointer (some a))) :
    ∃ vs : List Value, RL φ w cs vs ∧ ∀ j v, vs[j]? = some v → w.cell? (a.add j) = some v := by
  cases h with
  | pt u hp hcell hr =>
    refine ⟨(List.range cs.length).map u, ⟨by simp, fun j d v h1 h2 => ?_⟩, fun j v hv => ?_⟩
    · obtain ⟨x, hx, rfl⟩ := getElem?_map_some h2
      have : x = j := by
        have := List.getElem?_eq_some_iff.1 hx
        obtain ⟨_, h'⟩ := this
        simp at h'; exact h'.symm
      subst this
      exact hr x d h1
    · obtain ⟨x, hx, rfl⟩ := getElem?_map_some hv
      obtain ⟨hlt, h'⟩ := List.getElem?_eq_some_iff.1 hx
      simp at h' hlt
      subst h'
      exact hcell j cs[j] (List.getElem?_eq_getElem hlt)

/-! ### load -/
def dLoad (P : Program) (t : TypeId) : D → Option D
  | .pt _ _ cs =>
    match tyAgg P t with
    | some true => (tySz P t).bind fun n => if n ≤ cs.length then some (.agg (cs.take n)) else none
    | some false => cs[0]?
    | none => none
  | _ => none

theorem load_sound {t : TypeId} {d r : D} {v : Value} (h : dLoad P t d = some r) (hr : R φ w d v) : ∃ x, (Instr.loadAt t v).run P w = .ok x w ∧ R φ w r x := by
  cases hr with
  | @pt id off cs a u hp hcell hrr =>
    obtain ⟨vs, hvs, hcl⟩ := R.pt_cells (.pt u hp hcell hrr)
    simp only [dLoad] at h
    split at h
    · rename_i hagg
      cases hsz : tySz P t with
      | none => simp [hsz] at h
      | some n =>
        simp only [hsz, Option.bind_some] at h
        split at h
        · rename_i hn
          cases h
          have hlen : (vs.take n).length = n := by rw [List.length_take, ← hvs.1]; omega
          have hl := run_loadCells_list (P := P) w a (vs.take n) (fun j v hj => hcl j v (by rw [List.getElem?_take] at hj; split at hj; exact hj; simp at hj))
          rw [hlen] at hl
          exact ⟨.agg (vs.take n).toArray, by simp [Instr.loadAt, Instr.sureAddr, loadVar, run_isAgg' hagg, run_sizeOf' hsz, hl], R.ofCells_agg (hvs.take n)⟩
        · simp at h
    · rename_i hagg
      obtain ⟨x, hx, hxr⟩ := hvs.get h
      have hc := hcl 0 x hx
      simp [Addr.add] at hc
      exact ⟨x, by simp [Instr.loadAt, Instr.sureAddr, loadVar, run_isAgg' hagg, hc], hxr⟩
    · simp at h
  | _ => simp [dLoad] at h

/-! ### store -/
def wrs (i : Nat) : Nat → List D → List Eff
  | _, [] => []
  | k, c :: cs => .wr i k c :: wrs i (k + 1) cs

def dStore (P : Program) (t : TypeId) (a x : D) : Option (List Eff) :=
  match a with
  | .pt id off cs =>
    if id ≠ 0 ∧ tySz P t = some x.cells.length ∧ x.cells.length ≤ cs.length ∧ x.good = true ∧ (x.cells.all fun c => c.leaf && c.good && !c.has (· == id)) = true then some (wrs id off x.cells) else none
  | _ => none

theorem storeCells_sound {i b base n : Nat} (hi : φ i = .at b base) : ∀ (cs : List D) (vs : List Value) (k : Nat) (w : World) (c0 : Nat), WF φ w → RL φ w cs vs →
    (∀ c ∈ cs, c.leaf = true ∧ c.good = true ∧ c.has (· == i) = false) → (∃ a e, w.heap[b]? = some (.cells a e (0, 0)) ∧ base + k + cs.length ≤ a.size) →
    base + k = c0 + n →
    ∃ w', (storeCells ⟨b, c0, none⟩ vs n).run P w = .ok () w' ∧ ∀ m, Trans φ w φ w' m m (wrs i k cs)
  | [], vs, k, w, c0, wf, hr, _, _, _ => by
    have : vs = [] := List.eq_nil_of_length_eq_zero hr.1.symm
    subst this
    exact ⟨w, rfl, fun m => Trans.refl wf m⟩
  | c :: cs, [], k, w, c0, wf, hr, _, _, _ => absurd hr.1 (by simp)
  | c :: cs, v :: vs, k, w, c0, wf, hr, hcs, ⟨a, e, hb, hle⟩, hk => by
    obtain ⟨h1, h2, h3⟩ := hcs c (by simp)
    simp only [List.length_cons] at hle
    have hcv : R φ w c v := hr.2 0 c v rfl rfl
    have hcell : w.cell? ⟨b, base + k, none⟩ = some (a[base + k]'(by omega)) := by
      simp [World.cell?, hb]
    have hfz : w.frozen? ⟨b, base + k, none⟩ = false := by simp [World.frozen?, hb]
    have ht := Trans.write (n := n) wf hi h1 h3 hcv hcell
    have hadd : (⟨b, c0, none⟩ : Addr).add n = ⟨b, base + k, none⟩ := by rw [add_eq _ _ rfl, hk]
    have hst : (store ((⟨b, c0, none⟩ : Addr).add n) v).run P w = .ok () (w.setCell ⟨b, base + k, none⟩ v) := by
      rw [hadd, run_store P w _ v _ (hcv.oneCell h2 h1)]
      simp [hcell, hfz]
    have hr' : RL φ (w.setCell ⟨b, base + k, none⟩ v) cs vs := by
      refine ⟨by have := hr.1; simp at this; exact this, fun j d u hd hu => ?_⟩
      have hd' : d ∈ cs := List.mem_of_getElem? hd
      have := hr.2 (j + 1) d u (by simpa using hd) (by simpa using hu)
      exact this.apart (.inl ⟨base, hi⟩) wf (hcs d (by simp [hd'])).2.2 (fun _ _ _ => rfl) (fun m _ hm => heap_setCell _ _ _ _ hm) (fun j m p hj => .inl ⟨j, p, hj⟩) (by simp [World.setCell])
    have ht' := Trans.write wf hi h1 h3 hcv hcell
    obtain ⟨w', hw', htr⟩ := storeCells_sound (n := n + 1) hi cs vs (k + 1) _ c0 (ht' 0).wf hr' (fun d hd => hcs d (by simp [hd]))
      ⟨a.setIfInBounds (base + k) v, e, by simp [World.setCell, Array.getElem?_modify, hb], by simp; omega⟩ (by omega)
    refine ⟨w', by simp only [storeCells, Sem.run_bind, hst, Result.andThen_ok]; exact hw', fun m => ?_⟩
    exact (ht' m).trans (htr m) (Nat.le_refl _) (Nat.le_refl _)

theorem store_sound {t : TypeId} {d x : D} {v u : Value} {E : List Eff} (h : dStore P t d x = some E) (wf : WF φ w) (hr : R φ w d v) (hx : R φ w x u) :
    ∃ w', (Instr.storeAt t v u).run P w = .ok () w' ∧ ∀ n, Trans φ w φ w' n n E := by
  cases hr with
  | @pt id off cs a uu hp hcell hrr =>
    simp only [dStore] at h
    split at h
    · rename_i hc
      obtain ⟨hid, hsz, hle, hgood, hall⟩ := hc
      cases h
      have hxc := hx.cells hgood
      have hvl : u.cells.size = x.cells.length := by have := hxc.1; simp at this; exact this.symm
      unfold Place at hp
      rw [if_neg hid] at hp
      have hsize : (sizeOf t).run P w = .ok x.cells.length w := run_sizeOf' hsz
      have hall' : ∀ c ∈ x.cells, c.leaf = true ∧ c.good = true ∧ c.has (· == id) = false := by
        intro c hc
        have := List.all_eq_true.1 hall c hc
        simp at this
        exact ⟨this.1.1, this.1.2, this.2⟩
      cases hφ : φ id with
      | no => rw [hφ] at hp; exact hp.elim
      | void =>
        rw [hφ] at hp
        have h0 : x.cells.length = 0 := by omega
        have h1 : u.cells = #[] := Array.eq_empty_of_size_eq_zero (by omega)
        have h2 : x.cells = [] := List.eq_nil_of_length_eq_zero h0
        refine ⟨w, ?_, fun n => ?_⟩
        · rw [h0] at hsize
          simp [Instr.storeAt, Instr.sureAddr, storeVar, hsize, h1, storeCells]
        · rw [h2]; exact Trans.refl wf n
      | «at» b base =>
        rw [hφ] at hp
        rcases hp with hp | ⟨hA, arr, e, hb, hle'⟩
        · have h0 : x.cells.length = 0 := by omega
          have h1 : u.cells = #[] := Array.eq_empty_of_size_eq_zero (by omega)
          have h2 : x.cells = [] := List.eq_nil_of_length_eq_zero h0
          refine ⟨w, ?_, fun n => ?_⟩
          · rw [h0] at hsize
            simp [Instr.storeAt, Instr.sureAddr, storeVar, hsize, h1, storeCells]
          · rw [h2]; exact Trans.refl wf n
        · cases hA
          obtain ⟨w', hw', ht⟩ := storeCells_sound (P := P) (n := 0) hφ x.cells u.cells.toList off w (base + off) wf hxc hall' ⟨arr, e, hb, by omega⟩ (by omega)
          refine ⟨w', ?_, ht⟩
          simp [Instr.storeAt, Instr.sureAddr, storeVar, hsize, hvl]
          exact hw'
    · simp at h
  | _ => simp [dStore] at h

end
end Go.Cv

namespace Go.Cv
open Go

section
variable {P : Program} {φ : Phi} {w : World}

theorem add_add (a : Addr) (m j : Nat) : (a.add m).add j = a.add (m + j) := by
  unfold Addr.add
  by_cases hm : m = 0
  · subst hm; simp
  · by_cases hj : j = 0
    · subst hj; simp
    · simp [hm, hj]; omega

theorem flat_take {sz : Nat} : ∀ (es : List D) (h : Nat), (∀ e ∈ es, e.cells.length = sz) → flat (es.take h) = (flat es).take (h * sz)
  | [], h, _ => by simp
  | e :: es, 0, _ => by simp
  | e :: es, h + 1, hs => by
    have h1 := hs e (by simp)
    have ih := flat_take es h (fun x hx => hs x (by simp [hx]))
    simp only [List.take_succ_cons, flat_cons, ih]
    rw [List.take_append, h1, List.take_of_length_le (l := e.cells) (by rw [h1, Nat.succ_mul]; omega)]
    have : (h + 1) * sz - sz = h * sz := by rw [Nat.succ_mul]; omega
    rw [this]
theorem flat_drop {sz : Nat} : ∀ (es : List D) (h : Nat), (∀ e ∈ es, e.cells.length = sz) → flat (es.drop h) = (flat es).drop (h * sz)
  | [], h, _ => by simp
  | e :: es, 0, _ => by simp
  | e :: es, h + 1, hs => by
    have h1 := hs e (by simp)
    have ih := flat_drop es h (fun x hx => hs x (by simp [hx]))
    simp only [List.drop_succ_cons, flat_cons, ih]
    rw [List.drop_append, h1, List.drop_of_length_le (l := e.cells) (by rw [h1, Nat.succ_mul]; omega)]
    simp only [List.nil_append]
    congr 1
    rw [Nat.succ_mul]; omega

theorem flat_at {sz : Nat} {es : List D} {i j : Nat} {e d : D} (hs : ∀ e ∈ es, e.cells.length = sz) (he : es[i]? = some e) (hd : e.cells[j]? = some d) :
    (flat es)[i * sz + j]? = some d := by
  have h1 := flat_drop es i hs
  have hi := List.getElem?_eq_some_iff.1 he
  obtain ⟨hlt, hei⟩ := hi
  rw [List.drop_eq_getElem_cons hlt, hei, flat_cons] at h1
  have : ((flat es).drop (i * sz))[j]? = some d := by
    rw [← h1, List.getElem?_append_left (List.getElem?_eq_some_iff.1 hd).1]; exact hd
  rw [List.getElem?_drop] at this
  exact this

/-! ### new blocks -/
theorem R.newPt {φ' : Phi} {w' : World} {n b : Nat} {cs : List D} {vs : List Value} {arr : Array Value} {e : TypeId} (hn : n ≠ 0) (hφ : φ' n = .at b 0)
    (hb : w'.heap[b]? = some (.cells arr e (0, 0))) (hr : RL φ' w' cs vs) (hpre : ∀ (j : Nat) (v : Value), vs[j]? = some v → arr[j]? = some v) :
    R φ' w' (.pt n 0 cs) (.pointer (some ⟨b, 0, none⟩)) := by
  refine .pt (fun j => vs.getD j undef) ?_ (fun j d hj => ?_) (fun j d hj => ?_)
  · unfold Place
    rw [if_neg hn, hφ]
    refine .inr ⟨rfl, arr, e, hb, ?_⟩
    rw [hr.1]
    simp only [Nat.zero_add]
    rcases Nat.eq_zero_or_pos vs.length with h0 | hp
    · omega
    · have := hpre (vs.length - 1) _ (List.getElem?_eq_getElem (by omega))
      have := (Array.getElem?_eq_some_iff.1 this).1
      omega
  · obtain ⟨v, hv, _⟩ := hr.get hj
    rw [add_eq _ _ rfl]
    simp [World.cell?, hb, List.getD, hv, hpre j v hv]
  · obtain ⟨v, hv, h⟩ := hr.get hj
    simpa [List.getD, hv] using h

theorem R.newSl {φ' : Phi} {w' : World} {n b c sz off base : Nat} {cap : Option Nat} {es : List D} {vs : List Value} {arr : Array Value} {e : TypeId} (hn : n ≠ 0) (hφ : φ' n = .at b base)
    (hb : w'.heap[b]? = some (.cells arr e (0, 0))) (hsz : ∀ e ∈ es, e.cells.length = sz) (hr : RL φ' w' (flat es) vs) (hpre : ∀ (j : Nat) (v : Value), vs[j]? = some v → arr[base + off + j]? = some v)
    (hc : es.length ≤ c) (hcap : ∀ k, cap = some k → c = k) (hroom : base + off + c * sz ≤ arr.size) :
    R φ' w' (.sl n off cap sz es) (.slice (some ⟨b, base + off, none⟩) es.length c) := by
  refine .sl (fun j => vs.getD j undef) hc hcap hsz ?_ (fun _ => rfl) (fun j d hj => ?_) (fun j d hj => ?_)
  · unfold Place
    rw [if_neg hn, hφ]
    exact .inr ⟨rfl, arr, e, hb, hroom⟩
  · obtain ⟨v, hv, _⟩ := hr.get hj
    rw [show (some (⟨b, base + off, none⟩ : Addr)).getD default = ⟨b, base + off, none⟩ from rfl, add_eq _ _ rfl]
    simp [World.cell?, hb, List.getD, hv, hpre j v hv]
  · obtain ⟨v, hv, h⟩ := hr.get hj
    simpa [List.getD, hv] using h

theorem RL.keep {φ' : Phi} {w' : World} {cs : List D} {vs : List Value} (h : RL φ w cs vs) (hk : ∀ d v, R φ w d v → R φ' w' d v) : RL φ' w' cs vs :=
  ⟨h.1, fun j d v h1 h2 => hk d v (h.2 j d v h1 h2)⟩

theorem box_sound {elem : TypeId} {x : D} {u : Value} {n : Nat} (wf : WF φ w) (hn : n ≠ 0) (hf : φ n = .no) (hx : R φ w x u) (hg : x.good = true) :
    ∃ w' φ', (Instr.box elem u).run P w = .ok (.pointer (some ⟨w.heap.size, 0, none⟩)) w' ∧ Trans φ w φ' w' n (n + 1) [] ∧
      R φ' w' (.pt n 0 x.cells) (.pointer (some ⟨w.heap.size, 0, none⟩)) := by
  have ht := Trans.alloc wf hn hf u.cells elem
  refine ⟨_, _, ?_, ht, ?_⟩
  · simp [Instr.box, newVar, newRow]
  · refine R.newPt (arr := u.cells) (e := elem) hn (by simp) (by simp) ((hx.cells hg).keep ht.keep) (fun j v hv => by simpa using hv)

theorem alloc_sound {elem : TypeId} {zs : List D} {n : Nat} (wf : WF φ w) (hn : n ≠ 0) (hf : φ n = .no) (hz : tyZero P elem = some zs) :
    ∃ w' φ', (Instr.alloc elem true (.tuple #[])).run P w = .ok (.pointer (some ⟨w.heap.size, 0, none⟩)) w' ∧ Trans φ w φ' w' n (n + 1) [] ∧
      R φ' w' (.pt n 0 zs) (.pointer (some ⟨w.heap.size, 0, none⟩)) := by
  unfold tyZero at hz
  cases hi : P.info? elem with
  | none => simp [hi] at hz
  | some i =>
    cases hzz : i.zero with
    | none => simp [hi, hzz] at hz
    | some z =>
      simp [hi, hzz] at hz
      subst hz
      have ht := Trans.alloc wf hn hf z.cells elem
      refine ⟨_, _, ?_, ht, ?_⟩
      · simp [Instr.alloc, zeroValue, typeInfo, hi, hzz, newVar, newRow]
      · exact R.newPt (arr := z.cells) (e := elem) hn (by simp) (by simp) (RL.leafs _ _ _) (fun j v hv => by simpa using hv)

/-! ### addresses -/
def dFieldAddr (P : Program) (t f : Nat) : D → Option D
  | .pt id off cs =>
    match tyField P t f with
    | some (fo, ft) => match tySz P ft with
      | some fs => if fs ≠ 0 ∧ fo + fs ≤ cs.length then some (.pt id (off + fo) ((cs.drop fo).take fs)) else none
      | none => none
    | none => none
  | _ => none

theorem R.subPt {id off : Nat} {cs : List D} {a : Addr} {k m : Nat} (h : R φ w (.pt id off cs) (.pointer (some a))) (hk : k + m ≤ cs.length) (hm : m ≠ 0) :
    R φ w (.pt id (off + k) ((cs.drop k).take m)) (.pointer (some (a.add k))) := by
  cases h with
  | pt u hp hcell hr =>
    have hl : ((cs.drop k).take m).length = m := by rw [List.length_take, List.length_drop]; omega
    refine .pt (fun j => u (k + j)) ?_ (fun j d hj => ?_) (fun j d hj => ?_)
    · rw [hl]
      unfold Place at *
      split
      · rename_i h0
        rw [if_pos h0] at hp
        rcases hp with hp | ⟨a', ha', hlt, hu⟩
        · omega
        · cases ha'
          exact .inr ⟨_, rfl, by rw [add_block]; exact hlt, by rw [add_block]; exact hu⟩
      · rename_i h0
        rw [if_neg h0] at hp
        cases hφ : φ id with
        | no => rw [hφ] at hp; exact hp.elim
        | void => rw [hφ] at hp; omega
        | «at» b base =>
          rw [hφ] at hp
          rcases hp with hp | ⟨hA, arr, e, hb, hle⟩
          · omega
          · cases hA
            exact .inr ⟨by rw [add_eq _ _ rfl, Nat.add_assoc], arr, e, hb, by omega⟩
    · rw [List.getElem?_take] at hj
      split at hj
      · rw [List.getElem?_drop] at hj
        rw [add_add]; exact hcell _ d hj
      · simp at hj
    · rw [List.getElem?_take] at hj
      split at hj
      · rw [List.getElem?_drop] at hj
        exact hr _ d hj
      · simp at hj

theorem fieldAddr_sound {t f : Nat} {x r : D} {v : Value} (h : dFieldAddr P t f x = some r) (hx : R φ w x v) : ∃ u, (Instr.fieldAt t v f).run P w = .ok u w ∧ R φ w r u := by
  cases hx with
  | @pt id off cs a u hp hcell hr =>
    simp only [dFieldAddr] at h
    split at h
    · rename_i fo ft hf
      split at h
      · rename_i fs hfs
        split at h
        · rename_i hc
          cases h
          refine ⟨.pointer (some (a.add fo)), ?_, R.subPt (.pt u hp hcell hr) hc.2 hc.1⟩
          unfold tyField at hf
          split at hf
          · rename_i flds hu
            cases hfl : flds[f]? with
            | none => simp [hfl] at hf
            | some fd =>
              simp [hfl] at hf
              obtain ⟨rfl, rfl⟩ := hf
              have hs := run_sizeOf' (P := P) (w := w) hfs
              simp [Instr.fieldAt, run_underlying hu, hfl, Instr.sureAddr, fieldPlace, hs, hc.1]
          · simp at hf
        · simp at h
      · simp at h
    · simp at h
  | _ => simp [dFieldAddr] at h

def dIndexAddr (P : Program) (t : Nat) (x i : D) : Option D :=
  match x, i with
  | .sl id off _ sz es, .val (.int _ i) =>
    if (tyElem P t).bind (tySz P) = some sz ∧ sz ≠ 0 ∧ 0 ≤ i then (es[i.toNat]?).bind fun e => some (.pt id (off + i.toNat * sz) e.cells) else none
  | .pt id off cs, .val (.int _ i) =>
    match tyArr P t with
    | some (n, e) => match tySz P e with
      | some sz => if sz ≠ 0 ∧ 0 ≤ i ∧ i < n ∧ i.toNat * sz + sz ≤ cs.length then some (.pt id (off + i.toNat * sz) ((cs.drop (i.toNat * sz)).take sz)) else none
      | none => none
    | none => none
  | _, _ => none

theorem indexAddr_sound {t : Nat} {x i r : D} {v iv : Value} (h : dIndexAddr P t x i = some r) (hx : R φ w x v) (hi : R φ w i iv) : ∃ u, (Instr.indexAt t v iv).run P w = .ok u w ∧ R φ w r u := by
  unfold dIndexAddr at h
  split at h
  · rename_i id off cap sz es k i
    cases hi
    split at h
    · rename_i hc
      obtain ⟨hsz, hs0, h0⟩ := hc
      cases hx with
      | @sl _ _ _ _ _ A c u hcc hcap hszs hp ha hcell hr =>
        cases he : es[i.toNat]? with
        | none => simp [he] at h
        | some e =>
          simp only [he, Option.bind_some, Option.some.injEq] at h
          subst h
          have hlt : i.toNat < es.length := (List.getElem?_eq_some_iff.1 he).1
          have hel : e.cells.length = sz := hszs e (List.mem_of_getElem? he)
          have hfl : (flat es).length = es.length * sz := flat_length hszs
          have hmul : i.toNat * sz + sz ≤ es.length * sz := by rw [← Nat.succ_mul]; exact Nat.mul_le_mul_right _ hlt
          have hmulc : es.length * sz ≤ c * sz := Nat.mul_le_mul_right _ hcc
          have hA := ha (fun h0 => by rw [h0] at hfl; simp at hfl; omega)
          obtain ⟨a, rfl⟩ := Option.isSome_iff_exists.1 hA
          refine ⟨.pointer (some (a.add (i.toNat * sz))), ?_, ?_⟩
          · cases hel' : tyElem P t with
            | none => simp [hel'] at hsz
            | some el =>
              simp [hel'] at hsz
              have hu : P.underlying t = some (.slice el) := by
                unfold tyElem at hel'
                split at hel'
                · rename_i x hx; cases hel'; exact hx
                · simp at hel'
              have hso := run_sizeOf' (P := P) (w := w) hsz
              have hil : i < (es.length : Int) := by omega
              simp [Instr.indexAt, asIntOf, run_underlying hu, h0, hil, hso]
          · refine .pt (fun j => u (i.toNat * sz + j)) ?_ (fun j d hj => ?_) (fun j d hj => ?_)
            · rw [hel]
              unfold Place at *
              split
              · rename_i hz
                rw [if_pos hz] at hp
                rcases hp with hp | ⟨a', ha', hlt', hu⟩
                · omega
                · cases ha'
                  exact .inr ⟨_, rfl, by rw [add_block]; exact hlt', by rw [add_block]; exact hu⟩
              · rename_i hz
                rw [if_neg hz] at hp
                cases hφ : φ id with
                | no => rw [hφ] at hp; exact hp.elim
                | void => rw [hφ] at hp; omega
                | «at» b base =>
                  rw [hφ] at hp
                  rcases hp with hp | ⟨hA, arr, e, hb, hle⟩
                  · omega
                  · cases hA
                    exact .inr ⟨by rw [add_eq _ _ rfl, Nat.add_assoc], arr, e, hb, by omega⟩
            · rw [add_add]; exact hcell _ d (flat_at hszs he hj)
            · exact hr _ d (flat_at hszs he hj)
    · simp at h
  · rename_i id off cs k i
    cases hi
    split at h
    · rename_i n e harr
      split at h
      · rename_i sz hsz
        split at h
        · rename_i hc
          obtain ⟨hs0, h0, hin, hle⟩ := hc
          cases h
          cases hx with
          | @pt _ _ _ a u hp hcell hr =>
            refine ⟨.pointer (some (a.add (i.toNat * sz))), ?_, R.subPt (.pt u hp hcell hr) hle hs0⟩
            have hu : P.underlying t = some (.array n e) := by
              unfold tyArr at harr
              split at harr
              · rename_i hx; cases harr; exact hx
              · simp at harr
            have hso := run_sizeOf' (P := P) (w := w) hsz
            simp [Instr.indexAt, asIntOf, run_underlying hu, h0, hin, hso, Instr.sureAddr]
        · simp at h
      · simp at h
    · simp at h
  · simp at h

/-! ### parts of aggregates -/
def dPart (P : Program) (t off : Nat) (cs : List D) : Option D :=
  match tyAgg P t with
  | some true => (tySz P t).bind fun n => if off + n ≤ cs.length then some (.agg ((cs.drop off).take n)) else none
  | some false => cs[off]?
  | none => none

theorem part_sound {t off : Nat} {cs : List D} {vs : Array Value} {r : D} (h : dPart P t off cs = some r) (hl : RL φ w cs vs.toList) : ∃ u, (part t vs off).run P w = .ok u w ∧ R φ w r u := by
  unfold dPart at h
  split at h
  · rename_i ha
    cases hs : tySz P t with
    | none => simp [hs] at h
    | some n =>
      simp only [hs, Option.bind_some] at h
      split at h
      · rename_i hle
        cases h
        refine ⟨.agg (vs.extract off (off + n)), by simp [part, run_isAgg' ha, run_sizeOf' hs], ?_⟩
        have := R.ofCells_agg ((hl.drop off).take n)
        have e : (vs.extract off (off + n)) = ((vs.toList.drop off).take n).toArray := by
          apply Array.ext'
          simp [Array.toList_extract]
        rw [e]; exact this
      · simp at h
  · rename_i ha
    obtain ⟨v, hv, hr⟩ := hl.get h
    exact ⟨v, by simp at hv; simp [part, run_isAgg' ha, hv], hr⟩
  · simp at h

def dField (P : Program) (t f : Nat) : D → Option D
  | .agg cs => (tyField P t f).bind fun x => dPart P x.2 x.1 cs
  | _ => none

theorem field_sound {t f : Nat} {x r : D} {v : Value} (h : dField P t f x = some r) (hx : R φ w x v) : ∃ u, (Instr.field t v f).run P w = .ok u w ∧ R φ w r u := by
  cases hx with
  | @agg cs vs hl hr =>
    cases hf : tyField P t f with
    | none => simp [dField, hf] at h
    | some x =>
      simp only [dField, hf, Option.bind_some] at h
      obtain ⟨u, hu, hru⟩ := part_sound (P := P) h (⟨by simpa using hl, fun j d v h1 h2 => hr j d v h1 (by simpa using h2)⟩ : RL φ w cs vs.toList)
      refine ⟨u, ?_, hru⟩
      unfold tyField at hf
      split at hf
      · rename_i flds hun
        cases hfl : flds[f]? with
        | none => simp [hfl] at hf
        | some fd =>
          simp [hfl] at hf
          subst hf
          simp [Instr.field, run_underlying hun, hfl, asAgg, hu]
      · simp at hf
  | _ => simp [dField] at h

def tyStr (P : Program) (t : TypeId) : Bool :=
  match P.underlying t with
  | some .string => true
  | _ => false
def dIndex (P : Program) (t : Nat) (x i : D) : Option D :=
  match x, i with
  | .agg cs, .val (.int _ i) =>
    match tyArr P t with
    | some (n, e) => match tySz P e with
      | some sz => if 0 ≤ i ∧ i < n then dPart P e (i.toNat * sz) cs else none
      | none => none
    | none => none
  | .val (.string s), .val (.int _ i) =>
    if tyStr P t = true ∧ 0 ≤ i then (s.data.toList[i.toNat]?).map fun b => .val (.int .u8 b.toNat) else none
  | _, _ => none
end
end Go.Cv

namespace Go.Cv
open Go

abbrev D.int (k : IntKind) (x : Int) : D := .val (.int k x)
abbrev D.bool (b : Bool) : D := .val (.bool b)
abbrev D.str (s : ByteArray) : D := .val (.string s)

section
variable {P : Program} {φ : Phi} {w : World}

theorem index_sound {t : Nat} {x i r : D} {v iv : Value} (h : dIndex P t x i = some r) (hx : R φ w x v) (hi : R φ w i iv) : ∃ u, (Instr.index t v iv).run P w = .ok u w ∧ R φ w r u := by
  unfold dIndex at h
  split at h
  · rename_i cs k i
    cases hi
    split at h
    · rename_i n e harr
      split at h
      · rename_i sz hsz
        split at h
        · rename_i hc
          cases hx with
          | @agg _ vs hl hr =>
            obtain ⟨u, hu, hru⟩ := part_sound (P := P) h (⟨by simpa using hl, fun j d v h1 h2 => hr j d v h1 (by simpa using h2)⟩ : RL φ w cs vs.toList)
            refine ⟨u, ?_, hru⟩
            have hun : P.underlying t = some (.array n e) := by
              unfold tyArr at harr
              split at harr
              · rename_i hx; cases harr; exact hx
              · simp at harr
            simp [Instr.index, asIntOf, run_underlying hun, hc.1, hc.2, run_sizeOf' hsz, hu]
        · simp at h
      · simp at h
    · simp at h
  · rename_i s k i
    cases hi; cases hx
    split at h
    · rename_i hc
      obtain ⟨hs, h0⟩ := hc
      have hun : P.underlying t = some .string := by
        unfold tyStr at hs
        split at hs
        · rename_i hx; exact hx
        · simp at hs
      cases hb : s.data.toList[i.toNat]? with
      | none => simp [hb] at h
      | some b =>
        simp [hb] at h
        subst h
        refine ⟨_, ?_, .val _⟩
        have hb' : s[i.toNat]? = some b := by
          simp at hb
          have hlt := (Array.getElem?_eq_some_iff.1 hb).1
          have : s[i.toNat]? = some s[i.toNat] := getElem?_pos s i.toNat hlt
          rw [this]
          have h2 := (Array.getElem?_eq_some_iff.1 hb).2
          exact congrArg some h2
        simp [Instr.index, asIntOf, run_underlying hun, h0, hb']
    · simp at h
  · simp at h

/-! ### slicing -/
def dIdx : Option D → Nat → Option Nat
  | none, d => some d
  | some (.val (.int _ x)), _ => if 0 ≤ x then some x.toNat else none
  | _, _ => none

def dSlice (P : Program) (t : Nat) (x : D) (lo hi mx : Option D) : Option D :=
  match x with
  | .sl id off cap sz es =>
    if (tyElem P t).bind (tySz P) = some sz ∨ ((cap = some 0 ∨ es = []) ∧ ((tyElem P t).bind (tySz P)).isSome = true) then
      match dIdx lo 0, dIdx hi es.length with
      | some l, some h =>
        match mx with
        | none => if l ≤ h ∧ h ≤ es.length then some (.sl id (off + l * sz) (cap.map (· - l)) sz ((es.take h).drop l)) else none
        | some m => match dIdx (some m) 0 with
          | some m => if hi.isSome = true ∧ l ≤ h ∧ h ≤ m ∧ m ≤ es.length then some (.sl id (off + l * sz) (some (m - l)) sz ((es.take h).drop l)) else none
          | none => none
      | _, _ => none
    else none
  | .val (.string s) =>
    if tyStr P t = true then
      match dIdx lo 0, dIdx hi s.size, mx with
      | some l, some h, none => if l ≤ h ∧ h ≤ s.size then some (.val (.string (s.extract l h))) else none
      | _, _, _ => none
    else none
  | _ => none

theorem bounds_sound {isS : Bool} {len cap l h m : Nat} {lo hi mx : Option D} {lov hiv mxv : Option Value}
    (hlo : ∀ d, lo = some d → ∃ v, lov = some v ∧ R φ w d v) (hlo' : lo = none → lov = none) (hhi : ∀ d, hi = some d → ∃ v, hiv = some v ∧ R φ w d v) (hhi' : hi = none → hiv = none)
    (hmx : ∀ d, mx = some d → ∃ v, mxv = some v ∧ R φ w d v) (hmx' : mx = none → mxv = none)
    (e1 : dIdx lo 0 = some l) (e2 : dIdx hi len = some h) (e3 : dIdx mx cap = some m) (h1 : l ≤ h) (h2 : h ≤ m) (h3 : m ≤ cap) (h4 : mx.isSome = true → hi.isSome = true) :
    (Instr.sliceBounds isS len cap lov hiv mxv).run P w = .ok (l, h, m) w := by
  have key : ∀ (o : Option D) (ov : Option Value) (k y : Nat), (∀ d, o = some d → ∃ v, ov = some v ∧ R φ w d v) → dIdx o y = some k → o ≠ none →
      ∃ kk : IntKind, ov = some (.int kk (k : Int)) := by
    intro o ov k y ho hk hne
    cases o with
    | none => exact absurd rfl hne
    | some d =>
      obtain ⟨v, rfl, hr⟩ := ho d rfl
      unfold dIdx at hk
      split at hk
      · rename_i hx; cases hx
      · rename_i kk x hx
        cases hx
        cases hr
        split at hk
        · rename_i h0
          simp at hk
          subst hk
          refine ⟨kk, ?_⟩
          rw [Int.toNat_of_nonneg h0]
        · simp at hk
      · simp at hk
  have hm' : ∀ (k : IntKind) (x y : Nat) (code : BoundsCode), x ≤ y → (Instr.sliceBound (.int k (x : Int)) y code).run P w = .ok x w := by
    intro k x y code hxy
    have := run_sliceBound (P := P) (w := w) k (x : Int) y code (by omega) (by omega)
    simpa using this
  by_cases cm : mx = none
  · have em : mxv = none := hmx' cm
    subst cm; subst em
    simp [dIdx] at e3
    subst e3
    by_cases ch : hi = none
    · have eh := hhi' ch
      subst ch; subst eh
      simp [dIdx] at e2
      subst e2
      by_cases cl : lo = none
      · have el := hlo' cl
        subst cl; subst el
        simp [dIdx] at e1
        subst e1
        simp [Instr.sliceBounds]
      · obtain ⟨k, rfl⟩ := key lo lov l 0 hlo e1 cl
        simp [Instr.sliceBounds, hm' k l _ _ h1]
    · obtain ⟨kh, rfl⟩ := key hi hiv h len hhi e2 ch
      by_cases cl : lo = none
      · have el := hlo' cl
        subst cl; subst el
        simp [dIdx] at e1
        subst e1
        simp [Instr.sliceBounds, hm' kh h _ _ h2]
      · obtain ⟨k, rfl⟩ := key lo lov l 0 hlo e1 cl
        simp [Instr.sliceBounds, hm' k l _ _ h1, hm' kh h _ _ h2]
  · obtain ⟨km, rfl⟩ := key mx mxv m cap hmx e3 cm
    have hhs : hi ≠ none := by
      have := h4 (by cases mx; exact absurd rfl cm; rfl)
      intro e; rw [e] at this; simp at this
    obtain ⟨kh, rfl⟩ := key hi hiv h len hhi e2 hhs
    by_cases cl : lo = none
    · have el := hlo' cl
      subst cl; subst el
      simp [dIdx] at e1
      subst e1
      simp [Instr.sliceBounds, hm' kh h _ _ h2, hm' km m _ _ h3]
    · obtain ⟨k, rfl⟩ := key lo lov l 0 hlo e1 cl
      simp [Instr.sliceBounds, hm' k l _ _ h1, hm' kh h _ _ h2, hm' km m _ _ h3]

theorem R.subSl {id off sz l h m c : Nat} {cap : Option Nat} {es : List D} {A : Option Addr} (hx : R φ w (.sl id off cap sz es) (.slice A es.length c))
    (h1 : l ≤ h) (h2 : h ≤ es.length) (h3 : h ≤ m) (h4 : m ≤ c) (cap' : Option Nat) (hcap' : ∀ k, cap' = some k → m - l = k) :
    R φ w (.sl id (off + l * sz) cap' sz ((es.take h).drop l)) (.slice (if m = l then A else A.map (·.add (l * sz))) (h - l) (m - l)) := by
  generalize hv : Value.slice A es.length c = v at hx
  cases hx with
  | @sl _ _ _ _ _ A' c' u hc hcap hsz hp ha hcell hr =>
    cases hv
    have hlen : ((es.take h).drop l).length = h - l := by simp; omega
    have hsz' : ∀ e ∈ (es.take h).drop l, e.cells.length = sz := fun e he => hsz e (List.mem_of_mem_take (List.mem_of_mem_drop he))
    have hfl : flat ((es.take h).drop l) = ((flat es).take (h * sz)).drop (l * sz) := by
      rw [flat_drop _ _ (fun e he => hsz e (List.mem_of_mem_take he)), flat_take _ _ hsz]
    have hget : ∀ j d, (flat ((es.take h).drop l))[j]? = some d → (flat es)[l * sz + j]? = some d := by
      intro j d hj
      rw [hfl, List.getElem?_drop, List.getElem?_take] at hj
      split at hj
      · exact hj
      · simp at hj
    have hne : flat ((es.take h).drop l) ≠ [] → m ≠ l := by
      intro hne e
      apply hne
      apply List.eq_nil_of_length_eq_zero
      rw [flat_length hsz', hlen]
      have : h - l = 0 := by omega
      rw [this]; simp
    have hne2 : flat ((es.take h).drop l) ≠ [] → flat es ≠ [] := by
      intro hne e
      apply hne
      rw [hfl, e]; simp
    rw [← hlen]
    refine .sl (fun j => u (l * sz + j)) (by rw [hlen]; omega) hcap' hsz' ?_ ?_ (fun j d hj => ?_) (fun j d hj => hr _ d (hget j d hj))
    · unfold Place at *
      by_cases hml : m = l
      · subst hml
        simp only [Nat.sub_self, Nat.zero_mul]
        split
        · exact .inl trivial
        · rename_i hz
          rw [if_neg hz] at hp
          cases hφ : φ id with
          | no => rw [hφ] at hp; exact hp.elim
          | void => trivial
          | «at» b base => exact .inl trivial
      · rw [if_neg hml]
        have hmul : (m - l) * sz + l * sz ≤ c * sz := by rw [← Nat.add_mul]; exact Nat.mul_le_mul_right _ (by omega)
        split
        · rename_i hz
          rw [if_pos hz] at hp
          rcases hp with hp | ⟨a, rfl, hlt, hu⟩
          · exact .inl (by omega)
          · exact .inr ⟨_, rfl, by rw [add_block]; exact hlt, by rw [add_block]; exact hu⟩
        · rename_i hz
          rw [if_neg hz] at hp
          cases hφ : φ id with
          | no => rw [hφ] at hp; exact hp.elim
          | void => rw [hφ] at hp; show _ = _; omega
          | «at» b base =>
            rw [hφ] at hp
            rcases hp with hp | ⟨rfl, arr, e, hb, hle⟩
            · exact .inl (by omega)
            · exact .inr ⟨by simp [add_eq, Nat.add_assoc], arr, e, hb, by omega⟩
    · intro hne'
      rw [if_neg (hne hne')]
      have := ha (hne2 hne')
      cases A <;> simp_all
    · have hne' : flat ((es.take h).drop l) ≠ [] := by intro e; rw [e] at hj; simp at hj
      rw [if_neg (hne hne')]
      have hA := ha (hne2 hne')
      obtain ⟨a, rfl⟩ := Option.isSome_iff_exists.1 hA
      have := hcell _ d (hget j d hj)
      simp only [Option.map_some, Option.getD_some] at this ⊢
      rw [add_add]; exact this

theorem elem_under {t e : Nat} (h : tyElem P t = some e) : P.underlying t = some (.slice e) := by
  unfold tyElem at h
  split at h
  · rename_i x hx; cases h; exact hx
  · simp at h
theorem str_under {t : Nat} (h : tyStr P t = true) : P.underlying t = some .string := by
  unfold tyStr at h
  split at h
  · rename_i hx; exact hx
  · simp at h

theorem slice_sound {t : Nat} {x r : D} {v : Value} {lo hi mx : Option D} {lov hiv mxv : Option Value} (hh : dSlice P t x lo hi mx = some r) (hx : R φ w x v)
    (hlo : ∀ d, lo = some d → ∃ v, lov = some v ∧ R φ w d v) (hlo' : lo = none → lov = none) (hhi : ∀ d, hi = some d → ∃ v, hiv = some v ∧ R φ w d v) (hhi' : hi = none → hiv = none)
    (hmx : ∀ d, mx = some d → ∃ v, mxv = some v ∧ R φ w d v) (hmx' : mx = none → mxv = none) :
    ∃ u, (Instr.sliceAt t v lov hiv mxv).run P w = .ok u w ∧ R φ w r u := by
  unfold dSlice at hh
  split at hh
  · rename_i id off cap sz es
    split at hh
    · rename_i hty
      generalize hv : v = vv at hx
      cases hx with
      | @sl _ _ _ _ _ A c u hc hcap hsz hp ha hcell hr =>
        subst hv
        have hR : R φ w (.sl id off cap sz es) (.slice A es.length c) := .sl u hc hcap hsz hp ha hcell hr
        obtain ⟨e, he, s, hs, hss⟩ : ∃ e, tyElem P t = some e ∧ ∃ s, tySz P e = some s ∧ (s = sz ∨ c = 0 ∨ es.length = 0) := by
          cases hel : tyElem P t with
          | none => simp [hel] at hty
          | some e =>
            rcases hty with hty | ⟨h0, hty⟩
            · exact ⟨e, rfl, sz, by simpa [hel] using hty, .inl rfl⟩
            · simp [hel] at hty
              obtain ⟨s, hs⟩ := Option.isSome_iff_exists.1 hty
              exact ⟨e, rfl, s, hs, .inr (h0.imp (hcap 0) (fun h => by rw [h]; rfl))⟩
        have hun := elem_under he
        have hso := run_sizeOf' (P := P) (w := w) hs
        have fin : ∀ l h m, l ≤ es.length → l ≤ h → h ≤ m → m ≤ c → (Instr.sliceBounds true es.length c lov hiv mxv).run P w = .ok (l, h, m) w →
            (Instr.sliceAt t (.slice A es.length c) lov hiv mxv).run P w = .ok (.slice (if m = l then A else A.map (·.add (l * sz))) (h - l) (m - l)) w := by
          intro l h m h0l h1 h2 h3 hb
          have : (if m = l then A else A.map (·.add (l * s))) = (if m = l then A else A.map (·.add (l * sz))) := by
            rcases hss with rfl | h0 | h0
            · rfl
            · have : m = l := by omega
              simp [this]
            · have : l = 0 := by omega
              simp [this]
          simp [Instr.sliceAt, Instr.slice, run_underlying hun, hb, hso, this]
        split at hh
        · rename_i l h el eh
          split at hh
          · split at hh
            · rename_i hc'
              obtain ⟨h1, h2⟩ := hc'
              cases hh
              have hb := bounds_sound (P := P) (w := w) (isS := true) (len := es.length) (cap := c) (m := c) hlo hlo' hhi hhi' hmx hmx' el eh (by simp [dIdx]) h1 (by omega) (Nat.le_refl _) (by simp)
              exact ⟨_, fin l h c (by omega) h1 (by omega) (Nat.le_refl _) hb, R.subSl hR h1 h2 (by omega) (Nat.le_refl _) _ (fun k hk => by
                cases hcp : cap with
                | none => simp [hcp] at hk
                | some q => simp [hcp] at hk; have := hcap q hcp; omega)⟩
            · simp at hh
          · rename_i mD
            split at hh
            · rename_i m em
              split at hh
              · rename_i hc'
                obtain ⟨hs', h1, h2, h3⟩ := hc'
                cases hh
                have em' : dIdx (some mD) c = some m := by
                  unfold dIdx at em ⊢
                  split at em <;> simp_all
                have hb := bounds_sound (P := P) (w := w) (isS := true) (len := es.length) (cap := c) (m := m) hlo hlo' hhi hhi' hmx hmx' el eh em' h1 h2 (by omega) (fun _ => hs')
                exact ⟨_, fin l h m (by omega) h1 h2 (by omega) hb, R.subSl hR h1 (by omega) h2 (by omega) _ (fun k hk => by simpa using hk)⟩
              · simp at hh
            · simp at hh
        · simp at hh
    · simp at hh
  · rename_i s
    cases hx
    split at hh
    · rename_i hstr
      split at hh
      · rename_i l h el eh
        split at hh
        · rename_i hc'
          obtain ⟨h1, h2⟩ := hc'
          cases hh
          have hm := hmx' rfl
          subst hm
          have hb := bounds_sound (P := P) (w := w) (isS := false) (len := s.size) (cap := s.size) (m := s.size) (mx := none) (mxv := none) hlo hlo' hhi hhi' (by simp) (by simp) el eh (by simp [dIdx]) h1 h2 (Nat.le_refl _) (by simp)
          refine ⟨_, ?_, .val _⟩
          simp [Instr.sliceAt, Instr.slice, run_underlying (str_under hstr), hb]
        · simp at hh
      · simp at hh
    · simp at hh
  · simp at hh
end
end Go.Cv

namespace Go.Cv
open Go

section
variable {P : Program} {φ : Phi} {w : World}

def bitsV (op : BinOp) (k : IntKind) (x y : Int) : Option Int :=
  let a := BitVec.ofInt k.bits x
  let b := BitVec.ofInt k.bits y
  match op with
  | .and => some (k.wrap (a &&& b).toNat)
  | .or => some (k.wrap (a ||| b).toNat)
  | .xor => some (k.wrap (a ^^^ b).toNat)
  | .andNot => some (k.wrap (a &&& ~~~b).toNat)
  | _ => none

def intV (op : BinOp) (k : IntKind) (a b : Int) : Option Value :=
  match op with
  | .add => some (.int k (k.wrap (a + b)))
  | .sub => some (.int k (k.wrap (a - b)))
  | .mul => some (.int k (k.wrap (a * b)))
  | .quo => if b = 0 then none else some (.int k (k.wrap (a.tdiv b)))
  | .rem => if b = 0 then none else some (.int k (a.tmod b))
  | .and => (bitsV .and k a b).map (.int k ·)
  | .or => (bitsV .or k a b).map (.int k ·)
  | .xor => (bitsV .xor k a b).map (.int k ·)
  | .andNot => (bitsV .andNot k a b).map (.int k ·)
  | .eql => some (.bool (a == b))
  | .neq => some (.bool (a != b))
  | .lss => some (.bool (decide (a < b)))
  | .leq => some (.bool (decide (a ≤ b)))
  | .gtr => some (.bool (decide (a > b)))
  | .geq => some (.bool (decide (a ≥ b)))
  | .shl => none
  | .shr => none

def strV (op : BinOp) (a b : ByteArray) : Option Value :=
  match op with
  | .add => if a.size + b.size ≤ 140737488355328 then some (.string (a ++ b)) else none
  | .eql => some (.bool (a.toList == b.toList))
  | .neq => some (.bool (!(a.toList == b.toList)))
  | .lss => some (.bool (Op.bytesLess a.toList b.toList))
  | .leq => some (.bool (Op.bytesLess a.toList b.toList || a.toList == b.toList))
  | .gtr => some (.bool (!(Op.bytesLess a.toList b.toList || a.toList == b.toList)))
  | .geq => some (.bool (!(Op.bytesLess a.toList b.toList)))
  | _ => none

/-- fields that are whole numbers, one by one -/
def eqInts (P : Program) : List Field → List D → List D → Option Bool
  | [], _, _ => some true
  | f :: fs, xs, ys =>
    if f.name ≠ "_" then
      match P.underlying f.type, xs[f.offset]?, ys[f.offset]? with
      | some (.int _), some (.val (.int k a)), some (.val (.int k' b)) => if k = k' then (if a == b then eqInts P fs xs ys else some false) else none
      | _, _, _ => none
    else none

def dEqAgg (P : Program) (t : Nat) (xs ys : List D) : Option Bool :=
  if P.eqGuardType P.depth t = false ∧ P.stoodInHeld t = false then
    match P.underlying t with
    | some (.struct fs) => eqInts P fs.toList xs ys
    | _ => none
  else none

def tyBool (P : Program) (t : Nat) : Bool :=
  match P.underlying t with
  | some .bool => true
  | _ => false
def tyIface (P : Program) (t : Nat) : Bool :=
  match P.underlying t with
  | some (.interface _) => true
  | _ => false

def dBin (P : Program) (op : BinOp) (t : Nat) (konst : Bool) (x y : D) : Option D :=
  match x, y with
  | .val (.int k a), .val (.int k' b) =>
    match op with
    | .shl => if 0 ≤ b then some (.val (.int k (k.wrap (a * 2 ^ (min b.toNat k.bits))))) else none
    | .shr => if 0 ≤ b then some (.val (.int k (a.fdiv (2 ^ (min b.toNat k.bits))))) else none
    | op => if k = k' then (intV op k a b).map .val else none
  | .val (.string a), .val (.string b) => (strV op a b).map .val
  | .val (.bool a), .val (.bool b) =>
    if tyBool P t = true then
      match op with
      | .eql => some (.val (.bool (a == b)))
      | .neq => some (.val (.bool (!(a == b))))
      | _ => none
    else none
  | .ifc, .val .nilIface =>
    if tyIface P t = true then
      match op with
      | .eql => some (.val (.bool false))
      | .neq => some (.val (.bool true))
      | _ => none
    else none
  | .val .nilIface, .val .nilIface =>
    if tyIface P t = true ∧ konst = true then
      match op with
      | .eql => some (.val (.bool true))
      | .neq => some (.val (.bool false))
      | _ => none
    else none
  | .agg xs, .agg ys =>
    match op with
    | .eql => (dEqAgg P t xs ys).map fun b => .val (.bool b)
    | .neq => (dEqAgg P t xs ys).map fun b => .val (.bool (!b))
    | _ => none
  | _, _ => none

theorem intV_sound {op : BinOp} {k : IntKind} {a b : Int} {v : Value} (h : intV op k a b = some v) (t : Nat) : (binOp op t (.int k a) (.int k b)).run P w = .ok v w := by
  cases op <;> simp [intV, bitsV] at h <;> first
    | (obtain ⟨h0, rfl⟩ := h; simp [binOp, Op.intDiv, h0])
    | (subst h; simp [binOp, Op.intArith, Op.intBits, Op.intCmp])

theorem strV_sound {op : BinOp} {a b : ByteArray} {v : Value} (h : strV op a b = some v) (t : Nat) : (binOp op t (.string a) (.string b)).run P w = .ok v w := by
  cases op <;> simp [strV] at h
  case add =>
    obtain ⟨h0, rfl⟩ := h
    simp [binOp, Op.stringOp]
    omega
  all_goals (subst h; simp [binOp, Op.stringOp])

theorem eqInts_sound {xs ys : List D} {vs us : Array Value} (hx : RL φ w xs vs.toList) (hy : RL φ w ys us.toList) (d : Nat) : ∀ (fs : List Field) (b : Bool), eqInts P fs xs ys = some b →
    (Op.eqFields (d + 1) vs us fs).run P w = .ok b w
  | [], b, h => by simp [eqInts] at h; subst h; simp [Op.eqFields]
  | f :: fs, b, h => by
    simp only [eqInts] at h
    split at h
    · rename_i hn
      split at h
      · rename_i kk k a k' b' hu hxx hyy
        split at h
        · rename_i hk
          subst hk
          obtain ⟨v, hv, hr⟩ := hx.get hxx
          obtain ⟨u, hu', hr'⟩ := hy.get hyy
          cases hr; cases hr'
          have hagg : tyAgg P f.type = some false := by simp [tyAgg, hu]
          simp at hv hu'
          have p1 : (part f.type vs f.offset).run P w = .ok (.int k a) w := by simp [part, run_isAgg' hagg, hv]
          have p2 : (part f.type us f.offset).run P w = .ok (.int k b') w := by simp [part, run_isAgg' hagg, hu']
          have p3 : (Op.equalIn (d + 1) f.type (.int k a) (.int k b')).run P w = .ok (a == b') w := by simp [Op.equalIn, run_underlying hu]
          simp only [Op.eqFields, hn, ne_eq, not_false_eq_true, if_true, Sem.run_bind, p1, p2, p3, Result.andThen_ok, Sem.run_ite]
          cases hab : (a == b') with
          | true =>
            rw [hab] at h
            simp only [Bool.not_true, Bool.false_eq_true, if_false]
            exact eqInts_sound hx hy d fs b h
          | false =>
            rw [hab] at h
            simp at h
            subst h
            simp
        · simp at h
      · simp at h
    · simp at h

theorem eqIn_bool {t : Nat} (hu : P.underlying t = some .bool) (a b : Bool) : (Op.equal t (.bool a) (.bool b)).run P w = .ok (a == b) w := by
  have : ∀ d, (Op.equalIn (d + 1) t (.bool a) (.bool b)).run P w = .ok (a == b) w := fun d => by simp [Op.equalIn, run_underlying hu]
  exact this 9999
theorem eqIn_iface {t : Nat} {ms : Array (String × TypeId)} (hu : P.underlying t = some (.interface ms)) (ty : Nat) (x : Value) : (Op.equal t (.iface ty x) .nilIface).run P w = .ok false w := by
  have : ∀ d, (Op.equalIn (d + 1) t (.iface ty x) .nilIface).run P w = .ok false w := fun d => by simp [Op.equalIn, run_underlying hu]
  exact this 9999
theorem eqIn_nil {t : Nat} {ms : Array (String × TypeId)} (hu : P.underlying t = some (.interface ms)) : (Op.equal t .nilIface .nilIface).run P w = .ok true w := by
  have : ∀ d, (Op.equalIn (d + 1) t .nilIface .nilIface).run P w = .ok true w := fun d => by simp [Op.equalIn, run_underlying hu]
  exact this 9999

theorem bin_sound {op : BinOp} {t : Nat} {ox oy : Operand} {x y r : D} {v u : Value} {konst : Bool} (hkon : konst = true → ((ox matches .const _) || (oy matches .const _)) = true) (h : dBin P op t konst x y = some r) (hx : R φ w x v) (hy : R φ w y u) :
    ∃ z, (do eqGuard op t ox oy v u; binOp op t v u : Sem Value).run P w = .ok z w ∧ R φ w r z := by
  unfold dBin at h
  split at h
  · rename_i k a k' b
    cases hx; cases hy
    have hg : (eqGuard op t ox oy (.int k a) (.int k' b)).run P w = .ok () w := by
      unfold eqGuard; split <;> simp
    split at h
    · split at h
      · rename_i h0
        cases h
        refine ⟨_, ?_, .val _⟩
        simp only [Sem.run_bind, hg, Result.andThen_ok]
        have : ¬ b < 0 := by omega
        simp [binOp, Op.shift, this]
      · simp at h
    · split at h
      · rename_i h0
        cases h
        refine ⟨_, ?_, .val _⟩
        simp only [Sem.run_bind, hg, Result.andThen_ok]
        have : ¬ b < 0 := by omega
        simp [binOp, Op.shift, this]
      · simp at h
    · split at h
      · rename_i hk
        subst hk
        cases hv : intV op k a b with
        | none => simp [hv] at h
        | some z =>
          simp [hv] at h
          subst h
          refine ⟨z, ?_, .val _⟩
          simp only [Sem.run_bind, hg, Result.andThen_ok]
          exact intV_sound hv t
      · simp at h
  · rename_i a b
    cases hx; cases hy
    have hg : (eqGuard op t ox oy (.string a) (.string b)).run P w = .ok () w := by
      unfold eqGuard; split <;> simp
    cases hv : strV op a b with
    | none => simp [hv] at h
    | some z =>
      simp [hv] at h
      subst h
      refine ⟨z, ?_, .val _⟩
      simp only [Sem.run_bind, hg, Result.andThen_ok]
      exact strV_sound hv t
  · rename_i a b
    cases hx; cases hy
    have hg : (eqGuard op t ox oy (.bool a) (.bool b)).run P w = .ok () w := by
      unfold eqGuard; split <;> simp
    split at h
    · rename_i ht
      have hu : P.underlying t = some .bool := by
        unfold tyBool at ht
        split at ht
        · rename_i hx; exact hx
        · simp at ht
      split at h
      · cases h
        refine ⟨_, ?_, .val _⟩
        simp only [Sem.run_bind, hg, Result.andThen_ok]
        simp [binOp, eqIn_bool hu]
      · cases h
        refine ⟨_, ?_, .val _⟩
        simp only [Sem.run_bind, hg, Result.andThen_ok]
        simp [binOp, eqIn_bool hu]
      · simp at h
    · simp at h
  · cases hx with
    | ifc ty x =>
    cases hy
    have hg : (eqGuard op t ox oy (.iface ty x) .nilIface).run P w = .ok () w := by
      unfold eqGuard; split <;> simp
    split at h
    · rename_i ht
      obtain ⟨ms, hu⟩ : ∃ ms, P.underlying t = some (.interface ms) := by
        unfold tyIface at ht
        split at ht
        · rename_i ms hx; exact ⟨ms, hx⟩
        · simp at ht
      split at h
      · cases h
        refine ⟨_, ?_, .val _⟩
        simp only [Sem.run_bind, hg, Result.andThen_ok]
        simp [binOp, eqIn_iface hu]
      · cases h
        refine ⟨_, ?_, .val _⟩
        simp only [Sem.run_bind, hg, Result.andThen_ok]
        simp [binOp, eqIn_iface hu]
      · simp at h
    · simp at h
  · cases hx; cases hy
    split at h
    · rename_i ht
      obtain ⟨ht, hk⟩ := ht
      have hg : (eqGuard op t ox oy .nilIface .nilIface).run P w = .ok () w := by
        have hk' := hkon hk
        cases ox <;> cases oy <;> simp at hk' <;> (unfold eqGuard; split <;> simp)
      obtain ⟨ms, hu⟩ : ∃ ms, P.underlying t = some (.interface ms) := by
        unfold tyIface at ht
        split at ht
        · rename_i ms hx; exact ⟨ms, hx⟩
        · simp at ht
      split at h
      · cases h
        refine ⟨_, ?_, .val _⟩
        simp only [Sem.run_bind, hg, Result.andThen_ok]
        simp [binOp, eqIn_nil hu]
      · cases h
        refine ⟨_, ?_, .val _⟩
        simp only [Sem.run_bind, hg, Result.andThen_ok]
        simp [binOp, eqIn_nil hu]
      · simp at h
    · simp at h
  · rename_i xs ys
    cases hx with
    | @agg _ vs hl hr =>
    cases hy with
    | @agg _ us hl' hr' =>
    have hx' : RL φ w xs vs.toList := ⟨by simpa using hl, fun j d v h1 h2 => hr j d v h1 (by simpa using h2)⟩
    have hy' : RL φ w ys us.toList := ⟨by simpa using hl', fun j d v h1 h2 => hr' j d v h1 (by simpa using h2)⟩
    have key : ∀ b, dEqAgg P t xs ys = some b → (eqGuard op t ox oy (.agg vs) (.agg us)).run P w = .ok () w ∧ (Op.equal t (.agg vs) (.agg us)).run P w = .ok b w := by
      intro b hb
      unfold dEqAgg at hb
      split at hb
      · rename_i hc
        split at hb
        · rename_i fs hu
          refine ⟨run_eqGuard_agg w op t ox oy vs us hc.1, ?_⟩
          have hf : P.fieldsOf t = fs := by simp [Program.fieldsOf, hu]
          have := run_equalIn_struct (P := P) w 9999 t vs us (by rw [hf]; exact hu) hc.2
          rw [Op.equal, Op.maxDepth, this, hf]
          exact eqInts_sound hx' hy' 9998 fs.toList b hb
        · simp at hb
      · simp at hb
    split at h
    · cases hb : dEqAgg P t xs ys with
      | none => simp [hb] at h
      | some b =>
        simp [hb] at h
        subst h
        obtain ⟨k1, k2⟩ := key b hb
        refine ⟨_, ?_, .val _⟩
        simp only [Sem.run_bind, k1, Result.andThen_ok]
        simp [binOp, k2]
    · cases hb : dEqAgg P t xs ys with
      | none => simp [hb] at h
      | some b =>
        simp [hb] at h
        subst h
        obtain ⟨k1, k2⟩ := key b hb
        refine ⟨_, ?_, .val _⟩
        simp only [Sem.run_bind, k1, Result.andThen_ok]
        simp [binOp, k2]
    · simp at h
  · simp at h

def dUn (op : UnOp) (x : D) : Option D :=
  match op, x with
  | .neg, .val (.int k n) => some (.val (.int k (k.wrap (0 - n))))
  | .not, .val (.bool b) => some (.val (.bool (!b)))
  | _, _ => none

theorem un_sound {op : UnOp} {x r : D} {v : Value} (h : dUn op x = some r) (hx : R φ w x v) : ∃ z, (Op.unary op v).run P w = .ok z w ∧ R φ w r z := by
  unfold dUn at h
  split at h
  · cases hx; cases h
    exact ⟨_, by simp [Op.unary, Op.intArith], .val _⟩
  · cases hx; cases h
    exact ⟨_, by simp [Op.unary], .val _⟩
  · simp at h

/-! ### conversions -/
def dBytes : List D → Option (List UInt8)
  | [] => some []
  | .val (.int .u8 n) :: cs => (dBytes cs).map fun r => UInt8.ofNat n.toNat :: r
  | _ :: _ => none

def tyInt (P : Program) (t : Nat) : Option IntKind :=
  match P.underlying t with
  | some (.int k) => some k
  | _ => none

def dConv (P : Program) (src dst : Nat) (x : D) : Option D :=
  match x with
  | .val (.int _ n) => if (P.underlying src).isSome = true then (tyInt P dst).map fun k => .val (.int k (k.wrap n)) else none
  | .val (.string s) => if (P.underlying src).isSome = true ∧ tyStr P dst = true then some (.val (.string s)) else none
  | .sl _ _ _ sz es =>
    if sz = 1 ∧ ((tyElem P src).bind (tyInt P)) = some .u8 ∧ tyStr P dst = true then (dBytes (flat es)).map fun l => .val (.string ⟨l.toArray⟩) else none
  | _ => none

theorem bytes_sound : ∀ (cs : List D) (vs : List Value) (l : List UInt8) (s : ByteArray), RL φ w cs vs → dBytes cs = some l →
    (forIn vs s fun (c : Value) (s : ByteArray) => (match c with
      | .int .u8 n => pure (ForInStep.yield (s.push (UInt8.ofNat n.toNat)))
      | _ => do
        stuck "bytesToString: byte expected"
        pure (ForInStep.yield s) : Sem (ForInStep ByteArray))).run P w = .ok ⟨s.data ++ l.toArray⟩ w := by
  intro cs
  induction cs with
  | nil =>
    intro vs l s hr h
    have : vs = [] := List.eq_nil_of_length_eq_zero hr.1.symm
    subst this
    simp [dBytes] at h
    subst h
    simp
  | cons c cs ih =>
    intro vs l s hr h
    cases vs with
    | nil => exact absurd hr.1 (by simp)
    | cons v vs =>
      have hr' : RL φ w cs vs := ⟨by have := hr.1; simpa using this, fun j d u h1 h2 => hr.2 (j + 1) d u (by simpa using h1) (by simpa using h2)⟩
      have hc := hr.2 0 c v rfl rfl
      unfold dBytes at h
      split at h
      · simp at *
      · rename_i n cs' heq
        cases heq
        cases hc
        cases hb : dBytes cs with
        | none => simp [hb] at h
        | some l' =>
          simp [hb] at h
          subst h
          have := ih vs l' (s.push (UInt8.ofNat n.toNat)) hr' hb
          simp only [List.forIn_cons, Sem.run_bind, Sem.run_pure, Result.andThen_ok]
          rw [this]
          congr 2
          apply Array.ext'
          simp [ByteArray.push]
      · simp at h

theorem conv_sound {src dst : Nat} {x r : D} {v : Value} (h : dConv P src dst x = some r) (hx : R φ w x v) : ∃ z, (convert src dst v).run P w = .ok z w ∧ R φ w r z := by
  unfold dConv at h
  split at h
  · rename_i k n
    cases hx
    split at h
    · rename_i hs
      obtain ⟨sd, hs⟩ := Option.isSome_iff_exists.1 hs
      cases hk : tyInt P dst with
      | none => simp [hk] at h
      | some kk =>
        simp [hk] at h
        subst h
        have hu : P.underlying dst = some (.int kk) := by
          unfold tyInt at hk
          split at hk
          · rename_i hx; cases hk; exact hx
          · simp at hk
        exact ⟨_, by simp [convert, run_underlying hs, run_underlying hu, Conv.intToInt], .val _⟩
    · simp at h
  · rename_i s
    cases hx
    split at h
    · rename_i hc
      obtain ⟨hs, hd⟩ := hc
      obtain ⟨sd, hs⟩ := Option.isSome_iff_exists.1 hs
      cases h
      exact ⟨_, by cases sd <;> simp [convert, run_underlying hs, run_underlying (str_under hd)], .val _⟩
    · simp at h
  · rename_i id off cap sz es
    split at h
    · rename_i hc
      obtain ⟨rfl, hse, hd⟩ := hc
      cases hb : dBytes (flat es) with
      | none => simp [hb] at h
      | some l =>
        simp [hb] at h
        subst h
        cases hel : tyElem P src with
        | none => simp [hel] at hse
        | some e =>
          simp [hel] at hse
          have hue : P.underlying e = some (.int .u8) := by
            unfold tyInt at hse
            split at hse
            · rename_i hx; cases hse; exact hx
            · simp at hse
          cases hx with
          | @sl _ _ _ _ _ A c u hc hcap hsz hp ha hcell hr =>
          have hlen := flat_length hsz
          simp only [Nat.mul_one] at hlen
          cases A with
          | none =>
            have : flat es = [] := by
              cases hf : flat es with
              | nil => rfl
              | cons x xs => have := ha (by rw [hf]; simp); simp at this
            rw [this] at hb
            simp [dBytes] at hb
            subst hb
            exact ⟨_, by simp [convert, run_underlying (elem_under hel), run_underlying (str_under hd), run_underlying hue, Conv.bytesToString]; rfl, .val _⟩
          | some a =>
            have hRL : RL φ w (flat es) ((List.range (flat es).length).map u) := by
              refine ⟨by simp, fun j d v h1 h2 => ?_⟩
              obtain ⟨x, hx, rfl⟩ := getElem?_map_some h2
              obtain ⟨_, h'⟩ := List.getElem?_eq_some_iff.1 hx
              simp at h'
              subst h'
              exact hr j d h1
            have hl := run_loadCells (P := P) w a (flat es).length u (fun j hj => hcell j _ (List.getElem?_eq_getElem hj))
            have hbs := bytes_sound (P := P) (flat es) _ l ByteArray.empty hRL hb
            refine ⟨_, ?_, .val _⟩
            rw [hlen] at hl
            simp only [convert, Sem.run_bind, run_underlying (elem_under hel), run_underlying (str_under hd), run_underlying hue, Result.andThen_ok, Conv.bytesToString, hl]
            rw [hlen] at hbs
            rw [← Array.forIn_toList]
            refine (congrArg (fun r => Result.andThen r _) hbs).trans ?_
            simp [ByteArray.empty, ByteArray.emptyWithCapacity]; rfl
    · simp at h
  · simp at h
end
end Go.Cv

namespace Go.Cv
open Go

section
variable {P : Program} {φ : Phi} {w : World}

/-- a row of stores, by what it leaves -/
theorem store_raw {b : Nat} {e : TypeId} : ∀ (vs : List Value) (c0 n : Nat) (w : World) (arr : Array Value), w.heap[b]? = some (.cells arr e (0, 0)) → c0 + n + vs.length ≤ arr.size → (∀ v ∈ vs, v.oneCell' = true) →
    ∃ w' arr', (storeCells ⟨b, c0, none⟩ vs n).run P w = .ok () w' ∧ w'.heap[b]? = some (.cells arr' e (0, 0)) ∧ arr'.size = arr.size ∧
      (∀ j, j < vs.length → arr'[c0 + n + j]? = vs[j]?) ∧ (∀ j, j < c0 + n → arr'[j]? = arr[j]?) ∧
      (∀ k, k ≠ b → w'.heap[k]? = w.heap[k]?) ∧ w'.heap.size = w.heap.size ∧ w'.os = w.os ∧ w'.tape = w.tape ∧ w'.output = w.output
  | [], c0, n, w, arr, hb, _, _ => ⟨w, arr, rfl, hb, rfl, fun j h => absurd h (by simp), fun _ _ => rfl, fun _ _ => rfl, rfl, rfl, rfl, rfl⟩
  | v :: vs, c0, n, w, arr, hb, hle, h1 => by
    simp only [List.length_cons] at hle
    have hcell : w.cell? ⟨b, c0 + n, none⟩ = some (arr[c0 + n]'(by omega)) := by simp [World.cell?, hb]
    have hfz : w.frozen? ⟨b, c0 + n, none⟩ = false := by simp [World.frozen?, hb]
    have hst : (store ((⟨b, c0, none⟩ : Addr).add n) v).run P w = .ok () (w.setCell ⟨b, c0 + n, none⟩ v) := by
      rw [add_eq _ _ rfl, run_store P w _ v _ (h1 v (by simp))]
      simp [hcell, hfz]
    obtain ⟨w', arr', hr, hb', hs', hn', ho', hk', hz', e1, e2, e3⟩ := store_raw (b := b) (e := e) vs c0 (n + 1) (w.setCell ⟨b, c0 + n, none⟩ v) (arr.setIfInBounds (c0 + n) v)
      (by simp [World.setCell, Array.getElem?_modify, hb]) (by simp; omega) (fun u hu => h1 u (by simp [hu]))
    refine ⟨w', arr', by simp only [storeCells, Sem.run_bind, hst, Result.andThen_ok]; exact hr, hb', by simpa using hs', fun j hj => ?_, fun j hj => ?_, fun k hk => ?_, by simpa [World.setCell] using hz', e1, e2, e3⟩
    · cases j with
      | zero =>
        have := ho' (c0 + n) (by omega)
        simp only [Nat.add_zero, List.getElem?_cons_zero]
        rw [this, Array.getElem?_setIfInBounds_self_of_lt (by omega)]
      | succ j =>
        have := hn' j (by simp at hj; omega)
        rw [show c0 + n + (j + 1) = c0 + (n + 1) + j by omega, this]; rfl
    · rw [ho' j (by omega), Array.getElem?_setIfInBounds_ne (by omega)]
    · rw [hk' k hk]; exact heap_setCell _ _ _ _ hk

theorem R.sl_cells {id off sz : Nat} {cap : Option Nat} {es : List D} {v : Value} (h : R φ w (.sl id off cap sz es) v) :
    ∃ A c vs, v = .slice A es.length c ∧ RL φ w (flat es) vs ∧ (∀ a, A = some a → ∀ (j : Nat) (v : Value), vs[j]? = some v → w.cell? (a.add j) = some v) ∧ (A = none → vs = []) ∧
      es.length ≤ c ∧ (∀ k, cap = some k → c = k) ∧ (∀ e ∈ es, e.cells.length = sz) ∧ Place φ w id off A (c * sz) := by
  cases h with
  | @sl _ _ _ _ _ A c u hc hcap hsz hp ha hcell hr =>
    refine ⟨A, c, (List.range (flat es).length).map u, rfl, ⟨by simp, fun j d v h1 h2 => ?_⟩, ?_, ?_, hc, hcap, hsz, hp⟩
    · obtain ⟨x, hx, rfl⟩ := getElem?_map_some h2
      obtain ⟨_, h'⟩ := List.getElem?_eq_some_iff.1 hx
      simp at h'
      subst h'
      exact hr j d h1
    · rintro a rfl j v hv
      obtain ⟨x, hx, rfl⟩ := getElem?_map_some hv
      obtain ⟨hlt, h'⟩ := List.getElem?_eq_some_iff.1 hx
      simp at h' hlt
      subst h'
      exact hcell j _ (List.getElem?_eq_getElem hlt)
    · rintro rfl
      have : flat es = [] := by
        cases hf : flat es with
        | nil => rfl
        | cons x xs => have := ha (by rw [hf]; simp); simp at this
      rw [this]; rfl

theorem firstCells_run {A : Option Addr} {c m size : Nat} {vs : List Value} (hl : vs.length = m * size) (h1 : ∀ a, A = some a → ∀ (j : Nat) (v : Value), vs[j]? = some v → w.cell? (a.add j) = some v) (h2 : A = none → vs = []) :
    (Builtin.firstCells size m (.slice A m c)).run P w = .ok vs.toArray w := by
  cases A with
  | none => rw [h2 rfl]; exact run_firstCells_none (P := P) w size m m c
  | some a => exact run_firstCells_some (P := P) w size m a m c vs hl (h1 a rfl)

theorem pre_get (vs : List Value) (X : Array Value) : ∀ (j : Nat) (v : Value), vs[j]? = some v → (vs.toArray ++ X)[0 + 0 + j]? = some v := by
  intro j v hv
  have hlt := (List.getElem?_eq_some_iff.1 hv).1
  have e0 : 0 + 0 + j = j := by omega
  rw [e0, Array.getElem?_append, if_pos (by simpa using hlt)]
  simpa using hv
theorem pre_size (vs : List Value) (z : Array Value) (k : Nat) : (vs.toArray ++ Builtin.zeroCells z k).size = vs.length + k * z.size := by
  simp [size_zeroCells]

def noInt (P : Program) (t : Nat) : Bool :=
  match P.underlying t with
  | some (.int _) => false
  | some _ => true
  | none => false

def dAppend (P : Program) (t : Nat) (s x : D) (n : Nat) : Option (D × Nat × List Eff) :=
  match s, x with
  | .sl id _ cap sz es, .sl _ _ _ sz2 xs =>
    match (tyElem P t).bind (tySz P), (tyElem P t).bind (tyBytes P), (tyElem P t).bind (tyZero P) with
    | some esz, some by_, some z =>
      if esz ≠ 0 ∧ z.length = esz ∧ (sz = esz ∨ cap = some 0) ∧ (sz2 = esz ∨ xs = []) ∧ (es.length + xs.length) * by_ ≤ 140737488355328 ∧ es.length + xs.length ≤ 140737488355328 ∧
          ((flat xs).all fun c => c.leaf && c.good) = true then
        if id = 0 then
          match cap with
          | some k => if k = 0 ∨ k < es.length + xs.length then some (.sl n 0 none esz (es ++ xs), n + 1, []) else none
          | none => none
        else some (.sl n 0 none esz ((es ++ xs).map (D.kill id)), n + 1, [.kill id])
      else none
    | _, _, _ => none
  | _, _ => none

theorem append_sound {t ty : Nat} {s x r : D} {sv xv : Value} {n n' : Nat} {E : List Eff} (h : dAppend P t s x n = some (r, n', E)) (wf : WF φ w) (hn : n ≠ 0) (hf : φ n = .no)
    (hs : R φ w s sv) (hx : R φ w x xv) :
    ∃ v w' φ', (Builtin.append_ #[t, t] ty #[sv, xv]).run P w = .ok v w' ∧ Trans φ w φ' w' n n' E ∧ R φ' w' r v := by
  unfold dAppend at h
  split at h
  case h_2 => simp at h
  rename_i id off cap sz es id2 off2 cap2 sz2 xs
  split at h
  case h_2 => simp at h
  rename_i esz by_ z hes hby hz
  split at h
  case isFalse => simp at h
  rename_i hc
  obtain ⟨hesz, hzl, hsz, hsz2, hbytes, h63, hall⟩ := hc
  obtain ⟨e, he, i, hi, hiz, hib, zv, hzv, hzl'⟩ : ∃ e, tyElem P t = some e ∧ ∃ i, P.info? e = some i ∧ i.size = esz ∧ i.bytes = by_ ∧ ∃ zv, i.zero = some zv ∧ zv.cells.size = esz := by
    cases hel : tyElem P t with
    | none => simp [hel] at hes
    | some e =>
      cases hi : P.info? e with
      | none => simp [hel, tySz, hi] at hes
      | some i =>
        simp [hel, tySz, hi] at hes
        simp [hel, tyBytes, hi] at hby
        simp [hel, tyZero, hi] at hz
        obtain ⟨zv, hzv, hz⟩ := hz
        exact ⟨e, rfl, i, hi, hes, hby, zv, hzv, by rw [← hzl, ← hz]; simp⟩
  have hun := elem_under he
  obtain ⟨A, c, vs, rfl, hvs, hvc, hvn, hlc, hcap, hszs, hp⟩ := hs.sl_cells
  obtain ⟨A2, c2, us, rfl, hus, huc, hun2, hlc2, hcap2, hszs2, hp2⟩ := hx.sl_cells
  have hxs0 : sz2 ≠ esz → xs = [] := fun hne => hsz2.resolve_left hne
  have hes0 : sz ≠ esz → es = [] ∧ c = 0 := fun hne => by
    have := hsz.resolve_left hne
    have := hcap 0 this
    exact ⟨List.eq_nil_of_length_eq_zero (by omega), this⟩
  have hszs' : ∀ e ∈ es, e.cells.length = esz := by
    intro e he
    by_cases hne : sz = esz
    · rw [← hne]; exact hszs e he
    · rw [(hes0 hne).1] at he; simp at he
  have hszs2' : ∀ e ∈ xs, e.cells.length = esz := by
    intro e he
    by_cases hne : sz2 = esz
    · rw [← hne]; exact hszs2 e he
    · rw [hxs0 hne] at he; simp at he
  have hvl : vs.length = es.length * esz := by rw [← hvs.1]; exact flat_length hszs'
  have hul : us.length = xs.length * esz := by rw [← hus.1]; exact flat_length hszs2'
  have hone : ∀ u ∈ us, u.oneCell' = true := by
    intro u hu
    obtain ⟨j, hj⟩ := List.getElem?_of_mem hu
    have hlt : j < (flat xs).length := by rw [hus.1]; exact (List.getElem?_eq_some_iff.1 hj).1
    have hd := hus.2 j _ u (List.getElem?_eq_getElem hlt) hj
    have := List.all_eq_true.1 hall _ (List.getElem_mem hlt)
    simp at this
    exact hd.oneCell this.2 this.1
  have hfc2 : ∀ w1 : World, (∀ a x, w.cell? a = some x → w1.cell? a = some x) → (Builtin.firstCells i.size xs.length (.slice A2 xs.length c2)).run P w1 = .ok us.toArray w1 := by
    intro w1 h1
    exact firstCells_run (by rw [hiz]; exact hul) (fun a ha j v hv => h1 _ _ (huc a ha j v hv)) hun2
  have hnI : ((match TypeDesc.slice e with | .int _ => true | _ => false) : Bool) = false := rfl
  -- the new block
  have grow : c < es.length + xs.length → ∃ cap', es.length + xs.length ≤ cap' ∧
      (Builtin.append_ #[t, t] ty #[.slice A es.length c, .slice A2 xs.length c2]).run P w = .ok (.slice (some ⟨w.heap.size, 0, none⟩) (es.length + xs.length) cap')
        (w.drew.alloc (.cells ((vs ++ us).toArray ++ Builtin.zeroCells zv.cells (cap' - (es.length + xs.length))) e)) := by
    intro hlt
    have hxpos : 0 < xs.length := by omega
    have hupos : us ≠ [] := by
      intro h0
      have h1 : xs.length * esz = 0 := by rw [← hul, h0]; rfl
      rcases Nat.mul_eq_zero.1 h1 with h | h <;> omega
    obtain ⟨a2, rfl⟩ : ∃ a2, A2 = some a2 := by
      cases A2 with
      | none => exact absurd (hun2 rfl) hupos
      | some a => exact ⟨a, rfl⟩
    cases A with
    | none =>
      have hv0 := hvn rfl
      have hel0 : es.length = 0 := by
        have h1 : es.length * esz = 0 := by rw [← hvl, hv0]; rfl
        exact (Nat.mul_eq_zero.1 h1).resolve_right hesz
      have hc0 : c = 0 := by
        by_cases hne : sz = esz
        · unfold Place at hp
          rw [hne] at hp
          split at hp
          · rcases hp with hp | ⟨a, ha, _⟩
            · exact (Nat.mul_eq_zero.1 hp).resolve_right hesz
            · simp at ha
          · split at hp
            · exact hp.elim
            · exact (Nat.mul_eq_zero.1 hp).resolve_right hesz
            · rcases hp with hp | ⟨ha, _⟩
              · exact (Nat.mul_eq_zero.1 hp).resolve_right hesz
              · simp at ha
        · exact (hes0 hne).2
      have hr := run_append_nil (P := P) w t ty e i zv hun hi hzv a2 xs.length c2 us (by rw [hiz]; exact hul) (huc a2 rfl) hxpos (by omega) (by
        rw [hib]; rw [hel0, Nat.zero_add] at hbytes; omega)
      refine ⟨grownCap w xs.length 0 e, by have := grownCap_ge w xs.length 0 e; omega, ?_⟩
      rw [hc0, hel0, hv0]
      simpa using hr
    | some a =>
      have hr := run_append_grow (P := P) w t ty e i zv hun hi hzv a es.length c vs (by rw [hiz]; exact hvl) (hvc a rfl) a2 xs.length c2 us (by rw [hiz]; exact hul) (huc a2 rfl) hlt (by omega)
        (by rw [hib]; exact growslice_fits hlt hbytes)
      exact ⟨grownCap w (es.length + xs.length) c e, grownCap_ge _ _ _ _, by simpa using hr⟩
  -- in place
  have room : es.length + xs.length ≤ c → (Builtin.append_ #[t, t] ty #[.slice A es.length c, .slice A2 xs.length c2]).run P w =
      ((match A with | some a => storeCells (a.add (es.length * i.size)) us | none => pure ()).run P w).andThen fun _ w' => .ok (.slice A (es.length + xs.length) c) w' := by
    intro hle
    have hf := hfc2 w (fun _ _ h => h)
    cases A <;> simp [Builtin.append_, run_underlying hun, sizeOf, typeInfo, hi, Builtin.lenOf, hle, hf]
  split at h
  · rename_i hid
    split at h
    case h_2 => simp at h
    rename_i k
    split at h
    case isFalse => simp at h
    rename_i hk
    cases h
    have hck : c = k := hcap k rfl
    subst hck
    have hrl : RL φ w (flat (es ++ xs)) (vs ++ us) := by rw [flat_append]; exact hvs.append hus
    have hsz3 : ∀ e ∈ es ++ xs, e.cells.length = esz := by
      intro e he
      rcases List.mem_append.1 he with he | he
      · exact hszs' e he
      · exact hszs2' e he
    by_cases hroom : es.length + xs.length ≤ c
    · have hc0 : c = 0 := by omega
      have hes : es = [] := List.eq_nil_of_length_eq_zero (by omega)
      have hx0 : xs = [] := List.eq_nil_of_length_eq_zero (by omega)
      subst hes; subst hx0; subst hc0
      have hu0 : us = [] := List.eq_nil_of_length_eq_zero (by rw [hul]; simp)
      subst hu0
      refine ⟨.slice A 0 0, w, φ.set n .void, ?_, Trans.void wf hn hf, ?_⟩
      · rw [room (by simp)]
        cases A <;> simp [storeCells]
      · have : R (φ.set n .void) w (.sl n 0 none esz []) (.slice A ([] : List D).length 0) :=
          .sl (fun _ => undef) (by simp) (by simp) (by simp) (by unfold Place; rw [if_neg hn]; simp) (by simp) (by simp) (by simp)
        exact this
    · obtain ⟨cap', hge, hr⟩ := grow (by omega)
      have hd := Trans.drew wf n (w.drawn + 1)
      have ht := Trans.alloc (w := w.drew) hd.wf hn hf ((vs ++ us).toArray ++ Builtin.zeroCells zv.cells (cap' - (es.length + xs.length))) e
      have htt := hd.trans ht (Nat.le_refl _) (by omega)
      refine ⟨_, _, _, hr, htt, ?_⟩
      have := R.newSl (φ' := φ.set n (.at w.heap.size 0)) (w' := w.drew.alloc (.cells ((vs ++ us).toArray ++ Builtin.zeroCells zv.cells (cap' - (es.length + xs.length))) e))
        (n := n) (b := w.heap.size) (c := cap') (sz := esz) (off := 0) (base := 0) (cap := none) (es := es ++ xs) (vs := vs ++ us) (e := e) hn (by simp) (heap_alloc_new w.drew _) hsz3
        (hrl.keep (fun d v h => htt.keep d v h)) (pre_get (vs ++ us) _) (by simpa using hge) (by simp) (by
          rw [pre_size, List.length_append, hul, hvl, hzl', ← Nat.add_mul, ← Nat.add_mul]; simp only [Nat.zero_add]; exact Nat.mul_le_mul_right _ (by omega))
      rw [List.length_append] at this
      exact this
  · rename_i hid
    cases h
    have hszc : c * sz = c * esz := by
      by_cases hne : sz = esz
      · rw [hne]
      · rw [(hes0 hne).2]; simp
    have hφn : φ id ≠ .no := by
      intro h0
      unfold Place at hp
      rw [if_neg hid, h0] at hp
      exact hp
    have hrl : RL φ w (flat (es ++ xs)) (vs ++ us) := by rw [flat_append]; exact hvs.append hus
    have hsz3 : ∀ e ∈ (es ++ xs).map (D.kill id), e.cells.length = esz := by
      intro e he
      obtain ⟨x, hx, rfl⟩ := List.mem_map.1 he
      rw [cells_kill]
      simp only [List.length_map]
      rcases List.mem_append.1 hx with hx | hx
      · exact hszs' x hx
      · exact hszs2' x hx
    by_cases hroom : es.length + xs.length ≤ c
    · by_cases hc0 : c = 0
      · have hes : es = [] := List.eq_nil_of_length_eq_zero (by omega)
        have hx0 : xs = [] := List.eq_nil_of_length_eq_zero (by omega)
        subst hes; subst hx0; subst hc0
        have hu0 : us = [] := List.eq_nil_of_length_eq_zero (by rw [hul]; simp)
        subst hu0
        have ht : Trans φ w ((φ.set id .no).set n .void) w n (n + 1) [.kill id] :=
          Trans.handOver (b := w.heap.size) wf hid hn hφn hf (.inr (Nat.le_refl _)) (fun k p hk => by simp at hk) (fun _ _ _ => rfl) (Nat.le_refl _) rfl rfl rfl
        refine ⟨.slice A 0 0, w, _, ?_, ht, ?_⟩
        · rw [room (by simp)]
          cases A <;> simp [storeCells]
        · have : R ((φ.set id .no).set n .void) w (.sl n 0 none esz []) (.slice A ([] : List D).length 0) :=
            .sl (fun _ => undef) (by simp) (by simp) (by simp) (by unfold Place; rw [if_neg hn]; simp) (by simp) (by simp) (by simp)
          exact this
      · have hcs : c * sz ≠ 0 := by rw [hszc]; exact Nat.mul_ne_zero hc0 hesz
        unfold Place at hp
        rw [if_neg hid] at hp
        cases hφ : φ id with
        | no => exact absurd hφ hφn
        | void => rw [hφ] at hp; exact absurd hp hcs
        | «at» b base =>
          rw [hφ] at hp
          obtain ⟨rfl, arr, e', hb, hle⟩ := hp.resolve_left hcs
          rw [hszc] at hle
          have hm1 : es.length * esz + xs.length * esz ≤ c * esz := by rw [← Nat.add_mul]; exact Nat.mul_le_mul_right _ hroom
          obtain ⟨w', arr', hst, hb', hs', hnew, hold, hoth, hsize, e1, e2, e3⟩ := store_raw (P := P) us (base + off + es.length * esz) 0 w arr hb (by rw [hul]; omega) hone
          have ht : Trans φ w ((φ.set id .no).set n (.at b (base + off))) w' n (n + 1) [.kill id] :=
            Trans.handOver (b := b) wf hid hn hφn hf (.inl ⟨base, hφ⟩) (fun k p hk => by simp at hk; obtain ⟨rfl, rfl⟩ := hk; exact ⟨.inl ⟨base, hφ⟩, arr', e', hb'⟩) (fun k _ hk => hoth k hk) (by omega) e1 e2 e3
          refine ⟨.slice (some ⟨b, base + off, none⟩) (es.length + xs.length) c, w', _, ?_, ht, ?_⟩
          · rw [room hroom, hiz]
            show (((storeCells ((⟨b, base + off, none⟩ : Addr).add (es.length * esz)) us).run P w).andThen _) = _
            rw [add_eq _ _ rfl]
            show (((storeCells ⟨b, base + off + es.length * esz, none⟩ us 0).run P w).andThen _) = _
            rw [hst]; rfl
          · have hlen : ((es ++ xs).map (D.kill id)).length = es.length + xs.length := by simp
            have := R.newSl (φ' := (φ.set id .no).set n (.at b (base + off))) (w' := w') (n := n) (b := b) (c := c) (sz := esz) (off := 0) (base := base + off) (cap := none) (es := (es ++ xs).map (D.kill id)) (vs := vs ++ us) (e := e')
              hn (by simp) hb' hsz3 (by rw [flat_map_kill]; exact hrl.trans (D.kill id) (fun d v h => ht.keep d v h))
              (fun j v hv => by
                by_cases hj : j < vs.length
                · rw [List.getElem?_append_left hj] at hv
                  have := hvc _ rfl j v hv
                  rw [add_eq _ _ rfl] at this
                  simp [World.cell?, hb] at this
                  rw [hold _ (by omega)]
                  exact this
                · rw [List.getElem?_append_right (by omega)] at hv
                  have hlt := (List.getElem?_eq_some_iff.1 hv).1
                  have := hnew (j - vs.length) hlt
                  rw [← hv, ← this]
                  congr 1
                  omega) (by rw [hlen]; exact hroom) (by simp) (by rw [hs']; omega)
            rw [hlen] at this
            simpa using this
    · obtain ⟨cap', hge, hr⟩ := grow (by omega)
      have hd := Trans.drew wf n (w.drawn + 1)
      have hsz' : (w.drew.alloc (.cells ((vs ++ us).toArray ++ Builtin.zeroCells zv.cells (cap' - (es.length + xs.length))) e)).heap.size = w.heap.size + 1 := by
        exact Array.size_push _
      have ht : Trans φ w.drew ((φ.set id .no).set n (.at w.heap.size 0)) (w.drew.alloc (.cells ((vs ++ us).toArray ++ Builtin.zeroCells zv.cells (cap' - (es.length + xs.length))) e)) n (n + 1) [.kill id] :=
        Trans.handOver (b := w.heap.size) hd.wf hid hn hφn hf (.inr (Nat.le_refl _)) (fun k p hk => by
          simp at hk; obtain ⟨rfl, rfl⟩ := hk; exact ⟨.inr (Nat.le_refl _), _, _, heap_alloc_new w.drew _⟩) (fun k hk _ => heap_alloc_old w.drew _ k hk) (by rw [hsz']; show w.heap.size ≤ _; omega) rfl rfl rfl
      have htt := hd.trans ht (Nat.le_refl _) (by omega)
      refine ⟨_, _, _, hr, htt, ?_⟩
      have hlen : ((es ++ xs).map (D.kill id)).length = es.length + xs.length := by simp
      have := R.newSl (φ' := (φ.set id .no).set n (.at w.heap.size 0)) (w' := w.drew.alloc (.cells ((vs ++ us).toArray ++ Builtin.zeroCells zv.cells (cap' - (es.length + xs.length))) e))
        (n := n) (b := w.heap.size) (c := cap') (sz := esz) (off := 0) (base := 0) (cap := none) (es := (es ++ xs).map (D.kill id)) (vs := vs ++ us) (e := e) hn (by simp) (heap_alloc_new w.drew _) hsz3
        (by rw [flat_map_kill]; exact hrl.trans (D.kill id) (fun d v h => htt.keep d v h)) (pre_get (vs ++ us) _) (by rw [hlen]; exact hge) (by simp) (by
          rw [pre_size, List.length_append, hul, hvl, hzl', ← Nat.add_mul, ← Nat.add_mul]; simp only [Nat.zero_add]; exact Nat.mul_le_mul_right _ (by omega))
      rw [hlen] at this
      simpa using this
end
end Go.Cv
