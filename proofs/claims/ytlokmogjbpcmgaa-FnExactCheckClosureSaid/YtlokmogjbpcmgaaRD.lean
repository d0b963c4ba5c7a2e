/- Readings of memory, and a machine over them that is sound (part D). No condition. -/
import Derived.Test.YtlokmogjbpcmgaaRC
import Derived.WalkKit
import Derived.ProofKit
import Derived.OpenShut
import Derived.ShutString
import Derived.ChangeOld
import Derived.SizedLaws
import Derived.Carry
set_option linter.unusedVariables false
set_option linter.unusedSimpArgs false
namespace Go.Cv
open Go Enc

section
variable {A : Cfg} {call : Call'} {fr : Fr} {n : Nat} {P : Program} {ops : List Oper}
/-! ### operands, guards, operations: what simp takes -/
@[simp] theorem evD_tmp (t : Nat) : evD A fr (.tmp t) = fr t := rfl
@[simp] theorem evD_int (k : IntKind) (x : Int) : evD A fr (.const (.int k x)) = .val (.int k x) := rfl
@[simp] theorem evD_bool (b : Bool) : evD A fr (.const (.bool b)) = .val (.bool b) := rfl
@[simp] theorem evD_str (s : ByteArray) : evD A fr (.const (.string s)) = .val (.string s) := rfl
@[simp] theorem evD_nil : evD A fr (.const (.slice none 0 0)) = nilD := rfl
@[simp] theorem evD_nilI : evD A fr (.const .nilIface) = .val .nilIface := rfl
@[simp] theorem evD_nilF : evD A fr (.const .nilFunc) = .val .nilFunc := rfl
@[simp] theorem evD_agg (vs : Array Value) : evD A fr (.const (.agg vs)) = .agg (vs.toList.map leafD) := rfl
@[simp] theorem evD_func (f : FuncId) : evD A fr (.func f) = .fn (.func f) [] := rfl
theorem evD_glob {g : Nat} {cs : List D} (h : A.glob g = some cs) : evD A fr (.global g) = .pt 0 0 cs := by simp [evD, h]

@[simp] theorem want_none {dst : Option Tmp} {op : Op} {ty : TypeId} {pos : String} {after : Array Edge} : dWanted ops fr ⟨dst, op, ty, pos, after, none⟩ = some true := rfl
def wantD (t : Option Tmp) (fr : Fr) (w : Bool) : Option Bool := match t with
    | some t => match fr t with
      | .val (.bool b) => some (b == w)
      | .val _ => some false
      | _ => none
    | none => none
def dstOf : List Oper → Nat → Option Tmp
  | [], _ => none
  | o :: _, 0 => o.dst
  | _ :: os, g + 1 => dstOf os g
theorem dstOf_eq : ∀ (ops : List Oper) (g : Nat), (ops[g]?).bind (·.dst) = dstOf ops g
  | [], _ => rfl
  | o :: os, 0 => rfl
  | o :: os, g + 1 => by simpa [dstOf] using dstOf_eq os g
@[simp] theorem dstOf_zero (o : Oper) (os : List Oper) : dstOf (o :: os) 0 = o.dst := rfl
@[simp] theorem dstOf_succ (o : Oper) (os : List Oper) (g : Nat) : dstOf (o :: os) (g + 1) = dstOf os g := rfl
@[simp] theorem want_some {dst : Option Tmp} {op : Op} {ty : TypeId} {pos : String} {after : Array Edge} {g : Nat} {w : Bool} :
    dWanted ops fr ⟨dst, op, ty, pos, after, some (g, w)⟩ = wantD (dstOf ops g) fr w := by rw [← dstOf_eq]; rfl
def wantV (d : D) (w : Bool) : Option Bool := match d with
      | .val (.bool b) => some (b == w)
      | .val _ => some false
      | _ => none
@[simp] theorem wantD_some (t : Nat) (w : Bool) : wantD (some t) fr w = wantV (fr t) w := rfl
@[simp] theorem wantV_bool (b w : Bool) : wantV (.val (.bool b)) w = some (b == w) := rfl
@[simp] theorem wantV_undef (w : Bool) : wantV (.val undef) w = some false := rfl

@[simp] theorem ite_bi (c : Prop) [Decidable c] (x y : Bool) : (if c then D.val (.bool x) else D.val (.bool y)) = D.val (.bool (if c then x else y)) := by split <;> rfl
@[simp] theorem ite_ci (c : Prop) [Decidable c] (k : IntKind) (x y : Int) : (if c then D.val (.int k x) else D.val (.int k y)) = D.val (.int k (if c then x else y)) := by split <;> rfl
@[simp] theorem natcast_inj (a b : Nat) : ((a : Int) = (b : Int)) ↔ a = b := by omega
@[simp] theorem get0 {α : Type} (a : α) (l : List α) : (a :: l)[0]? = some a := rfl
@[simp] theorem opD_move (x : Operand) : opD A call fr n (.move x) = some (evD A fr x, n, []) := rfl
@[simp] theorem opD_assign (x : Operand) : opD A call fr n (.assign x) = some (evD A fr x, n, []) := rfl
@[simp] theorem opD_pick (c a b : Operand) : opD A call fr n (.pick c a b) = (match evD A fr c with | .val (.bool t) => some (if t then evD A fr a else evD A fr b, n, []) | _ => none) := rfl
@[simp] theorem opD_alloc (e : TypeId) : opD A call fr n (.alloc e) = (tyZero A.P e).map fun zs => (.pt n 0 zs, n + 1, []) := rfl
@[simp] theorem opD_box (t : TypeId) (x : Operand) : opD A call fr n (.box t x) = if (evD A fr x).good = true then some (.pt n 0 (evD A fr x).cells, n + 1, []) else none := rfl
@[simp] theorem opD_build (t : TypeId) (ps : Array (Nat × Operand)) : opD A call fr n (.build t ps) = (dBuild A.P t (ps.toList.map fun p => (p.1, evD A fr p.2))).map fun d => (d, n, []) := rfl
@[simp] theorem opD_buildSlice (t : TypeId) (len : Nat) (ps : Array (Nat × Operand)) : opD A call fr n (.buildSlice t len ps) = dBuildSlice A.P t len (ps.toList.map fun p => (p.1, evD A fr p.2)) n := rfl
@[simp] theorem opD_load (t : TypeId) (a : Operand) : opD A call fr n (.load t a) = (dLoad A.P t (evD A fr a)).map fun d => (d, n, []) := rfl
@[simp] theorem opD_store (t : TypeId) (a x : Operand) : opD A call fr n (.store t a x) = (dStore A.P t (evD A fr a) (evD A fr x)).map fun E => (.bad, n, E) := rfl
@[simp] theorem opD_nilCheck (x : Operand) : opD A call fr n (.nilCheck x) = (match evD A fr x with
    | .pt id off cs => some (.pt id off cs, n, [])
    | .fn (.func f) caps => some (.fn (.func f) caps, n, [])
    | _ => none) := rfl
@[simp] theorem opD_binOp (op : BinOp) (xt : TypeId) (x y : Operand) (yt : TypeId) : opD A call fr n (.binOp op xt x y yt) = (dBin A.P op xt ((x matches .const _) || (y matches .const _)) (evD A fr x) (evD A fr y)).map fun d => (d, n, []) := rfl
@[simp] theorem opD_unOp (op : UnOp) (t : TypeId) (x : Operand) : opD A call fr n (.unOp op t x) = (dUn op (evD A fr x)).map fun d => (d, n, []) := rfl
@[simp] theorem opD_convert (s d : TypeId) (x : Operand) : opD A call fr n (.convert s d x) = (dConv A.P s d (evD A fr x)).map fun d => (d, n, []) := rfl
@[simp] theorem opD_makeFunc (fn : Fn) (first : Array Operand) (cap : Array Operand) : opD A call fr n (.makeFunc fn first cap) = if first.isEmpty then some (.fn fn (cap.toList.map (evD A fr)), n, []) else none := rfl
@[simp] theorem opD_makeSlice (t : TypeId) (l c : Operand) : opD A call fr n (.makeSlice t l c) = dMake A.P t (evD A fr l) (evD A fr c) n := rfl
@[simp] theorem opD_slice (t : TypeId) (x : Operand) (lo hi mx : Option Operand) : opD A call fr n (.slice t x lo hi mx) = (dSlice A.P t (evD A fr x) (lo.map (evD A fr)) (hi.map (evD A fr)) (mx.map (evD A fr))).map fun d => (d.norm2, n, []) := rfl
@[simp] theorem opD_fieldAddr (t : TypeId) (x : Operand) (f : Nat) : opD A call fr n (.fieldAddr t x f) = (dFieldAddr A.P t f (evD A fr x)).map fun d => (d.norm1, n, []) := rfl
@[simp] theorem opD_field (t : TypeId) (x : Operand) (f : Nat) : opD A call fr n (.field t x f) = (dField A.P t f (evD A fr x)).map fun d => (d, n, []) := rfl
@[simp] theorem opD_indexAddr (t : TypeId) (x i : Operand) : opD A call fr n (.indexAddr t x i) = (dIndexAddr A.P t (evD A fr x) (evD A fr i)).map fun d => (d.norm1, n, []) := rfl
@[simp] theorem opD_index (t : TypeId) (x i : Operand) : opD A call fr n (.index t x i) = (dIndex A.P t (evD A fr x) (evD A fr i)).map fun d => (d, n, []) := rfl
@[simp] theorem opD_extract (t : Operand) (ix : Nat) : opD A call fr n (.extract t ix) = (match evD A fr t with | .tup ds => (ds[ix]?).map fun d => (d, n, []) | _ => none) := rfl
def callD (A : Cfg) (call : Call') (f : D) (xs : List D) (n : Nat) : Option (D × Nat × List Eff) :=
  match f with
  | .fn (.func g) caps => callM A call g (xs ++ caps) n
  | _ => none
@[simp] theorem opD_call {f : Operand} {as : Array Operand} {ts : Array TypeId} : opD A call fr n (.call ⟨.value f, as, ts⟩) = callD A call (evD A fr f) (as.toList.map (evD A fr)) n := rfl
@[simp] theorem callD_fn (g : Nat) (caps xs : List D) : callD A call (.fn (.func g) caps) xs n = callM A call g (xs ++ caps) n := rfl
@[simp] theorem opD_builtin {f : Builtin} {as : Array Operand} {ts : Array TypeId} : opD A call fr n (.call ⟨.builtin f, as, ts⟩) = builtinD A.P f ts.toList (as.toList.map (evD A fr)) n := rfl

theorem callM_0 {g : Nat} {xs : List D} (h : A.mode g = 0) : callM A call g xs n = call g (xs.map D.norm) n := by simp [callM, h]
theorem callM_1 {g : Nat} {xs : List D} (h : A.mode g = 1) : callM A call g xs n = call g xs n := by simp [callM, h]
theorem callM_2 {g : Nat} {xs : List D} (h : A.mode g = 2) : callM A call g xs n = lentR (call g (xs.map frz) n) := by simp [callM, h]
theorem callM_3 {g : Nat} {xs : List D} (h : A.mode g = 3) : callM A call g xs n = goneR (movE xs) (call g (xs.map frz) n) := by simp [callM, h]
@[simp] theorem lentR_mk (d : D) (m : Nat) : lentR (some (d, m, [])) = if d.own0 = true then some (d, m, []) else none := rfl
@[simp] theorem goneR_mk (K : List Eff) (d : D) (m : Nat) : goneR K (some (d, m, [])) = some (d, m, K) := rfl
@[simp] theorem movE_nil : movE [] = [] := rfl
theorem movE_append (xs ys : List D) : movE (xs ++ ys) = movE xs ++ movE ys := by
  have : ∀ a b : List D, idsL (a ++ b) = idsL a ++ idsL b := by
    intro a b
    induction a with
    | nil => rfl
    | cons x a ih => simp [idsL, ih]
  simp [movE, movK, this]
theorem movE_fix {d : D} (h : d.Fix) (xs : List D) : movE (d :: xs) = movE xs := by
  have : ((d.ids).filter (· ≠ 0)) = [] := by
    rw [List.filter_eq_nil_iff]; intro i hi; simp [h.ids i hi]
  simp only [movE, movK, idsL, List.filter_append, this, List.nil_append]
@[simp] theorem movE_val (v : Value) (xs : List D) : movE (.val v :: xs) = movE xs := movE_fix (fix_val v) xs
@[simp] theorem movE_cl {α : Type} [Enc α] (l : List α) (xs : List D) : movE (cl l :: xs) = movE xs := movE_fix (fix_cl l) xs
@[simp] theorem movE_agg (cs : List D) (xs : List D) : movE (.agg cs :: xs) = movE (cs ++ xs) := by
  have : ∀ a b : List D, idsL (a ++ b) = idsL a ++ idsL b := by
    intro a b
    induction a with
    | nil => rfl
    | cons x a ih => simp [idsL, ih]
  simp [movE, movK, idsL, this, D.ids]
theorem ids_lst0 {α : Type} [Enc α] (l : List α) : (idsL (lst l)).filter (· ≠ 0) = [] := by
  rw [List.filter_eq_nil_iff]
  intro i hi
  obtain ⟨d, hd, hi⟩ := mem_idsL hi
  simp [(lst_fix l d hd).ids i hi]
theorem movE_ow {α : Type} [Enc α] {id off sz : Nat} (h : id ≠ 0) (cap : Option Nat) (l : List α) (xs : List D) : movE (.sl id off cap sz (lst l) :: xs) = .kill id :: movE xs := by
  simp only [movE, movK, idsL, D.ids, List.cons_append, List.filter_cons, List.filter_append, ids_lst0, List.nil_append, h, ne_eq, not_false_eq_true, decide_true, if_true, List.map_cons]

/-! ### freezing -/
@[simp] theorem frz_val (v : Value) : frz (.val v) = .val v := rfl
@[simp] theorem frz_agg (cs : List D) : frz (.agg cs) = .agg (cs.map frz) := by
  simp [frz, D.ren, D.norm, renL_map, normL_map]
@[simp] theorem frz_nil : frz nilD = fz 0 [] := rfl
theorem frz_sl (id off : Nat) (cap : Option Nat) (sz : Nat) (es : List D) : frz (.sl id off cap sz es) = fz sz (es.map frz) := by
  simp [frz, D.ren, D.norm, renL_map, normL_map]; rfl
theorem lst_frz {α : Type} [Enc α] (l : List α) : (lst l).map frz = lst l := lst_map (fun _ h => h.frz) l
@[simp] theorem frz_ow {α : Type} [Enc α] (id off sz : Nat) (cap : Option Nat) (l : List α) : frz (.sl id off cap sz (lst l)) = fz sz (lst l) := by
  rw [frz_sl, lst_frz]
@[simp] theorem norm_nil : nilD.norm = fz 0 [] := rfl
@[simp] theorem norm_val (v : Value) : (D.val v).norm = .val v := rfl
@[simp] theorem norm_agg (cs : List D) : (D.agg cs).norm = .agg (cs.map D.norm) := by simp [D.norm, normL_map]
@[simp] theorem norm_fn (f : Fn) (cs : List D) : (D.fn f cs).norm = .fn f (cs.map D.norm) := by simp [D.norm, normL_map]
@[simp] theorem norm_tup (cs : List D) : (D.tup cs).norm = .tup (cs.map D.norm) := by simp [D.norm, normL_map]
theorem fz0_cl {α : Type} [Enc α] : fz 0 [] = cl ([] : List α) := rfl
theorem nil_cl {α : Type} [Enc α] : D.sl 0 0 none 0 [] = cl ([] : List α) := rfl

/-! ### loads, stores, addresses -/
@[simp] theorem load_pt (t id off : Nat) (cs : List D) : dLoad P t (.pt id off cs) = (match tyAgg P t with
    | some true => (tySz P t).bind fun n => if n ≤ cs.length then some (.agg (cs.take n)) else none
    | some false => cs[0]?
    | none => none) := rfl
theorem store_pt (t id off : Nat) (cs : List D) (x : D) : dStore P t (.pt id off cs) x =
    if id ≠ 0 ∧ tySz P t = some x.cells.length ∧ x.cells.length ≤ cs.length ∧ x.good = true ∧ (x.cells.all fun c => c.leaf && c.good && !c.has (· == id)) = true then some (wrs id off x.cells) else none := rfl
def stOk (id : Nat) (cs : List D) : Bool := cs.all fun c => c.leaf && c.good && !c.has (· == id)
@[simp] theorem stOk_nil (id : Nat) : stOk id [] = true := rfl
@[simp] theorem stOk_cons (id : Nat) (c : D) (cs : List D) : stOk id (c :: cs) = ((c.leaf && c.good && !c.has (· == id)) && stOk id cs) := rfl
@[simp] theorem store_own {t id off : Nat} {cs : List D} {x : D} (h : id ≠ 0) : dStore P t (.pt id off cs) x =
    if tySz P t = some x.cells.length ∧ x.cells.length ≤ cs.length ∧ x.good = true ∧ stOk id x.cells = true then some (wrs id off x.cells) else none := by
  rw [store_pt]; simp only [h, ne_eq, not_false_eq_true, true_and]; rfl
@[simp] theorem norm1_own {id off : Nat} {cs : List D} (h : id ≠ 0) : (D.pt id off cs).norm1 = .pt id off cs := by simp [h, norm1_pt]
@[simp] theorem norm1_zero (off : Nat) (cs : List D) : (D.pt 0 off cs).norm1 = .pt 0 0 cs := by simp [norm1_pt]
@[simp] theorem fieldAddr_pt (t f id off : Nat) (cs : List D) : dFieldAddr P t f (.pt id off cs) = (match tyField P t f with
    | some (fo, ft) => match tySz P ft with
      | some fs => if fs ≠ 0 ∧ fo + fs ≤ cs.length then some (.pt id (off + fo) ((cs.drop fo).take fs)) else none
      | none => none
    | none => none) := rfl
@[simp] theorem field_agg (t f : Nat) (cs : List D) : dField P t f (.agg cs) = (tyField P t f).bind fun x => dPart P x.2 x.1 cs := rfl
@[simp] theorem bin_int_add (t : Nat) (k : Bool) (kd : IntKind) (a b : Int) : dBin P .add t k (.val (.int kd a)) (.val (.int kd b)) = (intV .add kd a b).map .val := by simp [dBin]
@[simp] theorem bin_int_sub (t : Nat) (k : Bool) (kd : IntKind) (a b : Int) : dBin P .sub t k (.val (.int kd a)) (.val (.int kd b)) = (intV .sub kd a b).map .val := by simp [dBin]
@[simp] theorem bin_int_mul (t : Nat) (k : Bool) (kd : IntKind) (a b : Int) : dBin P .mul t k (.val (.int kd a)) (.val (.int kd b)) = (intV .mul kd a b).map .val := by simp [dBin]
@[simp] theorem bin_int_quo (t : Nat) (k : Bool) (kd : IntKind) (a b : Int) : dBin P .quo t k (.val (.int kd a)) (.val (.int kd b)) = (intV .quo kd a b).map .val := by simp [dBin]
@[simp] theorem bin_int_rem (t : Nat) (k : Bool) (kd : IntKind) (a b : Int) : dBin P .rem t k (.val (.int kd a)) (.val (.int kd b)) = (intV .rem kd a b).map .val := by simp [dBin]
@[simp] theorem bin_int_and (t : Nat) (k : Bool) (kd : IntKind) (a b : Int) : dBin P .and t k (.val (.int kd a)) (.val (.int kd b)) = (intV .and kd a b).map .val := by simp [dBin]
@[simp] theorem bin_int_or (t : Nat) (k : Bool) (kd : IntKind) (a b : Int) : dBin P .or t k (.val (.int kd a)) (.val (.int kd b)) = (intV .or kd a b).map .val := by simp [dBin]
@[simp] theorem bin_int_xor (t : Nat) (k : Bool) (kd : IntKind) (a b : Int) : dBin P .xor t k (.val (.int kd a)) (.val (.int kd b)) = (intV .xor kd a b).map .val := by simp [dBin]
@[simp] theorem bin_int_andNot (t : Nat) (k : Bool) (kd : IntKind) (a b : Int) : dBin P .andNot t k (.val (.int kd a)) (.val (.int kd b)) = (intV .andNot kd a b).map .val := by simp [dBin]
@[simp] theorem bin_int_eql (t : Nat) (k : Bool) (kd : IntKind) (a b : Int) : dBin P .eql t k (.val (.int kd a)) (.val (.int kd b)) = (intV .eql kd a b).map .val := by simp [dBin]
@[simp] theorem bin_int_neq (t : Nat) (k : Bool) (kd : IntKind) (a b : Int) : dBin P .neq t k (.val (.int kd a)) (.val (.int kd b)) = (intV .neq kd a b).map .val := by simp [dBin]
@[simp] theorem bin_int_lss (t : Nat) (k : Bool) (kd : IntKind) (a b : Int) : dBin P .lss t k (.val (.int kd a)) (.val (.int kd b)) = (intV .lss kd a b).map .val := by simp [dBin]
@[simp] theorem bin_int_leq (t : Nat) (k : Bool) (kd : IntKind) (a b : Int) : dBin P .leq t k (.val (.int kd a)) (.val (.int kd b)) = (intV .leq kd a b).map .val := by simp [dBin]
@[simp] theorem bin_int_gtr (t : Nat) (k : Bool) (kd : IntKind) (a b : Int) : dBin P .gtr t k (.val (.int kd a)) (.val (.int kd b)) = (intV .gtr kd a b).map .val := by simp [dBin]
@[simp] theorem bin_int_geq (t : Nat) (k : Bool) (kd : IntKind) (a b : Int) : dBin P .geq t k (.val (.int kd a)) (.val (.int kd b)) = (intV .geq kd a b).map .val := by simp [dBin]
@[simp] theorem bin_bool_eql (t : Nat) (k : Bool) (a b : Bool) : dBin P .eql t k (bi a) (bi b) = if tyBool P t = true then some (bi (a == b)) else none := rfl
@[simp] theorem bin_bool_neq (t : Nat) (k : Bool) (a b : Bool) : dBin P .neq t k (bi a) (bi b) = if tyBool P t = true then some (bi (!(a == b))) else none := rfl
@[simp] theorem bin_str (op : BinOp) (t : Nat) (k : Bool) (a b : ByteArray) : dBin P op t k (.val (.string a)) (.val (.string b)) = (strV op a b).map .val := by
  cases op <;> rfl
@[simp] theorem intV_add (k : IntKind) (a b : Int) : intV .add k a b = some (.int k (k.wrap (a + b))) := rfl
@[simp] theorem intV_sub (k : IntKind) (a b : Int) : intV .sub k a b = some (.int k (k.wrap (a - b))) := rfl
@[simp] theorem intV_mul (k : IntKind) (a b : Int) : intV .mul k a b = some (.int k (k.wrap (a * b))) := rfl
@[simp] theorem intV_quo (k : IntKind) (a b : Int) : intV .quo k a b = if b = 0 then none else some (.int k (k.wrap (a.tdiv b))) := rfl
@[simp] theorem intV_rem (k : IntKind) (a b : Int) : intV .rem k a b = if b = 0 then none else some (.int k (a.tmod b)) := rfl
@[simp] theorem intV_eql (k : IntKind) (a b : Int) : intV .eql k a b = some (.bool (decide (a = b))) := by simp [intV, ieq]
@[simp] theorem intV_neq (k : IntKind) (a b : Int) : intV .neq k a b = some (.bool (!decide (a = b))) := by simp [intV, ine]
@[simp] theorem intV_lss (k : IntKind) (a b : Int) : intV .lss k a b = some (.bool (decide (a < b))) := rfl
@[simp] theorem intV_leq (k : IntKind) (a b : Int) : intV .leq k a b = some (.bool (decide (a ≤ b))) := rfl
@[simp] theorem intV_gtr (k : IntKind) (a b : Int) : intV .gtr k a b = some (.bool (decide (b < a))) := rfl
@[simp] theorem intV_geq (k : IntKind) (a b : Int) : intV .geq k a b = some (.bool (decide (b ≤ a))) := rfl
@[simp] theorem un_not (b : Bool) : dUn .not (.val (.bool b)) = some (.val (.bool (!b))) := rfl
@[simp] theorem un_neg (k : IntKind) (x : Int) : dUn .neg (.val (.int k x)) = some (.val (.int k (k.wrap (0 - x)))) := rfl
@[simp] theorem bi_len (t : TypeId) (x : D) : builtinD P .len [t] [x] n = (dLen P t x).map fun d => (d, n, []) := rfl
@[simp] theorem bi_append (t : TypeId) (s x : D) : builtinD P .append [t, t] [s, x] n = dAppend P t s x n := by simp [builtinD]
@[simp] theorem bi_min (ts : List TypeId) (xs : List D) : builtinD P .min ts xs n = (dMinMax false xs).map fun d => (d, n, []) := by
  unfold builtinD; rfl
@[simp] theorem bi_max (ts : List TypeId) (xs : List D) : builtinD P .max ts xs n = (dMinMax true xs).map fun d => (d, n, []) := by
  unfold builtinD; rfl
@[simp] theorem minD (k k' : IntKind) (x y : Int) : dMinMax false [.val (.int k x), .val (.int k' y)] = some (.val (.int k (if y < x then y else x))) := rfl
@[simp] theorem maxD (k k' : IntKind) (x y : Int) : dMinMax true [.val (.int k x), .val (.int k' y)] = some (.val (.int k (if x < y then y else x))) := rfl
@[simp] theorem len_sl (t id off : Nat) (cap : Option Nat) (sz : Nat) (es : List D) : dLen P t (.sl id off cap sz es) = if (tyElem P t).isSome = true then some (ci es.length) else none := rfl
@[simp] theorem len_str (t : Nat) (s : ByteArray) : dLen P t (.val (.string s)) = if tyStr P t = true then some (ci s.size) else none := rfl
@[simp] theorem dIdx_none (d : Nat) : dIdx none d = some d := rfl
@[simp] theorem dIdx_some (k : IntKind) (x : Int) (d : Nat) : dIdx (some (.val (.int k x))) d = if 0 ≤ x then some x.toNat else none := rfl

/-! ### effects on what is there -/
@[simp] theorem appE_wr (i k : Nat) (c : D) (E : List Eff) (d : D) : appE (.wr i k c :: E) d = appE E (D.wr i k c d) := rfl
@[simp] theorem appE_kill (i : Nat) (E : List Eff) (d : D) : appE (.kill i :: E) d = appE E (d.kill i) := rfl
@[simp] theorem app_wr1 (i k : Nat) (c d : D) : (Eff.wr i k c).app d = D.wr i k c d := rfl
@[simp] theorem app_kill1 (i : Nat) (d : D) : (Eff.kill i).app d = d.kill i := rfl
@[simp] theorem wr_val (i k : Nat) (c : D) (v : Value) : D.wr i k c (.val v) = .val v := rfl
@[simp] theorem wr_bad (i k : Nat) (c : D) : D.wr i k c .bad = .bad := rfl
@[simp] theorem wr_agg (i k : Nat) (c : D) (cs : List D) : D.wr i k c (.agg cs) = .agg (cs.map (D.wr i k c)) := by simp [D.wr, wrL_map]
@[simp] theorem wr_tup (i k : Nat) (c : D) (cs : List D) : D.wr i k c (.tup cs) = .tup (cs.map (D.wr i k c)) := by simp [D.wr, wrL_map]
@[simp] theorem wr_fn (i k : Nat) (c : D) (f : Fn) (cs : List D) : D.wr i k c (.fn f cs) = .fn f (cs.map (D.wr i k c)) := by simp [D.wr, wrL_map]
@[simp] theorem kill_val (i : Nat) (v : Value) : (D.val v).kill i = .val v := rfl
@[simp] theorem kill_bad (i : Nat) : D.bad.kill i = .bad := rfl
@[simp] theorem kill_agg (i : Nat) (cs : List D) : (D.agg cs).kill i = .agg (cs.map (D.kill i)) := by simp [D.kill, killL_map]
@[simp] theorem kill_tup (i : Nat) (cs : List D) : (D.tup cs).kill i = .tup (cs.map (D.kill i)) := by simp [D.kill, killL_map]
@[simp] theorem kill_fn (i : Nat) (f : Fn) (cs : List D) : (D.fn f cs).kill i = .fn f (cs.map (D.kill i)) := by simp [D.kill, killL_map]
@[simp] theorem wr_pt_ne {i id : Nat} (h : id ≠ i) (k off : Nat) (c : D) (cs : List D) : D.wr i k c (.pt id off cs) = .pt id off (cs.map (D.wr i k c)) := by simp [D.wr, wrL_map, h]
@[simp] theorem wr_pt_eq {i k off : Nat} (h : off ≤ k) (c : D) (cs : List D) : D.wr i k c (.pt i off cs) = .pt i off ((cs.map (D.wr i k c)).set (k - off) c) := by simp [D.wr, wrL_map, h]
@[simp] theorem wr_sl_ne {i id : Nat} (h : id ≠ i) (k off : Nat) (cap : Option Nat) (sz : Nat) (c : D) (cs : List D) : D.wr i k c (.sl id off cap sz cs) = .sl id off cap sz (cs.map (D.wr i k c)) := by simp [D.wr, wrL_map, h]
@[simp] theorem wr_sl_eq {i k off : Nat} (h : off ≤ k) (cap : Option Nat) (sz : Nat) (c : D) (cs : List D) : D.wr i k c (.sl i off cap sz cs) = .sl i off cap sz (setFlat (cs.map (D.wr i k c)) (k - off) c) := by simp [D.wr, wrL_map, h]
@[simp] theorem kill_pt_ne {i id : Nat} (h : id ≠ i) (off : Nat) (cs : List D) : (D.pt id off cs).kill i = .pt id off (cs.map (D.kill i)) := by simp [D.kill, killL_map, h]
@[simp] theorem kill_pt_eq (i off : Nat) (cs : List D) : (D.pt i off cs).kill i = .bad := by simp [D.kill]
@[simp] theorem kill_sl_ne {i id : Nat} (h : id ≠ i) (off : Nat) (cap : Option Nat) (sz : Nat) (cs : List D) : (D.sl id off cap sz cs).kill i = .sl id off cap sz (cs.map (D.kill i)) := by simp [D.kill, killL_map, h]
@[simp] theorem kill_sl_eq (i off : Nat) (cap : Option Nat) (sz : Nat) (cs : List D) : (D.sl i off cap sz cs).kill i = .bad := by simp [D.kill]
@[simp] theorem wr_nilD (i k : Nat) (c : D) : D.wr i k c nilD = nilD := by
  by_cases h : 0 = i ∧ 0 ≤ k <;> simp [nilD, D.wr, wrL, setFlat]
@[simp] theorem kill_nilD {i : Nat} (h : i ≠ 0) : nilD.kill i = nilD := by simp [nilD, D.kill, killL, Ne.symm h]
@[simp] theorem wrs_cons (i k : Nat) (c : D) (cs : List D) : wrs i k (c :: cs) = .wr i k c :: wrs i (k + 1) cs := rfl
@[simp] theorem wrs_nil (i k : Nat) : wrs i k [] = [] := rfl
@[simp] theorem has_val (p : Nat → Bool) (v : Value) : (D.val v).has p = false := rfl
@[simp] theorem has_agg (p : Nat → Bool) (cs : List D) : (D.agg cs).has p = cs.any (D.has p) := by simp [D.has, hasL_any]
theorem has_sl {i id : Nat} (h : id ≠ i) (off : Nat) (cap : Option Nat) (sz : Nat) (cs : List D) : (D.sl id off cap sz cs).has (· == i) = cs.any (D.has (· == i)) := by simp [D.has, hasL_any, h]
@[simp] theorem has_nilD {i : Nat} (h : i ≠ 0) : nilD.has (· == i) = false := by simp [nilD, D.has, hasL, Ne.symm h]
theorem has_lst {α : Type} [Enc α] {i : Nat} (h : i ≠ 0) (l : List α) : (lst l).any (D.has (· == i)) = false := by
  rw [List.any_eq_false]; intro d hd; simp [(lst_fix l d hd).has h]
@[simp] theorem has_sll {α : Type} [Enc α] {i id : Nat} (h : id ≠ i) (h0 : i ≠ 0) (off : Nat) (cap : Option Nat) (sz : Nat) (l : List α) : (D.sl id off cap sz (lst l)).has (· == i) = false := by
  rw [has_sl h, has_lst h0]
@[simp] theorem leaf_val (v : Value) : (D.val v).leaf = true := rfl
@[simp] theorem leaf_sl (id off : Nat) (cap : Option Nat) (sz : Nat) (es : List D) : (D.sl id off cap sz es).leaf = true := rfl
@[simp] theorem leaf_pt (id off : Nat) (es : List D) : (D.pt id off es).leaf = true := rfl
@[simp] theorem leaf_fn (f : Fn) (es : List D) : (D.fn f es).leaf = true := rfl
@[simp] theorem oneCell_int (k : IntKind) (x : Int) : (Value.int k x).oneCell' = true := rfl
@[simp] theorem oneCell_bool (b : Bool) : (Value.bool b).oneCell' = true := rfl
@[simp] theorem oneCell_str (b : ByteArray) : (Value.string b).oneCell' = true := rfl
@[simp] theorem nilD_cells : nilD.cells = [nilD] := rfl
@[simp] theorem nilD_good : nilD.good = true := rfl
@[simp] theorem nilD_leaf : nilD.leaf = true := rfl
@[simp] theorem own0_val (v : Value) : (D.val v).own0 = true := rfl
@[simp] theorem own0_nil : nilD.own0 = true := rfl

/-- appending to one's own -/
theorem append_own {t id off id2 off2 sz sz2 esz by_ : Nat} {cap cap2 : Option Nat} {es xs z : List D} (h0 : id ≠ 0) (h1 : (tyElem P t).bind (tySz P) = some esz) (h2 : (tyElem P t).bind (tyBytes P) = some by_)
    (h3 : (tyElem P t).bind (tyZero P) = some z) (h4 : esz ≠ 0) (h5 : z.length = esz) (h6 : sz = esz ∨ cap = some 0) (h7 : sz2 = esz ∨ xs = []) (h8 : (es.length + xs.length) * by_ ≤ 140737488355328)
    (h9 : es.length + xs.length ≤ 140737488355328) (h10 : ((flat xs).all fun c => c.leaf && c.good) = true) :
    dAppend P t (.sl id off cap sz es) (.sl id2 off2 cap2 sz2 xs) n = some (.sl n 0 none esz ((es ++ xs).map (D.kill id)), n + 1, [.kill id]) := by
  simp only [dAppend, h1, h2, h3]
  rw [if_pos ⟨h4, h5, h6, h7, h8, h9, h10⟩, if_neg h0]
end
end Go.Cv

namespace Go.Cv
open Go Enc

/-! ### kinds of values -/
instance : Enc Int where
  enc := ci
  sz := 1
  sz0 := by decide
  len _ := rfl
  good _ := rfl
  fix _ := fix_val _
  lv x c hc := by simp [cells_val] at hc; subst hc; exact ⟨rfl, rfl⟩
  siz _ := 0
instance : Enc Bool where
  enc := bi
  sz := 1
  sz0 := by decide
  len _ := rfl
  good _ := rfl
  fix _ := fix_val _
  lv x c hc := by simp [cells_val] at hc; subst hc; exact ⟨rfl, rfl⟩
  siz _ := 0
instance {α : Type} [Enc α] : Enc (List α) where
  enc := cl
  sz := 1
  sz0 := by decide
  len _ := rfl
  good _ := rfl
  fix := fix_cl
  lv x c hc := by simp at hc; subst hc; exact ⟨rfl, rfl⟩
  siz := sizL
@[simp] theorem enc_int (x : Int) : enc x = ci x := rfl
@[simp] theorem enc_bool (x : Bool) : enc x = bi x := rfl
@[simp] theorem enc_list {α : Type} [Enc α] (x : List α) : enc x = cl x := rfl
@[simp] theorem sz_int : Enc.sz Int = 1 := rfl
@[simp] theorem sz_bool : Enc.sz Bool = 1 := rfl
@[simp] theorem sz_list {α : Type} [Enc α] : Enc.sz (List α) = 1 := rfl
@[simp] theorem siz_int (x : Int) : siz x = 0 := rfl
@[simp] theorem siz_bool (x : Bool) : siz x = 0 := rfl
@[simp] theorem siz_list {α : Type} [Enc α] (x : List α) : siz x = sizL x := rfl

def putC (e : D) (k : Nat) (c : D) : D := match e with | .agg cs => D.agg (cs.set k c) | _ => c
theorem setFlat_cons (e : D) (es : List D) (k : Nat) (c : D) : setFlat (e :: es) k c = if k < e.cells.length then putC e k c :: es else e :: setFlat es (k - e.cells.length) c := rfl
theorem setFlat_lst {α : Type} [Enc α] {c : D} {x' : α} {j : Nat} (hj : j < Enc.sz α) : ∀ (xs : List α) (k : Nat), (h : k < xs.length) → enc x' = putC (enc (ix xs k)) j c →
    setFlat (lst xs) (k * Enc.sz α + j) c = lst (xs.set k x')
  | [], k, h, _ => by simp at h
  | x :: xs, 0, h, hx => by
    rw [lst_cons, Nat.zero_mul, Nat.zero_add, setFlat_cons, if_pos (by rw [Enc.len]; exact hj), List.set_cons_zero, lst_cons]
    rw [ix_zero] at hx
    rw [hx]
  | x :: xs, k + 1, h, hx => by
    rw [lst_cons, setFlat_cons, if_neg (by rw [Enc.len, Nat.succ_mul]; omega), List.set_cons_succ, lst_cons, Enc.len]
    rw [ix_succ] at hx
    have : (k + 1) * Enc.sz α + j - Enc.sz α = k * Enc.sz α + j := by rw [Nat.succ_mul]; omega
    rw [this, setFlat_lst hj xs k (by simpa using h) hx]
@[simp] theorem setFlat_int (v : Int) : ∀ (xs : List Int) (k : Nat), setFlat (lst xs) k (D.val (.int .i64 v)) = lst (xs.set k v)
  | [], _ => rfl
  | x :: xs, 0 => rfl
  | x :: xs, k + 1 => by rw [lst_cons, setFlat_cons]; simp [setFlat_int v xs k]
@[simp] theorem setFlat_bool (v : Bool) : ∀ (xs : List Bool) (k : Nat), setFlat (lst xs) k (D.val (.bool v)) = lst (xs.set k v)
  | [], _ => rfl
  | x :: xs, 0 => rfl
  | x :: xs, k + 1 => by rw [lst_cons, setFlat_cons]; simp [setFlat_bool v xs k, cells_val]
@[simp] theorem setFlat_list {α : Type} [Enc α] (v : List α) : ∀ (xs : List (List α)) (k : Nat), setFlat (lst xs) k (cl v) = lst (xs.set k v)
  | [], _ => rfl
  | x :: xs, 0 => rfl
  | x :: xs, k + 1 => by rw [lst_cons, setFlat_cons]; simp [setFlat_list v xs k]
theorem sizL_int (xs : List Int) : sizL xs = xs.length := by
  induction xs with
  | nil => rfl
  | cons x xs ih => simp [ih]; omega
@[simp] theorem fz_int (l : List Int) : fz 1 (lst l) = cl l := rfl
@[simp] theorem fz_bool (l : List Bool) : fz 1 (lst l) = cl l := rfl
@[simp] theorem fz_list {α : Type} [Enc α] (l : List (List α)) : fz 1 (lst l) = cl l := rfl
@[simp] theorem snoc_int (xs : List Int) (x : Int) : lst xs ++ [ci x] = lst (xs ++ [x]) := by simp [lst]
@[simp] theorem snoc_bool (xs : List Bool) (x : Bool) : lst xs ++ [bi x] = lst (xs ++ [x]) := by simp [lst]
@[simp] theorem snoc_list {α : Type} [Enc α] (xs : List (List α)) (x : List α) : lst xs ++ [cl x] = lst (xs ++ [x]) := by simp [lst]

/-! ### names below n -/
@[simp] theorem low_cl {α : Type} [Enc α] {n : Nat} (hn : n ≠ 0) (xs : List α) : (cl xs).Low n := (fix_cl xs).low hn
@[simp] theorem low_enc {α : Type} [Enc α] {n : Nat} (hn : n ≠ 0) (x : α) : (enc x).Low n := (Enc.fix x).low hn
@[simp] theorem low_ow {α : Type} [Enc α] {n id off : Nat} {cap : Option Nat} {sz : Nat} (hn : id < n) (xs : List α) : (D.sl id off cap sz (lst xs)).Low n := by
  intro i hi
  simp only [D.ids, List.mem_cons] at hi
  rcases hi with rfl | hi
  · exact hn
  · obtain ⟨d, hd, hi⟩ := mem_idsL hi
    rw [(lst_fix xs d hd).ids i hi]; omega
theorem low_agg {n : Nat} {cs : List D} : (D.agg cs).Low n ↔ ∀ d ∈ cs, d.Low n := by
  constructor
  · intro h d hd i hi; exact h i (by simp only [D.ids]; exact in_idsL0 hi hd)
  · intro h i hi
    simp only [D.ids] at hi
    obtain ⟨d, hd, hi⟩ := mem_idsL hi
    exact h d hd i hi
theorem low_pt {n id off : Nat} {cs : List D} : (D.pt id off cs).Low n ↔ id < n ∧ ∀ d ∈ cs, d.Low n := by
  constructor
  · intro h; exact ⟨h id (by simp [D.ids]), fun d hd i hi => h i (by simp only [D.ids, List.mem_cons]; exact .inr (in_idsL0 hi hd))⟩
  · intro h i hi
    simp only [D.ids, List.mem_cons] at hi
    rcases hi with rfl | hi
    · exact h.1
    · obtain ⟨d, hd, hi⟩ := mem_idsL hi
      exact h.2 d hd i hi
theorem low_fn {n : Nat} {f : Fn} {cs : List D} : (D.fn f cs).Low n ↔ ∀ d ∈ cs, d.Low n := by
  constructor
  · intro h d hd i hi; exact h i (by simp only [D.ids]; exact in_idsL0 hi hd)
  · intro h i hi
    simp only [D.ids] at hi
    obtain ⟨d, hd, hi⟩ := mem_idsL hi
    exact h d hd i hi
@[simp] theorem low_nilD {n : Nat} (hn : n ≠ 0) : nilD.Low n := by
  intro i hi
  simp only [nilD, D.ids, idsL, List.mem_cons, List.not_mem_nil, or_false] at hi
  omega

/-! ### what a call leaves -/
def frzN (n : Nat) (d : D) : D := (d.ren (renId n [])).norm
theorem leave0 {n : Nat} {d : D} {E : List Eff} (h : Loc n E) : leave 0 n d E = (frzN n d, n, []) := leave_loc h
theorem renId_0 {n : Nat} (hn : n ≠ 0) (K : List Nat) : renId n K 0 = 0 := by
  have : 0 < n := by omega
  simp [renId, this]
theorem renId_new {n i : Nat} (h : n ≤ i) : renId n [] i = 0 := by
  have : ¬ i < n := by omega
  simp [renId, this, posOf]
theorem frzN_fix {n : Nat} {d : D} (hn : n ≠ 0) (h : d.Fix) : frzN n d = d := by unfold frzN; rw [h.ren (renId_0 hn _), h.norm]
@[simp] theorem frzN_val (n : Nat) (v : Value) : frzN n (.val v) = .val v := rfl
@[simp] theorem frzN_cl {α : Type} [Enc α] {n : Nat} (hn : n ≠ 0) (xs : List α) : frzN n (cl xs) = cl xs := frzN_fix hn (fix_cl xs)
@[simp] theorem frzN_enc {α : Type} [Enc α] {n : Nat} (hn : n ≠ 0) (x : α) : frzN n (enc x) = enc x := frzN_fix hn (Enc.fix x)
@[simp] theorem frzN_nil {n : Nat} (hn : n ≠ 0) : frzN n nilD = fz 0 [] := by
  simp [frzN, nilD, D.ren, renL, D.norm, normL, renId_0 hn]
@[simp] theorem frzN_ow {α : Type} [Enc α] {n id off sz : Nat} {cap : Option Nat} (hn : n ≠ 0) (h : n ≤ id) (xs : List α) : frzN n (.sl id off cap sz (lst xs)) = fz sz (lst xs) := by
  have h1 : renL (renId n []) (lst xs) = lst xs := by rw [renL_map]; exact lst_map (fun d hd => hd.ren (renId_0 hn _)) xs
  have h2 : normL (lst xs) = lst xs := by rw [normL_map]; exact lst_map (fun d hd => hd.norm) xs
  simp only [frzN, D.ren, h1, renId_new h, D.norm, if_true, h2]
@[simp] theorem frzN_agg (n : Nat) (cs : List D) : frzN n (.agg cs) = .agg (cs.map (frzN n)) := by simp [frzN, D.ren, D.norm, renL_map, normL_map]
@[simp] theorem frzN_tup (n : Nat) (cs : List D) : frzN n (.tup cs) = .tup (cs.map (frzN n)) := by simp [frzN, D.ren, D.norm, renL_map, normL_map]
theorem leave1 {n : Nat} {d : D} {E : List Eff} {K : List Nat} (h : Loc n E) (hK : (d.ids.filter (n ≤ ·)).eraseDups = K) : leave 1 n d E = (d.ren (renId n K), n + K.length, []) := by
  unfold leave
  have : keptIds 1 n d [] = K := by simp [keptIds, hK]
  simp [oldE_loc h, this]
theorem leave1_ow {α : Type} [Enc α] {n id off : Nat} {cap : Option Nat} {sz : Nat} {E : List Eff} (hn : n ≠ 0) (h : Loc n E) (hid : n ≤ id) (xs : List α) : leave 1 n (.sl id off cap sz (lst xs)) E = (.sl n off cap sz (lst xs), n + 1, []) := by
  have hz : (idsL (lst xs)).filter (fun i => decide (n ≤ i)) = [] := by
    rw [List.filter_eq_nil_iff]
    intro i hi
    obtain ⟨d, hd, hi⟩ := mem_idsL hi
    rw [(lst_fix xs d hd).ids i hi]; simp; omega
  rw [leave1 (K := [id]) h (by simp only [D.ids, List.filter_cons, hid, decide_true, if_true, hz]; rfl)]
  have h1 : renL (renId n [id]) (lst xs) = lst xs := by rw [renL_map]; exact lst_map (fun d hd => hd.ren (renId_0 hn _)) xs
  have h2 : renId n [id] id = n := by
    have : ¬ id < n := by omega
    simp [renId, this, posOf]
  simp [D.ren, h1, h2]
theorem leave1_low {n : Nat} {d : D} {E : List Eff} (h : Loc n E) (hd : d.Low n) : leave 1 n d E = (d, n, []) := by
  rw [leave1 (K := []) h (by
    have : d.ids.filter (fun i => decide (n ≤ i)) = [] := by
      rw [List.filter_eq_nil_iff]; intro i hi; have := hd i hi; simp; omega
    rw [this]; rfl), ren_fix (fun i hi => by simp [renId, hd i hi])]
  rfl
end Go.Cv

namespace Go.Cv
open Go Enc
/-! ### calls -/
theorem call_runs0 {A : Cfg} {f : FuncId} {fn : Func} {c : Code} {ds : List D} {n : Nat} {r : D} (he : A.ext f = none) (hf : A.P.funcs[f]? = some fn) (hb : fn.body = some c) (hok : fnOk fn c = true) (hk : A.keep f = 0)
    (hlow : ∀ d ∈ ds, d.Low n)
    (h : Runs (A.code c (argsFr ds) n) (fun x fr _ E => (x = .normal ∨ x = .ret) ∧ Loc n E ∧ ∃ d, resD A.P fr fn.results.toList = some d ∧ frzN n d = r)) : A.call f ds n = some (r, n, []) := by
  refine call_runs he hf hb hok hlow (h.mono fun x fr m E ⟨h1, h2, d, h3, h4⟩ => ⟨h1, d, h3, ?_⟩)
  rw [hk, leave0 h2, h4]
/-- a result that keeps its names -/
def keptD (n : Nat) (d : D) : D × Nat := let K := (d.ids.filter (n ≤ ·)).eraseDups; (d.ren (renId n K), n + K.length)
theorem call_runs1 {A : Cfg} {f : FuncId} {fn : Func} {c : Code} {ds : List D} {n m : Nat} {r : D} (he : A.ext f = none) (hf : A.P.funcs[f]? = some fn) (hb : fn.body = some c) (hok : fnOk fn c = true) (hk : A.keep f = 1)
    (hlow : ∀ d ∈ ds, d.Low n)
    (h : Runs (A.code c (argsFr ds) n) (fun x fr _ E => (x = .normal ∨ x = .ret) ∧ Loc n E ∧ ∃ d, resD A.P fr fn.results.toList = some d ∧ keptD n d = (r, m))) : A.call f ds n = some (r, m, []) := by
  refine call_runs he hf hb hok hlow (h.mono fun x fr m' E ⟨h1, h2, d, h3, h4⟩ => ⟨h1, d, h3, ?_⟩)
  rw [hk, leave1 h2 rfl]
  have e1 := congrArg Prod.fst h4
  have e2 := congrArg Prod.snd h4
  simp only [keptD] at e1 e2
  rw [e1, e2]
theorem keptD_low {n : Nat} {d : D} (hd : d.Low n) : keptD n d = (d, n) := by
  have h := leave1_low (E := []) (Loc.nil n) hd
  rw [leave1 (Loc.nil n) rfl] at h
  simp only [Prod.mk.injEq, Option.some.injEq] at h
  simp only [keptD, Prod.mk.injEq]
  exact ⟨h.1, h.2.1⟩
@[simp] theorem keptD_val (n : Nat) (v : Value) : keptD n (.val v) = (.val v, n) := keptD_low (low_val n v)
@[simp] theorem keptD_nil {n : Nat} (hn : n ≠ 0) : keptD n nilD = (nilD, n) := keptD_low (low_nilD hn)
@[simp] theorem keptD_ow {α : Type} [Enc α] {n id off : Nat} {cap : Option Nat} {sz : Nat} (hn : n ≠ 0) (hid : n ≤ id) (xs : List α) : keptD n (.sl id off cap sz (lst xs)) = (.sl n off cap sz (lst xs), n + 1) := by
  have h := leave1_ow (sz := sz) (cap := cap) (off := off) hn (Loc.nil n) hid xs
  rw [leave1 (Loc.nil n) rfl] at h
  simp only [Prod.mk.injEq] at h
  simp only [keptD, Prod.mk.injEq]
  exact ⟨h.1, h.2.1⟩
theorem ids_lst_fix {α : Type} [Enc α] (xs : List α) (p : Nat → Bool) (hp : p 0 = false) : (idsL (lst xs)).filter p = [] := by
  rw [List.filter_eq_nil_iff]
  intro i hi
  obtain ⟨d, hd, hi⟩ := mem_idsL hi
  rw [(lst_fix xs d hd).ids i hi, hp]; simp
theorem ids_fix {d : D} (h : d.Fix) (p : Nat → Bool) (hp : p 0 = false) : d.ids.filter p = [] := by
  rw [List.filter_eq_nil_iff]
  intro i hi
  rw [h.ids i hi, hp]; simp
/-- a slice of one's own beside what has no names -/
theorem keptD_tup_ow {α : Type} [Enc α] {n id off : Nat} {cap : Option Nat} {sz : Nat} {d : D} (hn : n ≠ 0) (hid : n ≤ id) (xs : List α) (hd : d.Fix) :
    keptD n (.tup [.sl id off cap sz (lst xs), d]) = (.tup [.sl n off cap sz (lst xs), d], n + 1) := by
  have h0 : decide (n ≤ 0) = false := by simp; omega
  have hK : ((D.tup [.sl id off cap sz (lst xs), d]).ids.filter (fun i => decide (n ≤ i))).eraseDups = [id] := by
    simp only [D.ids, idsL, List.append_nil, List.cons_append, List.filter_cons, List.filter_append, hid, decide_true, if_true, ids_lst_fix xs (fun i => decide (n ≤ i)) h0, ids_fix hd (fun i => decide (n ≤ i)) h0]
    rfl
  simp only [keptD, hK]
  have h1 : renL (renId n [id]) (lst xs) = lst xs := by rw [renL_map]; exact lst_map (fun d hd => hd.ren (renId_0 hn _)) xs
  have h2 : renId n [id] id = n := by
    have : ¬ id < n := by omega
    simp [renId, this, posOf]
  simp [D.ren, renL, h1, h2, hd.ren (renId_0 hn [id])]
theorem nz_cfg {A : Cfg} (hx : ∀ f, A.ext f = none) : CallNz A.call := by
  intro f ds n d n' E h
  obtain ⟨k, hk⟩ := call_some.1 h
  exact (nz_both (A := A) (fun f h he => by rw [hx f] at he; simp at he) k).2 _ _ _ _ _ _ hk
end Go.Cv

namespace Go.Cv
open Go Enc
/-! ### the structs of the program -/
structure Ent where
  row : List Int
  w : Int
  deriving DecidableEq, Inhabited
instance : Enc Ent where
  enc e := .agg [cl e.row, ci e.w]
  sz := 2
  sz0 := by decide
  len _ := rfl
  good _ := rfl
  fix e := fix_agg (by intro d hd; simp at hd; rcases hd with rfl | rfl; exact fix_cl _; exact fix_val _)
  lv x c hc := by simp [cells_agg] at hc; rcases hc with rfl | rfl <;> simp
  siz e := sizL e.row
@[simp] theorem enc_ent (e : Ent) : enc e = .agg [cl e.row, ci e.w] := rfl
@[simp] theorem sz_ent : Enc.sz Ent = 2 := rfl
@[simp] theorem siz_ent (e : Ent) : siz e = sizL e.row := rfl
@[simp] theorem fz_ent (l : List Ent) : fz 2 (lst l) = cl l := rfl
@[simp] theorem snoc_ent (xs : List Ent) (r : List Int) (w : Int) : lst xs ++ [D.agg [cl r, ci w]] = lst (xs ++ [⟨r, w⟩]) := by simp [lst]
/-- a time -/
structure Tim where
  e : Int
  r : Int
  deriving DecidableEq, Inhabited
instance : Enc Tim where
  enc t := .agg [ci t.e, ci t.r]
  sz := 2
  sz0 := by decide
  len _ := rfl
  good _ := rfl
  fix e := fix_agg (by intro d hd; simp at hd; rcases hd with rfl | rfl <;> exact fix_val _)
  lv x c hc := by simp [cells_agg] at hc; rcases hc with rfl | rfl <;> simp
  siz _ := 0
@[simp] theorem enc_tim (t : Tim) : enc t = .agg [ci t.e, ci t.r] := rfl
@[simp] theorem sz_tim : Enc.sz Tim = 2 := rfl
@[simp] theorem siz_tim (t : Tim) : siz t = 0 := rfl
@[simp] theorem fz_tim (l : List Tim) : fz 2 (lst l) = cl l := rfl
@[simp] theorem snoc_tim (xs : List Tim) (e r : Int) : lst xs ++ [D.agg [ci e, ci r]] = lst (xs ++ [⟨e, r⟩]) := by simp [lst]
/-- an update -/
structure Upd where
  row : List Int
  t : Tim
  w : Int
  deriving DecidableEq, Inhabited
instance : Enc Upd where
  enc u := .agg [cl u.row, ci u.t.e, ci u.t.r, ci u.w]
  sz := 4
  sz0 := by decide
  len _ := rfl
  good _ := rfl
  fix e := fix_agg (by intro d hd; simp at hd; rcases hd with rfl | rfl | rfl | rfl; exact fix_cl _; all_goals exact fix_val _)
  lv x c hc := by simp [cells_agg] at hc; rcases hc with rfl | rfl | rfl | rfl <;> simp
  siz e := sizL e.row
@[simp] theorem enc_upd (u : Upd) : enc u = .agg [cl u.row, ci u.t.e, ci u.t.r, ci u.w] := rfl
@[simp] theorem sz_upd : Enc.sz Upd = 4 := rfl
@[simp] theorem siz_upd (u : Upd) : siz u = sizL u.row := rfl
@[simp] theorem fz_upd (l : List Upd) : fz 4 (lst l) = cl l := rfl
@[simp] theorem snoc_upd (xs : List Upd) (ro : List Int) (e r w : Int) : lst xs ++ [D.agg [cl ro, ci e, ci r, ci w]] = lst (xs ++ [⟨ro, ⟨e, r⟩, w⟩]) := by simp [lst]
/-- a view -/
structure Vw where
  since : List Tim
  upper : List Tim
  tr : List Upd
  deriving DecidableEq, Inhabited
instance : Enc Vw where
  enc u := .agg [cl u.since, cl u.upper, cl u.tr]
  sz := 3
  sz0 := by decide
  len _ := rfl
  good _ := rfl
  fix e := fix_agg (by intro d hd; simp at hd; rcases hd with rfl | rfl | rfl <;> exact fix_cl _)
  lv x c hc := by simp [cells_agg] at hc; rcases hc with rfl | rfl | rfl <;> simp
  siz e := sizL e.since + sizL e.upper + sizL e.tr
@[simp] theorem enc_vw (u : Vw) : enc u = .agg [cl u.since, cl u.upper, cl u.tr] := rfl
@[simp] theorem sz_vw : Enc.sz Vw = 3 := rfl
@[simp] theorem siz_vw (e : Vw) : siz e = sizL e.since + sizL e.upper + sizL e.tr := rfl
@[simp] theorem frz_lit (id off : Nat) (cap : Option Nat) (sz : Nat) (d : D) (ds : List D) : frz (.sl id off cap sz (d :: ds)) = fz sz (frz d :: ds.map frz) := by rw [frz_sl]; rfl
@[simp] theorem frz_emp (id off : Nat) (cap : Option Nat) (sz : Nat) : frz (.sl id off cap sz []) = fz sz [] := by rw [frz_sl]; rfl
@[simp] theorem fzc1 (a : Int) : fz 1 [ci a] = cl [a] := rfl
@[simp] theorem fzc2 (a b : Int) : fz 1 [ci a, ci b] = cl [a, b] := rfl
@[simp] theorem fzc3 (a b c : Int) : fz 1 [ci a, ci b, ci c] = cl [a, b, c] := rfl
end Go.Cv

namespace Go.Cv
open Go Enc
/-! ### square tables of 20 by 20 one-cell values -/
class One (α : Type) extends Enc α where
  v : α → Value
  ev : ∀ a, enc a = .val (v a)
  oc : ∀ a, (v a).oneCell' = true
instance : One Int := { v := fun x => .int .i64 x, ev := fun _ => rfl, oc := fun _ => rfl }
instance : One Bool := { v := fun x => .bool x, ev := fun _ => rfl, oc := fun _ => rfl }
section
variable {α : Type} [One α]
def mrow (g : Nat → Nat → α) (x : Nat) : List D := (List.range 20).map fun y => enc (g x y)
def mat (g : Nat → Nat → α) : List D := (List.range 400).map fun k => enc (g (k / 20) (k % 20))
def upd2 (g : Nat → Nat → α) (x y : Nat) (v : α) : Nat → Nat → α := fun a b => if a = x ∧ b = y then v else g a b
@[simp] theorem mat_length (g : Nat → Nat → α) : (mat g).length = 400 := by simp [mat]
@[simp] theorem mrow_length (g : Nat → Nat → α) (x : Nat) : (mrow g x).length = 20 := by simp [mrow]
theorem mat_get (g : Nat → Nat → α) {k : Nat} (h : k < 400) : (mat g)[k]? = some (enc (g (k / 20) (k % 20))) := by simp [mat, h]
theorem mat_val {g : Nat → Nat → α} {d : D} (h : d ∈ mat g) : ∃ v, d = .val v ∧ v.oneCell' = true := by
  simp only [mat, List.mem_map] at h
  obtain ⟨k, _, rfl⟩ := h
  exact ⟨_, One.ev _, One.oc _⟩
theorem mat_map {f : D → D} (hf : ∀ v, f (.val v) = .val v) (g : Nat → Nat → α) : (mat g).map f = mat g := by
  rw [List.map_congr_left (g := id) (fun d hd => by obtain ⟨v, rfl, _⟩ := mat_val hd; exact hf v), List.map_id]
@[simp] theorem mat_row (g : Nat → Nat → α) {x : Nat} (h : x < 20) : ((mat g).drop (x * 20)).take 20 = mrow g x := by
  apply List.ext_getElem?
  intro j
  rw [List.getElem?_take]
  split
  · rename_i hj
    rw [List.getElem?_drop, mat_get g (by omega)]
    simp only [mrow, List.getElem?_map, List.getElem?_range hj, Option.map_some]
    rw [show (x * 20 + j) / 20 = x by omega, show (x * 20 + j) % 20 = j by omega]
  · rw [List.getElem?_eq_none (by simp; omega)]
@[simp] theorem row_cell (g : Nat → Nat → α) (x : Nat) {y : Nat} (h : y < 20) : ((mrow g x).drop y).take 1 = [enc (g x y)] := by
  apply List.ext_getElem?
  intro j
  rw [List.getElem?_take, List.getElem?_drop]
  cases j with
  | zero => simp [mrow, h]
  | succ j => simp
theorem mat_set (g : Nat → Nat → α) {x y : Nat} (hx : x < 20) (hy : y < 20) (v : α) : (mat g).set (x * 20 + y) (enc v) = mat (upd2 g x y v) := by
  apply List.ext_getElem?
  intro k
  by_cases hk : k < 400
  · by_cases he : x * 20 + y = k
    · subst he
      rw [List.getElem?_set_self (by simpa using hk), mat_get _ hk]
      rw [show (x * 20 + y) / 20 = x by omega, show (x * 20 + y) % 20 = y by omega]
      simp [upd2]
    · rw [List.getElem?_set_ne he, mat_get _ hk, mat_get _ hk]
      have : ¬ (k / 20 = x ∧ k % 20 = y) := by omega
      simp [upd2, this]
  · rw [List.getElem?_eq_none (by simp; omega), List.getElem?_eq_none (by simp; omega)]
@[simp] theorem mat_setb (g : Nat → Nat → Bool) {x y : Nat} (hx : x < 20) (hy : y < 20) (v : Bool) : (mat g).set (x * 20 + y) (.val (.bool v)) = mat (upd2 g x y v) := mat_set g hx hy v
@[simp] theorem mat_seti (g : Nat → Nat → Int) {x y : Nat} (hx : x < 20) (hy : y < 20) (v : Int) : (mat g).set (x * 20 + y) (.val (.int .i64 v)) = mat (upd2 g x y v) := mat_set g hx hy v
theorem rep_mat (v : α) : List.replicate 400 (enc v) = mat (fun _ _ => v) := by
  apply List.ext_getElem?
  intro k
  by_cases hk : k < 400
  · rw [mat_get _ hk]
    rw [List.getElem?_eq_getElem (by rw [List.length_replicate]; exact hk), List.getElem_replicate]
  · rw [List.getElem?_eq_none (by rw [List.length_replicate]; omega), List.getElem?_eq_none (by rw [mat_length]; omega)]
@[simp] theorem rep_matb : List.replicate 400 (bi false) = mat (fun _ _ => false) := rep_mat false
@[simp] theorem rep_mati : List.replicate 400 (ci 0) = mat (fun _ _ => (0 : Int)) := rep_mat (0 : Int)
@[simp] theorem mat_take (g : Nat → Nat → α) : (mat g).take 400 = mat g := List.take_of_length_le (by rw [mat_length]; exact Nat.le_refl _)
@[simp] theorem mat_wr (i k : Nat) (c : D) (g : Nat → Nat → α) : (mat g).map (D.wr i k c) = mat g := mat_map (fun _ => rfl) g
@[simp] theorem mat_kill (i : Nat) (g : Nat → Nat → α) : (mat g).map (D.kill i) = mat g := mat_map (fun _ => rfl) g
@[simp] theorem mat_frz (g : Nat → Nat → α) : (mat g).map frz = mat g := mat_map (fun _ => rfl) g
@[simp] theorem mat_norm (g : Nat → Nat → α) : (mat g).map D.norm = mat g := mat_map (fun _ => rfl) g
@[simp] theorem mat_frzN (n : Nat) (g : Nat → Nat → α) : (mat g).map (frzN n) = mat g := mat_map (fun _ => rfl) g
theorem mat_all (id : Nat) (g : Nat → Nat → α) : ((mat g).all fun c => c.leaf && c.good && !c.has (· == id)) = true := by
  rw [List.all_eq_true]
  intro d hd
  obtain ⟨v, rfl, ho⟩ := mat_val hd
  simp [ho]
theorem mat_own (id : Nat) (g : Nat → Nat → α) : (mat g).any (D.has (· == id)) = false := by
  rw [List.any_eq_false]
  intro d hd
  obtain ⟨v, rfl, _⟩ := mat_val hd
  simp
theorem mat_fix (g : Nat → Nat → α) : (D.agg (mat g)).Fix := fix_agg (fun d hd => by obtain ⟨v, rfl, _⟩ := mat_val hd; exact fix_val v)
@[simp] theorem mat_frzA (g : Nat → Nat → α) : frz (.agg (mat g)) = .agg (mat g) := (mat_fix g).frz
@[simp] theorem mat_own0 (g : Nat → Nat → α) : own0L (mat g) = true := by
  have : ∀ l : List D, (∀ d ∈ l, ∃ v, d = .val v) → own0L l = true := by
    intro l
    induction l with
    | nil => intro _; rfl
    | cons x xs ih =>
      intro h
      obtain ⟨v, rfl⟩ := h x (by simp)
      simp only [own0L, D.own0, Bool.true_and]
      exact ih (fun d hd => h d (by simp [hd]))
  exact this _ (fun d hd => by obtain ⟨v, h, _⟩ := mat_val hd; exact ⟨v, h⟩)
@[simp] theorem mat_own0A (g : Nat → Nat → α) : (D.agg (mat g)).own0 = true := mat_own0 g
@[simp] theorem mat_movE (g : Nat → Nat → α) (xs : List D) : movE (.agg (mat g) :: xs) = movE xs := movE_fix (mat_fix g) xs
@[simp] theorem mat_low (n : Nat) (g : Nat → Nat → α) : (D.agg (mat g)).Low n := low_agg.2 (fun d hd => by obtain ⟨v, rfl, _⟩ := mat_val hd; exact low_val n v)
theorem mat_lowp {n id off : Nat} (h : id < n) (g : Nat → Nat → α) : (D.pt id off (mat g)).Low n := low_pt.2 ⟨h, fun d hd => by obtain ⟨v, rfl, _⟩ := mat_val hd; exact low_val n v⟩
/-- a table is laid whole -/
theorem appE_append' (E F : List Eff) (d : D) : appE (E ++ F) d = appE F (appE E d) := appE_append E F d
theorem wrs_pt {i : Nat} : ∀ (vs : List D) (k : Nat) (pre post : List D), (∀ d ∈ vs, ∃ v, d = .val v) → (∀ d ∈ pre, ∃ v, d = .val v) → (∀ d ∈ post, ∃ v, d = .val v) → pre.length = k → vs.length = post.length →
    appE (wrs i k vs) (.pt i 0 (pre ++ post)) = .pt i 0 (pre ++ vs)
  | [], k, pre, post, _, _, _, _, hl => by
    have : post = [] := List.eq_nil_of_length_eq_zero hl.symm
    subst this; rfl
  | d :: vs, k, pre, [], _, _, _, _, hl => by simp at hl
  | d :: vs, k, pre, p :: post, h1, h2, h3, hk, hl => by
    have hmap : ∀ l : List D, (∀ d ∈ l, ∃ v, d = .val v) → l.map (D.wr i k d) = l := fun l h => by
      rw [List.map_congr_left (g := id) (fun x hx => by obtain ⟨v, rfl⟩ := h x hx; rfl), List.map_id]
    rw [wrs_cons, appE_wr, wr_pt_eq (Nat.zero_le _), List.map_append, hmap pre h2, hmap (p :: post) h3, Nat.sub_zero, List.set_append_right _ _ (by omega), hk, Nat.sub_self, List.set_cons_zero]
    have := wrs_pt (i := i) vs (k + 1) (pre ++ [d]) post (fun x hx => h1 x (by simp [hx])) (fun x hx => by
      rcases List.mem_append.1 hx with hx | hx
      · exact h2 x hx
      · simp at hx; subst hx; exact h1 x (by simp)) (fun x hx => h3 x (by simp [hx])) (by simp [hk]) (by simpa using hl)
    simpa using this
@[simp] theorem wrs_mat (i : Nat) (g : Nat → Nat → α) {β : Type} [One β] (g' : Nat → Nat → β) : appE (wrs i 0 (mat g)) (.pt i 0 (mat g')) = .pt i 0 (mat g) := by
  have := wrs_pt (i := i) (mat g) 0 [] (mat g') (fun d hd => by obtain ⟨v, h, _⟩ := mat_val hd; exact ⟨v, h⟩) (by simp) (fun d hd => by obtain ⟨v, h, _⟩ := mat_val hd; exact ⟨v, h⟩) rfl (by simp)
  simpa using this
theorem wrs_ne {i k : Nat} {cs : List D} {d : D} (h : i ∉ d.ids) : appE (wrs i k cs) d = d := by
  induction cs generalizing k with
  | nil => rfl
  | cons c cs ih => rw [wrs_cons, appE_wr]; rw [show D.wr i k c d = d from app_fix (e := .wr i k c) h]; exact ih
@[simp] theorem wrs_cl {β : Type} [Enc β] {i k : Nat} {cs : List D} (h : i ≠ 0) (xs : List β) : appE (wrs i k cs) (cl xs) = cl xs := wrs_ne (fun hm => h ((fix_cl xs).ids _ hm))
@[simp] theorem wrs_pm {β : Type} [One β] {i k id off : Nat} {cs : List D} (h : id ≠ i) (g : Nat → Nat → β) : appE (wrs i k cs) (.pt id off (mat g)) = .pt id off (mat g) := by
  refine wrs_ne (fun hm => ?_)
  simp only [D.ids, List.mem_cons] at hm
  rcases hm with hm | hm
  · exact h hm.symm
  · obtain ⟨d, hd, hm⟩ := mem_idsL hm
    obtain ⟨v, rfl, _⟩ := mat_val hd
    simp [D.ids] at hm
@[simp] theorem wrs_agm {β : Type} [One β] {i k : Nat} {cs : List D} (g : Nat → Nat → β) : appE (wrs i k cs) (.agg (mat g)) = .agg (mat g) := by
  refine wrs_ne (fun hm => ?_)
  simp only [D.ids] at hm
  obtain ⟨d, hd, hm⟩ := mem_idsL hm
  obtain ⟨v, rfl, _⟩ := mat_val hd
  simp [D.ids] at hm
@[simp] theorem Loc_wrs {n i k : Nat} {cs : List D} (h : n ≤ i) : Loc n (wrs i k cs) := Loc.wrs h k cs
@[simp] theorem stOk_mat (id : Nat) (g : Nat → Nat → α) : stOk id (mat g) = true := mat_all id g
end
@[simp] theorem indexAddr_pt {P : Program} (t id off : Nat) (cs : List D) (k : IntKind) (i : Int) : dIndexAddr P t (.pt id off cs) (.val (.int k i)) = (match tyArr P t with
    | some (n, e) => match tySz P e with
      | some sz => if sz ≠ 0 ∧ 0 ≤ i ∧ i < n ∧ i.toNat * sz + sz ≤ cs.length then some (.pt id (off + i.toNat * sz) ((cs.drop (i.toNat * sz)).take sz)) else none
      | none => none
    | none => none) := rfl
theorem if_t {α : Type} {c : Prop} [Decidable c] {a b : α} (h : c) : (if c then a else b) = a := if_pos h
theorem if_f {α : Type} {c : Prop} [Decidable c] {a b : α} (h : ¬ c) : (if c then a else b) = b := if_neg h
@[simp] theorem dBuild_eq (P : Program) (t : Nat) (ps : List (Nat × D)) : dBuild P t ps = (match tyPlaces P t, tyArr P t, tyZero P t with
  | some pl, none, some zs => (dFill (fun i => pl[i]?) zs ps).map D.agg
  | none, some (_, e), some zs =>
    match tySz P e with
    | some sz => (dFill (fun i => some (i * sz, sz)) zs ps).map D.agg
    | none => none
  | _, _, _ => none) := rfl
@[simp] theorem dFill_nil (pl : Nat → Option (Nat × Nat)) (cs : List D) : dFill pl cs [] = some cs := rfl
@[simp] theorem dFill_cons (pl : Nat → Option (Nat × Nat)) (cs : List D) (i : Nat) (x : D) (rest : List (Nat × D)) : dFill pl cs ((i, x) :: rest) = (match pl i with
    | some (off, sz) => if x.good = true ∧ x.cells.length = sz ∧ off + sz ≤ cs.length then dFill pl (putAt cs off x.cells) rest else none
    | none => none) := rfl
@[simp] theorem putAt_eq (cs : List D) (off : Nat) (v : List D) : putAt cs off v = cs.take off ++ v ++ cs.drop (off + v.length) := rfl
@[simp] theorem dBuildSlice_eq (P : Program) (t len : Nat) (parts : List (Nat × D)) (n : Nat) : dBuildSlice P t len parts n = (match (tyElem P t).bind (tySz P), (tyElem P t).bind (tyZero P) with
  | some sz, some z =>
    if sz ≠ 0 ∧ z.length = sz ∧ parts.length = len ∧ len * sz ≤ 16777216 ∧ (parts.zipIdx.all fun x => x.1.1 == x.2 && x.1.2.good && (x.1.2.cells.length == sz)) = true then
      some (.sl n 0 none sz (parts.map (·.2)), n + 1, [])
    else none
  | _, _ => none) := rfl
@[simp] theorem dMake_int (P : Program) (t n : Nat) (k k' : IntKind) (l c : Int) : dMake P t (.val (.int k l)) (.val (.int k' c)) n = (match (tyElem P t).bind (tySz P), (tyElem P t).bind (tyZero P), (tyElem P t).bind (tyBytes P), (tyElem P t).bind (tyAgg P) with
    | some sz, some z, some by_, some a =>
      if sz ≠ 0 ∧ z.length = sz ∧ (a = true ∨ (sz = 1 ∧ (z.all D.leaf) = true)) ∧ 0 ≤ l ∧ l ≤ c ∧ c * by_ ≤ 140737488355328 ∧ c ≤ 140737488355328 then
        some (.sl n 0 none sz (List.replicate l.toNat (zeroElem a z)), n + 1, [])
      else none
    | _, _, _, _ => none) := rfl
@[simp] theorem zeroElem_f (d : D) (l : List D) : zeroElem false (d :: l) = d := rfl
@[simp] theorem zeroElem_t (l : List D) : zeroElem true l = .agg l := rfl
theorem rep_lst {α : Type} [Enc α] (k : Nat) (x : α) : List.replicate k (enc x) = lst (List.replicate k x) := by simp [lst]
@[simp] theorem rep_ci (k : Nat) (x : Int) : List.replicate k (ci x) = lst (List.replicate k x) := rep_lst k x
@[simp] theorem rep_bi (k : Nat) (x : Bool) : List.replicate k (bi x) = lst (List.replicate k x) := rep_lst k x

/-! ### filling what was made -/
theorem setFlat_app {as bs : List D} {k : Nat} {c : D} (h : (flat as).length ≤ k) : setFlat (as ++ bs) k c = as ++ setFlat bs (k - (flat as).length) c := by
  induction as generalizing k with
  | nil => simp
  | cons a as ih =>
    rw [flat_cons, List.length_append] at h
    rw [List.cons_append, setFlat_cons, if_neg (by omega), ih (by omega), flat_cons, List.length_append, List.cons_append]
    congr 3
    omega
theorem setFlat_lapp {α : Type} [Enc α] {xs : List α} {bs : List D} {k : Nat} {c : D} (h : xs.length * Enc.sz α ≤ k) : setFlat (lst xs ++ bs) k c = lst xs ++ setFlat bs (k - xs.length * Enc.sz α) c := by
  rw [setFlat_app (by rw [flat_lst_len]; exact h), flat_lst_len]
@[simp] theorem putC_agg (cs : List D) (k : Nat) (c : D) : putC (.agg cs) k c = .agg (cs.set k c) := rfl
@[simp] theorem putC_val (v : Value) (k : Nat) (c : D) : putC (.val v) k c = c := rfl
@[simp] theorem putC_sl (id off : Nat) (cap : Option Nat) (sz : Nat) (es : List D) (k : Nat) (c : D) : putC (.sl id off cap sz es) k c = c := rfl
@[simp] theorem putC_cl {α : Type} [Enc α] (xs : List α) (k : Nat) (c : D) : putC (cl xs) k c = c := rfl
@[simp] theorem putC_nil (k : Nat) (c : D) : putC nilD k c = c := rfl
@[simp] theorem take_rep_set {α : Type} [Enc α] {xs : List α} {i k : Nat} {z : α} (hi : i < xs.length) : (xs.take i ++ List.replicate (k + 1) z).set i (ix xs i) = xs.take (i + 1) ++ List.replicate k z := by
  have hl : (xs.take i).length = i := by simp; omega
  rw [List.set_append_right _ _ (by omega), hl, Nat.sub_self, List.replicate_succ, List.set_cons_zero, take_ix hi]
  simp
theorem setFlat_rep {α : Type} [Enc α] {xs : List α} {bs : List D} {k : Nat} {c : D} (h : xs.length * Enc.sz α ≤ k) : setFlat (lst xs ++ bs) k c = lst xs ++ setFlat bs (k - xs.length * Enc.sz α) c := setFlat_lapp h
/-! ### slices of frozen slices -/
section
variable {α : Type} [Enc α] {P : Program} {t n : Nat} {xs : List α} {k k' : IntKind}
@[simp] theorem slice_ab {a b : Int} (h0 : 0 ≤ a) (hab : a ≤ b) (hb : b ≤ xs.length) : (dSlice P t (cl xs) (some (.val (.int k a))) (some (.val (.int k' b))) none).map (fun d => (d.norm2, n, ([] : List Eff))) =
    if (tyElem P t).bind (tySz P) = some (Enc.sz α) then some (cl ((xs.take b.toNat).drop a.toNat), n, []) else (dSlice P t (cl xs) (some (.val (.int k a))) (some (.val (.int k' b))) none).map (fun d => (d.norm2, n, ([] : List Eff))) := by
  split
  · rename_i h; exact slice_cl (by simp [h0]) (by simp; omega) (by omega) (by omega) h
  · rfl
@[simp] theorem slice_a {a : Int} (h0 : 0 ≤ a) (hab : a ≤ xs.length) : (dSlice P t (cl xs) (some (.val (.int k a))) none none).map (fun d => (d.norm2, n, ([] : List Eff))) =
    if (tyElem P t).bind (tySz P) = some (Enc.sz α) then some (cl (xs.drop a.toNat), n, []) else (dSlice P t (cl xs) (some (.val (.int k a))) none none).map (fun d => (d.norm2, n, ([] : List Eff))) := by
  split
  · rename_i h
    have := slice_cl (P := P) (n := n) (xs := xs) (lo := some (.val (.int k a))) (hi := none) (a := a.toNat) (b := xs.length) (by simp [h0]) (by simp) (by omega) (Nat.le_refl _) h
    rw [List.take_length] at this; exact this
  · rfl
@[simp] theorem slice_b {b : Int} (h0 : 0 ≤ b) (hab : b ≤ xs.length) : (dSlice P t (cl xs) none (some (.val (.int k b))) none).map (fun d => (d.norm2, n, ([] : List Eff))) =
    if (tyElem P t).bind (tySz P) = some (Enc.sz α) then some (cl (xs.take b.toNat), n, []) else (dSlice P t (cl xs) none (some (.val (.int k b))) none).map (fun d => (d.norm2, n, ([] : List Eff))) := by
  split
  · rename_i h
    have := slice_cl (P := P) (n := n) (xs := xs) (lo := none) (hi := some (.val (.int k b))) (a := 0) (b := b.toNat) (by simp) (by simp [h0]) (by omega) (by omega) h
    rw [List.drop_zero] at this; exact this
  · rfl
end

@[simp] theorem index_mix {α : Type} [Enc α] {P : Program} {t n id off sz k : Nat} {cap : Option Nat} {kd : IntKind} {xs : List α} {z : D} {i : Int} (hid : id ≠ 0) (hs : sz ≠ 0) (h0 : 0 ≤ i) (hi : xs.length = i.toNat) :
    (dIndexAddr P t (.sl id off cap sz (lst xs ++ List.replicate (k + 1) z)) (.val (.int kd i))).map (fun d => (d.norm1, n, ([] : List Eff))) = if (tyElem P t).bind (tySz P) = some sz then some (.pt id (off + i.toNat * sz) z.cells, n, []) else none := by
  have he : (lst xs ++ List.replicate (k + 1) z)[i.toNat]? = some z := by
    rw [List.getElem?_append_right (by simp; omega), lst_length, hi, Nat.sub_self]; rfl
  simp only [dIndexAddr, hs, h0, he, ne_eq, not_false_eq_true, true_and, and_true, Option.bind_some]
  split <;> simp [D.norm1, hid]
@[simp] theorem sfl_ent {xs : List Ent} {bs : List D} {k : Nat} {c : D} (h : xs.length * 2 ≤ k) : setFlat (lst xs ++ bs) k c = lst xs ++ setFlat bs (k - xs.length * 2) c := setFlat_lapp h
@[simp] theorem sfl_tim {xs : List Tim} {bs : List D} {k : Nat} {c : D} (h : xs.length * 2 ≤ k) : setFlat (lst xs ++ bs) k c = lst xs ++ setFlat bs (k - xs.length * 2) c := setFlat_lapp h
@[simp] theorem sfl_upd {xs : List Upd} {bs : List D} {k : Nat} {c : D} (h : xs.length * 4 ≤ k) : setFlat (lst xs ++ bs) k c = lst xs ++ setFlat bs (k - xs.length * 4) c := setFlat_lapp h
end Go.Cv

namespace Go.Cv
open Go Enc Go.RowKit

/-! ### what is given: arguments as readings -/
class Bd (α : Type) where
  bnd : α → Prop
instance : Bd Int := ⟨fun x => -9223372036854775808 ≤ x ∧ x ≤ 9223372036854775807⟩
instance {α : Type} [Bd α] : Bd (List α) := ⟨fun xs => xs.length ≤ 140737488355328 ∧ ∀ x ∈ xs, Bd.bnd x⟩
instance : Bd Ent := ⟨fun e => Bd.bnd e.row ∧ Bd.bnd e.w⟩
instance : Bd Tim := ⟨fun e => Bd.bnd e.e ∧ Bd.bnd e.r⟩
instance : Bd Upd := ⟨fun e => Bd.bnd e.row ∧ Bd.bnd e.t ∧ Bd.bnd e.w⟩
instance : Bd Vw := ⟨fun e => Bd.bnd e.since ∧ Bd.bnd e.upper ∧ Bd.bnd e.tr⟩

/-- cells of a type read as a value of α -/
structure Rd (P : Program) (t : TypeId) (α : Type) [Enc α] [Bd α] : Prop where
  cells : P.cellsOf t = Enc.sz α
  rd : ∀ {H : Type} {e0 : TypeId × Value → H} {w : World} {fuel : Nat} {cs : List Value} {d : DataW H} {ps : List MemPlace}, DataW.trod e0 P w 0 (fun _ => true) true fuel t cs = some (d, ps) →
    (∀ n ∈ d.weights P t, n ≤ reachBytes) → ∃ a : α, RL noPhi w (enc a).cells cs ∧ Bd.bnd a

theorem rl_one {φ : Phi} {w : World} {d : D} {v : Value} (h : R φ w d v) : RL φ w [d] [v] := .cons h .nil

theorem Rd.int {P : Program} {t : TypeId} (hu : P.underlying t = some (.int .i64)) (hc : P.cellsOf t = 1) : Rd P t Int where
  cells := hc
  rd := by
    intro H e0 w fuel cs d ps h _
    obtain ⟨n, rfl, _, hw⟩ := DataW.trod_int hu h
    exact ⟨n, rl_one (.val _), bounds_i64 hw⟩

theorem weightsAll_mem {H : Type} {P : Program} {e : TypeId} : ∀ {ds : List (DataW H)} {j : Nat} {d : DataW H}, ds[j]? = some d → ∀ n ∈ d.weights P e, n ∈ DataW.weightsAll P e ds
  | [], j, d, h => by simp at h
  | x :: xs, 0, d, h => by
    simp at h; subst h
    intro n hn
    simp only [DataW.weightsAll, List.mem_append]; exact .inl hn
  | x :: xs, j + 1, d, h => by
    intro n hn
    simp only [DataW.weightsAll, List.mem_append]
    exact .inr (weightsAll_mem (by simpa using h) n hn)

theorem Rd.slice {P : Program} {t e : TypeId} {α : Type} [Enc α] [Bd α] (hu : P.underlying t = some (.slice e)) (hc : P.cellsOf t = 1) (hb : P.bytesOf e ≠ 0) (he : Rd P e α) : Rd P t (List α) where
  cells := hc
  rd := by
    intro H e0 w fuel cs d ps h hw
    rcases DataW.trod_slice hu h with ⟨rfl, _⟩ | ⟨a, len, cap, elems, rest, n, rfl, rfl, hx, hba, hlc, hcm, hel, hcell, _, _⟩
    · exact ⟨[], rl_one ((R.nil noPhi w).norm), by simp, by simp⟩
    · simp only [Prod.mk.injEq] at hx
      obtain ⟨rfl, _⟩ := hx
      rw [he.cells] at hcell
      have hwl : (elems.length + rest.length) * P.bytesOf e ≤ reachBytes := by
        refine hw _ ?_
        simp [DataW.weights, hu]
      have key : ∀ i, i < len → ∃ x : α, (∃ us, w.cells? 0 (a.add (i * Enc.sz α)) (Enc.sz α) = some us ∧ RL noPhi w (enc x).cells us) ∧ Bd.bnd x := by
        intro i hi
        have h1 := hcell i hi
        obtain ⟨y, hy⟩ : ∃ y, elems[i]? = some y := ⟨_, List.getElem?_eq_getElem (by omega)⟩
        rw [hy] at h1
        cases hcs : w.cells? 0 (a.add (i * Enc.sz α)) (Enc.sz α) with
        | none => rw [hcs] at h1; simp at h1
        | some us =>
          rw [hcs] at h1
          simp only [Option.bind_some] at h1
          obtain ⟨dy, py⟩ := y
          obtain ⟨x, hx1, hx2⟩ := he.rd h1 (fun n hn => hw n (by
            simp only [DataW.weights, hu, List.mem_cons, List.mem_append]
            exact .inr (.inl (weightsAll_mem (j := i) (by simp [hy]) n hn))))
          exact ⟨x, ⟨us, rfl, hx1⟩, hx2⟩
      -- the list
      let f : Nat → α := fun i => if h : i < len then Classical.choose (key i h) else default
      have hf : ∀ i, i < len → (∃ us, w.cells? 0 (a.add (i * Enc.sz α)) (Enc.sz α) = some us ∧ RL noPhi w (enc (f i)).cells us) ∧ Bd.bnd (f i) := by
        intro i hi
        have : f i = Classical.choose (key i hi) := by simp only [f]; rw [dif_pos hi]
        rw [this]
        exact Classical.choose_spec (key i hi)
      let xs : List α := (List.range len).map f
      have hxl : xs.length = len := by simp [xs]
      have hxi : ∀ i, i < len → xs[i]? = some (f i) := fun i hi => by simp [xs, hi]
      refine ⟨xs, rl_one ?_, ?_, ?_⟩
      · -- each cell
        have hcells : ∀ (j : Nat) (dj : D), (flat (lst xs))[j]? = some dj → ∃ u, w.cell? (a.add j) = some u ∧ R noPhi w dj u := by
          intro j dj hj
          have hs0 := Enc.sz0 (α := α)
          have hjl := (List.getElem?_eq_some_iff.1 hj).1
          rw [flat_lst_len, hxl] at hjl
          have hq : j / Enc.sz α < len := by rw [Nat.div_lt_iff_lt_mul (by omega)]; exact hjl
          have hjm : j = j / Enc.sz α * Enc.sz α + j % Enc.sz α := (Nat.div_add_mod' j (Enc.sz α)).symm
          have hr : j % Enc.sz α < Enc.sz α := Nat.mod_lt _ (by omega)
          obtain ⟨⟨us, hus, hrl⟩, _⟩ := hf _ hq
          have hdj : (enc (f (j / Enc.sz α))).cells[j % Enc.sz α]? = some dj := by
            have h1 := flat_drop (lst xs) (j / Enc.sz α) (fun e he => by obtain ⟨x, _, rfl⟩ := lst_mem he; exact Enc.len x)
            have h2 : (lst xs).drop (j / Enc.sz α) = enc (f (j / Enc.sz α)) :: (lst xs).drop (j / Enc.sz α + 1) := by
              rw [List.drop_eq_getElem_cons (by simp [hxl, hq])]
              congr 1
              have := lst_get (xs := xs) (i := j / Enc.sz α) (by omega)
              rw [List.getElem?_eq_getElem (by simp [hxl, hq])] at this
              simp only [Option.some.injEq] at this
              rw [this]
              have h3 := ix_get (xs := xs) (i := j / Enc.sz α) (by omega)
              rw [hxi _ hq, Option.some.injEq] at h3
              rw [h3]
            rw [h2, flat_cons] at h1
            have h4 : ((flat (lst xs)).drop (j / Enc.sz α * Enc.sz α))[j % Enc.sz α]? = some dj := by
              rw [List.getElem?_drop, ← hjm]; exact hj
            rw [← h1, List.getElem?_append_left (by rw [Enc.len]; exact hr)] at h4
            exact h4
          obtain ⟨u, hu1, hu2⟩ := hrl.get hdj
          obtain ⟨_, hul, hcl⟩ := World.cells?_some hus
          refine ⟨u, ?_, hu2⟩
          have h5 := hcl (j % Enc.sz α) hr
          rw [add_add, ← hjm, hu1] at h5
          exact h5
        have hR : R noPhi w (.sl 0 0 none (if (lst xs).isEmpty then 0 else Enc.sz α) (lst xs)) (.slice (some a) (lst xs).length cap) := by
          refine .sl (fun j => (w.cell? (a.add j)).getD undef) (by simp [hxl]; exact hlc) (by simp) (fun e he => ?_) ?_ (fun _ => rfl) (fun j dj hj => ?_) (fun j dj hj => ?_)
          · obtain ⟨x, _, rfl⟩ := lst_mem he
            have : (lst xs).isEmpty = false := by cases hh : lst xs <;> simp_all
            rw [this]; exact Enc.len x
          · unfold Place
            rw [if_pos rfl]
            by_cases hne : (lst xs).isEmpty = true
            · left; rw [if_pos hne]; simp
            · right
              refine ⟨a, rfl, ?_, untracked_no _⟩
              have hl0 : 0 < len := by
                cases hh : lst xs with
                | nil => rw [hh] at hne; simp at hne
                | cons y ys => have := congrArg List.length hh; simp [hxl] at this; omega
              obtain ⟨⟨us, hus, _⟩, _⟩ := hf 0 hl0
              have := World.cells?_block hus (Nat.pos_of_ne_zero Enc.sz0)
              rwa [add_block] at this
          · obtain ⟨u, h1, _⟩ := hcells j dj hj
            simp [h1]
          · obtain ⟨u, h1, h2⟩ := hcells j dj hj
            simpa [h1] using h2
        rw [lst_length, hxl] at hR
        exact hR
      · have : 1 ≤ P.bytesOf e := by omega
        have h1 : elems.length + rest.length ≤ reachBytes := Nat.le_trans (Nat.le_mul_of_pos_right _ (by omega)) hwl
        have := reachBytes_lt
        rw [hxl]; omega
      · intro x hx
        simp only [xs, List.mem_map, List.mem_range] at hx
        obtain ⟨i, hi, rfl⟩ := hx
        exact (hf i hi).2

theorem Rd.field {P : Program} {t i off ft : Nat} {H : Type} {e0 : TypeId × Value → H} {w : World} {fuel : Nat} {cs : List Value} {d : DataW H} {ps : List MemPlace} {α : Type} [Enc α] [Bd α] (hf : tyField P t i = some (off, ft)) (hr : Rd P ft α)
    (h : DataW.trod e0 P w 0 (fun _ => true) true fuel t cs = some (d, ps)) (hw : ∀ n ∈ d.weights P t, n ≤ reachBytes) : ∃ a : α, RL noPhi w (enc a).cells ((cs.drop off).take (Enc.sz α)) ∧ Bd.bnd a := by
  unfold tyField at hf
  split at hf
  · rename_i fs hu
    obtain ⟨xs, n, rfl, hx, hl, hlen, hget⟩ := DataW.trod_struct hu h
    cases hfi : fs[i]? with
    | none => simp [hfi] at hf
    | some f =>
      simp [hfi] at hf
      obtain ⟨rfl, rfl⟩ := hf
      have h1 := hget i f hfi
      have hil := (Array.getElem?_eq_some_iff.1 hfi).1
      obtain ⟨y, hy⟩ : ∃ y, xs[i]? = some y := ⟨_, List.getElem?_eq_getElem (by omega)⟩
      rw [hy, hr.cells] at h1
      simp only [Prod.mk.injEq] at hx
      obtain ⟨rfl, _⟩ := hx
      obtain ⟨dy, py⟩ := y
      refine hr.rd h1 (fun n hn => hw n ?_)
      simp only [DataW.weights, hu]
      exact DataW.weights_mem_each (j := i) (t := f.type) (d := dy) (by simp [hfi]) (by simp [hy]) n hn
  · simp at hf
theorem Rd.len {P : Program} {t i off ft : Nat} {H : Type} {e0 : TypeId × Value → H} {w : World} {fuel : Nat} {cs : List Value} {d : DataW H} {ps : List MemPlace} (hf : tyField P t i = some (off, ft))
    (h : DataW.trod e0 P w 0 (fun _ => true) true fuel t cs = some (d, ps)) : cs.length = P.cellsOf t := by
  unfold tyField at hf
  split at hf
  · rename_i fs hu
    obtain ⟨xs, n, rfl, hx, hl, hlen, hget⟩ := DataW.trod_struct hu h
    exact hl
  · simp at hf

theorem Rd.ent {P : Program} {t t0 t1 : TypeId} (hc : P.cellsOf t = 2) (h0 : tyField P t 0 = some (0, t0)) (h1 : tyField P t 1 = some (1, t1)) (r0 : Rd P t0 (List Int)) (r1 : Rd P t1 Int) : Rd P t Ent where
  cells := hc
  rd := by
    intro H e0 w fuel cs d ps h hw
    obtain ⟨a, ha, ba⟩ := Rd.field h0 r0 h hw
    obtain ⟨b, hb, bb⟩ := Rd.field h1 r1 h hw
    have hl := Rd.len h0 h
    rw [hc] at hl
    match cs, hl with
    | [u, v], _ => exact ⟨⟨a, b⟩, ha.append hb, ba, bb⟩
theorem Rd.tim {P : Program} {t t0 t1 : TypeId} (hc : P.cellsOf t = 2) (h0 : tyField P t 0 = some (0, t0)) (h1 : tyField P t 1 = some (1, t1)) (r0 : Rd P t0 Int) (r1 : Rd P t1 Int) : Rd P t Tim where
  cells := hc
  rd := by
    intro H e0 w fuel cs d ps h hw
    obtain ⟨a, ha, ba⟩ := Rd.field h0 r0 h hw
    obtain ⟨b, hb, bb⟩ := Rd.field h1 r1 h hw
    have hl := Rd.len h0 h
    rw [hc] at hl
    match cs, hl with
    | [u, v], _ => exact ⟨⟨a, b⟩, ha.append hb, ba, bb⟩
theorem Rd.upd {P : Program} {t t0 t1 t2 : TypeId} (hc : P.cellsOf t = 4) (h0 : tyField P t 0 = some (0, t0)) (h1 : tyField P t 1 = some (1, t1)) (h2 : tyField P t 2 = some (3, t2)) (r0 : Rd P t0 (List Int)) (r1 : Rd P t1 Tim) (r2 : Rd P t2 Int) : Rd P t Upd where
  cells := hc
  rd := by
    intro H e0 w fuel cs d ps h hw
    obtain ⟨a, ha, ba⟩ := Rd.field h0 r0 h hw
    obtain ⟨b, hb, bb⟩ := Rd.field h1 r1 h hw
    obtain ⟨c, hcc, bc⟩ := Rd.field h2 r2 h hw
    have hl := Rd.len h0 h
    rw [hc] at hl
    match cs, hl with
    | [u, v, x, y], _ => exact ⟨⟨a, b, c⟩, ha.append (hb.append hcc), ba, bb, bc⟩
theorem Rd.vw {P : Program} {t t0 t1 t2 : TypeId} (hc : P.cellsOf t = 3) (h0 : tyField P t 0 = some (0, t0)) (h1 : tyField P t 1 = some (1, t1)) (h2 : tyField P t 2 = some (2, t2)) (r0 : Rd P t0 (List Tim)) (r1 : Rd P t1 (List Tim)) (r2 : Rd P t2 (List Upd)) : Rd P t Vw where
  cells := hc
  rd := by
    intro H e0 w fuel cs d ps h hw
    obtain ⟨a, ha, ba⟩ := Rd.field h0 r0 h hw
    obtain ⟨b, hb, bb⟩ := Rd.field h1 r1 h hw
    obtain ⟨c, hcc, bc⟩ := Rd.field h2 r2 h hw
    have hl := Rd.len h0 h
    rw [hc] at hl
    match cs, hl with
    | [u, v, x], _ => exact ⟨⟨a, b, c⟩, ha.append (hb.append hcc), ba, bb, bc⟩

/-- an argument -/
theorem Rd.arg1 {P : Program} {t : TypeId} {α : Type} [Enc α] [Bd α] {H : Type} {e0 : TypeId × Value → H} {w : World} {v : Value} {d : DataW H} {ps : List MemPlace} (hr : Rd P t α) (hv : v.oneCell' = true) (hl : ∀ a : α, (enc a).leaf = true)
    (h : DataW.Trod e0 P w 0 (fun _ => true) true t v d ps) (hw : ∀ n ∈ d.weights P t, n ≤ reachBytes) : ∃ a : α, R noPhi w (enc a) v ∧ Bd.bnd a := by
  obtain ⟨fuel, hf⟩ := h
  have hc : v.cells.toList = [v] := by cases v <;> simp_all [Value.oneCell', Value.cells]
  rw [hc] at hf
  obtain ⟨a, ha, hb⟩ := hr.rd hf hw
  rw [D.leaf_cells (hl a)] at ha
  exact ⟨a, ha.2 0 _ _ rfl rfl, hb⟩
theorem Rd.argS {P : Program} {t : TypeId} {α : Type} [Enc α] [Bd α] {H : Type} {e0 : TypeId × Value → H} {w : World} {cs : Array Value} {d : DataW H} {ps : List MemPlace} (hr : Rd P t α) (hl : ∀ a : α, enc a = .agg (enc a).cells)
    (h : DataW.Trod e0 P w 0 (fun _ => true) true t (.agg cs) d ps) (hw : ∀ n ∈ d.weights P t, n ≤ reachBytes) : ∃ a : α, R noPhi w (enc a) (.agg cs) ∧ Bd.bnd a := by
  obtain ⟨fuel, hf⟩ := h
  obtain ⟨a, ha, hb⟩ := hr.rd hf hw
  refine ⟨a, ?_, hb⟩
  rw [hl a]
  have := R.ofCells_agg ha
  simpa [Value.cells] using this
theorem weights_of {H : Type} {P : Program} {ts : List TypeId} {ds : List (DataW H)} (h : (DataW.weightsEach P ts ds).all (· ≤ reachBytes) = true) {j : Nat} {t : TypeId} {d : DataW H} (ht : ts[j]? = some t) (hd : ds[j]? = some d) :
    ∀ n ∈ d.weights P t, n ≤ reachBytes := fun n hn => by simpa using List.all_eq_true.1 h n (DataW.weights_mem_each ht hd n hn)
end Go.Cv

namespace Go.Cv
open Go Enc

/-! ### values in memory of one's own, all the way down -/
class Own (α : Type) extends Enc α where
  cnt : α → Nat
  ownI : List Nat → α → D
  olen : ∀ l a, (ownI l a).cells.length = Enc.sz α
  ogood : ∀ l a, (ownI l a).good = true
  olv : ∀ l a, ∀ c ∈ (ownI l a).cells, c.leaf = true ∧ c.good = true
  ofrz : ∀ l a, frz (ownI l a) = enc a
  oids : ∀ l a, l.length = cnt a → 0 ∉ l → (ownI l a).ids.filter (· ≠ 0) = l
  oren : ∀ (ρ : Nat → Nat) l a, l.length = cnt a → ρ 0 = 0 → (ownI l a).ren ρ = ownI (l.map ρ) a
  oown : ∀ l a, l.length = cnt a → 0 ∉ l → (ownI l a).own0 = true
open Own (cnt ownI)

def vals {α : Type} (ts : List (Nat × α)) : List α := ts.map (·.2)
@[simp] theorem vals_nil {α : Type} : vals ([] : List (Nat × α)) = [] := rfl
@[simp] theorem vals_length {α : Type} (ts : List (Nat × α)) : (vals ts).length = ts.length := by simp [vals]
@[simp] theorem vals_append {α : Type} (as bs : List (Nat × α)) : vals (as ++ bs) = vals as ++ vals bs := by simp [vals]
@[simp] theorem vals_cons {α : Type} (a : Nat × α) (bs : List (Nat × α)) : vals (a :: bs) = a.2 :: vals bs := rfl
section
variable {α : Type} [Own α]
def own (b : Nat) (a : α) : D := ownI (List.range' b (cnt a)) a
def cntL : List α → Nat
  | [] => 0
  | x :: xs => cnt x + cntL xs
def ownIL : List Nat → List α → List D
  | _, [] => []
  | l, x :: xs => ownI (l.take (cnt x)) x :: ownIL (l.drop (cnt x)) xs
@[simp] theorem cntL_nil : cntL ([] : List α) = 0 := rfl
@[simp] theorem cntL_cons (x : α) (xs : List α) : cntL (x :: xs) = cnt x + cntL xs := rfl
@[simp] theorem cntL_append (xs ys : List α) : cntL (xs ++ ys) = cntL xs + cntL ys := by
  induction xs with
  | nil => simp
  | cons x xs ih => simp only [List.cons_append, cntL_cons, ih]; omega
theorem ownIL_mem : ∀ (l : List Nat) (xs : List α) (d : D), d ∈ ownIL l xs → ∃ (l' : List Nat) (x : α), d = ownI l' x
  | _, [], d, h => by simp [ownIL] at h
  | l, x :: xs, d, h => by
    simp only [ownIL, List.mem_cons] at h
    rcases h with rfl | h
    · exact ⟨_, _, rfl⟩
    · exact ownIL_mem _ xs d h
theorem ownIL_length : ∀ (l : List Nat) (xs : List α), (ownIL l xs).length = xs.length
  | _, [] => rfl
  | l, x :: xs => by simp [ownIL, ownIL_length]
theorem ownIL_frz : ∀ (l : List Nat) (xs : List α), (ownIL l xs).map frz = lst xs
  | _, [] => rfl
  | l, x :: xs => by simp [ownIL, ownIL_frz, Own.ofrz]
theorem ownIL_ids : ∀ (l : List Nat) (xs : List α), l.length = cntL xs → 0 ∉ l → (idsL (ownIL l xs)).filter (· ≠ 0) = l
  | l, [], h, _ => by
    have : l = [] := List.eq_nil_of_length_eq_zero h
    subst this; rfl
  | l, x :: xs, h, h0 => by
    simp only [cntL_cons] at h
    simp only [ownIL, idsL, List.filter_append]
    rw [Own.oids _ _ (by rw [List.length_take]; omega) (fun hm => h0 (List.mem_of_mem_take hm)), ownIL_ids _ xs (by rw [List.length_drop]; omega) (fun hm => h0 (List.mem_of_mem_drop hm)), List.take_append_drop]
theorem ownIL_ren (ρ : Nat → Nat) : ∀ (l : List Nat) (xs : List α), l.length = cntL xs → ρ 0 = 0 → renL ρ (ownIL l xs) = ownIL (l.map ρ) xs
  | _, [], _, _ => rfl
  | l, x :: xs, h, h0 => by
    simp only [cntL_cons] at h
    simp only [ownIL, renL]
    rw [Own.oren _ _ _ (by rw [List.length_take]; omega) h0, ownIL_ren ρ _ xs (by rw [List.length_drop]; omega) h0, List.map_take, List.map_drop]
theorem ownIL_own : ∀ (l : List Nat) (xs : List α), l.length = cntL xs → 0 ∉ l → own0L (ownIL l xs) = true
  | _, [], _, _ => rfl
  | l, x :: xs, h, h0 => by
    simp only [cntL_cons] at h
    simp only [ownIL, own0L, Bool.and_eq_true]
    exact ⟨Own.oown _ _ (by rw [List.length_take]; omega) (fun hm => h0 (List.mem_of_mem_take hm)), ownIL_own _ xs (by rw [List.length_drop]; omega) (fun hm => h0 (List.mem_of_mem_drop hm))⟩

theorem ids_of {d : D} {l : List Nat} (h : d.ids.filter (· ≠ 0) = l) {i : Nat} (hi : i ∈ d.ids) : i = 0 ∨ i ∈ l := by
  by_cases h0 : i = 0
  · exact .inl h0
  · right; rw [← h]; exact List.mem_filter.2 ⟨hi, by simpa using h0⟩
theorem ownI_app {l : List Nat} {a : α} (hl : l.length = cnt a) (h0 : 0 ∉ l) {e : Eff} (he0 : e.id ≠ 0) (he : e.id ∉ l) : e.app (ownI l a) = ownI l a :=
  app_fix (fun hm => by rcases ids_of (Own.oids l a hl h0) hm with h | h; exact he0 h; exact he h)
theorem ownI_low {l : List Nat} {a : α} (hl : l.length = cnt a) (h0 : 0 ∉ l) {n : Nat} (hn : n ≠ 0) (h : ∀ i ∈ l, i < n) : (ownI l a).Low n := fun i hi => by
  rcases ids_of (Own.oids l a hl h0) hi with h1 | h1
  · omega
  · exact h i h1
/-- what is left, under new names -/
theorem renId_get {n : Nat} : ∀ {K : List Nat}, (∀ i ∈ K, n ≤ i) → K.Nodup → K.map (renId n K) = List.range' n K.length := by
  have key : ∀ (K : List Nat) (pre : List Nat), (pre ++ K).Nodup → ∀ i x, K[i]? = some x → posOf x (pre ++ K) = some (pre.length + i) := by
    intro K pre
    induction pre with
    | nil =>
      induction K with
      | nil => intro _ i x h; simp at h
      | cons y ys ih =>
        intro hnd i x hx
        simp only [List.nil_append, List.nodup_cons] at hnd
        cases i with
        | zero => simp at hx; subst hx; simp [posOf]
        | succ i =>
          simp at hx
          have hm := List.mem_of_getElem? hx
          have hne : y ≠ x := fun e => hnd.1 (e ▸ hm)
          have := ih (by simpa using hnd.2) i x hx
          simp only [List.nil_append, List.length_nil, Nat.zero_add] at this ⊢
          simp [posOf, hne, this]
    | cons y ys ih =>
      intro hnd i x hx
      simp only [List.cons_append, List.nodup_cons] at hnd
      have hm : x ∈ ys ++ K := List.mem_append.2 (.inr (List.mem_of_getElem? hx))
      have hne : y ≠ x := fun e => hnd.1 (e ▸ hm)
      have := ih hnd.2 i x hx
      simp only [List.cons_append, posOf, hne, if_false, this, Option.map_some, List.length_cons]
      congr 1; omega
  intro K hK hnd
  apply List.ext_getElem?
  intro i
  rw [List.getElem?_map]
  cases hx : K[i]? with
  | none =>
    have := List.getElem?_eq_none_iff.1 hx
    rw [List.getElem?_eq_none (by simp; exact this)]; rfl
  | some x =>
    have hm := List.mem_of_getElem? hx
    have hlt := (List.getElem?_eq_some_iff.1 hx).1
    have hp := key K [] (by simpa using hnd) i x hx
    simp only [List.nil_append, List.length_nil, Nat.zero_add] at hp
    have h1 : ¬ x < n := by have := hK x hm; omega
    rw [List.getElem?_range' (by omega)]
    simp [renId, h1, hp]
theorem eraseDups_nodup {l : List Nat} (h : l.Nodup) : l.eraseDups = l := by
  induction l with
  | nil => rfl
  | cons x xs ih =>
    rw [List.nodup_cons] at h
    rw [List.eraseDups_cons]
    congr 1
    have : xs.filter (fun b => !b == x) = xs := by
      rw [List.filter_eq_self]
      intro y hy
      have : y ≠ x := fun e => h.1 (e ▸ hy)
      simp [this]
    rw [this, ih h.2]
theorem filter_ge {n : Nat} (hn : n ≠ 0) {ids l : List Nat} (h : ids.filter (· ≠ 0) = l) (hl : ∀ i ∈ l, n ≤ i) : ids.filter (n ≤ ·) = l := by
  rw [← h]
  refine List.filter_congr fun i hi => ?_
  by_cases h0 : i = 0
  · subst h0; simp; omega
  · have : i ∈ l := by rw [← h]; exact List.mem_filter.2 ⟨hi, by simpa using h0⟩
    have := hl i this
    simp [h0, this]
theorem keptD_ownI {n : Nat} {l : List Nat} {a : α} (hn : n ≠ 0) (hl : l.length = cnt a) (hge : ∀ i ∈ l, n ≤ i) (hnd : l.Nodup) : keptD n (ownI l a) = (own n a, n + cnt a) := by
  have h0 : 0 ∉ l := fun h => by have := hge 0 h; omega
  have hK : ((ownI l a).ids.filter (n ≤ ·)).eraseDups = l := by
    rw [filter_ge hn (Own.oids l a hl h0) hge, eraseDups_nodup hnd]
  simp only [keptD, hK]
  rw [Own.oren _ _ _ hl (renId_0 hn _), renId_get hge hnd, hl]; rfl
theorem keptD_ownI2 {n : Nat} {l : List Nat} {a : α} {d : D} (hn : n ≠ 0) (hl : l.length = cnt a) (hge : ∀ i ∈ l, n ≤ i) (hnd : l.Nodup) (hd : d.Fix) : keptD n (.tup [ownI l a, d]) = (.tup [own n a, d], n + cnt a) := by
  have h0 : 0 ∉ l := fun h => by have := hge 0 h; omega
  have hz : decide (n ≤ 0) = false := by simp; omega
  have hK : ((D.tup [ownI l a, d]).ids.filter (n ≤ ·)).eraseDups = l := by
    simp only [D.ids, idsL, List.append_nil, List.filter_append]
    rw [filter_ge hn (Own.oids l a hl h0) hge, ids_fix hd (fun i => decide (n ≤ i)) hz, List.append_nil, eraseDups_nodup hnd]
  simp only [keptD, hK, D.ren, renL]
  rw [Own.oren _ _ _ hl (renId_0 hn _), renId_get hge hnd, hl, hd.ren (renId_0 hn _)]; rfl

/-! ### elements with the names of their memory -/
def tl (ts : List (Nat × α)) : List D := ts.map fun t => own t.1 t.2
def idl (ts : List (Nat × α)) : List Nat := ts.flatMap fun t => List.range' t.1 (cnt t.2)
structure Sep (lo hi : Nat) (ts : List (Nat × α)) : Prop where
  rng : ∀ i ∈ idl ts, lo ≤ i ∧ i < hi
  nd : (idl ts).Nodup
@[simp] theorem tl_nil : tl ([] : List (Nat × α)) = [] := rfl
@[simp] theorem tl_length (ts : List (Nat × α)) : (tl ts).length = ts.length := by simp [tl]
theorem tl_append (as bs : List (Nat × α)) : tl (as ++ bs) = tl as ++ tl bs := by simp [tl]
theorem tl_snoc (ts : List (Nat × α)) (b : Nat) (a : α) : tl ts ++ [own b a] = tl (ts ++ [(b, a)]) := by simp [tl]
theorem idl_append (as bs : List (Nat × α)) : idl (as ++ bs) = idl as ++ idl bs := by simp [idl]
theorem Sep.nil (lo hi : Nat) : Sep lo hi ([] : List (Nat × α)) := ⟨fun i h => by simp [idl] at h, by simp [idl]⟩
theorem Sep.mono {lo hi hi' : Nat} {ts : List (Nat × α)} (h : Sep lo hi ts) (hh : hi ≤ hi') : Sep lo hi' ts := ⟨fun i hi => ⟨(h.rng i hi).1, by have := (h.rng i hi).2; omega⟩, h.nd⟩
theorem Sep.snoc {lo hi b hi' : Nat} {a : α} {ts : List (Nat × α)} (h : Sep lo hi ts) (hl : lo ≤ hi) (hb : hi ≤ b) (hh : b + cnt a ≤ hi') : Sep lo hi' (ts ++ [(b, a)]) := by
  refine ⟨fun i hi => ?_, ?_⟩
  · rw [idl_append] at hi
    rcases List.mem_append.1 hi with hi | hi
    · have := h.rng i hi; omega
    · simp [idl] at hi; omega
  · rw [idl_append, List.nodup_append]
    refine ⟨h.nd, by simp [idl, List.nodup_range'], fun x hx y hy => ?_⟩
    have h1 := h.rng x hx
    simp [idl] at hy
    omega
theorem tl_app {lo hi : Nat} {ts : List (Nat × α)} (h : Sep lo hi ts) (hlo : lo ≠ 0) {e : Eff} (he0 : e.id ≠ 0) (he : e.id ∉ idl ts) : (tl ts).map e.app = tl ts := by
  rw [List.map_congr_left (g := id) (fun d hd => ?_), List.map_id]
  simp only [tl, List.mem_map] at hd
  obtain ⟨t, ht, rfl⟩ := hd
  have hsub : ∀ i ∈ List.range' t.1 (cnt t.2), i ∈ idl ts := fun i hi => List.mem_flatMap.2 ⟨t, ht, hi⟩
  exact ownI_app (by simp) (fun hm => by have := (h.rng 0 (hsub 0 hm)).1; omega) he0 (fun hm => he (hsub _ hm))
theorem Sep.wr {lo hi : Nat} {ts : List (Nat × α)} (h : Sep lo hi ts) {i k : Nat} {c : D} (hlo : lo ≠ 0) (hi' : hi ≤ i) (h0 : i ≠ 0) : (tl ts).map (D.wr i k c) = tl ts :=
  tl_app h hlo (e := .wr i k c) h0 (fun hm => by have := (h.rng i hm).2; omega)
theorem Sep.wrm {lo hi : Nat} {ts : List (Nat × α)} (h : Sep lo hi ts) {m : Nat} (hm : m ∉ idl ts) (k : Nat) (c : D) (hlo : lo ≠ 0) (h0 : m ≠ 0) : (tl ts).map (D.wr m k c) = tl ts :=
  tl_app h hlo (e := .wr m k c) h0 hm
theorem Sep.kill {lo hi : Nat} {ts : List (Nat × α)} (h : Sep lo hi ts) {i : Nat} (hlo : lo ≠ 0) (hi' : hi ≤ i) (h0 : i ≠ 0) : (tl ts).map (D.kill i) = tl ts :=
  tl_app h hlo (e := .kill i) h0 (fun hm => by have := (h.rng i hm).2; omega)
theorem Sep.killm {lo hi : Nat} {ts : List (Nat × α)} (h : Sep lo hi ts) {m : Nat} (hm : m ∉ idl ts) (hlo : lo ≠ 0) (h0 : m ≠ 0) : (tl ts).map (D.kill m) = tl ts :=
  tl_app h hlo (e := .kill m) h0 hm
@[simp] theorem tl_frz (ts : List (Nat × α)) : (tl ts).map frz = lst (vals ts) := by
  simp only [tl, vals, lst, List.map_map]
  exact List.map_congr_left fun t _ => Own.ofrz _ _
theorem tl_ownIL : ∀ ts : List (Nat × α), tl ts = ownIL (idl ts) (vals ts)
  | [] => rfl
  | t :: ts => by
    have h : idl (t :: ts) = List.range' t.1 (cnt t.2) ++ idl ts := by simp [idl]
    simp only [tl, List.map_cons, vals, ownIL, h]
    rw [List.take_left' (by simp), List.drop_left' (by simp)]
    have := tl_ownIL ts
    simp only [tl, vals] at this
    rw [this]; rfl
theorem idl_length : ∀ ts : List (Nat × α), (idl ts).length = cntL (vals ts)
  | [] => rfl
  | t :: ts => by
    have h : idl (t :: ts) = List.range' t.1 (cnt t.2) ++ idl ts := by simp [idl]
    rw [h, List.length_append, List.length_range', idl_length ts]; rfl
theorem tl_get {ts : List (Nat × α)} {i : Nat} {t : Nat × α} (h : ts[i]? = some t) : (tl ts)[i]? = some (own t.1 t.2) := by simp [tl, h]
theorem tl_sz (ts : List (Nat × α)) : ∀ e ∈ tl ts, e.cells.length = Enc.sz α := fun e he => by
  simp only [tl, List.mem_map] at he
  obtain ⟨t, _, rfl⟩ := he
  exact Own.olen _ _
theorem tl_lv (ts : List (Nat × α)) : ((flat (tl ts)).all fun c => c.leaf && c.good) = true := by
  rw [List.all_eq_true]
  intro c hc
  obtain ⟨e, he, hc⟩ := List.mem_flatMap.1 hc
  simp only [tl, List.mem_map] at he
  obtain ⟨t, _, rfl⟩ := he
  have := Own.olv _ _ c hc
  simp [this.1, this.2]
end

/-! ### kinds -/
instance : Own Int where
  cnt _ := 0
  ownI _ x := ci x
  olen _ _ := rfl
  ogood _ _ := rfl
  olv _ a := Enc.lv a
  ofrz _ _ := rfl
  oids l a h _ := by
    have : l = [] := List.eq_nil_of_length_eq_zero h
    subst this; rfl
  oren _ _ _ _ _ := rfl
  oown _ _ _ _ := rfl
instance : Own Bool where
  cnt _ := 0
  ownI _ x := bi x
  olen _ _ := rfl
  ogood _ _ := rfl
  olv _ a := Enc.lv a
  ofrz _ _ := rfl
  oids l a h _ := by
    have : l = [] := List.eq_nil_of_length_eq_zero h
    subst this; rfl
  oren _ _ _ _ _ := rfl
  oown _ _ _ _ := rfl
instance {α : Type} [Own α] : Own (List α) where
  cnt xs := 1 + cntL xs
  ownI l xs := .sl (l.headD 0) 0 none (Enc.sz α) (ownIL l.tail xs)
  olen _ _ := rfl
  ogood _ _ := rfl
  olv l a c hc := by simp at hc; subst hc; simp
  ofrz l a := by rw [frz_sl, ownIL_frz]; rfl
  oids l a h h0 := by
    match l, h with
    | i :: l, h =>
      simp only [List.length_cons] at h
      simp only [List.mem_cons, not_or] at h0
      simp only [List.headD_cons, List.tail_cons, D.ids, List.filter_cons]
      rw [if_pos (by simpa using Ne.symm h0.1), ownIL_ids l a (by omega) h0.2]
    | [], h => simp at h; omega
  oren ρ l a h h0 := by
    match l, h with
    | i :: l, h =>
      simp only [List.length_cons] at h
      simp only [List.headD_cons, List.tail_cons, D.ren, List.map_cons]
      rw [ownIL_ren ρ l a (by omega) h0]
    | [], h => simp at h; omega
  oown l a h h0 := by
    match l, h with
    | i :: l, h =>
      simp only [List.length_cons] at h
      simp only [List.mem_cons, not_or] at h0
      simp only [List.headD_cons, List.tail_cons, D.own0, Bool.and_eq_true, Bool.or_eq_true, bne_iff_ne, ne_eq]
      exact ⟨.inl (Ne.symm h0.1), ownIL_own l a (by omega) h0.2⟩
    | [], h => simp at h; omega
instance : Own Ent where
  cnt e := cnt e.row
  ownI l e := .agg [ownI l e.row, ci e.w]
  olen _ _ := rfl
  ogood _ _ := rfl
  olv l a c hc := by simp at hc; rcases hc with rfl | rfl; exact ⟨rfl, rfl⟩; simp
  ofrz l a := by simp [Own.ofrz]
  oids l a h h0 := by simp only [D.ids, idsL, List.append_nil]; exact Own.oids l a.row h h0
  oren ρ l a h h0 := by simp only [D.ren, renL]; rw [Own.oren ρ l a.row h h0]
  oown l a h h0 := by simp only [D.own0, own0L, Bool.and_true]; exact Own.oown l a.row h h0
/-- a slice, or nil -/
abbrev NL (α : Type) := Option (List α)
instance {α : Type} [Own α] : Own (NL α) where
  default := none
  enc o := cl (o.getD [])
  sz := 1
  sz0 := by decide
  len _ := rfl
  good _ := rfl
  fix _ := fix_cl _
  lv x c hc := by simp at hc; subst hc; exact ⟨rfl, rfl⟩
  siz o := sizL (o.getD [])
  cnt o := match o with | none => 0 | some xs => cnt xs
  ownI l o := match o with | none => nilD | some xs => ownI l xs
  olen l o := by cases o <;> rfl
  ogood l o := by cases o <;> rfl
  olv l o c hc := by
    cases o with
    | none => simp at hc; subst hc; simp
    | some xs => exact Own.olv l xs c hc
  ofrz l o := by
    cases o with
    | none => rfl
    | some xs => exact Own.ofrz l xs
  oids l o h h0 := by
    cases o with
    | none =>
      have : l = [] := List.eq_nil_of_length_eq_zero h
      subst this; rfl
    | some xs => exact Own.oids l xs h h0
  oren ρ l o h h0 := by
    cases o with
    | none => simp [nilD, D.ren, renL, h0]
    | some xs => exact Own.oren ρ l xs h h0
  oown l o h h0 := by
    cases o with
    | none => rfl
    | some xs => exact Own.oown l xs h h0
end Go.Cv

namespace Go.Cv
open Go Enc
open Own (cnt ownI)

instance : Own Tim where
  cnt _ := 0
  ownI _ t := .agg [ci t.e, ci t.r]
  olen _ _ := rfl
  ogood _ _ := rfl
  olv _ a := Enc.lv a
  ofrz _ _ := rfl
  oids l a h _ := by
    have : l = [] := List.eq_nil_of_length_eq_zero h
    subst this; rfl
  oren _ _ _ _ _ := rfl
  oown _ _ _ _ := rfl
instance : Own Upd where
  cnt e := cnt e.row
  ownI l e := .agg [ownI l e.row, ci e.t.e, ci e.t.r, ci e.w]
  olen _ _ := rfl
  ogood _ _ := rfl
  olv l a c hc := by simp at hc; rcases hc with rfl | rfl | rfl | rfl; exact ⟨rfl, rfl⟩; all_goals simp
  ofrz l a := by simp [Own.ofrz]
  oids l a h h0 := by simp only [D.ids, idsL, List.append_nil]; exact Own.oids l a.row h h0
  oren ρ l a h h0 := by simp only [D.ren, renL]; rw [Own.oren ρ l a.row h h0]
  oown l a h h0 := by simp only [D.own0, own0L, Bool.and_true]; exact Own.oown l a.row h h0

theorem take_rng (b n k : Nat) : (List.range' b n).take k = List.range' b (min k n) := by
  apply List.ext_getElem?
  intro i
  rw [List.getElem?_take]
  split
  · by_cases hn : i < n
    · rw [List.getElem?_range' hn, List.getElem?_range' (by omega)]
    · rw [List.getElem?_eq_none (by simp; omega), List.getElem?_eq_none (by simp; omega)]
  · rw [List.getElem?_eq_none (by simp; omega)]
theorem drop_rng (b n k : Nat) : (List.range' b n).drop k = List.range' (b + k) (n - k) := by
  apply List.ext_getElem?
  intro i
  rw [List.getElem?_drop]
  by_cases hn : k + i < n
  · rw [List.getElem?_range' hn, List.getElem?_range' (by omega)]; congr 1; omega
  · rw [List.getElem?_eq_none (by simp; omega), List.getElem?_eq_none (by simp; omega)]
section
variable {α : Type} [Own α]
@[simp] theorem frz_own (b : Nat) (a : α) : frz (own b a) = enc a := Own.ofrz _ _
@[simp] theorem frz_ownI (l : List Nat) (a : α) : frz (ownI l a) = enc a := Own.ofrz _ _
@[simp] theorem own0_own {b : Nat} (hb : b ≠ 0) (a : α) : (own b a).own0 = true := Own.oown _ _ (by simp) (fun h => by simp at h; omega)
theorem zero_range' {b c : Nat} (hb : b ≠ 0) : 0 ∉ List.range' b c := fun h => by simp at h; omega
theorem own_app {b : Nat} {a : α} (hb : b ≠ 0) {e : Eff} (he0 : e.id ≠ 0) (he : e.id < b ∨ b + cnt a ≤ e.id) : e.app (own b a) = own b a :=
  ownI_app (by simp) (zero_range' hb) he0 (fun h => by simp at h; omega)
@[simp] theorem own_wr {b i k : Nat} {c : D} {a : α} (hb : b ≠ 0) (hi : i ≠ 0) (h : i < b ∨ b + cnt a ≤ i) : D.wr i k c (own b a) = own b a := own_app (e := .wr i k c) hb hi h
@[simp] theorem own_kill {b i : Nat} {a : α} (hb : b ≠ 0) (hi : i ≠ 0) (h : i < b ∨ b + cnt a ≤ i) : (own b a).kill i = own b a := own_app (e := .kill i) hb hi h
@[simp] theorem own_good (b : Nat) (a : α) : (own b a).good = true := Own.ogood _ _
@[simp] theorem own_low {b n : Nat} {a : α} (hb : b ≠ 0) (h : b + cnt a ≤ n) (hn : n ≠ 0) : (own b a).Low n := ownI_low (by simp) (zero_range' hb) hn (fun i hi => by simp at hi; omega)
@[simp] theorem own_has {b i : Nat} {a : α} (hb : b ≠ 0) (hi : i ≠ 0) (h : i < b ∨ b + cnt a ≤ i) : (own b a).has (· == i) = false :=
  has_of_ids (fun hm => by
    rcases ids_of (Own.oids _ a (by simp) (zero_range' hb)) hm with h1 | h1
    · exact hi h1
    · simp at h1; omega)
theorem keptD_own {n b : Nat} {a : α} (hn : n ≠ 0) (hb : n ≤ b) : keptD n (own b a) = (own n a, n + cnt a) := keptD_ownI hn (by simp) (fun i hi => by simp at hi; omega) List.nodup_range'
/-- consecutive elements -/
def ownR (b : Nat) (xs : List α) : List D := ownIL (List.range' b (cntL xs)) xs
theorem own_list (b : Nat) (xs : List α) : own b xs = .sl b 0 none (Enc.sz α) (ownR (b + 1) xs) := by
  show D.sl ((List.range' b (1 + cntL xs)).headD 0) 0 none (Enc.sz α) (ownIL (List.range' b (1 + cntL xs)).tail xs) = _
  rw [show 1 + cntL xs = cntL xs + 1 by omega, List.range'_succ]; rfl
theorem cnt_list (xs : List α) : cnt xs = 1 + cntL xs := rfl
@[simp] theorem ownR_length (b : Nat) (xs : List α) : (ownR b xs).length = xs.length := ownIL_length _ _
@[simp] theorem ownR_frz (b : Nat) (xs : List α) : (ownR b xs).map frz = lst xs := ownIL_frz _ _
theorem ownR_nil (b : Nat) : ownR b ([] : List α) = [] := rfl
theorem ownR_cons (b : Nat) (x : α) (xs : List α) : ownR b (x :: xs) = own b x :: ownR (b + cnt x) xs := by
  simp only [ownR, ownIL, cntL_cons]
  rw [take_rng, drop_rng, show min (cnt x) (cnt x + cntL xs) = cnt x by omega, show cnt x + cntL xs - cnt x = cntL xs by omega]; rfl
/-- where the elements' memory begins -/
def bases (b : Nat) : List α → List (Nat × α)
  | [] => []
  | x :: xs => (b, x) :: bases (b + cnt x) xs
theorem ownR_tl : ∀ (b : Nat) (xs : List α), ownR b xs = tl (bases b xs)
  | _, [] => rfl
  | b, x :: xs => by rw [ownR_cons, bases, ownR_tl (b + cnt x) xs]; rfl
@[simp] theorem vals_bases : ∀ (b : Nat) (xs : List α), vals (bases b xs) = xs
  | _, [] => rfl
  | b, x :: xs => by simp [bases, vals_bases]
theorem idl_bases : ∀ (b : Nat) (xs : List α), idl (bases b xs) = List.range' b (cntL xs)
  | _, [] => rfl
  | b, x :: xs => by
    have h : idl (bases b (x :: xs)) = List.range' b (cnt x) ++ idl (bases (b + cnt x) xs) := by simp [idl, bases]
    rw [h, idl_bases, cntL_cons, List.range'_append_1]
theorem sep_bases (b : Nat) (xs : List α) : Sep b (b + cntL xs) (bases b xs) := by
  refine ⟨fun i hi => ?_, ?_⟩
  · rw [idl_bases] at hi; simpa using hi
  · rw [idl_bases]; exact List.nodup_range'
/-- what was put together comes back with names in order -/
theorem keptD_tl {n m hi : Nat} {ts : List (Nat × α)} (hn : n ≠ 0) (h : Sep n hi ts) (hm : n ≤ m) (hmi : m ∉ idl ts) : keptD n (.sl m 0 none (Enc.sz α) (tl ts)) = (own n (vals ts), n + cnt (vals ts)) := by
  have e : D.sl m 0 none (Enc.sz α) (tl ts) = ownI (m :: idl ts) (vals ts) := by rw [tl_ownIL]; rfl
  rw [e]
  refine keptD_ownI hn ?_ (fun i hi => ?_) (List.nodup_cons.2 ⟨hmi, h.nd⟩)
  · simp only [List.length_cons, idl_length]; show _ = 1 + _; omega
  · rcases List.mem_cons.1 hi with rfl | hi
    · exact hm
    · exact (h.rng i hi).1
theorem index_tl {P : Program} {t n id off sz k : Nat} {kd : IntKind} {ts : List (Nat × α)} {z : D} {i : Int} (hid : id ≠ 0) (hs : sz ≠ 0) (h0 : 0 ≤ i) (hi : ts.length = i.toNat) :
    (dIndexAddr P t (.sl id off none sz (tl ts ++ List.replicate (k + 1) z)) (.val (.int kd i))).map (fun d => (d.norm1, n, ([] : List Eff))) = if (tyElem P t).bind (tySz P) = some sz then some (.pt id (off + i.toNat * sz) z.cells, n, []) else none := by
  have he : (tl ts ++ List.replicate (k + 1) z)[i.toNat]? = some z := by
    rw [List.getElem?_append_right (by simp; omega), tl_length, hi, Nat.sub_self]; rfl
  simp only [dIndexAddr, hs, h0, he, ne_eq, not_false_eq_true, and_true, Option.bind_some]
  split <;> simp [D.norm1, hid]
theorem sfl_tl {ts : List (Nat × α)} {bs : List D} {k : Nat} {c : D} (h : ts.length * Enc.sz α ≤ k) : setFlat (tl ts ++ bs) k c = tl ts ++ setFlat bs (k - ts.length * Enc.sz α) c := by
  have hl : (flat (tl ts)).length = ts.length * Enc.sz α := by rw [flat_length (tl_sz ts), tl_length]
  rw [setFlat_app (by rw [hl]; exact h), hl]
end
@[simp] theorem cnt_int (x : Int) : cnt x = 0 := rfl
@[simp] theorem cnt_bool (x : Bool) : cnt x = 0 := rfl
@[simp] theorem cnt_tim (x : Tim) : cnt x = 0 := rfl
theorem cntL_zero {α : Type} [Own α] (h : ∀ a : α, cnt a = 0) (xs : List α) : cntL xs = 0 := by
  induction xs with
  | nil => rfl
  | cons x xs ih => simp [h x, ih]
@[simp] theorem cntL_int (xs : List Int) : cntL xs = 0 := cntL_zero (fun _ => rfl) xs
@[simp] theorem cntL_bool (xs : List Bool) : cntL xs = 0 := cntL_zero (fun _ => rfl) xs
@[simp] theorem cntL_tim (xs : List Tim) : cntL xs = 0 := cntL_zero (fun _ => rfl) xs
@[simp] theorem cnt_ints (xs : List Int) : cnt xs = 1 := by rw [cnt_list, cntL_int]
@[simp] theorem cnt_tims (xs : List Tim) : cnt xs = 1 := by rw [cnt_list, cntL_tim]
@[simp] theorem cnt_ent (e : Ent) : cnt e = 1 := by show cnt e.row = 1; simp
@[simp] theorem cnt_upd (e : Upd) : cnt e = 1 := by show cnt e.row = 1; simp
@[simp] theorem cntL_ent (xs : List Ent) : cntL xs = xs.length := by
  induction xs with
  | nil => rfl
  | cons x xs ih => simp [ih]; omega
@[simp] theorem cntL_upd (xs : List Upd) : cntL xs = xs.length := by
  induction xs with
  | nil => rfl
  | cons x xs ih => simp [ih]; omega
@[simp] theorem cnt_ents (xs : List Ent) : cnt xs = 1 + xs.length := by rw [cnt_list, cntL_ent]
@[simp] theorem cnt_upds (xs : List Upd) : cnt xs = 1 + xs.length := by rw [cnt_list, cntL_upd]
theorem ownIL_flat {α : Type} [Own α] (h : ∀ (l : List Nat) (a : α), ownI l a = enc a) : ∀ (l : List Nat) (xs : List α), ownIL l xs = lst xs
  | _, [] => rfl
  | l, x :: xs => by simp [ownIL, h, ownIL_flat h]
@[simp] theorem own_ints (b : Nat) (xs : List Int) : own b xs = .sl b 0 none 1 (lst xs) := by
  rw [own_list]; show D.sl b 0 none 1 (ownIL _ xs) = _; rw [ownIL_flat (fun _ _ => rfl)]
@[simp] theorem own_tims (b : Nat) (xs : List Tim) : own b xs = .sl b 0 none 2 (lst xs) := by
  rw [own_list]; show D.sl b 0 none 2 (ownIL _ xs) = _; rw [ownIL_flat (fun _ _ => rfl)]
@[simp] theorem own_ent (b : Nat) (e : Ent) : own b e = .agg [.sl b 0 none 1 (lst e.row), ci e.w] := by
  have : own b e = .agg [own b e.row, ci e.w] := rfl
  rw [this, own_ints]
@[simp] theorem own_upd (b : Nat) (e : Upd) : own b e = .agg [.sl b 0 none 1 (lst e.row), ci e.t.e, ci e.t.r, ci e.w] := by
  have : own b e = .agg [own b e.row, ci e.t.e, ci e.t.r, ci e.w] := rfl
  rw [this, own_ints]
instance : Own Vw where
  cnt v := 3 + v.tr.length
  ownI l v := .agg [ownI (l.take 1) v.since, ownI ((l.drop 1).take 1) v.upper, ownI (l.drop 2) v.tr]
  olen _ _ := rfl
  ogood _ _ := rfl
  olv l a c hc := by simp at hc; rcases hc with rfl | rfl | rfl <;> exact ⟨rfl, rfl⟩
  ofrz l a := by simp
  oids l a h h0 := by
    simp only [D.ids, idsL, List.append_nil, List.filter_append]
    rw [Own.oids _ a.since (by simp; omega) (fun hm => h0 (List.mem_of_mem_take hm)), Own.oids _ a.upper (by simp; omega) (fun hm => h0 (List.mem_of_mem_drop (List.mem_of_mem_take hm))),
      Own.oids _ a.tr (by simp; omega) (fun hm => h0 (List.mem_of_mem_drop hm))]
    match l, h with
    | a :: b :: l, _ => rfl
    | [_], h => simp at h; omega
    | [], h => simp at h; omega
  oren ρ l a h h0 := by
    simp only [D.ren, renL]
    rw [Own.oren ρ _ a.since (by simp; omega) h0, Own.oren ρ _ a.upper (by simp; omega) h0, Own.oren ρ _ a.tr (by simp; omega) h0]
    simp only [List.map_take, List.map_drop]
  oown l a h h0 := by
    simp only [D.own0, own0L, Bool.and_true, Bool.and_eq_true]
    exact ⟨Own.oown _ a.since (by simp; omega) (fun hm => h0 (List.mem_of_mem_take hm)), Own.oown _ a.upper (by simp; omega) (fun hm => h0 (List.mem_of_mem_drop (List.mem_of_mem_take hm))),
      Own.oown _ a.tr (by simp; omega) (fun hm => h0 (List.mem_of_mem_drop hm))⟩
@[simp] theorem cnt_vw (v : Vw) : cnt v = 3 + v.tr.length := rfl
theorem own_vw (b : Nat) (v : Vw) : own b v = .agg [own b v.since, own (b + 1) v.upper, own (b + 2) v.tr] := by
  show D.agg [ownI ((List.range' b (3 + v.tr.length)).take 1) v.since, ownI (((List.range' b (3 + v.tr.length)).drop 1).take 1) v.upper, ownI ((List.range' b (3 + v.tr.length)).drop 2) v.tr] = _
  rw [take_rng, drop_rng, take_rng, drop_rng]
  simp only [own, cnt_tims, cnt_upds]
  rw [show min 1 (3 + v.tr.length) = 1 by omega, show min 1 (3 + v.tr.length - 1) = 1 by omega, show 3 + v.tr.length - 2 = 1 + v.tr.length by omega]
theorem Sep.wrlo {α : Type} [Own α] {lo hi : Nat} {ts : List (Nat × α)} (h : Sep lo hi ts) {i k : Nat} {c : D} (hi' : i < lo) (h0 : i ≠ 0) : (tl ts).map (D.wr i k c) = tl ts :=
  tl_app h (by omega) (e := .wr i k c) h0 (fun hm => by have := (h.rng i hm).1; omega)
theorem Sep.killo {α : Type} [Own α] {lo hi : Nat} {ts : List (Nat × α)} (h : Sep lo hi ts) {i : Nat} (hi' : i < lo) (h0 : i ≠ 0) : (tl ts).map (D.kill i) = tl ts :=
  tl_app h (by omega) (e := .kill i) h0 (fun hm => by have := (h.rng i hm).1; omega)
theorem sfl_tle {ts : List (Nat × Ent)} {bs : List D} {k : Nat} {c : D} (h : ts.length * 2 ≤ k) : setFlat (tl ts ++ bs) k c = tl ts ++ setFlat bs (k - ts.length * 2) c := sfl_tl h
theorem sfl_tlu {ts : List (Nat × Upd)} {bs : List D} {k : Nat} {c : D} (h : ts.length * 4 ≤ k) : setFlat (tl ts ++ bs) k c = tl ts ++ setFlat bs (k - ts.length * 4) c := sfl_tl h
theorem tl_snoc_ent (ts : List (Nat × Ent)) (b : Nat) (r : List Int) (w : Int) (rest : List D) : tl ts ++ D.agg [.sl b 0 none 1 (lst r), ci w] :: rest = tl (ts ++ [(b, ⟨r, w⟩)]) ++ rest := by
  rw [tl_append]; simp [tl]
theorem tl_snoc_upd (ts : List (Nat × Upd)) (b : Nat) (r : List Int) (e e' w : Int) (rest : List D) : tl ts ++ D.agg [.sl b 0 none 1 (lst r), ci e, ci e', ci w] :: rest = tl (ts ++ [(b, ⟨r, ⟨e, e'⟩, w⟩)]) ++ rest := by
  rw [tl_append]; simp [tl]
theorem own0_sl {α : Type} [Enc α] {id off : Nat} {cap : Option Nat} {sz : Nat} (h : id ≠ 0) (xs : List α) (hx : own0L (lst xs) = true) : (D.sl id off cap sz (lst xs)).own0 = true := by
  simp [D.own0, h, hx]
@[simp] theorem own0L_int (xs : List Int) : own0L (lst xs) = true := by
  induction xs with
  | nil => rfl
  | cons x xs ih => simpa [own0L, D.own0] using ih
@[simp] theorem own0L_tim (xs : List Tim) : own0L (lst xs) = true := by
  induction xs with
  | nil => rfl
  | cons x xs ih => simpa [own0L, D.own0] using ih
@[simp] theorem own0_agg (cs : List D) : (D.agg cs).own0 = own0L cs := rfl
@[simp] theorem own0_tup (cs : List D) : (D.tup cs).own0 = own0L cs := rfl
@[simp] theorem own0L_nil : own0L [] = true := rfl
@[simp] theorem own0L_cons (d : D) (ds : List D) : own0L (d :: ds) = (d.own0 && own0L ds) := rfl
@[simp] theorem own0_ints {id off : Nat} {cap : Option Nat} (h : id ≠ 0) (xs : List Int) : (D.sl id off cap 1 (lst xs)).own0 = true := own0_sl h xs (own0L_int xs)
@[simp] theorem own0_tims {id off : Nat} {cap : Option Nat} (h : id ≠ 0) (xs : List Tim) : (D.sl id off cap 2 (lst xs)).own0 = true := own0_sl h xs (own0L_tim xs)
theorem keptD_agg_row {n m : Nat} {xs : List Int} {w : Int} (hn : n ≠ 0) (h : n ≤ m) : keptD n (.agg [.sl m 0 none 1 (lst xs), ci w]) = (.agg [.sl n 0 none 1 (lst xs), ci w], n + 1) := by
  have := keptD_ownI (a := (⟨xs, w⟩ : Ent)) (l := [m]) hn (by simp) (by simpa using h) (by simp)
  have e : ownI [m] (⟨xs, w⟩ : Ent) = .agg [.sl m 0 none 1 (lst xs), ci w] := by
    show D.agg [.sl m 0 none 1 (ownIL [] xs), ci w] = _
    rw [ownIL_flat (fun _ _ => rfl)]
  rw [e, own_ent] at this
  simpa using this
theorem keptD_upd_row {n m : Nat} {xs : List Int} {e r w : Int} (hn : n ≠ 0) (h : n ≤ m) : keptD n (.agg [.sl m 0 none 1 (lst xs), ci e, ci r, ci w]) = (.agg [.sl n 0 none 1 (lst xs), ci e, ci r, ci w], n + 1) := by
  have := keptD_ownI (a := (⟨xs, ⟨e, r⟩, w⟩ : Upd)) (l := [m]) hn (by simp) (by simpa using h) (by simp)
  have e2 : ownI [m] (⟨xs, ⟨e, r⟩, w⟩ : Upd) = .agg [.sl m 0 none 1 (lst xs), ci e, ci r, ci w] := by
    show D.agg [.sl m 0 none 1 (ownIL [] xs), ci e, ci r, ci w] = _
    rw [ownIL_flat (fun _ _ => rfl)]
  rw [e2, own_upd] at this
  simpa using this
theorem upd_eq (a b : Upd) : a = b ↔ a.row = b.row ∧ a.t = b.t ∧ a.w = b.w := by cases a; cases b; simp
theorem vw_eq (a b : Vw) : a = b ↔ a.since = b.since ∧ a.upper = b.upper ∧ a.tr = b.tr := by cases a; cases b; simp
@[simp] theorem own_cells {α : Type} [Own α] (b : Nat) (xs : List α) : (own b xs).cells = [own b xs] := rfl
@[simp] theorem own_leaf {α : Type} [Own α] (b : Nat) (xs : List α) : (own b xs).leaf = true := rfl
@[simp] theorem own_cellsN {α : Type} [Own α] (b : Nat) (xs : NL α) : (own b xs).cells = [own b xs] := by cases xs <;> rfl
@[simp] theorem own_leafN {α : Type} [Own α] (b : Nat) (xs : NL α) : (own b xs).leaf = true := by cases xs <;> rfl
theorem keptD_vw {n a b c : Nat} {v : Vw} (hn : n ≠ 0) (ha : n ≤ a) (hb : n ≤ b) (hc : n ≤ c) (hab : a ≠ b) (hac : a < c ∨ c + 1 + v.tr.length ≤ a) (hbc : b < c ∨ c + 1 + v.tr.length ≤ b) :
    keptD n (.agg [own a v.since, own b v.upper, own c v.tr]) = (own n v, n + 3 + v.tr.length) := by
  have e : D.agg [own a v.since, own b v.upper, own c v.tr] = ownI (a :: b :: List.range' c (1 + v.tr.length)) v := by
    show _ = D.agg [ownI [a] v.since, ownI [b] v.upper, ownI (List.range' c (1 + v.tr.length)) v.tr]
    simp only [own, cnt_tims, cnt_upds]; rfl
  rw [e, keptD_ownI hn (by simp; omega) (fun i hi => by simp at hi; omega) (by simp [List.nodup_range']; omega)]
  simp; omega
end Go.Cv

namespace Go.Cv
open Go Enc
open Own (cnt ownI)

/-! ### marks: every cell of a value of one's own is written -/
theorem oldE_low {n : Nat} {E : List Eff} (h : ∀ e ∈ E, e.id < n) : oldE n E = E.map (Eff.mapD (killAll [])) := by
  have hk : (E.map Eff.id).filter (n ≤ ·) = [] := by
    rw [List.filter_eq_nil_iff]
    intro i hi
    obtain ⟨e, he, rfl⟩ := List.mem_map.1 hi
    have := h e he; simp; omega
  unfold oldE
  rw [hk]
  dsimp only
  rw [List.filter_eq_self.2 fun e he => by simpa using h e he]
def Eff.plain (e : Eff) : Prop := ∃ i k v, e = .wr i k (.val v)
theorem map_plain {f : D → D} (hf : ∀ v, f (.val v) = .val v) {E : List Eff} (h : ∀ e ∈ E, e.plain) : E.map (Eff.mapD f) = E := by
  rw [List.map_congr_left (g := id) (fun e he => by obtain ⟨i, k, v, rfl⟩ := h e he; simp [Eff.mapD, hf]), List.map_id]
theorem killAll_val (v : Value) : killAll [] (.val v) = .val v := rfl
theorem leaveM {n : Nat} {d : D} {E : List Eff} (h : ∀ e ∈ E, e.id < n) (hp : ∀ e ∈ E, e.plain) : leave 0 n d E = (frzN n d, n, E) := by
  have h1 : oldE n E = E := by rw [oldE_low h, map_plain killAll_val hp]
  unfold leave
  simp only [h1, keptIds]
  have h2 : E.map (Eff.mapD (D.ren (renId n []))) = E := map_plain (fun v => rfl) hp
  simp [frzN, h2]
theorem call_runsM {A : Cfg} {f : FuncId} {fn : Func} {c : Code} {ds : List D} {n : Nat} {r : D} {E' : List Eff} (he : A.ext f = none) (hf : A.P.funcs[f]? = some fn) (hb : fn.body = some c) (hok : fnOk fn c = true) (hk : A.keep f = 0)
    (hlow : ∀ d ∈ ds, d.Low n) (hl : ∀ e ∈ E', e.id < n) (hp : ∀ e ∈ E', e.plain)
    (h : Runs (A.code c (argsFr ds) n) (fun x fr _ E => (x = .normal ∨ x = .ret) ∧ E = E' ∧ ∃ d, resD A.P fr fn.results.toList = some d ∧ frzN n d = r)) : A.call f ds n = some (r, n, E') := by
  refine call_runs he hf hb hok hlow (h.mono fun x fr m E ⟨h1, h2, d, h3, h4⟩ => ⟨h1, d, h3, ?_⟩)
  rw [hk, h2, leaveM hl hp, h4]

def Far (c b m : Nat) (d : D) : Prop := ∀ i ∈ d.ids, i ≠ c ∧ ¬ (b ≤ i ∧ i < b + m)
theorem far_own {α : Type} [Own α] {c b m b' : Nat} {a : α} (hc : c ≠ 0) (hb : b ≠ 0) (hb' : b' ≠ 0) (h1 : c < b' ∨ b' + cnt a ≤ c) (h2 : b' + cnt a ≤ b ∨ b + m ≤ b') : Far c b m (own b' a) := fun i hi => by
  rcases ids_of (Own.oids _ a (by simp) (zero_range' hb')) hi with h | h
  · omega
  · simp at h; omega
theorem appE_fix {E : List Eff} {d : D} (h : ∀ e ∈ E, e.id ∉ d.ids) : appE E d = d := by
  induction E with
  | nil => rfl
  | cons e E ih => rw [appE_cons, app_fix (h e (by simp))]; exact ih fun e he => h e (by simp [he])
theorem map_same {f : D → D} {ds : List D} (h : ∀ d ∈ ds, f d = d) : ds.map f = ds := by
  induction ds with
  | nil => rfl
  | cons d ds ih => rw [List.map_cons, h d (by simp), ih fun x hx => h x (by simp [hx])]
theorem map_fix {E : List Eff} {ds : List D} (h : ∀ d ∈ ds, ∀ e ∈ E, e.id ∉ d.ids) : ds.map (appE E) = ds := map_same fun d hd => appE_fix (h d hd)
theorem appE_sl {E : List Eff} {c off : Nat} {cap : Option Nat} {sz : Nat} (h : ∀ e ∈ E, c ≠ e.id) (es : List D) : appE E (.sl c off cap sz es) = .sl c off cap sz (es.map (appE E)) := by
  induction E generalizing es with
  | nil => show D.sl _ _ _ _ _ = D.sl _ _ _ _ (es.map id); rw [List.map_id]
  | cons e E ih =>
    rw [appE_cons, app_sl (h e (by simp)), ih fun e he => h e (by simp [he]), List.map_map]
    rfl
theorem appE_agg (E : List Eff) (cs : List D) : appE E (.agg cs) = .agg (cs.map (appE E)) := by
  induction E generalizing cs with
  | nil => show D.agg _ = D.agg (cs.map id); rw [List.map_id]
  | cons e E ih => rw [appE_cons, app_agg, ih, List.map_map]; rfl
theorem wr_cell {c o j sz : Nat} {v d : D} {pre post : List D} (ho : (flat pre).length = o) (hj : j < d.cells.length) (hm : ∀ x ∈ pre ++ d :: post, c ∉ x.ids) :
    D.wr c (o + j) v (.sl c 0 none sz (pre ++ d :: post)) = .sl c 0 none sz (pre ++ putC d j v :: post) := by
  rw [wr_sl_eq (Nat.zero_le _)]
  have : (pre ++ d :: post).map (D.wr c (o + j) v) = pre ++ d :: post := map_same fun x hx => app_fix (e := .wr c (o + j) v) (hm x hx)
  rw [this, Nat.sub_zero, setFlat_app (by omega), ho, Nat.add_sub_cancel_left, setFlat_cons, if_pos hj]

class Mk (α : Type) [Own α] where
  mv : Int → α → α
  mkN : α → Nat
  mkE : Nat → Nat → Nat → Int → α → List Eff
  mcnt : ∀ k a, cnt (mv k a) = cnt a
  mids : ∀ c o b k a, ∀ e ∈ mkE c o b k a, e.plain ∧ (e.id = c ∨ (b ≤ e.id ∧ e.id < b + cnt a))
  mapp : ∀ (c o b : Nat) (k : Int) (a : α) (pre post : List D), c ≠ 0 → b ≠ 0 → (c < b ∨ b + cnt a ≤ c) → (∀ d ∈ pre, Far c b (cnt a) d) → (∀ d ∈ post, Far c b (cnt a) d) → (flat pre).length = o →
    appE (mkE c o b k a) (.sl c 0 none (Enc.sz α) (pre ++ own b a :: post)) = .sl c 0 none (Enc.sz α) (pre ++ own b (mv k a) :: post)
  msiz : ∀ k a, siz (mv k a) = siz a
  mN : ∀ a, mkN a ≤ 16 * (siz a + 1)
open Mk (mv mkN mkE)
section
variable {α : Type} [Own α] [Mk α]
def mkL : Int → List α → List α
  | _, [] => []
  | k, x :: xs => mv k x :: mkL (k + mkN x) xs
def mkNL : List α → Nat
  | [] => 0
  | x :: xs => mkN x + mkNL xs
def mkEL : Nat → Nat → Nat → Int → List α → List Eff
  | _, _, _, _, [] => []
  | c, o, b, k, x :: xs => mkE c o b k x ++ mkEL c (o + Enc.sz α) (b + cnt x) (k + mkN x) xs
@[simp] theorem mkL_nil (k : Int) : mkL k ([] : List α) = [] := rfl
@[simp] theorem mkNL_nil : mkNL ([] : List α) = 0 := rfl
@[simp] theorem mkNL_cons (x : α) (xs : List α) : mkNL (x :: xs) = mkN x + mkNL xs := rfl
@[simp] theorem mkL_length : ∀ (k : Int) (xs : List α), (mkL k xs).length = xs.length
  | _, [] => rfl
  | k, x :: xs => by simp [mkL, mkL_length]
@[simp] theorem cntL_mkL : ∀ (k : Int) (xs : List α), cntL (mkL k xs) = cntL xs
  | _, [] => rfl
  | k, x :: xs => by simp [mkL, cntL_mkL, Mk.mcnt]
@[simp] theorem sizL_mkL : ∀ (k : Int) (xs : List α), sizL (mkL k xs) = sizL xs
  | _, [] => rfl
  | k, x :: xs => by simp [mkL, sizL_mkL, Mk.msiz]
theorem mkNL_le : ∀ xs : List α, mkNL xs ≤ 16 * sizL xs
  | [] => Nat.le_refl _
  | x :: xs => by have := mkNL_le xs; have := Mk.mN x; simp only [mkNL_cons, sizL_cons]; omega
theorem mkL_append : ∀ (k : Int) (xs ys : List α), mkL k (xs ++ ys) = mkL k xs ++ mkL (k + mkNL xs) ys
  | k, [], ys => by simp
  | k, x :: xs, ys => by
    rw [List.cons_append, mkL, mkL_append, mkL, List.cons_append, mkNL_cons, show k + ((mkN x + mkNL xs : Nat) : Int) = k + mkN x + mkNL xs by omega]
theorem mkNL_append : ∀ (xs ys : List α), mkNL (xs ++ ys) = mkNL xs + mkNL ys
  | [], ys => by simp
  | x :: xs, ys => by rw [List.cons_append, mkNL_cons, mkNL_append, mkNL_cons]; omega
theorem mkEL_append : ∀ (c o b : Nat) (k : Int) (xs ys : List α), mkEL c o b k (xs ++ ys) = mkEL c o b k xs ++ mkEL c (o + xs.length * Enc.sz α) (b + cntL xs) (k + mkNL xs) ys
  | c, o, b, k, [], ys => by simp [mkEL]
  | c, o, b, k, x :: xs, ys => by
    rw [List.cons_append, mkEL, mkEL_append, mkEL, List.append_assoc, mkNL_cons, cntL_cons, List.length_cons, show k + ((mkN x + mkNL xs : Nat) : Int) = k + mkN x + mkNL xs by omega,
      show b + (cnt x + cntL xs) = b + cnt x + cntL xs by omega, show o + (xs.length + 1) * Enc.sz α = o + Enc.sz α + xs.length * Enc.sz α by rw [Nat.add_mul]; omega]
theorem ix_mkL : ∀ (k : Int) (xs : List α) (i : Nat), i < xs.length → ix (mkL k xs) i = mv (k + mkNL (xs.take i)) (ix xs i)
  | k, [], i, h => by simp at h
  | k, x :: xs, 0, h => by simp [mkL]
  | k, x :: xs, i + 1, h => by
    rw [mkL, ix_succ, ix_succ, ix_mkL _ xs i (by simpa using h), List.take_succ_cons, mkNL_cons, show k + ((mkN x + mkNL (xs.take i) : Nat) : Int) = k + mkN x + mkNL (xs.take i) by omega]
theorem mkEL_ids : ∀ (c o b : Nat) (k : Int) (xs : List α), ∀ e ∈ mkEL c o b k xs, e.plain ∧ (e.id = c ∨ (b ≤ e.id ∧ e.id < b + cntL xs))
  | c, o, b, k, [], e, h => by simp [mkEL] at h
  | c, o, b, k, x :: xs, e, h => by
    rw [mkEL] at h
    rw [cntL_cons]
    rcases List.mem_append.1 h with h | h
    · obtain ⟨a, b⟩ := Mk.mids c o b k x e h; exact ⟨a, by omega⟩
    · obtain ⟨a, b⟩ := mkEL_ids _ _ _ _ xs e h; exact ⟨a, by omega⟩
theorem mkEL_app : ∀ (c b : Nat) (k : Int) (xs : List α) (pre post : List D), c ≠ 0 → b ≠ 0 → (c < b ∨ b + cntL xs ≤ c) → (∀ d ∈ pre, Far c b (cntL xs) d) → (∀ d ∈ post, Far c b (cntL xs) d) →
    appE (mkEL c (flat pre).length b k xs) (.sl c 0 none (Enc.sz α) (pre ++ (ownR b xs ++ post))) = .sl c 0 none (Enc.sz α) (pre ++ (ownR b (mkL k xs) ++ post))
  | c, b, k, [], pre, post, _, _, _, _, _ => rfl
  | c, b, k, x :: xs, pre, post, hc, hb, hcb, h1, h2 => by
    rw [cntL_cons] at hcb h1 h2
    have ha := Mk.mapp c (flat pre).length b k x pre (ownR (b + cnt x) xs ++ post) hc hb (by omega) (fun d hd i hi => by have := h1 d hd i hi; omega) (fun d hd => by
      rcases List.mem_append.1 hd with hd | hd
      · rw [ownR_tl] at hd
        simp only [tl, List.mem_map] at hd
        obtain ⟨t, ht, rfl⟩ := hd
        have hs := (sep_bases (b + cnt x) xs).rng
        intro i hi
        by_cases hz : t.1 = 0
        · rcases ids_of (Own.oids (List.range' t.1 (cnt t.2)) t.2 (by simp) (fun h => by
            have := hs 0 (List.mem_flatMap.2 ⟨t, ht, h⟩); omega)) hi with h | h
          · omega
          · have := hs i (List.mem_flatMap.2 ⟨t, ht, h⟩); omega
        · rcases ids_of (Own.oids _ t.2 (by simp) (zero_range' hz)) hi with h | h
          · omega
          · have := hs i (List.mem_flatMap.2 ⟨t, ht, h⟩); omega
      · intro i hi; have := h2 d hd i hi; omega) rfl
    rw [mkEL, appE_append, ownR_cons, List.cons_append, ha, mkL, ownR_cons, Mk.mcnt]
    have ih := mkEL_app c (b + cnt x) (k + mkN x) xs (pre ++ [own b (mv k x)]) post hc (by omega) (by omega) (fun d hd => by
      rcases List.mem_append.1 hd with hd | hd
      · intro i hi; have := h1 d hd i hi; omega
      · simp only [List.mem_singleton] at hd; subst hd
        exact far_own hc (by omega) hb (by rw [Mk.mcnt]; omega) (by rw [Mk.mcnt]; omega)) (fun d hd i hi => by have := h2 d hd i hi; omega)
    have hl : (flat (pre ++ [own b (mv k x)])).length = (flat pre).length + Enc.sz α := by
      rw [flat_append, List.length_append]; simp [flat, Own.olen, own]
    rw [hl] at ih
    simpa using ih
theorem mkEL_own {c : Nat} (hc : c ≠ 0) (k : Int) (xs : List α) : appE (mkEL c 0 (c + 1) k xs) (own c xs) = own c (mkL k xs) := by
  have := mkEL_app c (c + 1) k xs [] [] hc (by omega) (by omega) (by simp) (by simp)
  rw [own_list, own_list]
  simpa using this
/-- the marks of a slice -/
def markE (b : Nat) (k : Int) (xs : List α) : List Eff := mkEL b 0 (b + 1) k xs
theorem markE_plain (b : Nat) (k : Int) (xs : List α) : ∀ e ∈ markE b k xs, e.plain := fun e he => (mkEL_ids _ _ _ _ _ e he).1
theorem markE_ids (b : Nat) (k : Int) (xs : List α) : ∀ e ∈ markE b k xs, b ≤ e.id ∧ e.id < b + 1 + cntL xs := fun e he => by have := (mkEL_ids _ _ _ _ _ e he).2; omega
@[simp] theorem markE_own {b : Nat} (hb : b ≠ 0) (k : Int) (xs : List α) : appE (markE b k xs) (own b xs) = own b (mkL k xs) := mkEL_own hb k xs
theorem markE_fix {b : Nat} {k : Int} {xs : List α} {d : D} (h : ∀ i ∈ d.ids, i < b ∨ b + 1 + cntL xs ≤ i) : appE (markE b k xs) d = d := appE_fix fun e he hm => by
  have h1 := markE_ids b k xs e he
  have h2 := h _ hm
  omega
@[simp] theorem markE_ne {β : Type} [Own β] {b b' : Nat} {k : Int} {xs : List α} {y : β} (hb : b ≠ 0) (hb' : b' ≠ 0) (h : b' + cnt y ≤ b ∨ b + 1 + cntL xs ≤ b') : appE (markE b k xs) (own b' y) = own b' y := markE_fix fun i hi => by
  rcases ids_of (Own.oids _ y (by simp) (zero_range' hb')) hi with h1 | h1
  · omega
  · simp at h1; omega
@[simp] theorem markE_cl {β : Type} [Enc β] {b : Nat} {k : Int} {xs : List α} (hb : b ≠ 0) (ys : List β) : appE (markE b k xs) (cl ys) = cl ys := markE_fix fun i hi => by have := (fix_cl ys).ids i hi; omega
@[simp] theorem markE_sl {β : Type} [Enc β] {b b' off : Nat} {cap : Option Nat} {sz : Nat} {k : Int} {xs : List α} (hb : b ≠ 0) (h : b' < b ∨ b + 1 + cntL xs ≤ b') (ys : List β) :
    appE (markE b k xs) (.sl b' off cap sz (lst ys)) = .sl b' off cap sz (lst ys) := markE_fix fun i hi => by
  simp only [D.ids, List.mem_cons] at hi
  rcases hi with rfl | hi
  · exact h
  · obtain ⟨d, hd, hi⟩ := mem_idsL hi
    have := (lst_fix ys d hd).ids i hi; omega
@[simp] theorem markE_agg (b : Nat) (k : Int) (xs : List α) (cs : List D) : appE (markE b k xs) (.agg cs) = .agg (cs.map (appE (markE b k xs))) := appE_agg _ _
@[simp] theorem markE_nz {b : Nat} (hb : b ≠ 0) (k : Int) (xs : List α) : ∀ e ∈ markE b k xs, e.id ≠ 0 := fun e he => by have := markE_ids b k xs e he; omega
end
instance : Mk Int where
  mv k _ := k
  mkN _ := 1
  mkE c o _ k _ := [.wr c o (ci k)]
  mcnt _ _ := rfl
  mids c o b k a e he := by simp at he; subst he; exact ⟨⟨_, _, _, rfl⟩, .inl rfl⟩
  mapp c o b k a pre post hc hb hcb h1 h2 ho := by
    have := wr_cell (c := c) (o := o) (j := 0) (sz := 1) (v := ci k) (d := ci a) (pre := pre) (post := post) ho (by simp) (fun x hx => by
      rcases List.mem_append.1 hx with hx | hx
      · intro hm; exact (h1 x hx c hm).1 rfl
      · rcases List.mem_cons.1 hx with rfl | hx
        · simp [D.ids]
        · intro hm; exact (h2 x hx c hm).1 rfl)
    exact this
  msiz _ _ := rfl
  mN _ := by simp
instance : Mk Tim where
  mv k _ := ⟨k, k + 1⟩
  mkN _ := 2
  mkE c o _ k _ := [.wr c (o + 0) (ci k), .wr c (o + 1) (ci (k + 1))]
  mcnt _ _ := rfl
  mids c o b k a e he := by simp at he; rcases he with rfl | rfl <;> exact ⟨⟨_, _, _, rfl⟩, .inl rfl⟩
  mapp c o b k a pre post hc hb hcb h1 h2 ho := by
    have hm : ∀ y z : Int, ∀ x ∈ pre ++ D.agg [ci y, ci z] :: post, c ∉ x.ids := fun y z x hx => by
      rcases List.mem_append.1 hx with hx | hx
      · intro hm; exact (h1 x hx c hm).1 rfl
      · rcases List.mem_cons.1 hx with rfl | hx
        · simp [D.ids, idsL]
        · intro hm; exact (h2 x hx c hm).1 rfl
    have e1 := wr_cell (c := c) (o := o) (j := 0) (sz := 2) (v := ci k) (d := .agg [ci a.e, ci a.r]) (pre := pre) (post := post) ho (by simp) (hm _ _)
    have e2 := wr_cell (c := c) (o := o) (j := 1) (sz := 2) (v := ci (k + 1)) (d := .agg [ci k, ci a.r]) (pre := pre) (post := post) ho (by simp) (hm _ _)
    rw [appE_wr, appE_wr, appE_nil]
    exact (congrArg (D.wr c (o + 1) (ci (k + 1))) e1).trans e2
  msiz _ _ := rfl
  mN _ := by simp
theorem mkEL_row {c o b sz : Nat} {k : Int} {d d' : D} {pre post : List D} (row : List Int) (hc : c ≠ b) (hb : b ≠ 0) (h1 : ∀ x ∈ pre, b ∉ x.ids) (h2 : ∀ x ∈ post, b ∉ x.ids) (hd : appE (markE b k row) d = d') :
    appE (markE b k row) (.sl c 0 none sz (pre ++ d :: post)) = .sl c 0 none sz (pre ++ d' :: post) := by
  have hids : ∀ e ∈ markE b k row, e.id = b := fun e he => by have := markE_ids b k row e he; simp at this; omega
  rw [appE_sl (fun e he => by rw [hids e he]; exact hc), List.map_append, List.map_cons, hd, map_fix (fun d hd e he => by rw [hids e he]; exact h1 d hd), map_fix (fun d hd e he => by rw [hids e he]; exact h2 d hd)]
@[simp] theorem markE_ints {b : Nat} (hb : b ≠ 0) (k : Int) (xs : List Int) : appE (markE b k xs) (.sl b 0 none 1 (lst xs)) = .sl b 0 none 1 (lst (mkL k xs)) := by
  have := markE_own hb k xs; simpa using this
@[simp] theorem markE_tims {b : Nat} (hb : b ≠ 0) (k : Int) (xs : List Tim) : appE (markE b k xs) (.sl b 0 none 2 (lst xs)) = .sl b 0 none 2 (lst (mkL k xs)) := by
  have := markE_own hb k xs; simpa using this
instance : Mk Ent where
  mv k e := ⟨mkL k e.row, k + mkNL e.row⟩
  mkN e := mkNL e.row + 1
  mkE c o b k e := markE b k e.row ++ [.wr c (o + 1) (ci (k + mkNL e.row))]
  mcnt _ _ := by simp
  mids c o b k a e he := by
    rcases List.mem_append.1 he with he | he
    · have := markE_ids b k a.row e he; simp at this
      exact ⟨markE_plain _ _ _ e he, .inr ⟨by omega, by simp; omega⟩⟩
    · simp at he; subst he; exact ⟨⟨_, _, _, rfl⟩, .inl rfl⟩
  mapp c o b k a pre post hc hb hcb h1 h2 ho := by
    simp only [cnt_ent] at hcb h1 h2
    have hr := mkEL_row (c := c) (o := o) (sz := 2) (k := k) (pre := pre) (post := post) (d := own b a) (d' := .agg [.sl b 0 none 1 (lst (mkL k a.row)), ci a.w]) a.row (by omega) hb (fun x hx hm => (h1 x hx b hm).2 ⟨Nat.le_refl _, by omega⟩)
      (fun x hx hm => (h2 x hx b hm).2 ⟨Nat.le_refl _, by omega⟩) (by simp [hb])
    have e2 := wr_cell (c := c) (o := o) (j := 1) (sz := 2) (v := ci (k + mkNL a.row)) (d := .agg [.sl b 0 none 1 (lst (mkL k a.row)), ci a.w]) (pre := pre) (post := post) ho (by simp) (fun x hx => by
      rcases List.mem_append.1 hx with hx | hx
      · intro hm; exact (h1 x hx c hm).1 rfl
      · rcases List.mem_cons.1 hx with rfl | hx
        · intro hm
          simp only [D.ids, idsL, List.append_nil, List.mem_cons] at hm
          rcases hm with hm | hm
          · omega
          · obtain ⟨d, hd, hm⟩ := mem_idsL hm
            have := (lst_fix _ d hd).ids c hm; omega
        · intro hm; exact (h2 x hx c hm).1 rfl)
    rw [appE_append, appE_wr, appE_nil]
    show D.wr c (o + 1) _ (appE _ (.sl c 0 none 2 _)) = .sl c 0 none 2 _
    rw [hr, e2, own_ent]; rfl
  msiz _ _ := by simp
  mN e := by have := mkNL_le e.row; simp; omega
instance : Mk Upd where
  mv k e := ⟨mkL k e.row, ⟨k + mkNL e.row, k + mkNL e.row + 1⟩, k + mkNL e.row + 1 + 1⟩
  mkN e := mkNL e.row + 3
  mkE c o b k e := markE b k e.row ++ [.wr c (o + 1) (ci (k + mkNL e.row)), .wr c (o + 2) (ci (k + mkNL e.row + 1)), .wr c (o + 3) (ci (k + mkNL e.row + 1 + 1))]
  mcnt _ _ := by simp
  mids c o b k a e he := by
    rcases List.mem_append.1 he with he | he
    · have := markE_ids b k a.row e he; simp at this
      exact ⟨markE_plain _ _ _ e he, .inr ⟨by omega, by simp; omega⟩⟩
    · simp at he; rcases he with rfl | rfl | rfl <;> exact ⟨⟨_, _, _, rfl⟩, .inl rfl⟩
  mapp c o b k a pre post hc hb hcb h1 h2 ho := by
    simp only [cnt_upd] at hcb h1 h2
    have hr := mkEL_row (c := c) (o := o) (sz := 4) (k := k) (pre := pre) (post := post) (d := own b a) (d' := .agg [.sl b 0 none 1 (lst (mkL k a.row)), ci a.t.e, ci a.t.r, ci a.w]) a.row (by omega) hb (fun x hx hm => (h1 x hx b hm).2 ⟨Nat.le_refl _, by omega⟩)
      (fun x hx hm => (h2 x hx b hm).2 ⟨Nat.le_refl _, by omega⟩) (by simp [hb])
    have hm : ∀ p q r : Int, ∀ x ∈ pre ++ D.agg [.sl b 0 none 1 (lst (mkL k a.row)), ci p, ci q, ci r] :: post, c ∉ x.ids := fun p q r x hx => by
      rcases List.mem_append.1 hx with hx | hx
      · intro hm; exact (h1 x hx c hm).1 rfl
      · rcases List.mem_cons.1 hx with rfl | hx
        · intro hm
          simp only [D.ids, idsL, List.append_nil, List.mem_cons] at hm
          rcases hm with hm | hm
          · omega
          · obtain ⟨d, hd, hm⟩ := mem_idsL hm
            have := (lst_fix _ d hd).ids c hm; omega
        · intro hm; exact (h2 x hx c hm).1 rfl
    have e1 := fun p q r v => wr_cell (c := c) (o := o) (j := 1) (sz := 4) (v := ci v) (d := .agg [.sl b 0 none 1 (lst (mkL k a.row)), ci p, ci q, ci r]) (pre := pre) (post := post) ho (by simp) (hm p q r)
    have e2 := fun p q r v => wr_cell (c := c) (o := o) (j := 2) (sz := 4) (v := ci v) (d := .agg [.sl b 0 none 1 (lst (mkL k a.row)), ci p, ci q, ci r]) (pre := pre) (post := post) ho (by simp) (hm p q r)
    have e3 := fun p q r v => wr_cell (c := c) (o := o) (j := 3) (sz := 4) (v := ci v) (d := .agg [.sl b 0 none 1 (lst (mkL k a.row)), ci p, ci q, ci r]) (pre := pre) (post := post) ho (by simp) (hm p q r)
    rw [appE_append, appE_wr, appE_wr, appE_wr, appE_nil]
    show D.wr c (o + 3) _ (D.wr c (o + 2) _ (D.wr c (o + 1) _ (appE _ (.sl c 0 none 4 _)))) = .sl c 0 none 4 _
    rw [hr, e1]
    have q1 : putC (D.agg [.sl b 0 none 1 (lst (mkL k a.row)), ci a.t.e, ci a.t.r, ci a.w]) 1 (ci (k + mkNL a.row)) = .agg [.sl b 0 none 1 (lst (mkL k a.row)), ci (k + mkNL a.row), ci a.t.r, ci a.w] := rfl
    rw [q1, e2]
    have q2 : ∀ p v : Int, putC (D.agg [.sl b 0 none 1 (lst (mkL k a.row)), ci p, ci a.t.r, ci a.w]) 2 (ci v) = .agg [.sl b 0 none 1 (lst (mkL k a.row)), ci p, ci v, ci a.w] := fun _ _ => rfl
    rw [q2, e3, own_upd]; rfl
  msiz _ _ := by simp
  mN e := by have := mkNL_le e.row; simp; omega
end Go.Cv
