/- An evaluator for the model, and that it is sound (part AbsD): no statement of a law stands here. -/
import Derived.Test.YtjimckjdkgbojaaGreatDoorAbsC
import Derived.Below
import Derived.ChangeArms
import Derived.SizedLaws
import Derived.OpenShut
import Derived.Carry
import Derived.ChangeCalls
import Derived.ChangeOld
import Derived.ProofKit
import Derived.ShutString
set_option linter.all false
/- Running the evaluator by rewriting: code. -/
namespace Go.Abs
/-- Not by definition alone: so that rewriting writes down its steps. -/
theorem nd {α : Type _} {a b : α} (h : a = b) : a = b := h

section
variable {R : Type} (P : Program) (call : CallF) (draw : Array Oper → Act → Hp → (Act → Hp → Option R) → Option R) (ctx : Option Nat) (lf : Nat)

/-- Which of two arms. -/
def pickC (v : Value) (x y : Code) : Code :=
  match v with
  | .bool true => x
  | .bool false => y
  | _ => .refuse ""
@[simp] theorem pickC_true (x y : Code) : pickC (.bool true) x y = x := nd rfl
@[simp] theorem pickC_false (x y : Code) : pickC (.bool false) x y = y := nd rfl

def Kreg (K : Exit → Act → Hp → Option R) : Act → Hp → Option R := fun a h => K .normal a h
def Kseq (y : Code) (K : Exit → Act → Hp → Option R) : Exit → Act → Hp → Option R := fun e a h => match e with
  | .normal => evalC P call draw ctx lf y a h K
  | e => K e a h
def Kblock (id : Nat) (K : Exit → Act → Hp → Option R) : Exit → Act → Hp → Option R := fun e a h => match e with
  | .exit id' => if id' = id then K .normal a h else K (.exit id') a h
  | e => K e a h
def Kscope (K : Exit → Act → Hp → Option R) : Exit → Act → Hp → Option R := fun e a h => match e with
  | .goto _ => none
  | e => K e a h
def Kfin (dc : DCall) (fn : Func) : Exit → Act → Hp → Option (Value × Hp) := fun e a h => match e with
  | .normal => finish P dc fn a h
  | .ret => finish P dc fn a h
  | _ => none
def Kloop (c : Code) (n : Nat) (K : Exit → Act → Hp → Option R) : Exit → Act → Hp → Option R := fun e a h => match e with
  | .normal => evalLoop (evalC P call draw ctx lf c) n a h K
  | e => K e a h

variable {P call draw ctx lf} {K : Exit → Act → Hp → Option R} {a : Act} {h : Hp}
@[simp] theorem Kreg_ap : Kreg K a h = K .normal a h := nd rfl
@[simp] theorem Kseq_normal {y : Code} : Kseq P call draw ctx lf y K .normal a h = evalC P call draw ctx lf y a h K := nd rfl
@[simp] theorem Kseq_ret {y : Code} : Kseq P call draw ctx lf y K .ret a h = K .ret a h := nd rfl
@[simp] theorem Kseq_exit {y : Code} {id : Nat} : Kseq P call draw ctx lf y K (.exit id) a h = K (.exit id) a h := nd rfl
@[simp] theorem Kblock_normal {id : Nat} : Kblock id K .normal a h = K .normal a h := nd rfl
@[simp] theorem Kblock_ret {id : Nat} : Kblock id K .ret a h = K .ret a h := nd rfl
@[simp] theorem Kblock_exit {id id' : Nat} : Kblock id K (.exit id') a h = if id' = id then K .normal a h else K (.exit id') a h := nd rfl
@[simp] theorem Kfin_normal {dc : DCall} {fn : Func} : Kfin P dc fn .normal a h = finish P dc fn a h := nd rfl
@[simp] theorem Kfin_ret {dc : DCall} {fn : Func} : Kfin P dc fn .ret a h = finish P dc fn a h := nd rfl
@[simp] theorem Kloop_normal {c : Code} {n : Nat} : Kloop P call draw ctx lf c n K .normal a h = evalLoop (evalC P call draw ctx lf c) n a h K := nd rfl
@[simp] theorem Kloop_ret {c : Code} {n : Nat} : Kloop P call draw ctx lf c n K .ret a h = K .ret a h := nd rfl
@[simp] theorem Kloop_exit {c : Code} {n id : Nat} : Kloop P call draw ctx lf c n K (.exit id) a h = K (.exit id) a h := nd rfl

@[simp] theorem evalC_skip : evalC P call draw ctx lf .skip a h K = K .normal a h := nd rfl
@[simp] theorem evalC_ret : evalC P call draw ctx lf .ret a h K = K .ret a h := nd rfl
@[simp] theorem evalC_exit {id : Nat} : evalC P call draw ctx lf (.exit id) a h K = K (.exit id) a h := nd rfl
@[simp] theorem evalC_label {id : Nat} : evalC P call draw ctx lf (.label id) a h K = K .normal a h := nd rfl
@[simp] theorem evalC_region {id : Nat} {ops : Array Oper} : evalC P call draw ctx lf (.region id ops false) a h K = evalOps P call ctx.isNone ops ops.toList a h (Kreg K) := nd rfl
@[simp] theorem evalC_drawn {id : Nat} {ops : Array Oper} : evalC P call draw ctx lf (.region id ops true) a h K = draw ops a h (Kreg K) := nd rfl
@[simp] theorem evalC_seq {x y : Code} : evalC P call draw ctx lf (.seq x y) a h K = evalC P call draw ctx lf x a h (Kseq P call draw ctx lf y K) := nd rfl
@[simp] theorem evalC_block {id : Nat} {x : Code} : evalC P call draw ctx lf (.block id x) a h K = evalC P call draw ctx lf x a h (Kblock id K) := nd rfl
@[simp] theorem evalC_loop {x : Code} : evalC P call draw ctx lf (.loop x) a h K = evalLoop (evalC P call draw ctx lf x) lf a h K := nd rfl
@[simp] theorem evalC_scope {x : Code} : evalC P call draw ctx lf (.scope x) a h K = evalC P call draw ctx lf x a h (Kscope K) := nd rfl
@[simp] theorem Kscope_normal : Kscope K .normal a h = K .normal a h := nd rfl
@[simp] theorem Kscope_ret : Kscope K .ret a h = K .ret a h := nd rfl
@[simp] theorem Kscope_exit {id : Nat} : Kscope K (.exit id) a h = K (.exit id) a h := nd rfl
@[simp] theorem evalC_cond {c : Operand} {x y : Code} : evalC P call draw ctx lf (.cond c x y) a h K = evalC P call draw ctx lf (pickC (a.eval c) x y) a h K := by
  simp only [evalC, pickC]
  split <;> simp_all [evalC]
theorem evalLoop_succ {c : Code} {n : Nat} : evalLoop (evalC P call draw ctx lf c) (n + 1) a h K = evalC P call draw ctx lf c a h (Kloop P call draw ctx lf c n K) := nd rfl

/-- A function's call. -/
theorem evalV_fn {intr : Intr} {n : Nat} {f : FuncId} {fn : Func} {c : Code} {args : Array Value} (hi : intr f = none) (hf : P.funcs[f]? = some fn) (hc : fn.body = some c) :
    evalV P intr (n + 1) (.fn f) args h = evalC P (evalV P intr n) (evalDraw P (evalV P intr n)) none n c { tmps := args ++ Array.replicate (fn.ntmps - args.size) undef, defers := [] } h (Kfin P (evalDef P (evalV P intr n) n) fn) := by
  simp only [evalV, hi, hf, hc]
  rfl
theorem evalV_intr {intr : Intr} {n : Nat} {f : FuncId} {g : Array Value → Hp → Option (Value × Hp)} {args : Array Value} (hi : intr f = some g) : evalV P intr (n + 1) (.fn f) args h = g args h := by
  simp only [evalV, hi]

/-! ### One operation after another -/
def opNext (o : Oper) (a : Act) (r : Option (Value × Hp)) (K : Act → Hp → Option R) : Option R :=
  match r with
  | some (v, h') => K (a.put o.dst v) h'
  | none => none
variable {Ka : Act → Hp → Option R}
/-- What is done behind an operation: the rest of the region. -/
def Kops (P : Program) (call : CallF) (top : Bool) (ops : Array Oper) (l : List Oper) (K : Act → Hp → Option R) (d : Option Tmp) (op : Op) (a : Act) (h : Hp) (r : Option (Value × Hp)) : Option R :=
  match r with
  | some (v, h') => evalOps P call top ops l (a.put d v) h' K
  | none =>
    if top then
      match op with
      | .defer c =>
        match aDefer P a.eval c with
        | some df => evalOps P call top ops l (Act.put { a with defers := df :: a.defers } d undef) h K
        | none => none
      | _ => none
    else none
variable {top : Bool}
@[simp] theorem evalOps_nil {ops : Array Oper} : evalOps P call top ops [] a h Ka = Ka a h := nd rfl
@[simp] theorem evalOps_cons {ops : Array Oper} {l : List Oper} {d : Option Tmp} {op : Op} {t : TypeId} {pos : String} {af : Array Edge} :
    evalOps P call top ops ({ dst := d, op := op, type := t, pos := pos, after := af, guard := none } :: l) a h Ka = Kops P call top ops l Ka d op a h (opVal P call { dst := none, op := op, type := t, pos := "", after := #[], guard := none } a h) := by
  simp only [evalOps, evalOp, Region.wanted, if_true, Kops]
  have : opVal P call { dst := d, op := op, type := t, pos := pos, after := af, guard := none } a h = opVal P call { dst := none, op := op, type := t, pos := "", after := #[], guard := none } a h := rfl
  rw [this]
  generalize opVal P call { dst := none, op := op, type := t, pos := "", after := #[], guard := none } a h = r
  rcases r with _ | ⟨v, h'⟩ <;> rfl
@[simp] theorem evalOps_guard {ops : Array Oper} {l : List Oper} {d : Option Tmp} {op : Op} {t : TypeId} {pos : String} {af : Array Edge} {g : Nat} {want : Bool} :
    evalOps P call top ops ({ dst := d, op := op, type := t, pos := pos, after := af, guard := some (g, want) } :: l) a h Ka =
      Kops P call top ops l Ka d op a h (if yielded ops a.tmps g == some want then opVal P call { dst := none, op := op, type := t, pos := "", after := #[], guard := none } a h else some (undef, h)) := by
  have e : opVal P call { dst := d, op := op, type := t, pos := pos, after := af, guard := some (g, want) } a h = opVal P call { dst := none, op := op, type := t, pos := "", after := #[], guard := none } a h := rfl
  by_cases hg : (yielded ops a.tmps g == some want) = true
  · simp only [evalOps, evalOp, Region.wanted, Kops, hg, if_true, e]
    generalize opVal P call { dst := none, op := op, type := t, pos := "", after := #[], guard := none } a h = r
    rcases r with _ | ⟨v, h'⟩ <;> rfl
  · simp only [evalOps, evalOp, Region.wanted, Kops, hg, if_false]
    rfl
@[simp] theorem Kops_some {ops : Array Oper} {l : List Oper} {d : Option Tmp} {v : Value} {h' : Hp} {op : Op} : Kops P call top ops l Ka d op a h (some (v, h')) = evalOps P call top ops l (a.put d v) h' Ka := nd rfl
theorem Kops_defer {ops : Array Oper} {l : List Oper} {d : Option Tmp} {c : Call} {df : Deferred} (hd : aDefer P a.eval c = some df) : Kops P call true ops l Ka d (.defer c) a h none = evalOps P call true ops l (Act.put { a with defers := df :: a.defers } d undef) h Ka := by
  simp only [Kops, if_true, hd]

/-! ### Temporaries -/
@[simp] theorem put_some {ts : Array Value} {ds : List Deferred} {d : Tmp} {v : Value} : Act.put { tmps := ts, defers := ds } (some d) v = { tmps := ts.setIfInBounds d v, defers := ds } := nd rfl
@[simp] theorem put_none {v : Value} : Act.put a none v = a := nd rfl
@[simp] theorem eval_tmp {t : Tmp} : a.eval (.tmp t) = a.tmps.getD t undef := nd rfl
@[simp] theorem eval_const {v : Value} : a.eval (.const v) = v := nd rfl
@[simp] theorem eval_func {f : FuncId} : a.eval (.func f) = .func (.func f) #[] #[] := nd rfl
@[simp] theorem eval_global {g : Nat} : a.eval (.global g) = .pointer (some ⟨g, 0, none⟩) := nd rfl
theorem getD_lit {l : List Value} {i : Nat} : (l.toArray).getD i undef = l.getD i undef := by simp
end
end Go.Abs
/- Running the evaluator by rewriting: operations. -/
namespace Go.Abs

/-! ### What the program's tables say -/
def tAgg (P : Program) (t : TypeId) : Option Bool :=
  match P.underlying t with
  | some (.struct _) => some true
  | some (.array _ _) => some true
  | some _ => some false
  | none => none
/-- How a variable of a type lies: as so many cells, or as one. -/
def tPart (P : Program) (t : TypeId) : Option (Option Nat) :=
  match tAgg P t with
  | some true => (P.info? t).map fun i => some i.size
  | some false => some none
  | none => none
def tSize (P : Program) (t : TypeId) : Option Nat := (P.info? t).map (·.size)
def tField (P : Program) (t : TypeId) (i : Nat) : Option (Nat × Option Nat) :=
  match P.underlying t with
  | some (.struct fs) => match fs[i]? with
    | some f => (tPart P f.type).map fun x => (f.offset, x)
    | none => none
  | _ => none
def tFieldA (P : Program) (t : TypeId) (i : Nat) : Option Nat :=
  match P.underlying t with
  | some (.struct fs) => match fs[i]? with
    | some f => match tSize P f.type with
      | some 0 => none
      | some _ => some f.offset
      | none => none
    | none => none
  | _ => none
/-- The cells of an element of a slice's type. -/
def tElem (P : Program) (t : TypeId) : Option Nat :=
  match P.underlying t with
  | some (.slice e) => tSize P e
  | _ => none
/-- An array's length and its elements' size. -/
def tArr (P : Program) (t : TypeId) : Option (Nat × Nat) :=
  match P.underlying t with
  | some (.array n e) => (tSize P e).map fun s => (n, s)
  | _ => none
def tArrPart (P : Program) (t : TypeId) : Option (Nat × Nat × Option Nat) :=
  match P.underlying t with
  | some (.array n e) => match tSize P e, tPart P e with
    | some s, some x => some (n, s, x)
    | _, _ => none
  | _ => none
def tZero (P : Program) (t : TypeId) : Option (Array Value) := ((P.info? t).bind (·.zero)).map (·.cells)
def tInt (P : Program) (src dst : TypeId) : Option IntKind :=
  match P.underlying src, P.underlying dst with
  | some _, some (.int k) => some k
  | _, _ => none
/-- What len is asked of. -/
def tLen (P : Program) (t : TypeId) : Option Bool :=
  match P.underlying t with
  | some .string => some true
  | some (.slice _) => some false
  | _ => none

def pickPart (x : Option (Nat × Option Nat)) (cs : Array Value) : Option Value :=
  match x with
  | some (o, some n) => some (.agg (cs.extract o (o + n)))
  | some (o, none) => cs[o]?
  | none => none
@[simp] theorem pickPart_agg {o n : Nat} {cs : Array Value} : pickPart (some (o, some n)) cs = some (.agg (cs.extract o (o + n))) := nd rfl
@[simp] theorem pickPart_one {o : Nat} {cs : Array Value} : pickPart (some (o, none)) cs = cs[o]? := nd rfl

section
variable {P : Program} {call : CallF} {a : Act} {h : Hp} {ty : TypeId}

theorem pureP_isAgg (t : TypeId) : pureP P (isAgg t) = tAgg P t := by
  simp only [isAgg, pureP_bind, pureP_underlying, tAgg]
  cases P.underlying t with
  | none => rfl
  | some d => cases d <;> rfl

theorem pureP_part (t : TypeId) (cs : Array Value) (off : Nat) : pureP P (part t cs off) = pickPart ((tPart P t).map fun x => (off, x)) cs := by
  simp only [part, pureP_bind, pureP_isAgg, tPart]
  cases tAgg P t with
  | none => rfl
  | some b =>
    cases b with
    | true =>
      simp only [Option.bind_some, if_true, pureP_bind, pureP_sizeOf]
      cases P.info? t <;> simp [pickPart]
    | false =>
      simp only [Option.bind_some, Bool.false_eq_true, if_false, Option.map_some, pickPart]
      cases cs[off]? <;> rfl

@[simp] theorem field_val (t : TypeId) (i : Nat) (cs : Array Value) : pureP P (Instr.field t (.agg cs) i) = pickPart (tField P t i) cs := by
  simp only [Instr.field, pureP_bind, pureP_underlying, tField]
  cases P.underlying t with
  | none => rfl
  | some d =>
    cases d with
    | struct fs =>
      simp only [Option.bind_some]
      cases fs[i]? with
      | none => rfl
      | some f =>
        simp only [pureP_bind, asAgg, pureP_pure, Option.bind_some]
        exact pureP_part _ _ _
    | _ => rfl

@[simp] theorem extract_val (vs : Array Value) (i : Nat) : pureP P (Instr.extract (.tuple vs) i) = vs[i]? := by
  simp only [Instr.extract]
  cases vs[i]? <;> rfl

theorem add_none {b o n : Nat} : Addr.add ⟨b, o, none⟩ n = ⟨b, o + n, none⟩ := by
  unfold Addr.add; split <;> simp_all

theorem fieldAt_val (t : TypeId) (i : Nat) (b o : Nat) (hT : (tFieldA P t i).isSome = true) : pureP P (Instr.fieldAt t (.pointer (some ⟨b, o, none⟩)) i) = some (.pointer (some ⟨b, o + (tFieldA P t i).getD 0, none⟩)) := by
  unfold tFieldA at hT ⊢
  simp only [Instr.fieldAt, pureP_bind, pureP_underlying]
  cases hu : P.underlying t with
  | none => simp [hu] at hT
  | some d =>
    cases d with
    | struct fs =>
      simp only [hu, Option.bind_some] at hT ⊢
      cases hf : fs[i]? with
      | none => simp [hf] at hT
      | some f =>
        simp only [hf] at hT ⊢
        simp only [pureP_bind, Instr.sureAddr, pureP_pure, Option.bind_some, fieldPlace, pureP_sizeOf]
        simp only [tSize] at hT ⊢
        cases hi : P.info? f.type with
        | none => simp [hi] at hT
        | some x =>
          simp only [hi, Option.map_some, Option.bind_some] at hT ⊢
          by_cases hz : x.size = 0
          · simp [hz] at hT
          · rw [if_neg hz]
            simp only [pureP_pure, Option.bind_some, add_none]
            cases hx : x.size with
            | zero => exact absurd hx hz
            | succ n => rfl
    | _ => simp [hu] at hT

theorem indexAt_slice (t : TypeId) (b o n c : Nat) (k : IntKind) (i : Int) (hT : (tElem P t).isSome = true) (h0 : 0 ≤ i) (hn : i < n) :
    pureP P (Instr.indexAt t (.slice (some ⟨b, o, none⟩) n c) (.int k i)) = some (.pointer (some ⟨b, o + i.toNat * (tElem P t).getD 0, none⟩)) := by
  unfold tElem at hT ⊢
  simp only [Instr.indexAt, pureP_bind, pureP_underlying, asIntOf, pureP_pure, Option.bind_some]
  cases hu : P.underlying t with
  | none => simp [hu] at hT
  | some d =>
    cases d with
    | slice e =>
      simp only [hu, Option.bind_some, pureP_pure, tSize] at hT ⊢
      cases hi : P.info? e with
      | none => simp [hi] at hT
      | some x =>
        simp [h0, hn, hi, hu, add_none, -bind_pure_comp]
    | _ => simp [hu] at hT

theorem indexAt_arr (t : TypeId) (b o : Nat) (k : IntKind) (i : Int) (hT : (tArr P t).isSome = true) (h0 : 0 ≤ i) (hn : i < ((tArr P t).getD (0, 0)).1) :
    pureP P (Instr.indexAt t (.pointer (some ⟨b, o, none⟩)) (.int k i)) = some (.pointer (some ⟨b, o + i.toNat * ((tArr P t).getD (0, 0)).2, none⟩)) := by
  unfold tArr at hT hn ⊢
  simp only [Instr.indexAt, pureP_bind, pureP_underlying, asIntOf, pureP_pure, Option.bind_some]
  cases hu : P.underlying t with
  | none => simp [hu] at hT
  | some d =>
    cases d with
    | array n e =>
      simp only [hu, Option.bind_some, pureP_pure, tSize] at hT hn ⊢
      cases hi : P.info? e with
      | none => simp [hi] at hT
      | some x =>
        simp [hi] at hn
        simp [h0, hn, hi, hu, add_none, Instr.sureAddr, -bind_pure_comp]
    | _ => simp [hu] at hT

@[simp] theorem loadVar_val (t : TypeId) (x : Addr) : aLoadVar P t x h = match tPart P t with
    | some (some n) => (h.row x n).map .agg
    | some none => h.cell x
    | none => none := by
  simp only [aLoadVar, pureP_isAgg, tPart, pureP_sizeOf]
  cases tAgg P t with
  | none => rfl
  | some b =>
    cases b with
    | true => cases P.info? t <;> rfl
    | false => rfl
@[simp] theorem storeVar_val (t : TypeId) (x : Addr) (v : Value) : aStoreVar P t x v h = match tSize P t with
    | some n => if v.cells.size = n then h.wr x v.cells.toList else none
    | none => none := by
  simp only [aStoreVar, pureP_sizeOf, tSize]
  rfl
@[simp] theorem alloc_val (t : TypeId) : aAlloc P t h = (tZero P t).map fun cs => (.pointer (some ⟨h.size, 0, none⟩), h.push (some (.cells cs true))) := by
  simp only [aAlloc, pureP_zeroValue, tZero]
  cases (P.info? t).bind (·.zero) <;> rfl

/-! ### One operation -/
end
end Go.Abs
/- Running the evaluator by rewriting: one operation. -/
namespace Go.Abs
section
variable {P : Program} {call : CallF} {a : Act} {h : Hp} {ty : TypeId}

def liftP (r : Option Value) (h : Hp) : Option (Value × Hp) := r.map fun v => (v, h)
@[simp] theorem liftP_some {v : Value} : liftP (some v) h = some (v, h) := nd rfl

abbrev bare (op : Op) (ty : TypeId) : Oper := { dst := none, op := op, type := ty, pos := "", after := #[], guard := none }

theorem opVal_pure {op : Op} (h1 : aHeap P a.eval (bare op ty) h = none) (h2 : ∀ c, op ≠ .call c) : opVal P call (bare op ty) a h = liftP (aPure P a.eval (bare op ty)) h := by
  unfold opVal
  cases aPure P a.eval (bare op ty) with
  | some v => rfl
  | none =>
    simp only [h1]
    cases op <;> first | rfl | (rename_i c; exact absurd rfl (h2 c))

def pickV (c x y : Value) : Option Value := match c with
  | .bool t => some (if t then x else y)
  | _ => none
@[simp] theorem pickV_bool {t : Bool} {x y : Value} : pickV (.bool t) x y = some (if t then x else y) := nd rfl
def idxA (P : Program) (t : TypeId) (x i : Value) : Option Value := match i with
  | .int k n => pureP P (Instr.indexAt t x (.int k n))
  | _ => none
@[simp] theorem idxA_int {t : TypeId} {x : Value} {k : IntKind} {n : Int} : idxA P t x (.int k n) = pureP P (Instr.indexAt t x (.int k n)) := nd rfl
def idxV (P : Program) (t : TypeId) (x i : Value) : Option Value := match i with
  | .int k n => pureP P (Instr.index t x (.int k n))
  | _ => none
@[simp] theorem idxV_int {t : TypeId} {x : Value} {k : IntKind} {n : Int} : idxV P t x (.int k n) = pureP P (Instr.index t x (.int k n)) := nd rfl
def unV (P : Program) (op : UnOp) (x : Value) : Option Value := flatOnly P #[x] (Op.unary op x)
def convV (P : Program) (s d : TypeId) (x : Value) : Option Value := flatOnly P #[x] (convert s d x)
def nilV (x : Value) : Option Value := match x with
  | .pointer (some a) => some (.pointer (some a))
  | .func (.func f) xs ys => some (.func (.func f) xs ys)
  | .func (.yield l) xs ys => some (.func (.yield l) xs ys)
  | _ => none
@[simp] theorem nilV_ptr {x : Addr} : nilV (.pointer (some x)) = some (.pointer (some x)) := nd rfl
@[simp] theorem nilV_func {f : FuncId} {xs ys : Array Value} : nilV (.func (.func f) xs ys) = some (.func (.func f) xs ys) := nd rfl
@[simp] theorem nilV_yield {l : Nat} {xs ys : Array Value} : nilV (.func (.yield l) xs ys) = some (.func (.yield l) xs ys) := nd rfl

@[simp] theorem op_move {x : Operand} : opVal P call (bare (.move x) ty) a h = some (a.eval x, h) := nd rfl
@[simp] theorem op_assign {x : Operand} : opVal P call (bare (.assign x) ty) a h = some (a.eval x, h) := nd rfl
@[simp] theorem op_pick {c x y : Operand} : opVal P call (bare (.pick c x y) ty) a h = liftP (pickV (a.eval c) (a.eval x) (a.eval y)) h := by
  rw [opVal_pure rfl (by intro c hc; cases hc)]; simp only [aPure, pickV]; cases a.eval c <;> rfl
@[simp] theorem op_bin {op : BinOp} {t yt : TypeId} {x y : Operand} : opVal P call (bare (.binOp op t x y yt) ty) a h = liftP (aBin P op t (a.eval x) (a.eval y)) h := by
  rw [opVal_pure rfl (by intro c hc; cases hc)]; rfl
@[simp] theorem op_un {op : UnOp} {t : TypeId} {x : Operand} : opVal P call (bare (.unOp op t x) ty) a h = liftP (unV P op (a.eval x)) h := by
  rw [opVal_pure rfl (by intro c hc; cases hc)]; rfl
@[simp] theorem op_convert {s d : TypeId} {x : Operand} : opVal P call (bare (.convert s d x) ty) a h = liftP (convV P s d (a.eval x)) h := by
  rw [opVal_pure rfl (by intro c hc; cases hc)]; rfl
@[simp] theorem op_fieldAddr {s : TypeId} {x : Operand} {f : Nat} : opVal P call (bare (.fieldAddr s x f) ty) a h = liftP (pureP P (Instr.fieldAt s (a.eval x) f)) h := by
  rw [opVal_pure rfl (by intro c hc; cases hc)]; rfl
@[simp] theorem op_field {s : TypeId} {x : Operand} {f : Nat} : opVal P call (bare (.field s x f) ty) a h = liftP (pureP P (Instr.field s (a.eval x) f)) h := by
  rw [opVal_pure rfl (by intro c hc; cases hc)]; rfl
@[simp] theorem op_indexAddr {s : TypeId} {x i : Operand} : opVal P call (bare (.indexAddr s x i) ty) a h = liftP (idxA P s (a.eval x) (a.eval i)) h := by
  rw [opVal_pure rfl (by intro c hc; cases hc)]; rfl
@[simp] theorem op_index {s : TypeId} {x i : Operand} : opVal P call (bare (.index s x i) ty) a h = liftP (idxV P s (a.eval x) (a.eval i)) h := by
  rw [opVal_pure rfl (by intro c hc; cases hc)]; rfl
@[simp] theorem op_extract {x : Operand} {i : Nat} : opVal P call (bare (.extract x i) ty) a h = liftP (pureP P (Instr.extract (a.eval x) i)) h := by
  rw [opVal_pure rfl (by intro c hc; cases hc)]; rfl
@[simp] theorem op_build {t : TypeId} {parts : Array (Nat × Operand)} : opVal P call (bare (.build t parts) ty) a h = liftP (pureP P (Instr.build t (parts.map fun x => (x.1, a.eval x.2)))) h := by
  rw [opVal_pure rfl (by intro c hc; cases hc)]; rfl
@[simp] theorem op_nilCheck {x : Operand} : opVal P call (bare (.nilCheck x) ty) a h = liftP (nilV (a.eval x)) h := by
  rw [opVal_pure rfl (by intro c hc; cases hc)]; rfl
@[simp] theorem op_makeFunc {f : FuncId} {xs ys : Array Operand} : opVal P call (bare (.makeFunc (.func f) xs ys) ty) a h = some (.func (.func f) (xs.map a.eval) (ys.map a.eval), h) := nd rfl

/-! ### The heap -/
def loadV (P : Program) (t : TypeId) (x : Value) (h : Hp) : Option (Value × Hp) := match x with
  | .pointer (some a) => (aLoadVar P t a h).map fun v => (v, h)
  | _ => none
@[simp] theorem loadV_ptr {t : TypeId} {x : Addr} : loadV P t (.pointer (some x)) h = liftP (aLoadVar P t x h) h := nd rfl
def storeV (P : Program) (t : TypeId) (x v : Value) (h : Hp) : Option (Value × Hp) := match x with
  | .pointer (some a) => (aStoreVar P t a v h).map fun h' => (undef, h')
  | _ => none
def putU (r : Option Hp) : Option (Value × Hp) := r.map fun h => (undef, h)
@[simp] theorem putU_some : putU (some h) = some (undef, h) := nd rfl
@[simp] theorem storeV_ptr {t : TypeId} {x : Addr} {v : Value} : storeV P t (.pointer (some x)) v h = putU (aStoreVar P t x v h) := nd rfl

theorem opVal_heap {op : Op} (h1 : aPure P a.eval (bare op ty) = none) {r : Option (Value × Hp)} (h2 : aHeap P a.eval (bare op ty) h = r.map fun x => (.val x.1, x.2)) (h3 : ∀ c, op ≠ .call c) :
    opVal P call (bare op ty) a h = r := by
  unfold opVal
  rw [h1, h2]
  rcases r with _ | ⟨v, h'⟩
  · cases op <;> first | rfl | (rename_i c; exact absurd rfl (h3 c))
  · rfl
@[simp] theorem op_load {t : TypeId} {x : Operand} : opVal P call (bare (.load t x) ty) a h = loadV P t (a.eval x) h := by
  refine opVal_heap rfl ?_ (by intro c hc; cases hc)
  simp only [aHeap, loadV]
  cases a.eval x with
  | pointer p =>
    cases p with
    | none => rfl
    | some b => simp only []; cases aLoadVar P t b h <;> rfl
  | _ => rfl
@[simp] theorem op_store {t : TypeId} {x y : Operand} : opVal P call (bare (.store t x y) ty) a h = storeV P t (a.eval x) (a.eval y) h := by
  unfold opVal
  have h1 : aPure P a.eval (bare (.store t x y) ty) = none := rfl
  rw [h1]
  simp only [aHeap, storeV]
  cases a.eval x with
  | pointer p =>
    cases p with
    | none => rfl
    | some b => simp only []; cases aStoreVar P t b (a.eval y) h <;> rfl
  | _ => rfl
@[simp] theorem op_alloc {t : TypeId} : opVal P call (bare (.alloc t) ty) a h = aAlloc P t h := opVal_heap rfl rfl (by intro c hc; cases hc)
@[simp] theorem op_box {t : TypeId} {x : Operand} : opVal P call (bare (.box t x) ty) a h = some (.pointer (some ⟨h.size, 0, none⟩), h.push (some (.cells (a.eval x).cells true))) := nd rfl
@[simp] theorem op_buildSlice {t : TypeId} {n : Nat} {parts : Array (Nat × Operand)} : opVal P call (bare (.buildSlice t n parts) ty) a h = aBuildSlice P t n (parts.map fun x => (x.1, a.eval x.2)) h := opVal_heap rfl rfl (by intro c hc; cases hc)
@[simp] theorem op_makeSlice {t : TypeId} {x y : Operand} : opVal P call (bare (.makeSlice t x y) ty) a h = aMakeSlice P t (a.eval x) (a.eval y) h := opVal_heap rfl rfl (by intro c hc; cases hc)
@[simp] theorem op_slice {t : TypeId} {x : Operand} {lo hi mx : Option Operand} : opVal P call (bare (.slice t x lo hi mx) ty) a h = aSlice P t (a.eval x) (lo.map a.eval) (hi.map a.eval) (mx.map a.eval) h :=
  opVal_heap rfl rfl (by intro c hc; cases hc)

/-! ### Calls -/
def lenV (P : Program) (t : TypeId) (x : Value) : Option Value := match tLen P t, x with
  | some true, .string s => some (goInt s.size)
  | some false, .slice _ n _ => some (goInt n)
  | _, _ => none
theorem op_len_slice {ts : Array TypeId} {t : TypeId} {x : Operand} {b : Option Addr} {n k : Nat} (hx : a.eval x = .slice b n k) (ht : tLen P t = some false) :
    opVal P call (bare (.call { callee := .builtin .len, args := #[x], argTypes := #[t] }) ty) a h = some (goInt n, h) := by
  have : aPure P a.eval (bare (.call { callee := .builtin .len, args := #[x], argTypes := #[t] }) ty) = some (goInt n) := by
    simp only [aPure, aPureCall, List.map_toArray, List.map_cons, List.map_nil, hx, Builtin.len_, pureP_bind, pureP_underlying]
    unfold tLen at ht
    cases hu : P.underlying t with
    | none => simp [hu] at ht
    | some d => cases d <;> simp_all [Builtin.len_]
  unfold opVal
  rw [this]
theorem op_call {f : Operand} {xs : Array Operand} {ts : Array TypeId} : opVal P call (bare (.call { callee := .value f, args := xs, argTypes := ts }) ty) a h =
    match aTarget P (a.eval f) (xs.map a.eval) with
    | some (t, args) => call t args h
    | none => none := nd rfl

end
end Go.Abs
/- Running the evaluator by rewriting: numbers and truth values. -/
namespace Go.Abs
section
variable {P : Program} {call : CallF} {a : Act} {h : Hp} {ty t : TypeId} {k k' : IntKind} {x y z : Int}

@[simp] theorem bin_add : aBin P .add t (.int k x) (.int k y) = some (.int k (k.wrap (x + y))) := by
  simp [aBin, flatOnly, binOp, Op.intArith, flatB]
@[simp] theorem bin_sub : aBin P .sub t (.int k x) (.int k y) = some (.int k (k.wrap (x - y))) := by
  simp [aBin, flatOnly, binOp, Op.intArith, flatB]
@[simp] theorem bin_mul : aBin P .mul t (.int k x) (.int k y) = some (.int k (k.wrap (x * y))) := by
  simp [aBin, flatOnly, binOp, Op.intArith, flatB]
theorem bin_quo (hy : y ≠ 0) : aBin P .quo t (.int k x) (.int k y) = some (.int k (k.wrap (x.tdiv y))) := by
  simp [aBin, flatOnly, binOp, Op.intDiv, flatB, hy]
theorem bin_rem (hy : y ≠ 0) : aBin P .rem t (.int k x) (.int k y) = some (.int k (x.tmod y)) := by
  simp [aBin, flatOnly, binOp, Op.intDiv, flatB, hy]
/-- Bits. -/
def ibAnd (k : IntKind) (x y : Int) : Int := k.wrap ((BitVec.ofInt k.bits x &&& BitVec.ofInt k.bits y).toNat : Int)
def ibOr (k : IntKind) (x y : Int) : Int := k.wrap ((BitVec.ofInt k.bits x ||| BitVec.ofInt k.bits y).toNat : Int)
def ibXor (k : IntKind) (x y : Int) : Int := k.wrap ((BitVec.ofInt k.bits x ^^^ BitVec.ofInt k.bits y).toNat : Int)
def ibAndNot (k : IntKind) (x y : Int) : Int := k.wrap ((BitVec.ofInt k.bits x &&& ~~~ BitVec.ofInt k.bits y).toNat : Int)
def ishl (k : IntKind) (x y : Int) : Int := k.wrap (x * 2 ^ (min y.toNat k.bits))
def ishr (k : IntKind) (x y : Int) : Int := x.fdiv (2 ^ (min y.toNat k.bits))
@[simp] theorem bin_and : aBin P .and t (.int k x) (.int k y) = some (.int k (ibAnd k x y)) := by
  simp [aBin, flatOnly, binOp, Op.intBits, flatB, ibAnd]
@[simp] theorem bin_or : aBin P .or t (.int k x) (.int k y) = some (.int k (ibOr k x y)) := by
  simp [aBin, flatOnly, binOp, Op.intBits, flatB, ibOr]
@[simp] theorem bin_xor : aBin P .xor t (.int k x) (.int k y) = some (.int k (ibXor k x y)) := by
  simp [aBin, flatOnly, binOp, Op.intBits, flatB, ibXor]
@[simp] theorem bin_andNot : aBin P .andNot t (.int k x) (.int k y) = some (.int k (ibAndNot k x y)) := by
  simp [aBin, flatOnly, binOp, Op.intBits, flatB, ibAndNot]
theorem bin_shl (hy : 0 ≤ y) : aBin P .shl t (.int k x) (.int k' y) = some (.int k (ishl k x y)) := by
  have : ¬ y < 0 := by omega
  simp [aBin, flatOnly, binOp, Op.shift, flatB, ishl, this]
theorem bin_shr (hy : 0 ≤ y) : aBin P .shr t (.int k x) (.int k' y) = some (.int k (ishr k x y)) := by
  have : ¬ y < 0 := by omega
  simp [aBin, flatOnly, binOp, Op.shift, flatB, ishr, this]
theorem beq_dec : (x == y) = decide (x = y) := by
  by_cases h : x = y <;> simp [h]
@[simp] theorem bin_eql : aBin P .eql t (.int k x) (.int k y) = some (.bool (decide (x = y))) := by
  simp [aBin, flatOnly, binOp, Op.intCmp, flatB, beq_dec]
@[simp] theorem bin_neq : aBin P .neq t (.int k x) (.int k y) = some (.bool (!decide (x = y))) := by
  simp [aBin, flatOnly, binOp, Op.intCmp, flatB, bne, beq_dec]
@[simp] theorem bin_lss : aBin P .lss t (.int k x) (.int k y) = some (.bool (decide (x < y))) := by
  simp [aBin, flatOnly, binOp, Op.intCmp, flatB]
@[simp] theorem bin_leq : aBin P .leq t (.int k x) (.int k y) = some (.bool (decide (x ≤ y))) := by
  simp [aBin, flatOnly, binOp, Op.intCmp, flatB]
@[simp] theorem bin_gtr : aBin P .gtr t (.int k x) (.int k y) = some (.bool (decide (y < x))) := by
  simp [aBin, flatOnly, binOp, Op.intCmp, flatB]
@[simp] theorem bin_geq : aBin P .geq t (.int k x) (.int k y) = some (.bool (decide (y ≤ x))) := by
  simp [aBin, flatOnly, binOp, Op.intCmp, flatB]
@[simp] theorem un_not {b : Bool} : unV P .not (.bool b) = some (.bool (!b)) := by
  simp [unV, flatOnly, Op.unary, flatB]
@[simp] theorem un_neg : unV P .neg (.int k x) = some (.int k (k.wrap (0 - x))) := by
  simp [unV, flatOnly, Op.unary, Op.intArith, flatB]
theorem conv_int {s d : TypeId} (hT : (tInt P s d).isSome = true) : convV P s d (.int k x) = some (.int ((tInt P s d).getD .i64) (((tInt P s d).getD .i64).wrap x)) := by
  unfold tInt at hT ⊢
  simp only [convV, flatOnly, convert, pureP_bind, pureP_underlying]
  cases hs : P.underlying s with
  | none => simp [hs] at hT
  | some ds =>
    cases hd : P.underlying d with
    | none => simp [hs, hd] at hT
    | some dd =>
      cases dd <;> simp [hs, hd] at hT
      simp [Conv.intToInt, flatB]

/-- max and min of numbers. -/
@[simp] theorem op_max {xs : Array Operand} {ts : Array TypeId} : opVal P call (bare (.call { callee := .builtin .max, args := xs, argTypes := ts }) ty) a h =
    liftP (flatOnly P (xs.map a.eval) (Builtin.max_ ts ty (xs.map a.eval))) h := by
  unfold opVal
  have : aPure P a.eval (bare (.call { callee := .builtin .max, args := xs, argTypes := ts }) ty) = flatOnly P (xs.map a.eval) (Builtin.max_ ts ty (xs.map a.eval)) := rfl
  rw [this]
  cases flatOnly P (xs.map a.eval) (Builtin.max_ ts ty (xs.map a.eval)) <;> rfl
@[simp] theorem op_min {xs : Array Operand} {ts : Array TypeId} : opVal P call (bare (.call { callee := .builtin .min, args := xs, argTypes := ts }) ty) a h =
    liftP (flatOnly P (xs.map a.eval) (Builtin.min_ ts ty (xs.map a.eval))) h := by
  unfold opVal
  have : aPure P a.eval (bare (.call { callee := .builtin .min, args := xs, argTypes := ts }) ty) = flatOnly P (xs.map a.eval) (Builtin.min_ ts ty (xs.map a.eval)) := rfl
  rw [this]
  cases flatOnly P (xs.map a.eval) (Builtin.min_ ts ty (xs.map a.eval)) <;> rfl
theorem ite_max : (if y > x then y else x) = max x y := by
  rw [Int.max_def]; split <;> split <;> omega
theorem ite_min : (if y < x then y else x) = min x y := by
  rw [Int.min_def]; split <;> split <;> omega
@[simp] theorem max2_val {ts : Array TypeId} : flatOnly P #[.int k x, .int k' y] (Builtin.max_ ts ty #[.int k x, .int k' y]) = some (.int k (max x y)) := by
  simp [flatOnly, Builtin.max_, Builtin.max2, flatB, ← ite_max]
@[simp] theorem max3_val {ts : Array TypeId} {k'' : IntKind} : flatOnly P #[.int k x, .int k' y, .int k'' z] (Builtin.max_ ts ty #[.int k x, .int k' y, .int k'' z]) = some (.int k (max (max x y) z)) := by
  simp [flatOnly, Builtin.max_, Builtin.max2, flatB, ← ite_max]
@[simp] theorem min2_val {ts : Array TypeId} : flatOnly P #[.int k x, .int k' y] (Builtin.min_ ts ty #[.int k x, .int k' y]) = some (.int k (min x y)) := by
  simp [flatOnly, Builtin.min_, Builtin.min2, flatB, ← ite_min]

/-! ### Cells of values -/
@[simp] theorem cells_int : (Value.int k x).cells = #[.int k x] := nd rfl
@[simp] theorem cells_bool {b : Bool} : (Value.bool b).cells = #[.bool b] := nd rfl
@[simp] theorem cells_agg {cs : Array Value} : (Value.agg cs).cells = cs := nd rfl
@[simp] theorem cells_pointer {p : Option Addr} : (Value.pointer p).cells = #[.pointer p] := nd rfl
@[simp] theorem cells_slice {p : Option Addr} {n c : Nat} : (Value.slice p n c).cells = #[.slice p n c] := nd rfl
@[simp] theorem cells_string {s : ByteArray} : (Value.string s).cells = #[.string s] := nd rfl

/-! ### The heap, block by block -/
@[simp] theorem get_push_self {b : Option Blk} : (h.push b).get h.size = b := by rw [Hp.get_push, if_pos rfl]
theorem get_push_ne {b : Option Blk} {c : Nat} (hc : c ≠ h.size) : (h.push b).get c = h.get c := by rw [Hp.get_push, if_neg hc]
@[simp] theorem get_set_self {b : Nat} {x : Option Blk} : (h.setB b x).get b = x := by rw [Hp.get_setB, if_pos rfl]
theorem get_set_ne {b c : Nat} {x : Option Blk} (hc : c ≠ b) : (h.setB b x).get c = h.get c := by rw [Hp.get_setB, if_neg hc]
end
end Go.Abs
/- Contracts: what a function gives and does, as the evaluator may use it; and what the machine does. -/
namespace Go.Abs

/-- A function's contract. -/
def Con (P : Program) (CK : Code → Prop) (f : FuncId) (g : Array Value → Hp → Option (Value × Hp)) : Prop :=
  ∀ args h v h', g args h = some (v, h') → ∀ β w, Rel P CK β h w → (∀ a ∈ args, vok h.size a) → CallsIn (FW none) 0 P f (args.map (ren β)) w (Post P CK β h w v h')

/-- All that is asked of a program. -/
structure Base (P : Program) : Prop where
  pk : ProgOk P
  code : ∀ (f : FuncId) (fn : Func) (c : Code), P.funcs[f]? = some fn → fn.body = some c → codeOk P drawOk c = true

abbrev CKb (P : Program) : Code → Prop := CKd P drawOk

section
variable {P : Program} {β β' : Bm} {h h' : Hp} {w w' : World} {intr : Intr}

theorem eval_calls (B : Base P) (hi : IntrOk P (CKb P) intr) {n : Nat} {f : FuncId} {args : Array Value} {v : Value} (he : evalV P intr n (.fn f) args h = some (v, h')) (r : Rel P (CKb P) β h w)
    (ha : ∀ a ∈ args, vok h.size a) : CallsIn (FW none) 0 P f (args.map (ren β)) w (Post P (CKb P) β h w v h') :=
  evalV_sound B.pk B.code (fun call hc => evalDraw_ok B.pk hc) hi n (.fn f) args h v h' he β w r ha trivial

/-- What a function has made for itself is forgotten. -/
theorem St.forget {CK : Code → Prop} (r : Rel P CK β h w) (s : St P CK β h w β' h' w') (hk : ∀ b, b < h.size → h'.get b = h.get b) : St P CK β h w β h w' := by
  refine ⟨⟨r.glob, r.gsize, fun b y hy => ?_, r.inj, r.lt, r.roLe⟩, fun _ _ => rfl, Nat.le_refl _, s.wsize, rfl, fun _ _ _ => rfl, fun _ _ o => o, fun _ _ o => o, fun b hb ho => ?_, s.frame, s.os, s.tape, s.output⟩
  · have hlt := r.lt b (by rw [hy]; simp)
    obtain ⟨o, ho, hok⟩ := s.rel.blk b y (by rw [hk b hlt]; exact hy)
    obtain ⟨o₀, _, hok₀⟩ := r.blk b y hy
    rw [s.ext b hlt] at ho hok
    refine ⟨o, ho, ?_⟩
    cases y with
    | cells cs own =>
      obtain ⟨C, e, fz, h1, h2, h3, h4⟩ := hok
      obtain ⟨C₀, e₀, fz₀, g1, g2, g3, g4⟩ := hok₀
      refine ⟨C, e, fz, h1, fun i v hv => ?_, h3, h4⟩
      have hvk := (g2 i v hv).2
      exact ⟨by rw [(h2 i v hv).1, ren_congr s.ext v hvk], hvk⟩
    | loop st pd tm ps asg body d =>
      obtain ⟨h1, h2, h3, h4, h5, fn, h6⟩ := hok
      obtain ⟨g1, g2, _⟩ := hok₀
      refine ⟨g1, g2, h3, h4, h5, fn, ?_⟩
      rw [h6, s.ext d g1]
      congr 2
      exact Array.map_congr_left fun v hv => ren_congr s.ext v (g2 v hv)
    | defd t => exact hok
    | map es cl =>
      obtain ⟨h1, h2⟩ := hok
      obtain ⟨g1, g2⟩ := hok₀
      refine ⟨g1, ?_⟩
      rw [h2]
      congr 1
      exact Array.map_congr_left fun e he => by rw [ren_congr s.ext _ (g1 e he).1, ren_congr s.ext _ (g1 e he).2]
  · have := r.lt b ho; omega

/-- A function that gives a value without turning anything. -/
theorem Con.clean (B : Base P) (hi : IntrOk P (CKb P) intr) {f : FuncId} {F : Array Value → Hp → Option Value}
    (hF : ∀ args h v, F args h = some v → h.ro ≤ h.size → (∀ a ∈ args, vok h.size a) → ∃ n h', evalV P intr n (.fn f) args h = some (v, h') ∧ (∀ b, b < h.size → h'.get b = h.get b) ∧ vok h.size v) :
    Con P (CKb P) f (fun args h => (F args h).map fun v => (v, h)) := by
  intro args h v h' hg β w r ha
  rw [Option.map_eq_some_iff] at hg
  obtain ⟨u, hu, e⟩ := hg
  obtain ⟨rfl, rfl⟩ := Prod.mk.inj e
  obtain ⟨n, h', he, hk, hv⟩ := hF args h u hu r.roLe ha
  refine (eval_calls B hi he r ha).mono fun e w' hp => ?_
  obtain ⟨β', rfl, h2, h3⟩ := hp
  exact ⟨β, by rw [ren_congr h3.ext u hv], hv, St.forget r h3 hk⟩

theorem Con.table {CK : Code → Prop} {tb : List (FuncId × (Array Value → Hp → Option (Value × Hp)))} (h : ∀ x ∈ tb, Con P CK x.1 x.2) : IntrOk P CK (fun f => tb.lookup f) := by
  intro f g hg args h' v h'' he β w r ha
  have : (f, g) ∈ tb := by
    induction tb with
    | nil => cases hg
    | cons x l ih =>
      obtain ⟨f', g'⟩ := x
      replace hg : List.lookup f ((f', g') :: l) = some g := hg
      rw [List.lookup_cons] at hg
      by_cases hf : (f == f') = true
      · rw [hf] at hg
        simp only [Option.some.injEq] at hg
        rw [beq_iff_eq] at hf
        subst hf hg
        exact List.mem_cons_self
      · rw [Bool.not_eq_true] at hf
        rw [hf] at hg
        exact List.mem_cons_of_mem _ (ih (fun x hx => h x (List.mem_cons_of_mem _ hx)) hg)
  exact h _ this args h' v h'' he β w r ha

/-- A law's call: nothing that was there is turned. -/
theorem law_calls (B : Base P) (hi : IntrOk P (CKb P) intr) {n : Nat} {f : FuncId} {args : Array Value} {b : Bool} (he : evalV P intr n (.fn f) args h = some (.bool b, h')) (r : Rel P (CKb P) β h w)
    (ha : ∀ a ∈ args, vok h.size a) (hno : ∀ c, h.ro ≤ c → ¬ h.own c) : Calls P f (args.map (ren β)) w fun e w' => e = .returned (.bool b) ∧ RowKit.Below w.heap.size w w' := by
  refine callsIn_wide.1 ((eval_calls B hi he r ha).mono fun e w' hp => ?_)
  obtain ⟨β', rfl, _, s⟩ := hp
  exact ⟨by rw [ren_bool], s.os, s.tape, s.output, s.wsize, fun k hk => s.frame k hk fun c hc ho => absurd ho (hno c hc)⟩

/-! ### A function's call, with its results -/
def finR (P : Program) (dc : DCall) (rs : Array ResultVar) (a : Act) (h : Hp) : Option (Value × Hp) :=
  match takeMarks dc a.defers h with
  | some h' => (match aResultsL P a.tmps h' rs.toList with
    | some [v] => some v
    | some vs => some (.tuple vs.toArray)
    | none => none).map fun v => (v, h')
  | none => none
def Kret (P : Program) (dc : DCall) (rs : Array ResultVar) : Exit → Act → Hp → Option (Value × Hp) := fun e a h => match e with
  | .normal => finR P dc rs a h
  | .ret => finR P dc rs a h
  | _ => none
variable {dc : DCall} {rs : Array ResultVar} {a : Act} {ts : Array Value}
@[simp] theorem Kret_normal : Kret P dc rs .normal a h = finR P dc rs a h := nd rfl
@[simp] theorem Kret_ret : Kret P dc rs .ret a h = finR P dc rs a h := nd rfl
theorem evalV_call {n : Nat} {f : FuncId} {fn : Func} {c : Code} {m : Nat} {args : Array Value} (hi : intr f = none) (hf : P.funcs[f]? = some fn) (hc : fn.body = some c) (hr : fn.results = rs) (hm : fn.ntmps = m) :
    evalV P intr (n + 1) (.fn f) args h = evalC P (evalV P intr n) (evalDraw P (evalV P intr n)) none n c { tmps := args ++ Array.replicate (m - args.size) undef, defers := [] } h (Kret P (evalDef P (evalV P intr n) n) rs) := by
  rw [evalV_fn hi hf hc, ← hm]
  congr 1
  funext e a h
  have key : finish P (evalDef P (evalV P intr n) n) fn a h = finR P (evalDef P (evalV P intr n) n) rs a h := by
    unfold finish finR
    rw [hr.symm]
    cases takeMarks (evalDef P (evalV P intr n) n) a.defers h with
    | none => rfl
    | some h1 =>
      simp only [aResults]
      generalize aResultsL P a.tmps h1 fn.results.toList = r
      rcases r with _ | (_ | ⟨x, _ | ⟨y, l⟩⟩) <;> rfl
  cases e <;> simp only [Kfin, Kret, key]

/-- The places of results. -/
def resV (P : Program) (ts : Array Value) (h : Hp) : List ResultVar → Option (List Value)
  | [] => some []
  | x :: l => match aResult P ts h x, resV P ts h l with
    | some v, some vs => some (v :: vs)
    | _, _ => none
@[simp] theorem finR_one {x : ResultVar} : finR P dc #[x] { tmps := ts, defers := [] } h = (aResult P ts h x).map fun v => (v, h) := by
  simp only [finR, takeMarks, aResultsL]
  cases aResult P ts h x <;> rfl
@[simp] theorem finR_two {x y : ResultVar} : finR P dc #[x, y] { tmps := ts, defers := [] } h = (aResult P ts h x).bind fun v => (aResult P ts h y).map fun u => (.tuple #[v, u], h) := by
  simp only [finR, takeMarks, aResultsL]
  cases aResult P ts h x with
  | none => rfl
  | some v => cases aResult P ts h y <;> rfl
@[simp] theorem finR_zero : finR P dc #[] { tmps := ts, defers := [] } h = some (.tuple #[], h) := nd rfl
theorem replicate_arr {n : Nat} {v : Value} : Array.replicate n v = (List.replicate n v).toArray := by simp
@[simp] theorem aResult_tmp {t : Tmp} : aResult P ts h (.tmp t) = some (ts.getD t undef) := nd rfl
end
end Go.Abs
/- What is asked of a program, as a check. -/
namespace Go.Abs

def ZI (i : TypeInfo) : Prop := ∀ v, i.zero = some v → flatB v = true ∧ v.cells.size = i.size

theorem forIn_inv {α σ : Type} (I : σ → Prop) (f : α → σ → Option (ForInStep σ)) (hf : ∀ a s r, I s → f a s = some r → ∃ s', (r = .yield s' ∨ r = .done s') ∧ I s') :
    ∀ (l : List α) (s r : σ), I s → forIn l s f = some r → I r
  | [], s, r, hs, h => by simp at h; subst h; exact hs
  | a :: l, s, r, hs, h => by
    rw [List.forIn_cons] at h
    cases hfa : f a s with
    | none => rw [hfa] at h; cases h
    | some x =>
      rw [hfa] at h
      obtain ⟨s', hx, hi⟩ := hf a s x hs hfa
      rcases hx with rfl | rfl
      · exact forIn_inv I f hf l s' r hi h
      · have h : some s' = some r := h
        cases h; exact hi

theorem reckonStruct_ok {info : TypeId → Option TypeInfo} (hi : ∀ t i, info t = some i → ZI i) {fs : Array Field} {i : TypeInfo} (h : Made.reckonStruct info fs = some i) : ZI i := by
  unfold Made.reckonStruct at h
  simp only [] at h
  rw [← Array.forIn_toList] at h
  rw [Option.bind_eq_bind, Option.bind_eq_some_iff] at h
  obtain ⟨s, hs, h⟩ := h
  have I := forIn_inv (fun s : Array Field × Nat × Nat × Nat × Nat × Bool × Bool × Option (Array Value) × String => ∀ zs, s.2.2.2.2.2.2.2.1 = some zs → zs.size = s.2.1 ∧ ∀ c ∈ zs, flatB c = true) _ ?_ _ _ _ ?_ hs
  · have key : ∀ v, i.zero = some v → ∃ zs, s.2.2.2.2.2.2.2.1 = some zs ∧ v = .agg zs ∧ i.size = s.2.1 := by
      intro v hv
      split at h <;> (cases h; rw [Option.map_eq_some_iff] at hv; obtain ⟨zs, h1, rfl⟩ := hv; exact ⟨zs, h1, rfl, rfl⟩)
    intro v hv
    obtain ⟨zs, h1, rfl, h2⟩ := key v hv
    obtain ⟨h3, h4⟩ := I zs h1
    refine ⟨?_, by rw [h2, ← h3]; rfl⟩
    rw [flatB_agg, Array.all_eq_true_iff_forall_mem]
    exact h4
  · intro f s r hI hb
    cases hinf : info f.type with
    | none => rw [hinf] at hb; cases hb
    | some x =>
      rw [hinf] at hb
      simp only [Option.bind_eq_bind, Option.bind_some] at hb
      have hz : ∀ zs, (if s.2.1 + x.size > Made.mostCells then none else do
          let u ← s.2.2.2.2.2.2.2.1
          let t ← x.zero
          pure (u ++ t.cells) : Option (Array Value)) = some zs → zs.size = s.2.1 + x.size ∧ ∀ c ∈ zs, flatB c = true := by
        intro zs hzs
        split at hzs
        · cases hzs
        · simp only [Option.bind_eq_bind, Option.bind_eq_some_iff] at hzs
          obtain ⟨u, hu, t, ht, e⟩ := hzs
          cases e
          obtain ⟨g1, g2⟩ := hI u hu
          obtain ⟨g3, g4⟩ := hi _ _ hinf t ht
          refine ⟨by simp [g1, g4], fun c hc => ?_⟩
          rcases Array.mem_append.1 hc with hc | hc
          · exact g2 c hc
          · exact flat_cells g3 c hc
      by_cases h1 : x.str.isEmpty = true
      · rw [if_pos h1] at hb; cases hb
      · rw [if_neg h1] at hb
        by_cases h2 : f.embedded = true
        · rw [if_pos h2] at hb; cases hb
        · rw [if_neg h2] at hb
          by_cases h3 : f.tag.isEmpty = true
          · rw [if_pos h3] at hb
            by_cases h4 : x.bytes = 0
            · simp only [h4, if_true, Option.pure_def, Option.bind_some] at hb
              cases hb; exact ⟨_, .inl rfl, hz⟩
            · simp only [h4, if_false, Option.pure_def, Option.bind_some] at hb
              cases hb; exact ⟨_, .inl rfl, hz⟩
          · rw [if_neg h3, Option.bind_eq_some_iff] at hb
            obtain ⟨tag, _, hb⟩ := hb
            by_cases h4 : x.bytes = 0
            · simp only [h4, if_true] at hb
              cases hb; exact ⟨_, .inl rfl, hz⟩
            · simp only [h4, if_false] at hb
              cases hb; exact ⟨_, .inl rfl, hz⟩
  · intro zs hzs
    cases hzs
    exact ⟨rfl, by simp⟩

theorem word_ok {d : TypeDesc} {s : String} {z : Value} {b : Bool} {n : Nat} (h1 : flatB z = true) (h2 : z.cells.size = 1) : ZI (Made.word d s z b n) := by
  intro v hv
  cases hv
  exact ⟨h1, h2⟩
theorem reckon_ok {info : TypeId → Option TypeInfo} (hi : ∀ t i, info t = some i → ZI i) {d : TypeDesc} {i : TypeInfo} (h : Made.reckon info d = some i) : ZI i := by
  unfold Made.reckon at h
  split at h
  all_goals try (simp only [Option.bind_eq_bind, Option.bind_eq_some_iff] at h)
  · obtain ⟨x, hx, h⟩ := h
    have fin : ∀ (o : Option String) (e : TypeId), (o.bind fun s => some (Made.word (TypeDesc.pointer e) ("*" ++ s) (Value.pointer none) true)) = some i → ZI i := by
      intro o e ho
      rw [Option.bind_eq_some_iff] at ho
      obtain ⟨s, _, ho⟩ := ho
      cases ho; exact word_ok (by simp [flatB]) rfl
    split at h
    · cases h
    · split at h
      · cases h
      · exact fin _ _ h
    · exact fin _ _ h
  · obtain ⟨x, hx, s, hs, h⟩ := h; cases h; exact word_ok (by simp [flatB]) rfl
  · obtain ⟨x, hx, s, hs, y, hy, s', hs', h⟩ := h; cases h; exact word_ok (by simp [flatB]) rfl
  · obtain ⟨x, hx, s, hs, h⟩ := h; cases h; exact word_ok (by simp [flatB]) rfl
  · obtain ⟨x, hx, h⟩ := h; cases h; exact word_ok (by simp [flatB]) rfl
  · rename_i n e
    obtain ⟨x, hx, s, hs, h⟩ := h
    cases h
    intro v hv
    simp only [] at hv
    split at hv
    · cases hv
    · split at hv
      · rename_i hz
        cases hv
        exact ⟨by simp, by simpa using hz.symm⟩
      · rw [Option.map_eq_some_iff] at hv
        obtain ⟨z, hz, rfl⟩ := hv
        obtain ⟨g1, g2⟩ := hi _ _ hx z hz
        refine ⟨?_, by show (Array.replicate n z.cells).flatten.size = n * x.size; rw [← g2]; simp⟩
        rw [flatB_agg, Array.all_eq_true_iff_forall_mem]
        intro c hc
        rw [Array.mem_flatten] at hc
        obtain ⟨ys, hys, hc⟩ := hc
        have := (Array.mem_replicate.1 hys).2
        subst this
        exact flat_cells g1 c hc
  · exact reckonStruct_ok hi h
  · cases h

theorem infoAt_ok {T : Tables} (h0 : ∀ i ∈ T.types, ZI i) : ∀ (f : Nat) (t : TypeId) (i : TypeInfo), Made.infoAt T f t = some i → ZI i
  | 0, _, _, h => by simp [Made.infoAt] at h
  | f + 1, t, i, h => by
    simp only [Made.infoAt] at h
    split at h
    · exact h0 i (Array.mem_of_getElem? h)
    · rw [Option.bind_eq_some_iff] at h
      obtain ⟨d, _, h⟩ := h
      exact reckon_ok (infoAt_ok h0 f) h
theorem info_ok {T : Tables} (h0 : ∀ i ∈ T.types, ZI i) {t : TypeId} {i : TypeInfo} (h : T.info? t = some i) : ZI i := by
  unfold Tables.info? at h
  split at h
  · exact h0 i (Array.mem_of_getElem? h)
  · exact infoAt_ok h0 _ t i h

def baseB (P : Program) : Bool :=
  (P.types.all fun i => match i.zero with
    | some v => flatB v && v.cells.size == i.size
    | none => true) &&
  (P.funcs.all fun fn => match fn.body with
    | some c => !(fn.name == "runtime.NumGoroutine") && codeOk P drawOk c
    | none => true) &&
  P.follows .mixedOrders

theorem base_of {P : Program} (h : baseB P = true) : Base P := by
  unfold baseB at h
  simp only [Bool.and_eq_true, Array.all_eq_true_iff_forall_mem] at h
  obtain ⟨⟨h1, h2⟩, h3⟩ := h
  refine ⟨⟨?_, fun f fn hf hb => ?_, h3⟩, fun f fn c hf hc => ?_⟩
  · intro t i v hi hv
    refine info_ok (T := P.toTables) (fun i hi v hv => ?_) hi v hv
    have := h1 i hi
    rw [hv] at this
    simp only [Bool.and_eq_true, beq_iff_eq] at this
    exact this
  · have := h2 fn (Array.mem_of_getElem? hf)
    cases hc : fn.body with
    | none => rw [hc] at hb; cases hb
    | some c =>
      rw [hc] at this
      simp only [Bool.and_eq_true, Bool.not_eq_true'] at this
      exact this.1
  · have := h2 fn (Array.mem_of_getElem? hf)
    rw [hc] at this
    simp only [Bool.and_eq_true] at this
    exact this.2

end Go.Abs
/- Contracts of functions of numbers, truth values and structs: decoders of arguments. -/
namespace Go.Abs

structure Dec1 (α : Type) where
  d : Value → Option α
  e : α → Value
  ok : ∀ v a, d v = some a → v = e a
structure Dec (α : Type) where
  d : List Value → Option α
  e : α → List Value
  ok : ∀ v a, d v = some a → v = e a

def Dec.nil : Dec Unit where
  d l := match l with
    | [] => some ()
    | _ => none
  e _ := []
  ok v a h := by cases v <;> simp_all
def Dec1.cons {α γ : Type} (x : Dec1 α) (y : Dec γ) : Dec (α × γ) where
  d l := match l with
    | v :: l => (x.d v).bind fun a => (y.d l).map fun b => (a, b)
    | _ => none
  e p := x.e p.1 :: y.e p.2
  ok v a h := by
    cases v with
    | nil => cases h
    | cons v l =>
      simp only [Option.bind_eq_some_iff, Option.map_eq_some_iff] at h
      obtain ⟨p, h1, r, h2, rfl⟩ := h
      simp only [x.ok v p h1, ← y.ok l r h2]
def Dec1.int (k : IntKind) : Dec1 Int where
  d v := match v with
    | .int k' n => if k' = k then some n else none
    | _ => none
  e n := .int k n
  ok v a h := by
    cases v <;> simp at h
    obtain ⟨rfl, rfl⟩ := h; rfl
def Dec1.bool : Dec1 Bool where
  d v := match v with
    | .bool b => some b
    | _ => none
  e b := .bool b
  ok v a h := by
    cases v <;> simp at h
    subst h; rfl
def Dec.agg {α : Type} (x : Dec α) : Dec1 α where
  d v := match v with
    | .agg cs => x.d cs.toList
    | _ => none
  e a := .agg (x.e a).toArray
  ok v a h := by
    cases v with
    | agg cs => simp only [] at h; rw [← x.ok _ _ h]
    | _ => cases h

def gOf {α : Type} (D : Dec α) (R : α → Value) : Array Value → Hp → Option (Value × Hp) := fun args h => (D.d args.toList).map fun a => (R a, h)

section
variable {P : Program} {intr : Intr} {α : Type}
theorem Con.flat (B : Base P) (hi : IntrOk P (CKb P) intr) {f : FuncId} (D : Dec α) {R : α → Value} (hR : ∀ a, flatB (R a) = true)
    (hev : ∀ a (h : Hp), h.ro ≤ h.size → ∃ n h', evalV P intr n (.fn f) (D.e a).toArray h = some (R a, h') ∧ ∀ b, b < h.size → h'.get b = h.get b) : Con P (CKb P) f (gOf D R) := by
  have := Con.clean B hi (f := f) (F := fun args _ => (D.d args.toList).map R) fun args h v hv hro ha => by
    rw [Option.map_eq_some_iff] at hv
    obtain ⟨a, h1, rfl⟩ := hv
    obtain ⟨n, h', h2, h3⟩ := hev a h hro
    have e : args = (D.e a).toArray := by rw [← D.ok _ _ h1]
    exact ⟨n, h', by rw [e]; exact h2, h3, flat_vok _ (hR a)⟩
  intro args h v h' hg
  refine this args h v h' ?_
  unfold gOf at hg
  simpa [Option.map_map] using hg
end

/-- No block ahead of the call is turned. -/
structure Keeps (h h' : Hp) : Prop where
  size : h.size ≤ h'.size
  get : ∀ b, b < h.size → h'.get b = h.get b
theorem Keeps.refl (h : Hp) : Keeps h h := ⟨Nat.le_refl _, fun _ _ => rfl⟩
theorem Keeps.push {h h' : Hp} (k : Keeps h h') (x : Option Blk) : Keeps h (h'.push x) :=
  ⟨Nat.le_succ_of_le k.size, fun b hb => by rw [get_push_ne (by have := k.size; omega)]; exact k.get b hb⟩
theorem Keeps.set {h h' : Hp} (k : Keeps h h') {c : Nat} (hc : h.size ≤ c) (x : Option Blk) : Keeps h (h'.setB c x) :=
  ⟨k.size, fun b hb => by rw [get_set_ne (by omega)]; exact k.get b hb⟩
end Go.Abs
/- More tables: rows, bodies; what calls enter; slices. -/
namespace Go.Abs
def hasB (P : Program) (f : FuncId) : Bool := match P.funcs[f]? with
  | some fn => fn.body.isSome
  | none => false
/-- A slice's type: the cells of an element's zero value. -/
def tRow (P : Program) (t : TypeId) : Option (Nat × Nat × Array Value) := match P.underlying t with
  | some (.slice e) => match P.info? e with
    | some i => match i.zero with
      | some z => some (i.size, i.bytes, z.cells)
      | none => none
    | none => none
  | _ => none
section
variable {P : Program} {call : CallF} {a : Act} {h : Hp} {ty : TypeId}
theorem target_val {g : FuncId} {xs ys args : Array Value} : aTarget P (.func (.func g) xs ys) args = if hasB P g then some (.fn g, xs ++ args ++ ys) else none := by
  have h1 : ∀ (r : Option Func), P.funcs[g]? = r → aTarget P (.func (.func g) xs ys) args = (match r with
      | some fn => if fn.body.isSome then some (.fn g, xs ++ args ++ ys) else none
      | none => none) := by intro r hr; subst hr; rfl
  have h2 : ∀ (r : Option Func), P.funcs[g]? = r → hasB P g = (match r with
      | some fn => fn.body.isSome
      | none => false) := by intro r hr; subst hr; rfl
  cases hfn : P.funcs[g]? with
  | none => rw [h1 _ hfn, h2 _ hfn]; rfl
  | some fn => rw [h1 _ hfn, h2 _ hfn]
theorem target_yield {l : Nat} {xs ys args : Array Value} : aTarget P (.func (.yield l) xs ys) args = some (.yield l, xs ++ args) := nd rfl
@[simp] theorem aResult_cell {ts : Array Value} {c : Tmp} {t : TypeId} : aResult P ts h (.cell c t) = match ts.getD c undef with
    | .pointer (some b) => aLoadVar P t b h
    | _ => none := nd rfl
theorem ro_le {x y k : Nat} (hxy : x ≤ y) : (x ≤ y + k) = True := by simp; omega
theorem oneC_int {k : IntKind} {n : Int} : oneC (.int k n) = true := nd rfl
theorem oneC_bool {b : Bool} : oneC (.bool b) = true := nd rfl
theorem oneC_ptr {b : Option Addr} : oneC (.pointer b) = true := nd rfl
theorem oneC_slice {b : Option Addr} {n c : Nat} : oneC (.slice b n c) = true := nd rfl
theorem oneC_string {b : ByteArray} : oneC (.string b) = true := nd rfl
theorem oneC_func {f : Fn} {x y : Array Value} : oneC (.func f x y) = true := nd rfl
theorem splice_nil {cs : Array Value} {i : Nat} : splice cs i [] = cs := nd rfl
theorem splice_cons {cs : Array Value} {i : Nat} {v : Value} {vs : List Value} : splice cs i (v :: vs) = splice (cs.setIfInBounds i v) (i + 1) vs := nd rfl
theorem gtt : ((some true : Option Bool) == some true) = true := nd rfl
theorem gtf : ((some true : Option Bool) == some false) = false := nd rfl
theorem gft : ((some false : Option Bool) == some true) = false := nd rfl
theorem gff : ((some false : Option Bool) == some false) = true := nd rfl
theorem gnt : ((none : Option Bool) == some true) = false := nd rfl
theorem gnf : ((none : Option Bool) == some false) = false := nd rfl
end
end Go.Abs
/- Running the evaluator by rewriting: regions that draw their order. -/
namespace Go.Abs
set_option linter.all false

/-- An operation that does not look at the heap: its value alone. -/
theorem opVal_nonheap {P : Program} {call : CallF} {o : Oper} {a : Act} {h : Hp} (hh : heapOp o = false) : opVal P call o a h = (aPure P a.eval o).map fun v => (v, h) := by
  unfold opVal
  cases hp : aPure P a.eval o with
  | some v => rfl
  | none =>
    obtain ⟨dst, op, ty, pos, after, guard⟩ := o
    cases op <;> simp only [heapOp] at hh <;> first | rfl | (cases hh; done) | skip
    rename_i c
    obtain ⟨cal, args, ats⟩ := c
    cases cal with
    | builtin b => cases b <;> simp at hh <;> rfl
    | _ => simp at hh

/-- How an operation of a region that draws its order is run (0: it only reckons; 1: ordered against all that look at the heap; 2: it sees the old heap; 3: it loads out of a block that stays; 4, 5: it writes at once, 5: some blocks hidden). -/
def kindOf (ops : Array Oper) (bf : Array Nat) (hs : List (Nat × Bool)) (j : Nat) (o : Oper) : Nat :=
  if heapOp o then (if isLd ops bf j o then (if isLate ops bf j o then 6 else 3) else if direct ops bf hs j o then (if (hidOf ops bf j).isEmpty then 4 else if look1 ops bf j o then 7 else 5) else if ordered bf hs j && (hidOf ops bf j).isEmpty then 1 else 2) else 0
def modeOf (ops : Array Oper) (bf : Array Nat) (hs : List (Nat × Bool)) (j : Nat) (o : Oper) : Nat × Nat × Nat :=
  (kindOf ops bf hs j o, if kindOf ops bf hs j o = 5 then encT (hidOf ops bf j) else if kindOf ops bf hs j o = 7 then encL bf (hidOf ops bf j) j else bf.getD j 0, bf.getD j 0 ||| 2 ^ j)
def modes0 (ops : Array Oper) : List (Nat × Nat × Nat) :=
  let bf := Region.before ops
  let hs := heapOps ops bf
  ops.toList.zipIdx.map fun x => modeOf ops bf hs x.2 x.1

def modes (ops : Array Oper) : List (Nat × Nat × Nat) := match newOp ops with | none => modes0 ops | some _ => []

def keepR (j lo hi : Nat) (kept : List (Nat × Nat × Nat)) : List (Nat × Nat × Nat) := if lo = hi then kept else (j, lo, hi) :: kept
@[simp] theorem keepR_same {j lo : Nat} {kept : List (Nat × Nat × Nat)} : keepR j lo lo kept = kept := by simp [keepR]
theorem keepR_add {j lo k : Nat} {kept : List (Nat × Nat × Nat)} : keepR j lo (lo + (k + 1)) kept = (j, lo, lo + (k + 1)) :: kept := by simp [keepR]

section
variable {R : Type} (P : Program) (call : CallF)

def dmLook (m : Nat × Nat × Nat) (s0 j : Nat) (o : Oper) (a : Act) (h : Hp) (kept : List (Nat × Nat × Nat)) (wr : Bool) : Option DS :=
  if wr then none else match opVal P call o a (h.view m.2.1 kept) with
    | some (v, h1) => if h.size ≤ h1.size then (if vokB (allow s0 (keepR j h.size h1.size kept) (m.2.2)) v then
        some ⟨v, h.more h1 (allow s0 (keepR j h.size h1.size kept) (m.2.2)) (flatB v), keepR j h.size h1.size kept, false⟩ else none) else none
    | none => none

def dmWrite (m : Nat × Nat × Nat) (s0 j : Nat) (o : Oper) (a : Act) (h : Hp) (kept : List (Nat × Nat × Nat)) (hid : List Nat) : Option DS :=
  match opVal P call o a (h.hideL hid) with
  | some (v, h') => if h.size ≤ h'.size then (if vokB (allow s0 (keepR j h.size h'.size kept) (m.2.2)) v then some ⟨v, Hp.backL h h' hid, keepR j h.size h'.size kept, true⟩ else none) else none
  | none => none
def dmStep (m : Nat × Nat × Nat) (s0 j : Nat) (o : Oper) (a : Act) (h : Hp) (kept : List (Nat × Nat × Nat)) (wr : Bool) : Option DS :=
  match m.1 with
  | 0 => match opVal P call o a h with
    | some (v, _) => if vokB (allow s0 kept m.2.1) v then some ⟨v, h, kept, wr⟩ else none
    | none => none
  | 1 => match dmLook P call m s0 j o a h kept wr with
    | some d => some d
    | none => dmWrite P call m s0 j o a h kept []
  | 3 => match opVal P call o a h with
    | some (v, _) => if vokB (allow s0 [] 0) v then some ⟨v, h, kept, wr⟩ else none
    | none => none
  | 4 => dmWrite P call m s0 j o a h kept []
  | 5 => dmWrite P call m s0 j o a h kept (hidB a (decT 8 m.2.1))
  | 6 => match opVal P call o a h with
    | some (v, _) => if vokB (allow s0 [] 0) v && oldP s0 o a then some ⟨v, h, kept, wr⟩ else none
    | none => none
  | 7 => match dmLook P call (7, m.2.1 % 2 ^ 128, m.2.2) s0 j o a h kept wr with
    | some d => some d
    | none => dmWrite P call m s0 j o a h kept (hidB a (decT 8 (m.2.1 / 2 ^ 128)))
  | _ => dmLook P call m s0 j o a h kept wr

def evalDM (ops : Array Oper) (s0 : Nat) : List (Oper × Nat × Nat × Nat) → Nat → Act → Hp → List (Nat × Nat × Nat) → Bool → (Act → Hp → Option R) → Option R
  | [], _, a, h, _, _, K => K a h
  | (o, m) :: l, j, a, h, kept, wr, K =>
    if Region.wanted o (yielded ops a.tmps) then
      match dmStep P call m s0 j o a h kept wr with
      | some d => evalDM ops s0 l (j + 1) (a.put o.dst d.v) d.h d.kept d.wr K
      | none => none
    else evalDM ops s0 l (j + 1) (a.put o.dst undef) h kept wr K

def SameK (k k' : List (Nat × Nat × Nat)) : Prop := (∀ s0 bits id, allow s0 k bits id = allow s0 k' bits id) ∧ ∀ (h : Hp) bits, h.hideAll bits k = h.hideAll bits k'

theorem SameK.refl (k : List (Nat × Nat × Nat)) : SameK k k := ⟨fun _ _ _ => rfl, fun _ _ => rfl⟩
theorem SameK.keep {k k' : List (Nat × Nat × Nat)} (s : SameK k k') (j lo hi : Nat) : SameK ((j, lo, hi) :: k) (keepR j lo hi k') := by
  have e1 : ∀ s0 bits id, allow s0 ((j, lo, hi) :: k) bits id = (allow s0 k bits id || (bits.testBit j && (decide (lo ≤ id) && decide (id < hi)))) := by
    intro s0 bits id
    simp only [allow, List.any_cons]
    cases decide (id < s0) <;> simp [Bool.or_comm]
  have e1' : ∀ s0 bits id, allow s0 ((j, lo, hi) :: k') bits id = (allow s0 k' bits id || (bits.testBit j && (decide (lo ≤ id) && decide (id < hi)))) := by
    intro s0 bits id
    simp only [allow, List.any_cons]
    cases decide (id < s0) <;> simp [Bool.or_comm]
  unfold keepR
  split
  · rename_i e
    subst e
    refine ⟨fun s0 bits id => ?_, fun h bits => ?_⟩
    · rw [e1, ← s.1]
      have : (decide (lo ≤ id) && decide (id < lo)) = false := by
        rw [Bool.and_eq_false_iff]; simp only [decide_eq_false_iff_not]; omega
      rw [this]; simp
    · simp only [Hp.hideAll]
      rw [← s.2]
      split
      · rfl
      · rw [Nat.sub_self]; rfl
  · refine ⟨fun s0 bits id => ?_, fun h bits => ?_⟩
    · rw [e1, e1', s.1]
    · simp only [Hp.hideAll]
      rw [s.2]

theorem vokB_congr {p q : Nat → Bool} (h : p = q) (v : Value) : vokB p v = vokB q v := by rw [h]

theorem look_same {bf : Array Nat} {s0 j : Nat} {o : Oper} {a : Act} {h : Hp} {kept kept' : List (Nat × Nat × Nat)} {wr : Bool} {m : Nat} (sk : SameK kept kept') :
    (drawLook P call bf s0 j o a h kept wr = none ∧ dmLook P call (m, bf.getD j 0, bf.getD j 0 ||| 2 ^ j) s0 j o a h kept' wr = none) ∨
    ∃ v h' k k', drawLook P call bf s0 j o a h kept wr = some ⟨v, h', k, false⟩ ∧ dmLook P call (m, bf.getD j 0, bf.getD j 0 ||| 2 ^ j) s0 j o a h kept' wr = some ⟨v, h', k', false⟩ ∧ SameK k k' := by
  have hak : ∀ bits lo hi, allow s0 ((j, lo, hi) :: kept) bits = allow s0 (keepR j lo hi kept') bits := fun bits lo hi => funext fun id => (sk.keep j lo hi).1 s0 bits id
  have hv : ∀ bits, h.view bits kept = h.view bits kept' := fun bits => by unfold Hp.view; rw [sk.2]
  unfold drawLook dmLook
  cases wr with
  | true => exact .inl ⟨rfl, rfl⟩
  | false =>
    simp only [Bool.false_eq_true, if_false, hv]
    rcases opVal P call o a (h.view (bf.getD j 0) kept') with _ | ⟨v, h'⟩
    · exact .inl ⟨rfl, rfl⟩
    · simp only [hak]
      by_cases hs : h.size ≤ h'.size
      · by_cases hq : vokB (allow s0 (keepR j h.size h'.size kept') (bf.getD j 0 ||| 2 ^ j)) v = true
        · simp only [hs, hq, decide_true, Bool.and_self, if_true]
          exact .inr ⟨_, _, _, _, rfl, rfl, sk.keep _ _ _⟩
        · left
          simp only [hs, hq, decide_true, Bool.true_and, if_true]
          exact ⟨rfl, rfl⟩
      · left
        simp only [hs, decide_false, Bool.false_and, if_false]
        exact ⟨rfl, trivial⟩

theorem write_same {bf : Array Nat} {s0 j : Nat} {o : Oper} {a : Act} {h : Hp} {kept kept' : List (Nat × Nat × Nat)} {m1 m2 : Nat} {hid : List Nat} (sk : SameK kept kept') :
    (drawWrite P call bf s0 j o a h kept hid = none ∧ dmWrite P call (m1, m2, bf.getD j 0 ||| 2 ^ j) s0 j o a h kept' hid = none) ∨
    ∃ v h' k k', drawWrite P call bf s0 j o a h kept hid = some ⟨v, h', k, true⟩ ∧ dmWrite P call (m1, m2, bf.getD j 0 ||| 2 ^ j) s0 j o a h kept' hid = some ⟨v, h', k', true⟩ ∧ SameK k k' := by
  have hak : ∀ bits lo hi, allow s0 ((j, lo, hi) :: kept) bits = allow s0 (keepR j lo hi kept') bits := fun bits lo hi => funext fun id => (sk.keep j lo hi).1 s0 bits id
  unfold drawWrite dmWrite
  rcases opVal P call o a (h.hideL hid) with _ | ⟨v, h'⟩
  · exact .inl ⟨rfl, rfl⟩
  · simp only [hak]
    by_cases hs : h.size ≤ h'.size
    · by_cases hq : vokB (allow s0 (keepR j h.size h'.size kept') (bf.getD j 0 ||| 2 ^ j)) v = true
      · simp only [hs, hq, decide_true, Bool.and_self, if_true]
        exact .inr ⟨_, _, _, _, rfl, rfl, sk.keep _ _ _⟩
      · left
        simp only [hs, hq, decide_true, Bool.true_and, if_true]
        exact ⟨rfl, rfl⟩
    · left
      simp only [hs, decide_false, Bool.false_and, if_false]
      exact ⟨rfl, trivial⟩
/-- The same step, and the same of what is kept. -/
def SameS (x y : Option DS) : Prop := (x = none ∧ y = none) ∨ ∃ v h k k' w, x = some ⟨v, h, k, w⟩ ∧ y = some ⟨v, h, k', w⟩ ∧ SameK k k'
theorem step_same {ops : Array Oper} {s0 j : Nat} {o : Oper} {a : Act} {h : Hp} {kept kept' : List (Nat × Nat × Nat)} {wr : Bool} (sk : SameK kept kept') (hw : Region.wanted o (yielded ops a.tmps) = true) :
    SameS (drawStep P call ops (Region.before ops) (heapOps ops (Region.before ops)) s0 j o a h kept wr) (dmStep P call (modeOf ops (Region.before ops) (heapOps ops (Region.before ops)) j o) s0 j o a h kept' wr) := by
  have ha : ∀ bits, allow s0 kept bits = allow s0 kept' bits := fun bits => funext fun id => sk.1 s0 bits id
  have hwr := fun m1 m2 hid => write_same P call (bf := Region.before ops) (s0 := s0) (j := j) (o := o) (a := a) (h := h) (m1 := m1) (m2 := m2) (hid := hid) sk
  have wfin : ∀ m1 m2 hid, SameS (drawWrite P call (Region.before ops) s0 j o a h kept hid) (dmWrite P call (m1, m2, (Region.before ops).getD j 0 ||| 2 ^ j) s0 j o a h kept' hid) := fun m1 m2 hid => by
    rcases hwr m1 m2 hid with ⟨e1, e2⟩ | ⟨v, h', k, k', e1, e2, sk'⟩
    · exact .inl ⟨e1, e2⟩
    · exact .inr ⟨v, h', k, k', true, e1, e2, sk'⟩
  have lk := fun m => look_same P call (bf := Region.before ops) (s0 := s0) (j := j) (o := o) (a := a) (h := h) (wr := wr) (m := m) sk
  unfold drawStep
  rw [if_pos hw]
  by_cases hh : heapOp o = true
  · rw [if_pos hh]
    by_cases hl : isLd ops (Region.before ops) j o = true
    · rw [if_pos hl]
      by_cases hla : isLate ops (Region.before ops) j o = true
      · have hk : kindOf ops (Region.before ops) (heapOps ops (Region.before ops)) j o = 6 := by unfold kindOf; rw [if_pos hh, if_pos hl, if_pos hla]
        simp only [modeOf, hk, dmStep, hla]
        rcases opVal P call o a h with _ | ⟨v, h'⟩
        · exact .inl ⟨rfl, rfl⟩
        · simp only [Bool.not_true, Bool.false_or]
          by_cases hq : (vokB (allow s0 [] 0) v && oldP s0 o a) = true
          · simp only [hq, if_true]; exact .inr ⟨_, _, _, _, _, rfl, rfl, sk⟩
          · simp only [hq, if_false]; exact .inl ⟨rfl, rfl⟩
      · have hk : kindOf ops (Region.before ops) (heapOps ops (Region.before ops)) j o = 3 := by unfold kindOf; rw [if_pos hh, if_pos hl, if_neg hla]
        rw [Bool.not_eq_true] at hla
        simp only [modeOf, hk, dmStep, hla]
        rcases opVal P call o a h with _ | ⟨v, h'⟩
        · exact .inl ⟨rfl, rfl⟩
        · simp only [Bool.not_false, Bool.true_or, Bool.and_true]
          by_cases hq : vokB (allow s0 [] 0) v = true
          · simp only [hq, if_true]; exact .inr ⟨_, _, _, _, _, rfl, rfl, sk⟩
          · simp only [hq, if_false]; exact .inl ⟨rfl, rfl⟩
    rw [if_neg hl]
    by_cases hd : direct ops (Region.before ops) (heapOps ops (Region.before ops)) j o = true
    · rw [if_pos hd]
      by_cases he : (hidOf ops (Region.before ops) j).isEmpty = true
      · have hk : kindOf ops (Region.before ops) (heapOps ops (Region.before ops)) j o = 4 := by unfold kindOf; rw [if_pos hh, if_neg hl, if_pos hd, if_pos he]
        have e0 : hidOf ops (Region.before ops) j = [] := List.isEmpty_iff.1 he
        have e1 : look1 ops (Region.before ops) j o = false := by unfold look1; rw [he]; simp
        simp only [modeOf, hk, dmStep, e1, Bool.false_eq_true, if_false]
        rw [e0]
        exact wfin _ _ []
      · by_cases hlk : look1 ops (Region.before ops) j o = true
        · have hk : kindOf ops (Region.before ops) (heapOps ops (Region.before ops)) j o = 7 := by unfold kindOf; rw [if_pos hh, if_neg hl, if_pos hd, if_neg he, if_pos hlk]
          have hlk' := hlk
          unfold look1 at hlk'
          simp only [Bool.and_eq_true, beq_iff_eq] at hlk'
          simp only [modeOf, hk, dmStep, hlk, if_true, show (7 : Nat) = 5 ↔ False from by decide, if_false, hlk'.2.1, hlk'.2.2]
          rcases lk 7 with ⟨e1, e2⟩ | ⟨v, h', k, k', e1, e2, sk'⟩
          · simp only [e1, e2]; exact wfin _ _ _
          · simp only [e1, e2]; exact .inr ⟨_, _, _, _, _, rfl, rfl, sk'⟩
        · have hk : kindOf ops (Region.before ops) (heapOps ops (Region.before ops)) j o = 5 := by unfold kindOf; rw [if_pos hh, if_neg hl, if_pos hd, if_neg he, if_neg hlk]
          simp only [modeOf, hk, dmStep, if_true, hlk, if_false]
          exact wfin _ _ _
    rw [if_neg hd]
    by_cases ho : (ordered (Region.before ops) (heapOps ops (Region.before ops)) j && (hidOf ops (Region.before ops) j).isEmpty) = true
    · have hk : kindOf ops (Region.before ops) (heapOps ops (Region.before ops)) j o = 1 := by unfold kindOf; rw [if_pos hh, if_neg hl, if_neg hd, if_pos ho]
      simp only [modeOf, hk, dmStep, show (1 : Nat) = 5 ↔ False from by decide, show (1 : Nat) = 7 ↔ False from by decide, if_false]
      rcases lk 1 with ⟨e1, e2⟩ | ⟨v, h', k, k', e1, e2, sk'⟩
      · rw [e1, e2]
        simp only [ho, if_true]
        exact wfin _ _ []
      · rw [e1, e2]; exact .inr ⟨_, _, _, _, _, rfl, rfl, sk'⟩
    · have hk : kindOf ops (Region.before ops) (heapOps ops (Region.before ops)) j o = 2 := by unfold kindOf; rw [if_pos hh, if_neg hl, if_neg hd, if_neg ho]
      simp only [modeOf, hk, dmStep, show (2 : Nat) = 5 ↔ False from by decide, show (2 : Nat) = 7 ↔ False from by decide, if_false]
      rcases lk 2 with ⟨e1, e2⟩ | ⟨v, h', k, k', e1, e2, sk'⟩
      · simp only [e1, e2, if_neg ho]; exact .inl ⟨rfl, rfl⟩
      · simp only [e1, e2]; exact .inr ⟨_, _, _, _, _, rfl, rfl, sk'⟩
  · rw [if_neg hh]
    have hk : kindOf ops (Region.before ops) (heapOps ops (Region.before ops)) j o = 0 := by unfold kindOf; rw [if_neg hh]
    rw [Bool.not_eq_true] at hh
    simp only [modeOf, hk, dmStep, opVal_nonheap hh, ha, show (0 : Nat) = 5 ↔ False from by decide, show (0 : Nat) = 7 ↔ False from by decide, if_false]
    cases aPure P a.eval o with
    | none => exact .inl ⟨rfl, rfl⟩
    | some v =>
      simp only [Option.map_some]
      by_cases hq : vokB (allow s0 kept' ((Region.before ops).getD j 0)) v = true
      · simp only [hq, if_true]; exact .inr ⟨_, _, _, _, _, rfl, rfl, sk⟩
      · simp only [hq, if_false]; exact .inl ⟨rfl, rfl⟩

theorem evalDraw_modes_aux (ops : Array Oper) (s0 : Nat) : ∀ (l : List Oper) (j : Nat) (a : Act) (h : Hp) (kept kept' : List (Nat × Nat × Nat)) (wr : Bool) (K : Act → Hp → Option R), SameK kept kept' →
    evalDrawL P call ops (Region.before ops) (heapOps ops (Region.before ops)) s0 l j a h kept wr K =
      evalDM P call ops s0 ((l.zipIdx j).map fun x => (x.1, modeOf ops (Region.before ops) (heapOps ops (Region.before ops)) x.2 x.1)) j a h kept' wr K
  | [], j, a, h, kept, kept', wr, K, sk => rfl
  | o :: l, j, a, h, kept, kept', wr, K, sk => by
    simp only [evalDrawL, List.zipIdx_cons, List.map_cons, evalDM]
    by_cases hw : Region.wanted o (yielded ops a.tmps) = true
    · rw [if_pos hw]
      rcases step_same P call (ops := ops) (s0 := s0) (j := j) (o := o) (a := a) (h := h) (wr := wr) sk hw with ⟨e1, e2⟩ | ⟨v, h', k, k', w, e1, e2, sk'⟩
      · rw [e1, e2]
      · rw [e1, e2]
        exact evalDraw_modes_aux ops s0 l (j + 1) _ _ _ _ _ _ sk'
    · rw [if_neg hw]
      have e : drawStep P call ops (Region.before ops) (heapOps ops (Region.before ops)) s0 j o a h kept wr = some ⟨undef, h, kept, wr⟩ := by unfold drawStep; rw [if_neg hw]
      rw [e]
      exact evalDraw_modes_aux ops s0 l (j + 1) _ _ _ _ _ _ sk

theorem zip_zipIdx {α β : Type} (f : α × Nat → β) : ∀ (l : List α) (j : Nat), l.zip ((l.zipIdx j).map f) = (l.zipIdx j).map fun x => (x.1, f x)
  | [], _ => rfl
  | o :: l, j => by simp only [List.zipIdx_cons, List.map_cons, List.zip_cons_cons, zip_zipIdx f l]

theorem evalDraw0_modes {ops : Array Oper} {a : Act} {h : Hp} {K : Act → Hp → Option R} (ms : List (Nat × Nat × Nat)) (hm : modes0 ops = ms) :
    evalDraw0 P call ops a h K = evalDM P call ops h.size (ops.toList.zip ms) 0 a h [] false K := by
  subst hm
  unfold evalDraw0
  rw [evalDraw_modes_aux P call ops h.size ops.toList 0 a h [] [] false K (SameK.refl _)]
  congr 1
  exact (zip_zipIdx _ _ _).symm
theorem evalDraw_modes {ops : Array Oper} {a : Act} {h : Hp} {K : Act → Hp → Option R} (ms : List (Nat × Nat × Nat)) (hm : modes ops = ms) (hn : ms.isEmpty = false := by rfl) :
    evalDraw P call ops a h K = evalDM P call ops h.size (ops.toList.zip ms) 0 a h [] false K := by
  unfold evalDraw
  unfold modes at hm
  split at hm
  · rename_i h0
    rw [h0]
    exact evalDraw0_modes P call ms hm
  · subst hm; cases hn

/-! ### One operation after another -/
def KD0 (ops : Array Oper) (bits bits' s0 j : Nat) (l : List (Oper × Nat × Nat × Nat)) (kept : List (Nat × Nat × Nat)) (wr : Bool) (K : Act → Hp → Option R) (d : Option Tmp) (a : Act) (h : Hp) (r : Option (Value × Hp)) : Option R :=
  match r with
  | some (v, _) => if vokB (allow s0 kept bits) v then evalDM P call ops s0 l (j + 1) (a.put d v) h kept wr K else none
  | none => none
def KD1 (ops : Array Oper) (bits bits' s0 j : Nat) (l : List (Oper × Nat × Nat × Nat)) (kept : List (Nat × Nat × Nat)) (K : Act → Hp → Option R) (d : Option Tmp) (a : Act) (h : Hp) (r : Option (Value × Hp)) : Option R :=
  match r with
  | some (v, h') => if h.size ≤ h'.size then (if vokB (allow s0 (keepR j h.size h'.size kept) (bits')) v then evalDM P call ops s0 l (j + 1) (a.put d v) h' (keepR j h.size h'.size kept) true K else none) else none
  | none => none
def KDL (ops : Array Oper) (s0 j : Nat) (l : List (Oper × Nat × Nat × Nat)) (kept : List (Nat × Nat × Nat)) (wr : Bool) (K : Act → Hp → Option R) (d : Option Tmp) (a : Act) (h : Hp) (r : Option (Value × Hp)) : Option R :=
  match r with
  | some (v, _) => if vokB (allow s0 [] 0) v then evalDM P call ops s0 l (j + 1) (a.put d v) h kept wr K else none
  | none => none
def KDH (ops : Array Oper) (bits' s0 j : Nat) (l : List (Oper × Nat × Nat × Nat)) (kept : List (Nat × Nat × Nat)) (K : Act → Hp → Option R) (d : Option Tmp) (a : Act) (h : Hp) (hid : List Nat) (r : Option (Value × Hp)) : Option R :=
  match r with
  | some (v, h') => if h.size ≤ h'.size then (if vokB (allow s0 (keepR j h.size h'.size kept) (bits')) v then evalDM P call ops s0 l (j + 1) (a.put d v) (Hp.backL h h' hid) (keepR j h.size h'.size kept) true K else none) else none
  | none => none
/-- The blocks to be hidden, as rewriting finds them. -/
def KHid (ops : Array Oper) (bits' s0 j : Nat) (l : List (Oper × Nat × Nat × Nat)) (kept : List (Nat × Nat × Nat)) (K : Act → Hp → Option R) (d : Option Tmp) (a : Act) (h : Hp) (op : Op) (t : TypeId) (hid : List Nat) : Option R :=
  KDH P call ops bits' s0 j l kept K d a h hid (opVal P call (bare op t) a (h.hideL hid))
def KDT (ops : Array Oper) (bits bits' s0 j : Nat) (l : List (Oper × Nat × Nat × Nat)) (kept : List (Nat × Nat × Nat)) (K : Act → Hp → Option R) (d : Option Tmp) (a : Act) (h : Hp) (op : Op) (t : TypeId) (r : Option (Value × Hp)) : Option R :=
  match r with
  | some (v, h1) => if h.size ≤ h1.size then (if vokB (allow s0 (keepR j h.size h1.size kept) bits') v then
      evalDM P call ops s0 l (j + 1) (a.put d v) (h.more h1 (allow s0 (keepR j h.size h1.size kept) bits') (flatB v)) (keepR j h.size h1.size kept) false K
      else KD1 P call ops bits bits' s0 j l kept K d a h (opVal P call (bare op t) a h)) else KD1 P call ops bits bits' s0 j l kept K d a h (opVal P call (bare op t) a h)
  | none => KD1 P call ops bits bits' s0 j l kept K d a h (opVal P call (bare op t) a h)
def KD2 (ops : Array Oper) (bits bits' s0 j : Nat) (l : List (Oper × Nat × Nat × Nat)) (kept : List (Nat × Nat × Nat)) (K : Act → Hp → Option R) (d : Option Tmp) (a : Act) (h : Hp) (r : Option (Value × Hp)) : Option R :=
  match r with
  | some (v, h1) => if h.size ≤ h1.size then (if vokB (allow s0 (keepR j h.size h1.size kept) (bits')) v then
      evalDM P call ops s0 l (j + 1) (a.put d v) (h.more h1 (allow s0 (keepR j h.size h1.size kept) (bits')) (flatB v)) (keepR j h.size h1.size kept) false K else none) else none
  | none => none
end

section
variable {R : Type} {P : Program} {call : CallF} {ops : Array Oper} {bits bits' s0 j : Nat} {l : List (Oper × Nat × Nat × Nat)} {kept : List (Nat × Nat × Nat)} {wr : Bool} {K : Act → Hp → Option R} {d : Option Tmp} {a : Act} {h h' : Hp} {v : Value}
  {op : Op} {t : TypeId} {pos : String} {af : Array Edge} {g : Nat} {want : Bool}
theorem evalDM_nil : evalDM P call ops s0 [] j a h kept wr K = K a h := nd rfl
theorem opVal_bare : opVal P call { dst := d, op := op, type := t, pos := pos, after := af, guard := some (g, want) } a h = opVal P call (bare op t) a h := rfl
theorem opVal_bare' : opVal P call { dst := d, op := op, type := t, pos := pos, after := af, guard := none } a h = opVal P call (bare op t) a h := rfl
theorem evalDM_0 : evalDM P call ops s0 (({ dst := d, op := op, type := t, pos := pos, after := af, guard := none }, 0, bits, bits') :: l) j a h kept wr K = KD0 P call ops bits bits' s0 j l kept wr K d a h (opVal P call (bare op t) a h) := by
  simp only [evalDM, Region.wanted, if_true, dmStep, KD0, opVal_bare']
  rcases opVal P call (bare op t) a h with _ | ⟨v, h'⟩
  · rfl
  · simp only []
    by_cases hq : vokB (allow s0 kept bits) v = true
    · simp only [hq, if_true]
    · simp only [hq]; rfl
theorem evalDM_1 : evalDM P call ops s0 (({ dst := d, op := op, type := t, pos := pos, after := af, guard := none }, 1, bits, bits') :: l) j a h kept true K = KD1 P call ops bits bits' s0 j l kept K d a h (opVal P call (bare op t) a h) := by
  simp only [evalDM, Region.wanted, if_true, dmStep, dmLook, dmWrite, Hp.hideL, Hp.backL, KD1, opVal_bare']
  rcases opVal P call (bare op t) a h with _ | ⟨v, h'⟩
  · rfl
  · simp only []
    by_cases hs : h.size ≤ h'.size
    · by_cases hq : vokB (allow s0 (keepR j h.size h'.size kept) (bits')) v = true
      · simp only [hs, hq, if_true]
      · simp only [hs, hq, if_true]; rfl
    · simp only [hs]; rfl
theorem evalDM_t : evalDM P call ops s0 (({ dst := d, op := op, type := t, pos := pos, after := af, guard := none }, 1, bits, bits') :: l) j a h kept false K = KDT P call ops bits bits' s0 j l kept K d a h op t (opVal P call (bare op t) a (h.view bits kept)) := by
  have one : ∀ r : Option (Value × Hp), (match (match r with
      | some (v, h') => if h.size ≤ h'.size then (if vokB (allow s0 (keepR j h.size h'.size kept) bits') v then some (⟨v, h', keepR j h.size h'.size kept, true⟩ : DS) else none) else none
      | none => none) with
      | some d' => evalDM P call ops s0 l (j + 1) (a.put d d'.v) d'.h d'.kept d'.wr K
      | none => none) = KD1 P call ops bits bits' s0 j l kept K d a h r := by
    intro r
    unfold KD1
    rcases r with _ | ⟨v, h'⟩
    · rfl
    · simp only []
      by_cases hs : h.size ≤ h'.size
      · by_cases hq : vokB (allow s0 (keepR j h.size h'.size kept) bits') v = true
        · simp only [hs, hq, if_true]
        · simp only [hs, hq, if_true]; rfl
      · simp only [hs]; rfl
  simp only [evalDM, Region.wanted, if_true, dmStep, dmLook, KDT, opVal_bare', Bool.false_eq_true, if_false]
  rcases opVal P call (bare op t) a (h.view bits kept) with _ | ⟨v, h'⟩
  · exact one _
  · simp only []
    by_cases hs : h.size ≤ h'.size
    · by_cases hq : vokB (allow s0 (keepR j h.size h'.size kept) bits') v = true
      · simp only [hs, hq, if_true]
      · simp only [hs, hq, if_true]; exact one _
    · simp only [hs]; exact one _
theorem evalDM_2 : evalDM P call ops s0 (({ dst := d, op := op, type := t, pos := pos, after := af, guard := none }, 2, bits, bits') :: l) j a h kept false K = KD2 P call ops bits bits' s0 j l kept K d a h (opVal P call (bare op t) a (h.view bits kept)) := by
  simp only [evalDM, Region.wanted, if_true, dmStep, dmLook, KD2, opVal_bare']
  simp only [Bool.false_eq_true, if_false]
  rcases opVal P call (bare op t) a (h.view bits kept) with _ | ⟨v, h'⟩
  · rfl
  · simp only []
    by_cases hs : h.size ≤ h'.size
    · by_cases hq : vokB (allow s0 (keepR j h.size h'.size kept) (bits')) v = true
      · simp only [hs, hq, if_true]
      · simp only [hs, hq, if_true]; rfl
    · simp only [hs]; rfl
theorem dmWrite_run {m : Nat × Nat × Nat} {hid : List Nat} : (match dmWrite P call m s0 j { dst := d, op := op, type := t, pos := pos, after := af, guard := none } a h kept hid with
      | some x => evalDM P call ops s0 l (j + 1) (a.put d x.v) x.h x.kept x.wr K
      | none => none) = KHid P call ops m.2.2 s0 j l kept K d a h op t hid := by
  simp only [dmWrite, KHid, KDH, opVal_bare']
  rcases opVal P call (bare op t) a (h.hideL hid) with _ | ⟨v, h'⟩
  · rfl
  · simp only []
    by_cases hs : h.size ≤ h'.size
    · by_cases hq : vokB (allow s0 (keepR j h.size h'.size kept) m.2.2) v = true
      · simp only [hs, hq, if_true]
      · simp only [hs, hq, if_true]; rfl
    · simp only [hs]; rfl
theorem evalDM_3 : evalDM P call ops s0 (({ dst := d, op := op, type := t, pos := pos, after := af, guard := none }, 3, bits, bits') :: l) j a h kept wr K = KDL P call ops s0 j l kept wr K d a h (opVal P call (bare op t) a h) := by
  simp only [evalDM, Region.wanted, if_true, dmStep, KDL, opVal_bare']
  rcases opVal P call (bare op t) a h with _ | ⟨v, h'⟩
  · rfl
  · simp only []
    by_cases hq : vokB (allow s0 [] 0) v = true
    · simp only [hq, if_true]
    · simp only [hq]; rfl
theorem evalDM_4 : evalDM P call ops s0 (({ dst := d, op := op, type := t, pos := pos, after := af, guard := none }, 4, bits, bits') :: l) j a h kept wr K = KD1 P call ops bits bits' s0 j l kept K d a h (opVal P call (bare op t) a h) := by
  have := dmWrite_run (P := P) (call := call) (ops := ops) (s0 := s0) (j := j) (l := l) (kept := kept) (K := K) (d := d) (a := a) (h := h) (op := op) (t := t) (pos := pos) (af := af) (m := (4, bits, bits')) (hid := [])
  simp only [evalDM, Region.wanted, if_true, dmStep]
  rw [this]
  rfl
theorem evalDM_5 : evalDM P call ops s0 (({ dst := d, op := op, type := t, pos := pos, after := af, guard := none }, 5, bits, bits') :: l) j a h kept wr K = KHid P call ops bits' s0 j l kept K d a h op t (hidB a (decT 8 bits)) := by
  have := dmWrite_run (P := P) (call := call) (ops := ops) (s0 := s0) (j := j) (l := l) (kept := kept) (K := K) (d := d) (a := a) (h := h) (op := op) (t := t) (pos := pos) (af := af) (m := (5, bits, bits')) (hid := hidB a (decT 8 bits))
  simp only [evalDM, Region.wanted, if_true, dmStep]
  exact this
theorem hidB_nil : hidB a [] = [] := nd rfl
def hidK (x : Option Nat) (l : List Nat) : List Nat := match x with
  | some b => b :: l
  | none => l
theorem hidB_cons {u : Tmp} {ts : List Tmp} : hidB a (u :: ts) = hidK (blkO (a.tmps.getD u undef)) (hidB a ts) := by
  unfold hidB hidK
  rw [List.filterMap_cons]
  cases blkO (a.tmps.getD u undef) <;> rfl
theorem hidK_some {b : Nat} {ns : List Nat} : hidK (some b) ns = b :: ns := nd rfl
theorem blkO_ptr {b o : Nat} : blkO (.pointer (some ⟨b, o, none⟩)) = some b := nd rfl
theorem decT_succ {f n : Nat} : decT (f + 1) n = if n = 0 then [] else (n % 65536 - 1) :: decT f (n / 65536) := nd rfl
theorem KHid_cons {b : Nat} {ns : List Nat} : KHid P call ops bits' s0 j l kept K d a h op t (b :: ns) = KDH P call ops bits' s0 j l kept K d a h (b :: ns) (opVal P call (bare op t) a ((h.hideL ns).setB b none)) := nd rfl
theorem hideL_nil : h.hideL [] = h := nd rfl
theorem hideL_cons {b : Nat} {ns : List Nat} : h.hideL (b :: ns) = (h.hideL ns).setB b none := nd rfl
theorem backL_nil : Hp.backL h h' [] = h' := nd rfl
theorem backL_cons {b : Nat} {ns : List Nat} : Hp.backL h h' (b :: ns) = (Hp.backL h h' ns).setB b (h.get b) := nd rfl
theorem KDL_some : KDL P call ops s0 j l kept wr K d a h (some (v, h')) = if vokB (allow s0 [] 0) v then evalDM P call ops s0 l (j + 1) (a.put d v) h kept wr K else none := nd rfl
theorem KDH_some {hid : List Nat} : KDH P call ops bits' s0 j l kept K d a h hid (some (v, h')) = if h.size ≤ h'.size then (if vokB (allow s0 (keepR j h.size h'.size kept) (bits')) v then evalDM P call ops s0 l (j + 1) (a.put d v) (Hp.backL h h' hid) (keepR j h.size h'.size kept) true K else none) else none := nd rfl
theorem evalDM_g0 : evalDM P call ops s0 (({ dst := d, op := op, type := t, pos := pos, after := af, guard := some (g, want) }, 0, bits, bits') :: l) j a h kept wr K =
    if yielded ops a.tmps g == some want then KD0 P call ops bits bits' s0 j l kept wr K d a h (opVal P call (bare op t) a h) else evalDM P call ops s0 l (j + 1) (a.put d undef) h kept wr K := by
  simp only [evalDM, Region.wanted, dmStep, KD0, opVal_bare]
  split
  · rcases opVal P call (bare op t) a h with _ | ⟨v, h'⟩
    · rfl
    · simp only []
      by_cases hq : vokB (allow s0 kept bits) v = true
      · simp only [hq, if_true]
      · simp only [hq]; rfl
  · rfl
theorem evalDM_guard {m : Nat × Nat × Nat} : evalDM P call ops s0 (({ dst := d, op := op, type := t, pos := pos, after := af, guard := some (g, want) }, m) :: l) j a h kept wr K =
    if yielded ops a.tmps g == some want then evalDM P call ops s0 (({ dst := d, op := op, type := t, pos := pos, after := af, guard := none }, m) :: l) j a h kept wr K else evalDM P call ops s0 l (j + 1) (a.put d undef) h kept wr K := by
  by_cases hg : (yielded ops a.tmps g == some want) = true
  · simp only [evalDM, Region.wanted, hg, if_true]; rfl
  · simp only [evalDM, Region.wanted, hg, if_false]; rfl
theorem evalDM_g3 : evalDM P call ops s0 (({ dst := d, op := op, type := t, pos := pos, after := af, guard := some (g, want) }, 3, bits, bits') :: l) j a h kept wr K =
    if yielded ops a.tmps g == some want then KDL P call ops s0 j l kept wr K d a h (opVal P call (bare op t) a h) else evalDM P call ops s0 l (j + 1) (a.put d undef) h kept wr K := by
  rw [evalDM_guard, evalDM_3]
theorem evalDM_g4 : evalDM P call ops s0 (({ dst := d, op := op, type := t, pos := pos, after := af, guard := some (g, want) }, 4, bits, bits') :: l) j a h kept wr K =
    if yielded ops a.tmps g == some want then KD1 P call ops bits bits' s0 j l kept K d a h (opVal P call (bare op t) a h) else evalDM P call ops s0 l (j + 1) (a.put d undef) h kept wr K := by
  rw [evalDM_guard, evalDM_4]
theorem evalDM_g5 : evalDM P call ops s0 (({ dst := d, op := op, type := t, pos := pos, after := af, guard := some (g, want) }, 5, bits, bits') :: l) j a h kept wr K =
    if yielded ops a.tmps g == some want then KHid P call ops bits' s0 j l kept K d a h op t (hidB a (decT 8 bits)) else evalDM P call ops s0 l (j + 1) (a.put d undef) h kept wr K := by
  rw [evalDM_guard, evalDM_5]
theorem evalDM_g1 : evalDM P call ops s0 (({ dst := d, op := op, type := t, pos := pos, after := af, guard := some (g, want) }, 1, bits, bits') :: l) j a h kept true K =
    if yielded ops a.tmps g == some want then KD1 P call ops bits bits' s0 j l kept K d a h (opVal P call (bare op t) a h) else evalDM P call ops s0 l (j + 1) (a.put d undef) h kept true K := by
  rw [evalDM_guard, evalDM_1]
theorem evalDM_gt : evalDM P call ops s0 (({ dst := d, op := op, type := t, pos := pos, after := af, guard := some (g, want) }, 1, bits, bits') :: l) j a h kept false K =
    if yielded ops a.tmps g == some want then KDT P call ops bits bits' s0 j l kept K d a h op t (opVal P call (bare op t) a (h.view bits kept)) else evalDM P call ops s0 l (j + 1) (a.put d undef) h kept false K := by
  rw [evalDM_guard, evalDM_t]
theorem evalDM_g2 : evalDM P call ops s0 (({ dst := d, op := op, type := t, pos := pos, after := af, guard := some (g, want) }, 2, bits, bits') :: l) j a h kept false K =
    if yielded ops a.tmps g == some want then KD2 P call ops bits bits' s0 j l kept K d a h (opVal P call (bare op t) a (h.view bits kept)) else evalDM P call ops s0 l (j + 1) (a.put d undef) h kept false K := by
  rw [evalDM_guard, evalDM_2]
theorem KDT_none : KDT P call ops bits bits' s0 j l kept K d a h op t none = KD1 P call ops bits bits' s0 j l kept K d a h (opVal P call (bare op t) a h) := nd rfl
theorem KDT_some : KDT P call ops bits bits' s0 j l kept K d a h op t (some (v, h')) = if h.size ≤ h'.size then (if vokB (allow s0 (keepR j h.size h'.size kept) bits') v then
      evalDM P call ops s0 l (j + 1) (a.put d v) (h.more h' (allow s0 (keepR j h.size h'.size kept) bits') (flatB v)) (keepR j h.size h'.size kept) false K
      else KD1 P call ops bits bits' s0 j l kept K d a h (opVal P call (bare op t) a h)) else KD1 P call ops bits bits' s0 j l kept K d a h (opVal P call (bare op t) a h) := nd rfl
theorem putU_none : putU none = none := nd rfl
theorem liftP_none : liftP none h = none := nd rfl
theorem le_self_f {x k : Nat} : (x + (k + 1) ≤ x) = False := by simp
theorem KD0_some : KD0 P call ops bits bits' s0 j l kept wr K d a h (some (v, h')) = if vokB (allow s0 kept bits) v then evalDM P call ops s0 l (j + 1) (a.put d v) h kept wr K else none := nd rfl
theorem KD1_some : KD1 P call ops bits bits' s0 j l kept K d a h (some (v, h')) = if h.size ≤ h'.size then (if vokB (allow s0 (keepR j h.size h'.size kept) (bits')) v then evalDM P call ops s0 l (j + 1) (a.put d v) h' (keepR j h.size h'.size kept) true K else none) else none := nd rfl
theorem KD2_some : KD2 P call ops bits bits' s0 j l kept K d a h (some (v, h')) = if h.size ≤ h'.size then (if vokB (allow s0 (keepR j h.size h'.size kept) (bits')) v then
      evalDM P call ops s0 l (j + 1) (a.put d v) (h.more h' (allow s0 (keepR j h.size h'.size kept) (bits')) (flatB v)) (keepR j h.size h'.size kept) false K else none) else none := nd rfl

/-! ### Checks -/
variable {p : Nat → Bool}
theorem vb_int {k : IntKind} {n : Int} : vokB p (.int k n) = true := by simp [vokB]
theorem vb_bool {b : Bool} : vokB p (.bool b) = true := by simp [vokB]
theorem vb_string {b : ByteArray} : vokB p (.string b) = true := by simp [vokB]
theorem vb_nil : vokB p (.pointer none) = true := by simp [vokB]
theorem vb_undef : vokB p undef = true := by simp [undef, vokB]
theorem vb_nilSlice {n c : Nat} : vokB p (.slice none n c) = true := by simp [vokB]
theorem vb_nilMap : vokB p (.map none) = true := by simp [vokB]
theorem vb_map {r : Nat} : vokB p (.map (some r)) = p r := by rw [vokB]
theorem vb_ptr {b o : Nat} : vokB p (.pointer (some ⟨b, o, none⟩)) = p b := by rw [vokB]
theorem vb_slice {b o n c : Nat} : vokB p (.slice (some ⟨b, o, none⟩) n c) = p b := by rw [vokB]
theorem vb_func {f : FuncId} {xs ys : Array Value} : vokB p (.func (.func f) xs ys) = (xs.all (vokB p) && ys.all (vokB p)) := by rw [vokB]; simp; intro l hl; cases hl
theorem vb_agg {cs : Array Value} : vokB p (.agg cs) = cs.all (vokB p) := by rw [vokB]; simp
theorem vb_tuple {cs : Array Value} : vokB p (.tuple cs) = cs.all (vokB p) := by rw [vokB]; simp
theorem all_lit {l : List Value} {q : Value → Bool} : l.toArray.all q = l.all q := by simp
theorem all_litn {l : List Value} {q : Value → Bool} {n : Nat} (hn : l.length = n) : l.toArray.all q 0 n = l.all q := by subst hn; simp
theorem allow_nil {id : Nat} : allow s0 [] bits id = decide (id < s0) := by simp [allow]
theorem allow_cons {id i lo hi : Nat} : allow s0 ((i, lo, hi) :: kept) bits id = ((bits.testBit i && (decide (lo ≤ id) && decide (id < hi))) || allow s0 kept bits id) := by
  simp only [allow, List.any_cons]
  cases decide (id < s0) <;> simp
theorem flatB_int {k : IntKind} {n : Int} : flatB (.int k n) = true := by simp [flatB]
theorem flatB_bool {b : Bool} : flatB (.bool b) = true := by simp [flatB]
theorem flatB_string {b : ByteArray} : flatB (.string b) = true := by simp [flatB]
theorem flatB_nil : flatB (.pointer none) = true := by simp [flatB]
theorem flatB_undef : flatB undef = true := by simp [undef, flatB]
theorem flatB_ptr {x : Addr} : flatB (.pointer (some x)) = false := by simp [flatB]
theorem flatB_slice {x : Addr} {n c : Nat} : flatB (.slice (some x) n c) = false := by simp [flatB]
theorem flatB_nilSlice {n c : Nat} : flatB (.slice none n c) = true := by simp [flatB]
theorem flatB_map {r : Nat} : flatB (.map (some r)) = false := by simp [flatB]
theorem flatB_func {f : Fn} {x y : Array Value} : flatB (.func f x y) = false := by simp [flatB]

/-! ### What is seen -/
theorem hideR_size {lo : Nat} : ∀ n : Nat, (h.hideR lo n).size = h.size
  | 0 => rfl
  | n + 1 => by simp [Hp.hideR, hideR_size n]
theorem hideAll_size : ∀ kept : List (Nat × Nat × Nat), (h.hideAll bits kept).size = h.size
  | [] => rfl
  | x :: l => by simp only [Hp.hideAll]; split <;> simp [hideR_size, hideAll_size l]
theorem view_size : (h.view bits kept).size = h.size := hideAll_size kept
theorem view_ro : (h.view bits kept).ro = h.size := nd rfl
theorem hideR_get {lo b : Nat} : ∀ n : Nat, (h.hideR lo n).get b = if lo ≤ b ∧ b < lo + n then none else h.get b
  | 0 => by simp [Hp.hideR]; intro h1 h2; omega
  | n + 1 => by
    simp only [Hp.hideR, Hp.get_setB, hideR_get n]
    by_cases e : b = lo + n
    · subst e; simp
    · rw [if_neg e]
      by_cases c : lo ≤ b ∧ b < lo + n
      · rw [if_pos c, if_pos (by omega)]
      · rw [if_neg c, if_neg (by omega)]
theorem view_nil {b : Nat} : (h.view bits []).get b = h.get b := nd rfl
theorem view_cons {i lo hi b : Nat} : (h.view bits ((i, lo, hi) :: kept)).get b = if (bits.testBit i || !decide (lo ≤ b) || !decide (b < lo + (hi - lo))) = true then (h.view bits kept).get b else none := by
  show (h.hideAll bits ((i, lo, hi) :: kept)).get b = _
  simp only [Hp.hideAll]
  by_cases hb : bits.testBit i = true
  · simp only [hb, if_true, Bool.true_or]; rfl
  · rw [Bool.not_eq_true] at hb
    simp only [hb, Bool.false_eq_true, if_false, hideR_get, Bool.false_or, Bool.or_eq_true, Bool.not_eq_true', decide_eq_false_iff_not]
    by_cases c : lo ≤ b ∧ b < lo + (hi - lo)
    · rw [if_pos c, if_neg (by omega)]
    · rw [if_neg c, if_pos (by omega)]; rfl
theorem more_view {b : Bool} : h.more (h.view bits kept) p b = h := by
  unfold Hp.more
  cases b with
  | true => simp only [if_true, view_size]
  | false => simp only [Bool.false_eq_true, if_false, view_size, Nat.sub_self]; rfl
theorem more_push {x : Option Blk} : h.more ((h.view bits kept).push x) p false = h.push (keepBlk p x) := by
  unfold Hp.more
  simp only [Bool.false_eq_true, if_false, Hp.size_push, view_size, Nat.add_sub_cancel_left, Hp.takeR, Nat.add_zero]
  have : ((h.view bits kept).push x).get h.size = x := by rw [Hp.get_push, view_size, if_pos rfl]
  rw [this]
  rfl
theorem keepBlk_cells {cs : Array Value} {o : Bool} : keepBlk p (some (.cells cs o)) = if cs.all (vokB p) then some (.cells cs o) else none := nd rfl
theorem more_push_flat {x : Option Blk} : h.more ((h.view bits kept).push x) p true = h.push none ∨ True := .inr trivial
theorem tb {x i : Nat} : x.testBit i = decide (x / 2 ^ i % 2 = 1) := Nat.testBit_eq_decide_div_mod_eq
theorem zip_cons {α β : Type} {x : α} {y : β} {xs : List α} {ys : List β} : (x :: xs).zip (y :: ys) = (x, y) :: xs.zip ys := nd rfl
theorem zip_nil {α β : Type} {ys : List β} : ([] : List α).zip ys = [] := nd rfl
theorem toList_lit {α : Type} {l : List α} : l.toArray.toList = l := nd rfl
end
end Go.Abs
/- Structs and arrays of numbers, truth values and strings are equal just if all their cells are. -/
namespace Go.Abs
set_option linter.all false

inductive Sc where
  | int (k : IntKind)
  | bool
  | string
deriving DecidableEq

def flatFs (g : TypeId → Option (List Sc)) : List Field → Nat → Option (List Sc)
  | [], _ => some []
  | f :: fs, o => if f.name = "_" ∨ f.offset ≠ o then none else
    match g f.type with
    | some k => match flatFs g fs (o + k.length) with
      | some l => some (k ++ l)
      | none => none
    | none => none

/-- The cells of a type that bears no address. -/
def flatT (P : Program) : Nat → TypeId → Option (List Sc)
  | 0, _ => none
  | d + 1, t => match P.underlying t with
    | some .bool => some [.bool]
    | some (.int k) => some [.int k]
    | some .string => some [.string]
    | some (.struct fs) => if P.stoodInHeld t = true then none else
      match flatFs (flatT P d) fs.toList 0 with
      | some l => if tSize P t = some l.length then some l else none
      | none => none
    | some (.array n e) => match flatT P d e with
      | some k => if tSize P e = some k.length ∧ tSize P t = some (n * k.length) then some (List.replicate n k).flatten else none
      | none => none
    | _ => none

def scEq : Sc → Value → Value → Option Bool
  | .int k, .int k1 a, .int k2 b => if k1 = k ∧ k2 = k then some (decide (a = b)) else none
  | .bool, .bool a, .bool b => some (decide (a = b))
  | .string, .string a, .string b => some (a == b)
  | _, _, _ => none
def andO : Option Bool → Option Bool → Option Bool
  | some a, some b => some (a && b)
  | _, _ => none
def cellsEq : List Sc → List Value → List Value → Option Bool
  | [], [], [] => some true
  | s :: ss, x :: xs, y :: ys => andO (scEq s x y) (cellsEq ss xs ys)
  | _, _, _ => none

theorem andO_some {a b : Option Bool} {c : Bool} (h : andO a b = some c) : ∃ x y, a = some x ∧ b = some y ∧ c = (x && y) := by
  cases a <;> cases b <;> simp [andO] at h
  exact ⟨_, _, rfl, rfl, h.symm⟩

theorem cellsEq_append : ∀ (k l : List Sc) (xs ys : List Value) (b : Bool), cellsEq (k ++ l) xs ys = some b →
    ∃ b1 b2, cellsEq k (xs.take k.length) (ys.take k.length) = some b1 ∧ cellsEq l (xs.drop k.length) (ys.drop k.length) = some b2 ∧ b = (b1 && b2)
  | [], l, xs, ys, b, h => ⟨true, b, by simp [cellsEq], by simpa using h, by simp⟩
  | s :: k, l, [], ys, b, h => by cases ys <;> simp [cellsEq] at h
  | s :: k, l, x :: xs, [], b, h => by simp [cellsEq] at h
  | s :: k, l, x :: xs, y :: ys, b, h => by
    simp only [List.cons_append, cellsEq] at h
    obtain ⟨u, v, h1, h2, rfl⟩ := andO_some h
    obtain ⟨b1, b2, h3, h4, rfl⟩ := cellsEq_append k l xs ys v h2
    refine ⟨u && b1, b2, ?_, ?_, by simp [Bool.and_assoc]⟩
    · simp [cellsEq, h1, h3, andO]
    · simpa using h4

theorem cellsEq_len : ∀ (k : List Sc) (xs ys : List Value) (b : Bool), cellsEq k xs ys = some b → xs.length = k.length ∧ ys.length = k.length
  | [], [], [], b, h => by simp
  | [], x :: xs, ys, b, h => by cases ys <;> simp [cellsEq] at h
  | [], [], y :: ys, b, h => by simp [cellsEq] at h
  | s :: k, [], ys, b, h => by cases ys <;> simp [cellsEq] at h
  | s :: k, x :: xs, [], b, h => by simp [cellsEq] at h
  | s :: k, x :: xs, y :: ys, b, h => by
    simp only [cellsEq] at h
    obtain ⟨u, v, h1, h2, rfl⟩ := andO_some h
    have := cellsEq_len k xs ys v h2
    simp [this]

section
variable {P : Program}

/-- What is claimed of a type whose cells are k. -/
def EqAt (P : Program) (d : Nat) (t : TypeId) (k : List Sc) : Prop :=
  ∀ (xs ys : Array Value) (off : Nat) (b : Bool), cellsEq k ((xs.toList.drop off).take k.length) ((ys.toList.drop off).take k.length) = some b →
    ∃ vx vy, pureP P (part t xs off) = some vx ∧ pureP P (part t ys off) = some vy ∧ pureP P (Op.equalIn d t vx vy) = some b

def stepS (P : Program) (d : Nat) (tp : TypeId) (xs ys : Array Value) (o : Nat) : Sem (ForInStep (Option Bool × Unit)) := do
  let a ← part tp xs o
  let b ← part tp ys o
  let c ← Op.equalIn d tp a b
  if (!c) = true then pure (ForInStep.done (some false, ())) else pure (ForInStep.yield ((none : Option Bool), ()))

theorem stepS_val {d : Nat} {t : TypeId} {k : List Sc} (h : EqAt P d t k) {xs ys : Array Value} {o : Nat} {b : Bool} (he : cellsEq k ((xs.toList.drop o).take k.length) ((ys.toList.drop o).take k.length) = some b) :
    pureP P (stepS P d t xs ys o) = some (if b then .yield (none, ()) else .done (some false, ())) := by
  obtain ⟨vx, vy, h1, h2, h3⟩ := h xs ys o b he
  simp only [stepS, pureP_bind, h1, h2, h3, Option.bind_some]
  cases b <;> rfl

theorem fields_val {d : Nat} (ih : ∀ t k, flatT P d t = some k → EqAt P d t k) (xs ys : Array Value) : ∀ (fs : List Field) (o : Nat) (l : List Sc) (b : Bool), flatFs (flatT P d) fs o = some l →
    cellsEq l (xs.toList.drop o) (ys.toList.drop o) = some b →
    pureP P (forIn fs ((none : Option Bool), ()) fun f _ => if f.name ≠ "_" then stepS P d f.type xs ys f.offset else pure (ForInStep.yield (none, ()))) = some (if b then none else some false, ())
  | [], o, l, b, h1, h2 => by
    simp [flatFs] at h1
    subst h1
    have : b = true := by
      cases hx : xs.toList.drop o <;> cases hy : ys.toList.drop o <;> rw [hx, hy] at h2 <;> simp [cellsEq] at h2
      exact h2
    subst this
    simp
  | f :: fs, o, l, b, h1, h2 => by
    simp only [flatFs] at h1
    split at h1
    · cases h1
    · rename_i hc
      have hn : f.name ≠ "_" := fun e => hc (.inl e)
      have ho : f.offset = o := Decidable.byContradiction fun e => hc (.inr e)
      cases hk : flatT P d f.type with
      | none => rw [hk] at h1; cases h1
      | some k =>
        rw [hk] at h1
        simp only [] at h1
        cases hl : flatFs (flatT P d) fs (o + k.length) with
        | none => rw [hl] at h1; cases h1
        | some l' =>
          rw [hl] at h1
          cases h1
          obtain ⟨b1, b2, e1, e2, rfl⟩ := cellsEq_append _ _ _ _ _ h2
          rw [List.forIn_cons, pureP_bind, if_pos hn, ho, stepS_val (ih _ _ hk) e1]
          simp only [Option.bind_some]
          cases b1 with
          | false => simp
          | true =>
            simp only [if_true, Bool.true_and]
            rw [List.drop_drop, List.drop_drop] at e2
            exact fields_val ih xs ys fs (o + k.length) l' b2 hl e2

theorem elems_val {d : Nat} {e : TypeId} {k : List Sc} (h : EqAt P d e k) (xs ys : Array Value) : ∀ (m o : Nat) (b : Bool), cellsEq (List.replicate m k).flatten (xs.toList.drop (o * k.length)) (ys.toList.drop (o * k.length)) = some b →
    pureP P (forIn (List.range' o m) ((none : Option Bool), ()) fun i _ => stepS P d e xs ys (i * k.length)) = some (if b then none else some false, ())
  | 0, o, b, h2 => by
    have : b = true := by
      cases hx : xs.toList.drop (o * k.length) <;> cases hy : ys.toList.drop (o * k.length) <;> rw [hx, hy] at h2 <;> simp [cellsEq] at h2
      exact h2
    subst this
    simp
  | m + 1, o, b, h2 => by
    rw [List.replicate_succ, List.flatten_cons] at h2
    obtain ⟨b1, b2, e1, e2, rfl⟩ := cellsEq_append _ _ _ _ _ h2
    rw [List.range'_succ, List.forIn_cons, pureP_bind, stepS_val h e1]
    simp only [Option.bind_some]
    cases b1 with
    | false => simp
    | true =>
      simp only [if_true, Bool.true_and]
      rw [List.drop_drop, List.drop_drop] at e2
      refine elems_val h xs ys m (o + 1) b2 ?_
      rw [Nat.add_mul, Nat.one_mul]
      exact e2

theorem one_take {k : Sc} {xs : List Value} {o : Nat} {ys : List Value} {b : Bool} (h : cellsEq [k] ((xs.drop o).take 1) ys = some b) : ∃ x, xs[o]? = some x ∧ (xs.drop o).take 1 = [x] := by
  have := (cellsEq_len _ _ _ _ h).1
  cases hx : xs.drop o with
  | nil => rw [hx] at this; simp at this
  | cons x l =>
    refine ⟨x, ?_, by simp⟩
    have : (xs.drop o)[0]? = some x := by rw [hx]; rfl
    simpa using this

theorem part_agg_size {t : TypeId} {n : Nat} (h1 : tAgg P t = some true) (h2 : tSize P t = some n) (xs : Array Value) (off : Nat) : pureP P (part t xs off) = some (.agg (xs.extract off (off + n))) := by
  rw [pureP_part, tPart, h1]
  simp only [tSize, Option.map_eq_some_iff] at h2
  obtain ⟨i, h2, rfl⟩ := h2
  simp [h2]
theorem part_one {t : TypeId} (h1 : tAgg P t = some false) (xs : Array Value) (off : Nat) : pureP P (part t xs off) = xs[off]? := by
  rw [pureP_part, tPart, h1]
  simp

theorem eqAt_flat : ∀ (d : Nat) (t : TypeId) (k : List Sc), flatT P d t = some k → EqAt P d t k := by
  intro d
  induction d with
  | zero => intro t k h; cases h
  | succ d ih =>
    intro t k h xs ys off b he
    simp only [flatT] at h
    have scal : ∀ (s : Sc), k = [s] → tAgg P t = some false → (∀ x y b, scEq s x y = some b → pureP P (Op.equalIn (d + 1) t x y) = some b) →
        ∃ vx vy, pureP P (part t xs off) = some vx ∧ pureP P (part t ys off) = some vy ∧ pureP P (Op.equalIn (d + 1) t vx vy) = some b := by
      intro s hk hA hs
      subst hk
      obtain ⟨x, hx, hx'⟩ := one_take he
      have he2 := he
      rw [show [s].length = 1 from rfl, hx'] at he2
      have hy1 : ∃ y, ys.toList[off]? = some y ∧ (ys.toList.drop off).take 1 = [y] := by
        have := (cellsEq_len _ _ _ _ he2).2
        cases hy : ys.toList.drop off with
        | nil => rw [hy] at this; simp at this
        | cons y l =>
          refine ⟨y, ?_, by simp⟩
          have : (ys.toList.drop off)[0]? = some y := by rw [hy]; rfl
          simpa using this
      obtain ⟨y, hy, hy'⟩ := hy1
      rw [hy'] at he2
      refine ⟨x, y, by rw [part_one hA]; simpa using hx, by rw [part_one hA]; simpa using hy, hs x y b ?_⟩
      simp only [cellsEq] at he2
      obtain ⟨u, v, h1, h2, rfl⟩ := andO_some he2
      cases h2
      simpa using h1
    cases hu : P.underlying t with
    | none => rw [hu] at h; cases h
    | some u =>
      rw [hu] at h
      have agg : ∀ (n : Nat) (r : Option Bool → Option Bool), tAgg P t = some true → tSize P t = some n → k.length = n →
          (∀ xs' ys' : Array Value, cellsEq k xs'.toList ys'.toList = some b → pureP P (Op.equalIn (d + 1) t (.agg xs') (.agg ys')) = some b) →
          ∃ vx vy, pureP P (part t xs off) = some vx ∧ pureP P (part t ys off) = some vy ∧ pureP P (Op.equalIn (d + 1) t vx vy) = some b := by
        intro n r hA hS hn hs
        refine ⟨_, _, part_agg_size hA hS xs off, part_agg_size hA hS ys off, hs _ _ ?_⟩
        rw [Array.toList_extract, Array.toList_extract, List.extract_eq_take_drop, List.extract_eq_take_drop, Nat.add_sub_cancel_left, ← hn]
        exact he
      cases u <;> simp only [] at h <;> first | (cases h; done) | skip
      · cases h
        exact scal _ rfl (by simp [tAgg, hu]) fun x y b hs => by
          cases x <;> cases y <;> simp [scEq] at hs
          simp [Op.equalIn, hu, ← hs, Bool.beq_eq_decide_eq]
      · cases h
        exact scal _ rfl (by simp [tAgg, hu]) fun x y b hs => by
          cases x <;> cases y <;> simp [scEq] at hs
          obtain ⟨⟨rfl, rfl⟩, rfl⟩ := hs
          simp [Op.equalIn, hu, beq_dec]
      · cases h
        exact scal _ rfl (by simp [tAgg, hu]) fun x y b hs => by
          cases x <;> cases y <;> simp [scEq] at hs
          subst hs
          simp only [Op.equalIn, pureP_bind, pureP_underlying, hu, Option.bind_some, pureP_pure]
      · rename_i n e
        cases hk : flatT P d e with
        | none => rw [hk] at h; cases h
        | some k1 =>
          rw [hk] at h
          simp only [] at h
          split at h
          · rename_i hc
            cases h
            refine agg (n * k1.length) id (by simp [tAgg, hu]) hc.2 (by simp) fun xs' ys' he' => ?_
            have := elems_val (ih e k1 hk) xs' ys' n 0 b (by simpa using he')
            have hsz : pureP P (sizeOf e) = some k1.length := by rw [pureP_sizeOf]; exact hc.1
            simp only [Op.equalIn, pureP_bind, pureP_underlying, hu, Option.bind_some, hsz]
            rw [Std.Legacy.Range.forIn_eq_forIn_range']
            simp only [Std.Legacy.Range.size, Nat.sub_zero, Nat.add_sub_cancel, Nat.div_one]
            have e2 : pureP P (forIn (List.range' 0 n) ((none : Option Bool), ()) fun i _ => stepS P d e xs' ys' (i * k1.length)) = some (if b then none else some false, ()) := this
            simp only [stepS] at e2
            rw [e2]
            cases b <;> rfl
          · cases h
      · rename_i fs
        split at h
        · cases h
        · rename_i hst
          cases hl : flatFs (flatT P d) fs.toList 0 with
          | none => rw [hl] at h; cases h
          | some l =>
            rw [hl] at h
            simp only [] at h
            split at h
            · rename_i hc
              cases h
              refine agg _ id (by simp [tAgg, hu]) hc rfl fun xs' ys' he' => ?_
              have e2 := fields_val ih xs' ys' fs.toList 0 _ b hl (by simpa using he')
              simp only [stepS] at e2
              simp only [Op.equalIn, pureP_bind, pureP_underlying, hu, Option.bind_some, pureP_program]
              rw [if_neg hst]
              rw [← Array.forIn_toList]
              simp only [pureP_bind] at e2 ⊢
              rw [e2]
              cases b <;> rfl
            · cases h
end

theorem flatT_size {P : Program} {t : TypeId} {k : List Sc} : ∀ {d : Nat}, flatT P d t = some k → tAgg P t = some true → tSize P t = some k.length
  | 0, hk, ha => by cases hk
  | d + 1, hk, ha => by
    simp only [flatT] at hk
    simp only [tAgg] at ha
    cases hu : P.underlying t with
    | none => rw [hu] at ha; cases ha
    | some u =>
      rw [hu] at hk ha
      cases u <;> simp only [] at hk ha <;> first | (cases hk; done) | (cases ha; done) | skip
      · split at hk
        · split at hk
          · rename_i hc; cases hk; rw [hc.2]; simp
          · cases hk
        · cases hk
      · split at hk
        · cases hk
        · split at hk
          · split at hk
            · rename_i hc; cases hk; exact hc
            · cases hk
          · cases hk
/-- Structs and arrays. -/
theorem bin_eql_agg {P : Program} {t : TypeId} {k : List Sc} {xs ys : Array Value} {b : Bool} (hk : flatT P Op.maxDepth t = some k) (hg : P.eqGuardType P.depth t = false) (ha : tAgg P t = some true) (h : cellsEq k xs.toList ys.toList = some b) :
    aBin P .eql t (.agg xs) (.agg ys) = some (.bool b) ∧ aBin P .neq t (.agg xs) (.agg ys) = some (.bool (!b)) := by
  have hl := cellsEq_len _ _ _ _ h
  have ht : ∀ l : List Value, l.length = k.length → l.take k.length = l := fun l hl => by rw [← hl, List.take_length]
  obtain ⟨vx, vy, h1, h2, h3⟩ := eqAt_flat _ _ _ hk xs ys 0 b (by simpa [ht _ hl.1, ht _ hl.2] using h)
  have hs := flatT_size hk ha
  rw [part_agg_size ha hs] at h1 h2
  have e1 : ∀ zs : Array Value, zs.toList.length = k.length → zs.extract 0 (0 + k.length) = zs := fun zs hz => by
    rw [Nat.zero_add, ← hz]; simp
  rw [e1 _ hl.1] at h1
  rw [e1 _ hl.2] at h2
  cases h1; cases h2
  simp only [aBin, hg, if_true, aEql, Op.equal, h3, Option.map_some, and_self]
end Go.Abs
/- What a call is handed, laid into the abstract heap; closed runs. -/
namespace Go.Abs
set_option linter.all false
section
variable {P : Program} {CK : Code → Prop} {W : World}

/-- Fields one behind the other, each of so many cells. -/
def rowT (P : Program) (g : TypeId → Bool) : List Field → Nat → Option Nat
  | [], o => some o
  | f :: fs, o => if f.offset = o ∧ g f.type = true then rowT P g fs (o + P.cellsOf f.type) else none
/-- Types of numbers, truth values, strings; structs, arrays and slices of these. -/
def okT (P : Program) : Nat → TypeId → Bool
  | 0, _ => false
  | d + 1, t => match P.underlying t with
    | some .bool => P.cellsOf t == 1
    | some (.int _) => P.cellsOf t == 1
    | some .string => P.cellsOf t == 1
    | some (.slice e) => P.cellsOf t == 1 && (okT P d e && (P.cellsOf e != 0 && P.bytesOf e != 0))
    | some (.struct fs) => rowT P (okT P d) fs.toList 0 == some (P.cellsOf t)
    | some (.array n e) => okT P d e && (P.cellsOf t == n * P.cellsOf e)
    | _ => false

/-- What lies in the abstract heap, of a type. -/
def Lies (P : Program) (h : Hp) : Nat → TypeId → List Value → Prop
  | 0, _, _ => False
  | d + 1, t, cs => match P.underlying t with
    | some .bool => ∃ b, cs = [.bool b]
    | some (.int k) => ∃ x, cs = [.int k x] ∧ (Lit.int k x).wf = true
    | some .string => ∃ s : ByteArray, cs = [.string s] ∧ s.size ≤ reachBytes
    | some (.slice e) => cs = [.slice none 0 0] ∨ ∃ (b len cap : Nat) (sp : Option Nat) (parts : List (List Value)), cs = [.slice (some ⟨b, 0, sp⟩) len cap] ∧ b < h.size ∧ len ≤ cap ∧ cap * P.bytesOf e ≤ reachBytes ∧ (cap ≠ 0 → sp = none ∧ h.get b = some (.cells parts.flatten.toArray false)) ∧
        parts.length = cap ∧ ∀ p ∈ parts, p.length = P.cellsOf e ∧ Lies P h d e p
    | some (.struct fs) => ∃ parts : List (List Value), cs = parts.flatten ∧ parts.length = fs.size ∧ ∀ (i : Nat) (f : Field) (p : List Value), fs[i]? = some f → parts[i]? = some p → p.length = P.cellsOf f.type ∧ Lies P h d f.type p
    | some (.array n e) => ∃ parts : List (List Value), cs = parts.flatten ∧ parts.length = n ∧ ∀ p ∈ parts, p.length = P.cellsOf e ∧ Lies P h d e p
    | _ => False

structure Ext (β : Bm) (h : Hp) (β' : Bm) (h' : Hp) : Prop where
  size : h.size ≤ h'.size
  map : ∀ b, b < h.size → β' b = β b
  get : ∀ b, b < h.size → h'.get b = h.get b
theorem Ext.refl (β : Bm) (h : Hp) : Ext β h β h := ⟨Nat.le_refl _, fun _ _ => rfl, fun _ _ => rfl⟩
theorem Ext.trans {β β' β'' : Bm} {h h' h'' : Hp} (a : Ext β h β' h') (b : Ext β' h' β'' h'') : Ext β h β'' h'' :=
  ⟨Nat.le_trans a.size b.size, fun k hk => (b.map k (Nat.lt_of_lt_of_le hk a.size)).trans (a.map k hk), fun k hk => (b.get k (Nat.lt_of_lt_of_le hk a.size)).trans (a.get k hk)⟩

theorem Lies.mono {β β' : Bm} {h h' : Hp} (x : Ext β h β' h') : ∀ (d : Nat) (t : TypeId) (cs : List Value), Lies P h d t cs → Lies P h' d t cs
  | 0, _, _, hl => hl
  | d + 1, t, cs, hl => by
    have ih := Lies.mono x d
    unfold Lies at hl ⊢
    cases hu : P.underlying t with
    | none => rw [hu] at hl; exact hl
    | some u =>
      rw [hu] at hl
      cases u <;> simp only [] at hl ⊢ <;> first | exact hl | skip
      · rcases hl with hl | ⟨b, len, cap, sp, parts, h1, h2, h3, h4, h5, h6, h7⟩
        · exact .inl hl
        · exact .inr ⟨b, len, cap, sp, parts, h1, Nat.lt_of_lt_of_le h2 x.size, h3, h4, fun hc => by rw [x.get b h2]; exact h5 hc, h6, fun p hp => ⟨(h7 p hp).1, ih _ _ (h7 p hp).2⟩⟩
      · obtain ⟨parts, h1, h2, h3⟩ := hl
        exact ⟨parts, h1, h2, fun p hp => ⟨(h3 p hp).1, ih _ _ (h3 p hp).2⟩⟩
      · obtain ⟨parts, h1, h2, h3⟩ := hl
        exact ⟨parts, h1, h2, fun i f p hf hp => ⟨(h3 i f p hf hp).1, ih _ _ (h3 i f p hf hp).2⟩⟩

/-- An abstract heap of which nothing may be written. -/
structure RO (P : Program) (CK : Code → Prop) (β : Bm) (h : Hp) (W : World) : Prop where
  rel : Rel P CK β h W
  no : ∀ c, ¬ h.own c

/-- What is claimed of cells of the machine's. -/
def Laid (P : Program) (CK : Code → Prop) (W : World) (cs : List Value) (G : Hp → List Value → Prop) : Prop :=
  ∀ β h, RO P CK β h W → ∃ β' h' acs, RO P CK β' h' W ∧ Ext β h β' h' ∧ cs = acs.map (ren β') ∧ (∀ v ∈ acs, vok h'.size v) ∧ G h' acs

theorem Laid.flat {cs : List Value} {G : Hp → List Value → Prop} (hf : ∀ v ∈ cs, flatB v = true) (hG : ∀ h, G h cs) : Laid P CK W cs G := fun β h r =>
  ⟨β, h, cs, r, Ext.refl _ _, by
    conv => lhs; rw [← List.map_id cs]
    exact List.map_congr_left fun v hv => (flat_ren v (hf v hv)).symm, fun v hv => flat_vok v (hf v hv), hG h⟩

theorem map_ext {β β' : Bm} {h h' : Hp} (x : Ext β h β' h') {acs : List Value} (hv : ∀ v ∈ acs, vok h.size v) : acs.map (ren β) = acs.map (ren β') :=
  List.map_congr_left fun v hm => (ren_congr x.map v (hv v hm)).symm

theorem Laid.seq {ι : Type} {src : ι → List Value} {G : Hp → ι → List Value → Prop} (mono : ∀ β h β' h' i a, Ext β h β' h' → G h i a → G h' i a) : ∀ (l : List ι), (∀ i ∈ l, Laid P CK W (src i) fun h a => G h i a) → ∀ β h, RO P CK β h W →
    ∃ β' h' as, RO P CK β' h' W ∧ Ext β h β' h' ∧ List.length as = l.length ∧ ∀ (k : Nat) i a, l[k]? = some i → as[k]? = some a → src i = a.map (ren β') ∧ (∀ v ∈ a, vok h'.size v) ∧ G h' i a
  | [], _, β, h, r => ⟨β, h, [], r, Ext.refl _ _, rfl, fun k i a h1 _ => by simp at h1⟩
  | i :: l, hl, β, h, r => by
    obtain ⟨β1, h1, a, r1, x1, e1, v1, g1⟩ := hl i List.mem_cons_self β h r
    obtain ⟨β2, h2, as, r2, x2, e2, k2⟩ := Laid.seq mono l (fun j hj => hl j (List.mem_cons_of_mem _ hj)) β1 h1 r1
    refine ⟨β2, h2, a :: as, r2, x1.trans x2, by simp [e2], fun k j b hk hb => ?_⟩
    cases k with
    | zero =>
      simp only [List.getElem?_cons_zero, Option.some.injEq] at hk hb
      subst hk hb
      exact ⟨by rw [e1]; exact map_ext x2 v1, fun v hv => vok_mono x2.size v (v1 v hv), mono _ _ _ _ _ _ x2 g1⟩
    | succ k =>
      simp only [List.getElem?_cons_succ] at hk hb
      exact k2 k j b hk hb

/-- A block of the machine's that may not be written. -/
theorem RO.push {β : Bm} {h : Hp} (r : RO P CK β h W) (x : Im) (y : Option Blk) (hy : ∀ z, y = some z → z.own = false ∧ ∃ o, W.heap[x.B]? = some o ∧ BlkOk CK β h.size x z o) :
    RO P CK (upd β h.size x) (h.push y) W ∧ Ext β h (upd β h.size x) (h.push y) := by
  have hget : ∀ b, (h.push y).get b = if b = h.size then y else h.get b := h.get_push y
  have hold : ∀ b z, b ≠ h.size → (h.push y).get b = some z → b < h.size ∧ h.get b = some z := by
    intro b z hne hb
    rw [hget, if_neg hne] at hb
    exact ⟨r.rel.lt b (by rw [hb]; simp), hb⟩
  have hno : ∀ c, ¬ (h.push y).own c := by
    rintro c ⟨z, hz, hzo⟩
    by_cases hc : c = h.size
    · subst hc
      rw [hget, if_pos rfl] at hz
      rw [(hy z hz).1] at hzo; cases hzo
    · exact r.no c ⟨z, (hold c z hc hz).2, hzo⟩
  refine ⟨⟨⟨?_, ?_, ?_, ?_, ?_, by have := r.rel.roLe; simp; omega⟩, hno⟩, ⟨by simp, fun b hb => upd_lt hb, fun b hb => by rw [hget, if_neg (by omega)]⟩⟩
  · intro g hg; rw [upd_lt (by have := r.rel.gsize; omega)]; exact r.rel.glob g hg
  · have := r.rel.gsize; simp; omega
  · intro b z hb
    by_cases hbn : b = h.size
    · subst hbn
      rw [hget, if_pos rfl] at hb
      obtain ⟨_, o, ho, hok⟩ := hy z hb
      exact ⟨o, by rw [upd_self]; exact ho, by rw [upd_self]; exact hok.congr (fun b hb => upd_lt hb) (by simp)⟩
    · obtain ⟨hb1, hb2⟩ := hold b z hbn hb
      obtain ⟨o, ho, hok⟩ := r.rel.blk b z hb2
      rw [upd_lt hb1]
      exact ⟨o, ho, hok.congr (fun b hb => upd_lt hb) (by simp)⟩
  · intro b b' ho; exact absurd ho (hno b)
  · intro b hb
    obtain ⟨z, hz⟩ := Option.ne_none_iff_exists'.1 hb
    by_cases hbn : b = h.size
    · subst hbn; simp
    · have := (hold b z hbn hz).1; simp; omega

theorem rowT_parts {g : TypeId → Bool} (cs : List Value) : ∀ (fs : List Field) (o n : Nat), rowT P g fs o = some n → n ≤ cs.length →
    o ≤ n ∧ (cs.drop o).take (n - o) = (fs.map fun f => (cs.drop f.offset).take (P.cellsOf f.type)).flatten ∧ (∀ f ∈ fs, g f.type = true ∧ ((cs.drop f.offset).take (P.cellsOf f.type)).length = P.cellsOf f.type)
  | [], o, n, h, _ => by cases h; simp
  | f :: fs, o, n, h, hn => by
    simp only [rowT] at h
    split at h
    · rename_i hc
      obtain ⟨ho, hg⟩ := hc
      obtain ⟨h1, h2, h3⟩ := rowT_parts cs fs _ n h hn
      refine ⟨by omega, ?_, fun f' hf' => ?_⟩
      · rw [List.map_cons, List.flatten_cons, ← h2, ho]
        have : n - o = P.cellsOf f.type + (n - (o + P.cellsOf f.type)) := by omega
        rw [this, List.take_add, List.drop_drop]
      · rcases List.mem_cons.1 hf' with rfl | hf'
        · exact ⟨hg, by simp; omega⟩
        · exact h3 f' hf'
    · cases h

theorem range_parts (cs : List Value) (c : Nat) : ∀ (n : Nat), n * c ≤ cs.length → cs.take (n * c) = ((List.range n).map fun i => (cs.drop (i * c)).take c).flatten
  | 0, _ => by simp
  | n + 1, h => by
    rw [Nat.add_mul, Nat.one_mul] at h
    rw [List.range_succ, List.map_append, List.flatten_append, ← range_parts cs c n (by omega)]
    simp only [List.map_cons, List.map_nil, List.flatten_cons, List.flatten_nil, List.append_nil]
    rw [Nat.add_mul, Nat.one_mul, List.take_add]

theorem mem_get {α : Type} {l : List α} {x : α} (h : x ∈ l) : ∃ k : Nat, l[k]? = some x := by
  obtain ⟨k, hk, e⟩ := List.mem_iff_getElem.1 h
  exact ⟨k, by rw [List.getElem?_eq_getElem hk, e]⟩

/-- All parts together. -/
theorem parts_ren {ι : Type} {src : ι → List Value} {β : Bm} : ∀ {l : List ι} {as : List (List Value)}, as.length = l.length → (∀ (k : Nat) i a, l[k]? = some i → as[k]? = some a → src i = a.map (ren β)) → (l.map src).flatten = as.flatten.map (ren β)
  | [], [], _, _ => rfl
  | [], _ :: _, h, _ => by simp at h
  | _ :: _, [], h, _ => by simp at h
  | i :: l, a :: as, h, hk => by
    simp only [List.map_cons, List.flatten_cons, List.map_append]
    rw [hk 0 i a rfl rfl, parts_ren (by simpa using h) fun k j b h1 h2 => hk (k + 1) j b (by simpa using h1) (by simpa using h2)]

theorem mem_parts {ι : Type} {l : List ι} {as : List (List Value)} (hl : as.length = l.length) {p : List Value} (hp : p ∈ as) : ∃ (k : Nat) (i : ι), l[k]? = some i ∧ as[k]? = some p ∧ i ∈ l := by
  obtain ⟨k, hk⟩ := mem_get hp
  have hlt : k < as.length := (List.getElem?_eq_some_iff.1 hk).1
  have : k < l.length := by omega
  exact ⟨k, l[k], List.getElem?_eq_getElem this, hk, List.getElem_mem _⟩

theorem cells_get {base : Nat} {a : Addr} {n : Nat} {l : List Value} (h : W.cells? base a n = some l) : l.length = n ∧ ∀ i, i < n → W.cell? (a.add i) = l[i]? := by
  unfold World.cells? at h
  split at h
  · exact ⟨by simpa using mapM_some_length h, fun i hi => mapM_some_get h i i (by simp [hi])⟩
  · cases h

theorem cell_cells {a : Addr} {v : Value} (h : W.cell? a = some v) : a.spot = none ∧ ∃ C e fz, W.heap[a.block]? = some (.cells C e fz) ∧ C[a.off]? = some v := by
  unfold World.cell? at h
  split at h
  · rename_i C e fz hb
    split at h
    · cases h
    · rename_i hs
      exact ⟨by simpa using hs, C, e, fz, hb, h⟩
  · cases h

theorem flatten_get {α : Type} (c : Nat) : ∀ (ps : List (List α)), (∀ p ∈ ps, p.length = c) → ∀ (i k : Nat), k < c → ps.flatten[i * c + k]? = (ps[i]?).bind fun p => p[k]?
  | [], _, i, k, _ => by simp
  | p :: ps, hp, i, k, hk => by
    have hl := hp p List.mem_cons_self
    rw [List.flatten_cons]
    cases i with
    | zero => rw [List.getElem?_append_left (by omega)]; simp
    | succ i =>
      rw [List.getElem?_append_right (by rw [hl, Nat.add_mul]; omega), hl]
      have : (i + 1) * c + k - c = i * c + k := by rw [Nat.add_mul]; omega
      rw [this, flatten_get c ps (fun q hq => hp q (List.mem_cons_of_mem _ hq)) i k hk]
      simp

variable {H : Type} {enc : TypeId × Value → H} {held : Bool}

theorem weights_mem_all {e : TypeId} {n : Nat} : ∀ {ds : List (DataW H)} {j : Nat} {d : DataW H}, ds[j]? = some d → n ∈ d.weights P e → n ∈ DataW.weightsAll P e ds
  | [], j, d, h, _ => by simp at h
  | d0 :: ds, 0, d, h, hn => by
    simp only [List.getElem?_cons_zero, Option.some.injEq] at h
    subst h
    simp only [DataW.weightsAll, List.mem_append]
    exact .inl hn
  | d0 :: ds, j + 1, d, h, hn => by
    simp only [List.getElem?_cons_succ] at h
    simp only [DataW.weightsAll, List.mem_append]
    exact .inr (weights_mem_all h hn)

theorem laid_of_trod : ∀ (d : Nat) (t : TypeId) (fuel : Nat) (cs : List Value) (x : DataW H × List MemPlace), okT P d t = true → DataW.trod enc P W 0 (fun _ => true) held fuel t cs = some x → (∀ n ∈ x.1.weights P t, n ≤ reachBytes) →
    cs.length = P.cellsOf t ∧ Laid P CK W cs fun h a => a.length = P.cellsOf t ∧ Lies P h d t a
  | 0, t, fuel, cs, x, hok, _, _ => by cases hok
  | d + 1, t, fuel, cs, x, hok, h, hwt => by
    have ih := laid_of_trod d
    unfold okT at hok
    have mono : ∀ (β : Bm) (h : Hp) (β' : Bm) (h' : Hp) (e : TypeId) (a : List Value), Ext β h β' h' → (a.length = P.cellsOf e ∧ Lies P h d e a) → (a.length = P.cellsOf e ∧ Lies P h' d e a) :=
      fun β h β' h' e a x hl => ⟨hl.1, Lies.mono x _ _ _ hl.2⟩
    cases hu : P.underlying t with
    | none => rw [hu] at hok; cases hok
    | some u =>
      rw [hu] at hok
      cases u <;> simp only [] at hok <;> first | (cases hok; done) | skip
      · obtain ⟨b, rfl, _⟩ := DataW.trod_bool hu h
        rw [beq_iff_eq] at hok
        exact ⟨by simp [hok], Laid.flat (by simp [flatB]) fun h => ⟨by simp [hok], by unfold Lies; rw [hu]; exact ⟨b, rfl⟩⟩⟩
      · obtain ⟨b, rfl, _, hw⟩ := DataW.trod_int hu h
        rw [beq_iff_eq] at hok
        exact ⟨by simp [hok], Laid.flat (by simp [flatB]) fun h => ⟨by simp [hok], by unfold Lies; rw [hu]; exact ⟨b, rfl, hw⟩⟩⟩
      · obtain ⟨b, rfl, rfl, hw⟩ := DataW.trod_string hu h
        have hw : b.size ≤ reachBytes := by
          have := hwt b.size (by simp [DataW.weights])
          exact this
        rw [beq_iff_eq] at hok
        exact ⟨by simp [hok], Laid.flat (by simp [flatB]) fun h => ⟨by simp [hok], by unfold Lies; rw [hu]; exact ⟨b, rfl, hw⟩⟩⟩
      · rename_i e
        simp only [Bool.and_eq_true, beq_iff_eq, bne_iff_ne, ne_eq] at hok
        obtain ⟨h0, h1, h2, h3⟩ := hok
        rcases DataW.trod_slice hu h with ⟨rfl, _⟩ | ⟨a, len, cap, elems, rest, n, rfl, rfl, rfl, hb, hlc, hcm, hel, hE, hR, _⟩
        · exact ⟨by simp [h0], Laid.flat (by simp [flatB]) fun h => ⟨by simp [h0], by unfold Lies; rw [hu]; exact .inl rfl⟩⟩
        · obtain ⟨hrl, hR⟩ := hR rfl
          have hcb : cap * P.bytesOf e ≤ reachBytes := by
            have := hwt ((elems.length + rest.length) * P.bytesOf e) (by simp [DataW.weights, hu])
            rw [show elems.length + rest.length = cap by omega] at this
            exact this
          have hcm : cap < 140737488355328 := by
            have h1 : cap * 1 ≤ cap * P.bytesOf e := Nat.mul_le_mul_left _ (by omega)
            have : reachBytes = 140737488351232 := rfl
            omega
          have hwe : ∀ y, (y ∈ elems ∨ y ∈ rest) → ∀ n ∈ y.1.weights P e, n ≤ reachBytes := by
            intro y hy n hn
            refine hwt n ?_
            simp only [DataW.weights, hu, List.mem_cons, List.mem_append]
            right
            rcases hy with hy | hy
            · obtain ⟨j, hj⟩ := mem_get hy
              exact .inl (weights_mem_all (j := j) (by rw [List.getElem?_map, hj]; rfl) hn)
            · obtain ⟨j, hj⟩ := mem_get hy
              exact .inr (weights_mem_all (j := j) (by rw [List.getElem?_map, hj]; rfl) hn)
          have hat : ∀ i, i < cap → ∃ l y, W.cells? 0 (a.add (i * P.cellsOf e)) (P.cellsOf e) = some l ∧ DataW.trod enc P W 0 (fun _ => true) held n e l = some y ∧ ∀ n ∈ y.1.weights P e, n ≤ reachBytes := by
            intro i hi
            have : ∃ y, (W.cells? 0 (a.add (i * P.cellsOf e)) (P.cellsOf e)).bind (DataW.trod enc P W 0 (fun _ => true) held n e) = some y ∧ (y ∈ elems ∨ y ∈ rest) := by
              by_cases hil : i < len
              · rw [hE i hil, List.getElem?_eq_getElem (by omega)]; exact ⟨_, rfl, .inl (List.getElem_mem _)⟩
              · have := hR (i - len) (by omega)
                rw [show len + (i - len) = i by omega] at this
                rw [this, List.getElem?_eq_getElem (by omega)]; exact ⟨_, rfl, .inr (List.getElem_mem _)⟩
            obtain ⟨y, hy, hm⟩ := this
            obtain ⟨l, hl1, hl2⟩ := Option.bind_eq_some_iff.1 hy
            exact ⟨l, y, hl1, hl2, hwe y hm⟩
          refine ⟨by simp [h0], fun β h r => ?_⟩
          let src : Nat → List Value := fun i => (W.cells? 0 (a.add (i * P.cellsOf e)) (P.cellsOf e)).getD []
          have hsrc : ∀ i, i < cap → ∃ y, W.cells? 0 (a.add (i * P.cellsOf e)) (P.cellsOf e) = some (src i) ∧ DataW.trod enc P W 0 (fun _ => true) held n e (src i) = some y ∧ ∀ n ∈ y.1.weights P e, n ≤ reachBytes := by
            intro i hi
            obtain ⟨l, y, h1, h2, h3⟩ := hat i hi
            have : src i = l := by simp only [src, h1, Option.getD_some]
            exact ⟨y, by rw [this]; exact h1, by rw [this]; exact h2, h3⟩
          obtain ⟨β', h', as, r', x', el, k'⟩ := Laid.seq (P := P) (CK := CK) (W := W) (src := src) (G := fun h i a => a.length = P.cellsOf e ∧ Lies P h d e a)
            (fun β h β' h' i a x hl => mono β h β' h' e a x hl) (List.range cap) (fun i hi => by
              obtain ⟨y, _, hy, hy2⟩ := hsrc i (by simpa using hi)
              exact (ih e n _ _ h1 hy hy2).2) β h r
          have haslen : ∀ p ∈ as, p.length = P.cellsOf e := fun p hp => by
            obtain ⟨k, i, h1, h2, _⟩ := mem_parts el hp
            exact (k' k i p h1 h2).2.2.1
          have hsp : cap ≠ 0 → a.spot = none ∧ ∃ C ee fz, W.heap[a.block]? = some (.cells C ee fz) := by
            intro hc
            obtain ⟨y, hy, _⟩ := hsrc 0 (by omega)
            have := (cells_get hy).2 0 (by omega)
            have hl := (cells_get hy).1
            rw [List.getElem?_eq_getElem (by omega)] at this
            obtain ⟨q1, C, ee, fz, q2, _⟩ := cell_cells this
            simp only [Nat.zero_mul] at q1 q2
            have e0 : (a.add 0).add 0 = a := by simp [Addr.add]
            rw [e0] at q1 q2
            exact ⟨q1, C, ee, fz, q2⟩
          let x : Im := ⟨a.block, a.off, cap * P.cellsOf e⟩
          let y : Option Blk := if cap = 0 then none else some (.cells as.flatten.toArray false)
          have hy : ∀ z, y = some z → z.own = false ∧ ∃ o, W.heap[x.B]? = some o ∧ BlkOk CK β' h'.size x z o := by
            intro z hz
            simp only [y] at hz
            split at hz
            · cases hz
            · rename_i hc
              cases hz
              obtain ⟨hs, C, ee, fz, hC⟩ := hsp hc
              refine ⟨rfl, _, hC, C, ee, fz, rfl, fun i v hi => ?_, ?_, fun hf => by cases hf⟩
              · simp only [List.getElem?_toArray] at hi
                have hmod : i % P.cellsOf e < P.cellsOf e := Nat.mod_lt _ (by omega)
                have hdm : i / P.cellsOf e * P.cellsOf e + i % P.cellsOf e = i := by rw [Nat.mul_comm]; exact Nat.div_add_mod i _
                rw [← hdm, flatten_get _ as haslen _ _ hmod, Option.bind_eq_some_iff] at hi
                obtain ⟨p, hp, hv⟩ := hi
                have hplt : i / P.cellsOf e < as.length := (List.getElem?_eq_some_iff.1 hp).1
                have hq : i / P.cellsOf e < cap := by simpa [el] using hplt
                obtain ⟨g1, g2, g3⟩ := k' (i / P.cellsOf e) (i / P.cellsOf e) p (by simp [hq]) hp
                refine ⟨?_, g2 v (List.mem_of_getElem? hv)⟩
                obtain ⟨yy, hyy, _⟩ := hsrc _ hq
                have hc := (cells_get hyy).2 (i % P.cellsOf e) hmod
                rw [g1, List.getElem?_map, hv, Option.map_some] at hc
                have hadd : (a.add (i / P.cellsOf e * P.cellsOf e)).add (i % P.cellsOf e) = ⟨a.block, a.off + i, none⟩ := by
                  obtain ⟨ab, ao, as⟩ := a
                  simp only at hs
                  subst hs
                  rw [add_none, add_none]
                  have : ao + i / P.cellsOf e * P.cellsOf e + i % P.cellsOf e = ao + i := by omega
                  simp only [this]
                rw [hadd] at hc
                unfold World.cell? at hc
                rw [hC] at hc
                simpa using hc
              · have : as.flatten.length = cap * P.cellsOf e := by
                  rw [List.length_flatten]
                  have : as.map List.length = List.replicate as.length (P.cellsOf e) := by
                    apply List.ext_getElem?
                    intro k
                    rw [List.getElem?_map, List.getElem?_replicate]
                    split
                    · rename_i hk
                      rw [List.getElem?_eq_getElem hk, Option.map_some, haslen _ (List.getElem_mem hk)]
                    · rename_i hk
                      rw [List.getElem?_eq_none (by omega)]; rfl
                  rw [this, List.sum_replicate_nat, el, List.length_range]
                simp only [List.size_toArray, this, x]
                exact Nat.le_refl _
          obtain ⟨r2, x2⟩ := r'.push x y hy
          refine ⟨_, _, [.slice (some ⟨h'.size, 0, a.spot⟩) len cap], r2, x'.trans x2, ?_, ?_, by simp [h0], ?_⟩
          · simp only [List.map_cons, List.map_nil, ren_slice, renA, upd_self, renCap]
            rw [if_neg (by unfold capOpen; omega)]
            simp [x]
          · intro v hv; simp at hv; subst hv; simp
          · unfold Lies
            rw [hu]
            refine .inr ⟨h'.size, len, cap, a.spot, as, rfl, by simp, hlc, hcb, fun hc => ⟨(hsp hc).1, ?_⟩, by simpa using el, fun p hp => ?_⟩
            · rw [Hp.get_push, if_pos rfl]
              simp only [y, if_neg hc]
            · obtain ⟨k, i, h1, h2, _⟩ := mem_parts el hp
              exact ⟨haslen p hp, Lies.mono x2 _ _ _ (k' k i p h1 h2).2.2.2⟩
      · rename_i n e
        simp only [Bool.and_eq_true, beq_iff_eq] at hok
        obtain ⟨h1, h2⟩ := hok
        cases fuel with
        | zero => simp [DataW.trod] at h
        | succ m =>
          have hl : cs.length = P.cellsOf t ∧ ∃ xs : List (DataW H × List MemPlace), (List.range n).mapM (fun i => DataW.trod enc P W 0 (fun _ => true) held m e ((cs.drop (i * P.cellsOf e)).take (P.cellsOf e))) = some xs ∧ x.1 = .agg (xs.map (·.1)) := by
            unfold DataW.trod at h
            rw [hu] at h
            split at h <;> simp_all
            obtain ⟨_, xs, hp, hd⟩ := h
            exact ⟨xs, hp, by rw [← hd]⟩
          obtain ⟨hlen, xs, hxs, hx1⟩ := hl
          rw [hx1] at hwt
          refine ⟨hlen, fun β h r => ?_⟩
          obtain ⟨β', h', as, r', x', el, k'⟩ := Laid.seq (P := P) (CK := CK) (W := W) (src := fun i => (cs.drop (i * P.cellsOf e)).take (P.cellsOf e)) (G := fun h i a => a.length = P.cellsOf e ∧ Lies P h d e a)
            (fun β h β' h' i a x hl => mono β h β' h' e a x hl) (List.range n) (fun i hi => by
              have := mapM_some_get hxs i i (by simp at hi; simp [hi])
              have hlt : i < xs.length := by
                have := mapM_some_length hxs
                simp at this hi; omega
              rw [List.getElem?_eq_getElem hlt] at this
              exact (ih e m _ _ h1 this fun n hn => hwt n (by
                simp only [DataW.weights, hu]
                exact weights_mem_all (j := i) (by rw [List.getElem?_map, List.getElem?_eq_getElem hlt]; rfl) hn)).2) β h r
          refine ⟨β', h', as.flatten, r', x', ?_, ?_, ?_, ?_⟩
          · have := range_parts cs (P.cellsOf e) n (by omega)
            rw [← h2, ← hlen, List.take_length] at this
            rw [this]
            exact parts_ren el fun k i a h1 h2 => (k' k i a h1 h2).1
          · intro v hv
            obtain ⟨p, hp, hv⟩ := List.mem_flatten.1 hv
            obtain ⟨k, i, h1, h2, _⟩ := mem_parts el hp
            exact (k' k i p h1 h2).2.1 v hv
          · have e2 : (as.flatten.map (ren β')).length = cs.length := by
              have := range_parts cs (P.cellsOf e) n (by omega)
              rw [← h2, ← hlen, List.take_length] at this
              rw [← parts_ren el fun k i a h1 h2 => (k' k i a h1 h2).1, ← this]
            rw [List.length_map] at e2
            rw [e2, hlen]
          · unfold Lies
            rw [hu]
            refine ⟨as, rfl, by simpa using el, fun p hp => ?_⟩
            obtain ⟨k, i, h1, h2, _⟩ := mem_parts el hp
            exact (k' k i p h1 h2).2.2
      · rename_i fs
        rw [beq_iff_eq] at hok
        obtain ⟨xs, n, rfl, rfl, hlen, hxl, hf⟩ := DataW.trod_struct hu h
        obtain ⟨_, hp1, hp2⟩ := rowT_parts cs fs.toList 0 _ hok (by omega)
        refine ⟨hlen, fun β h r => ?_⟩
        obtain ⟨β', h', as, r', x', el, k'⟩ := Laid.seq (P := P) (CK := CK) (W := W) (src := fun f : Field => (cs.drop f.offset).take (P.cellsOf f.type)) (G := fun h f a => a.length = P.cellsOf f.type ∧ Lies P h d f.type a)
          (fun β h β' h' f a x hl => mono β h β' h' f.type a x hl) fs.toList (fun f hff => by
            obtain ⟨k, hk⟩ := mem_get hff
            have h1 := hf k f (by simpa using hk)
            have hlt : k < xs.length := by
              have := (List.getElem?_eq_some_iff.1 hk).1
              simp at this; omega
            rw [List.getElem?_eq_getElem hlt] at h1
            exact (ih f.type n _ _ (hp2 f hff).1 h1 fun m hm => hwt m (by
              simp only [DataW.weights, hu]
              exact DataW.weights_mem_each (j := k) (t := f.type) (d := xs[k].1) (by rw [List.getElem?_map, hk]; rfl) (by rw [List.getElem?_map, List.getElem?_eq_getElem hlt]; rfl) m hm)).2) β h r
        have hall : cs = (fs.toList.map fun f => (cs.drop f.offset).take (P.cellsOf f.type)).flatten := by
          rw [← hp1]; simp [← hlen]
        refine ⟨β', h', as.flatten, r', x', ?_, ?_, ?_, ?_⟩
        · conv => lhs; rw [hall]
          exact parts_ren el fun k i a h1 h2 => (k' k i a h1 h2).1
        · intro v hv
          obtain ⟨p, hp, hv⟩ := List.mem_flatten.1 hv
          obtain ⟨k, i, h1, h2, _⟩ := mem_parts el hp
          exact (k' k i p h1 h2).2.1 v hv
        · have e2 : (as.flatten.map (ren β')).length = cs.length := by
            rw [← parts_ren el fun k i a h1 h2 => (k' k i a h1 h2).1, ← hall]
          rw [List.length_map] at e2
          rw [e2, hlen]
        · unfold Lies
          rw [hu]
          exact ⟨as, rfl, by simpa using el, fun i f p h1 h2 => (k' i f p (by simpa using h1) h2).2.2⟩
end
end Go.Abs
/- A law's row: the frame; closed runs. -/
namespace Go.Abs
set_option linter.all false
section
variable {P : Program} {β : Bm} {h : Hp} {w : World} {intr : Intr}

/-- The heap of which nothing is known. -/
def bareHp (P : Program) : Hp := { tr := .nil, size := P.globals.size, ro := P.globals.size }
theorem bare_get (b : Nat) : (bareHp P).get b = none := rfl
theorem bare_rel {CK : Code → Prop} (hg : ∀ g, g < P.globals.size → (β g).B = g ∧ (β g).O = 0) : Rel P CK β (bareHp P) w :=
  { glob := hg, gsize := Nat.le_refl _, blk := fun b y hy => (by cases hy), inj := fun b b' ho => (by obtain ⟨x, hx, _⟩ := ho; cases hx), lt := fun b hb => absurd rfl hb, roLe := Nat.le_refl _ }
theorem bare_ro {CK : Code → Prop} : RO P CK (fun g => ⟨g, 0, 0⟩) (bareHp P) w := ⟨bare_rel fun g _ => ⟨rfl, rfl⟩, fun c ⟨x, hx, _⟩ => by cases hx⟩

/-- A call without arguments, run once. -/
theorem Con.closed (B : Base P) (hi : IntrOk P (CKb P) intr) {f : FuncId} {v : Value} (n : Nat) (hv : flatB v = true) (he : (evalV P intr n (.fn f) #[] (bareHp P)).map Prod.fst = some v) : Con P (CKb P) f (gOf Dec.nil fun _ => v) := by
  intro args h u h' hg β w r ha
  have hargs : args = #[] ∧ u = v ∧ h' = h := by
    unfold gOf at hg
    rw [Option.map_eq_some_iff] at hg
    obtain ⟨a, h1, h2⟩ := hg
    have := Dec.nil.ok _ _ h1
    cases h2
    exact ⟨by cases args; simp_all [Dec.nil], rfl, rfl⟩
  obtain ⟨rfl, rfl, rfl⟩ := hargs
  rw [Option.map_eq_some_iff] at he
  obtain ⟨⟨v', h'⟩, he, rfl⟩ := he
  refine (eval_calls B hi he (bare_rel (w := w) r.glob) (by simp)).mono fun e w' hp => ?_
  obtain ⟨β', rfl, h2, s⟩ := hp
  have hkeep : ∀ k, k < w.heap.size → w'.heap[k]? = w.heap[k]? := fun k hk => s.frame k hk fun b _ ⟨x, hx, _⟩ => by cases hx
  refine ⟨β, by rw [flat_ren _ hv, flat_ren _ hv], flat_vok _ hv, ⟨⟨r.glob, r.gsize, fun b y hy => ?_, r.inj, r.lt, r.roLe⟩, fun _ _ => rfl, Nat.le_refl _, s.wsize, rfl, fun _ _ _ => rfl, fun _ _ o => o, fun _ _ o => o, fun b hb ho => ?_, fun k hk _ => hkeep k hk, s.os, s.tape, s.output⟩⟩
  · obtain ⟨o, ho, hok⟩ := r.blk b y hy
    exact ⟨o, by rw [hkeep _ (r.wlt hy)]; exact ho, hok⟩
  · have := r.lt b ho; omega

/-- A value that is handed in. -/
def LiesV (P : Program) (h : Hp) (d : Nat) (t : TypeId) (v : Value) : Prop :=
  ∃ cs : List Value, Lies P h d t cs ∧ ((tAgg P t = some true ∧ v = .agg cs.toArray) ∨ (tAgg P t = some false ∧ cs = [v]))
def LiesAll (P : Program) (h : Hp) (d : Nat) : List TypeId → List Value → Prop
  | [], [] => True
  | t :: ts, v :: vs => LiesV P h d t v ∧ LiesAll P h d ts vs
  | _, _ => False
theorem LiesV.mono {β' : Bm} {h' : Hp} (x : Ext β h β' h') {d : Nat} {t : TypeId} {v : Value} (l : LiesV P h d t v) : LiesV P h' d t v := by
  obtain ⟨cs, h1, h2⟩ := l
  exact ⟨cs, Lies.mono x d t cs h1, h2⟩

section
variable {CK : Code → Prop} {H : Type} {enc : TypeId × Value → H}

theorem laid_value {d : Nat} {t : TypeId} {v : Value} {x : DataW H} {ps : List MemPlace} (hok : okT P d t = true) (hv : ∃ b, Value.okWide P w .any b t v) (ht : DataW.Trod enc P w 0 (fun _ => true) true t v x ps) (hw : ∀ n ∈ x.weights P t, n ≤ reachBytes)
    (r : RO P CK β h w) : ∃ β' h' a, RO P CK β' h' w ∧ Ext β h β' h' ∧ v = ren β' a ∧ vok h'.size a ∧ LiesV P h' d t a := by
  obtain ⟨b, hv⟩ := hv
  obtain ⟨fuel, hf⟩ := ht
  obtain ⟨_, hl⟩ := laid_of_trod (CK := CK) d t fuel _ _ hok hf hw
  obtain ⟨β', h', acs, r', x', e, hk, _, hL⟩ := hl β h r
  refine ⟨β', h', ?_⟩
  unfold Value.okWide at hv
  cases d with
  | zero => cases hok
  | succ d =>
    unfold okT at hok
    cases hu : P.underlying t with
    | none => rw [hu] at hok; cases hok
    | some u =>
      rw [hu] at hok hv
      have agg : (∃ cs, v = .agg cs) → tAgg P t = some true → ∃ a, RO P CK β' h' w ∧ Ext β h β' h' ∧ v = ren β' a ∧ vok h'.size a ∧ LiesV P h' (d + 1) t a := by
        rintro ⟨cs, rfl⟩ ha
        refine ⟨.agg acs.toArray, r', x', ?_, by simpa using hk, acs, hL, .inl ⟨ha, rfl⟩⟩
        rw [ren_agg]
        congr 1
        simp only [Value.cells] at e
        apply Array.ext'
        rw [e]; simp
      have one : oneC v = true → tAgg P t = some false → ∃ a, RO P CK β' h' w ∧ Ext β h β' h' ∧ v = ren β' a ∧ vok h'.size a ∧ LiesV P h' (d + 1) t a := by
        intro ho ha
        have hc : v.cells.toList = [v] := by cases v <;> simp [oneC] at ho <;> rfl
        rw [hc] at e
        match acs, e with
        | [a], e =>
          simp only [List.map_cons, List.map_nil, List.cons.injEq, and_true] at e
          exact ⟨a, r', x', e, hk a (by simp), [a], hL, .inr ⟨ha, rfl⟩⟩
      cases u <;> simp only [] at hok hv <;> first | (cases hok; done) | skip
      all_goals first
        | exact agg ⟨_, hv.choose_spec.1⟩ (by simp [tAgg, hu])
        | (refine one ?_ (by simp [tAgg, hu])
           cases v <;> simp [Cell.okWide, Cell.ok, hu] at hv <;> rfl)

theorem laid_args {d : Nat} : ∀ {ts : List TypeId} {vs : List Value} {ds : List (DataW H)} {ps : List MemPlace} {β : Bm} {h : Hp}, (∀ t ∈ ts, okT P d t = true) → (∀ (j : Nat) t v, ts[j]? = some t → vs[j]? = some v → ∃ b, Value.okWide P w .any b t v) →
    DataW.TrodAll enc P w 0 (fun _ => true) true ts vs ds ps → (∀ n ∈ DataW.weightsEach P ts ds, n ≤ reachBytes) → RO P CK β h w →
    ∃ β' h' as, RO P CK β' h' w ∧ Ext β h β' h' ∧ vs = as.map (ren β') ∧ (∀ a ∈ as, vok h'.size a) ∧ LiesAll P h' d ts as
  | [], vs, ds, ps, β, h, _, _, ht, _, r => by
    obtain ⟨rfl, rfl, rfl⟩ := ChangeShapes.trodAll_nil ht
    exact ⟨β, h, [], r, Ext.refl _ _, rfl, by simp, trivial⟩
  | t :: ts, vs, ds, ps, β, h, hok, hv, ht, hw, r => by
    obtain ⟨v, vs, d', ds, p, q, rfl, rfl, rfl, h1, h2⟩ := ChangeShapes.trodAll_cons ht
    obtain ⟨β1, h1', a, r1, x1, e1, k1, l1⟩ := laid_value (hok t List.mem_cons_self) (hv 0 t v rfl rfl) h1 (fun n hn => hw n (by simp only [DataW.weightsEach, List.mem_append]; exact .inl hn)) r
    obtain ⟨β2, h2', as, r2, x2, e2, k2, l2⟩ := laid_args (fun t ht => hok t (List.mem_cons_of_mem _ ht)) (fun j t v hj hv' => hv (j + 1) t v (by simpa using hj) (by simpa using hv')) h2
      (fun n hn => hw n (by simp only [DataW.weightsEach, List.mem_append]; exact .inr hn)) r1
    refine ⟨β2, h2', a :: as, r2, x1.trans x2, ?_, ?_, l1.mono x2, l2⟩
    · rw [List.map_cons, ← e2, e1, ren_congr x2.map a k1]
    · intro b hb
      rcases List.mem_cons.1 hb with rfl | hb
      · exact vok_mono x2.size _ k1
      · exact k2 b hb

theorem below_trodAll (hl : laidOutB P = true) {W' : World} (hb : RowKit.Below w.heap.size w W') : ∀ {ts : List TypeId} {vs : List Value} {ds : List (DataW H)} {ps : List MemPlace}, (∀ t ∈ ts, P.readableRec t = true ∧ t < P.types.size) →
    DataW.TrodAll enc P w 0 (fun _ => true) true ts vs ds ps → (∀ x ∈ ps, x.block < w.heap.size) → DataW.TrodAll enc P W' 0 (fun b => decide (b < w.heap.size)) true ts vs ds ps
  | [], vs, ds, ps, _, ht, _ => by
    obtain ⟨rfl, rfl, rfl⟩ := ChangeShapes.trodAll_nil ht
    exact rfl
  | t :: ts, vs, ds, ps, hr, ht, hlt => by
    obtain ⟨v, vs, d', ds, p, q, rfl, rfl, rfl, h1, h2⟩ := ChangeShapes.trodAll_cons ht
    exact ⟨p, q, RowKit.Below.trod hl (hr t List.mem_cons_self).1 (hr t List.mem_cons_self).2 h1 hb fun x hx => hlt x (List.mem_append_left _ hx),
      below_trodAll hl hb (fun t ht => hr t (List.mem_cons_of_mem _ ht)) h2 fun x hx => hlt x (List.mem_append_right _ hx), rfl⟩
end

/-- What is asked of a function that is a law, as a check. -/
def lawB (P : Program) (d : Nat) (fn : Func) : Bool :=
  fn.params.toList.all (fun t => okT P d t && (P.readableRec t && decide (t < P.types.size))) && (match fn.resultTypes.toList with
    | [t] => (match P.underlying t with
      | some .bool => true
      | _ => false)
    | _ => false)

theorem law_lifted {C : Checked} {f : FuncId} {fn : Func} {s : ChangeSpec} {d : Nat} {os : Os} {H : Type} {enc : TypeId × Value → H} (own : ownKnob C.prog.godebug = none) (started : os.Started) (B : Base C.prog) (hi : IntrOk C.prog (CKb C.prog) intr)
    (laid : laidOutB C.prog = true) (noInit : C.prog.inits.idxOf? f = none) (hfn : C.prog.funcs[f]? = some fn) (hvars : s.vars = [])
    (hspec : ∀ (H : Type) (ds : List (DataW H)), ds.length = fn.params.toList.length → (s.fn H ds).results = [.lit (.bool true)] ∧ (s.fn H ds).args = ds ∧ (s.fn H ds).vars = []) (hlaw : lawB C.prog d fn = true)
    (witness : ∃ (w : World) (tape : Tape) (i : Input), w.os = os ∧ (w.forCall tape i).Shaped C.prog ∧ i.vars = [] ∧ Input.okWide C.prog (w.forCall tape i) .any w.heap.size f i ∧
      s.pre6 enc C.prog fn [] false (w.forCall tape i).memory i.args ∧ ({} : Assume).holds C.prog (lone (Frame.enter C.prog f i.args .normal) [] (w.forCall tape i)))
    (walk : ∀ (h : Hp) (as : List Value), h.ro = h.size → (∀ a ∈ as, vok h.size a) → LiesAll C.prog h d fn.params.toList as → ∃ n h', evalV C.prog intr n (.fn f) as.toArray h = some (.bool true, h')) :
    ReturnsInHanded {} C os f .any (s.pre6 enc C.prog fn [] false) (s.post enc C.prog fn false true false false) := by
  refine returnsInHanded_of_change_sized (C := C) own started noInit hfn witness ?_
  intro W base args ds gs before hval hW _ hsz _
  have hW' := hW
  have hlt := DataW.Whole.lt hW
  simp only [lawB, Bool.and_eq_true, List.all_eq_true, decide_eq_true_eq] at hlaw
  obtain ⟨hpar, hres⟩ := hlaw
  obtain ⟨p, q, hA, hV, rfl, hfz, hnd⟩ := hW
  rw [hvars] at hV
  obtain ⟨rfl, rfl⟩ : gs = [] ∧ q = [] := by cases gs <;> simp [DataW.TrodVars] at hV; exact ⟨rfl, hV⟩
  rw [List.append_nil] at hW'
  have hlen := trodAll_length hA
  obtain ⟨β, h, as, r, _, e, hk, hL⟩ := laid_args (CK := CKb C.prog) (β := fun g => ⟨g, 0, 0⟩) (h := bareHp C.prog) (d := d) (fun t ht => (hpar t ht).1) (fun j t v hj hv => ⟨base, hval j t v (by simpa using hj) (by simpa using hv)⟩) hA
    (fun n hn => by
      have := List.all_eq_true.1 hsz n (by
        rw [show s.plain.varTypes C.prog = [] by simp [DataSpec.varTypes, ChangeSpec.plain, hvars]]
        simpa using hn)
      simpa using this) bare_ro
  let h0 : Hp := { h with ro := h.size }
  have r0 : Rel C.prog (CKb C.prog) β h0 W := ⟨r.rel.glob, r.rel.gsize, r.rel.blk, r.rel.inj, r.rel.lt, Nat.le_refl _⟩
  have hL0 : LiesAll C.prog h0 d fn.params.toList as := by
    have x0 : Ext β h β h0 := ⟨Nat.le_refl _, fun _ _ => rfl, fun _ _ => rfl⟩
    clear e hk hpar hres hspec witness walk hlen hA hval hsz
    generalize fn.params.toList = ts at hL ⊢
    induction ts generalizing as with
    | nil =>
      cases as with
      | nil => trivial
      | cons a as => exact hL.elim
    | cons t ts ih =>
      cases as with
      | nil => exact hL.elim
      | cons a as => exact ⟨hL.1.mono x0, ih as hL.2⟩
  obtain ⟨n, h', he⟩ := walk h0 as rfl hk hL0
  have ha : as.toArray.map (ren β) = args := by
    apply Array.ext'
    rw [e]; simp
  have key := law_calls B hi he r0 (by simpa using hk) (fun c _ => r.no c)
  rw [ha] at key
  refine key.mono fun e W' ⟨he, bel⟩ => ?_
  subst he
  obtain ⟨s1, s2, s3⟩ := hspec H ds hlen.2
  have hrt : ∃ t, fn.resultTypes = #[t] ∧ C.prog.underlying t = some .bool := by
    match hh : fn.resultTypes.toList, hres with
    | [t], hres =>
      simp only [] at hres
      refine ⟨t, by rw [← Array.toList_inj]; simpa using hh, ?_⟩
      split at hres
      · assumption
      · cases hres
  obtain ⟨tb, hrt, hub⟩ := hrt
  refine ⟨_, rfl, ds, [], p, [], p, [], hW', ?_, ?_, ?_, bel.frame _, fun h => by cases h⟩
  · rw [List.append_nil, s1, hrt]
    exact ChangeShapes.trodAll_mk1 (RowKit.shut_bool hub _)
  · rw [List.append_nil, s2]
    exact below_trodAll laid bel (fun t ht => (hpar t ht).2) hA fun x hx => hlt x (by simpa using hx)
  · rw [List.append_nil, s3, hvars]
    exact rfl
end
end Go.Abs
