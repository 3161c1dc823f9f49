/- An evaluator for the model, and that it is sound (part AbsA): no statement of a law stands here. -/
import Derived.RangeFuncLeaves
import Derived.OrdersIn
import Derived.WalkKit
set_option linter.all false
/- The abstract heap and how an abstract state lies in the machine's world: values are the machine's own, but their addresses name abstract blocks; a map says where each abstract block lies. -/
namespace Go.Abs

/-- Where an abstract block lies: the machine's block, the offset in it, and how many cells are there from the offset on. -/
structure Im where
  B : Nat
  O : Nat
  av : Nat

abbrev Bm := Nat → Im

/-- The capacity of a row that may go on (how far, nobody knows), whose elements have s cells: capOpen + s. -/
def capOpen : Nat := 4611686018427387904

def renA (β : Bm) (a : Addr) : Addr := { block := (β a.block).B, off := (β a.block).O + a.off, spot := a.spot }

def renFn (β : Bm) : Fn → Fn
  | .yield l => .yield (β l).B
  | f => f

def renCap (β : Bm) (a : Addr) (cap : Nat) : Nat := if capOpen ≤ cap then ((β a.block).av - a.off) / (cap - capOpen) else cap

/-- An abstract value as the machine has it. -/
def ren (β : Bm) : Value → Value
  | .pointer (some a) => .pointer (some (renA β a))
  | .slice (some a) n c => .slice (some (renA β a)) n (renCap β a c)
  | .map (some r) => .map (some (β r).B)
  | .func f x y => .func (renFn β f) (x.attach.map fun ⟨v, _⟩ => ren β v) (y.attach.map fun ⟨v, _⟩ => ren β v)
  | .iface t v => .iface t (ren β v)
  | .agg cs => .agg (cs.attach.map fun ⟨v, _⟩ => ren β v)
  | .tuple vs => .tuple (vs.attach.map fun ⟨v, _⟩ => ren β v)
  | v => v
termination_by v => SizeOf.sizeOf v
decreasing_by
  all_goals simp_wf
  all_goals first
    | omega
    | (rename_i h; have := Array.sizeOf_lt_of_mem h; omega)

def fnok (n : Nat) : Fn → Prop
  | .yield l => l < n
  | _ => True

/-- All addresses in a value are of blocks below n. -/
def vok (n : Nat) : Value → Prop
  | .pointer (some a) => a.block < n
  | .slice (some a) _ _ => a.block < n
  | .map (some r) => r < n
  | .chan (some _) => False
  | .func f x y => fnok n f ∧ (∀ v, (h : v ∈ x) → vok n v) ∧ (∀ v, (h : v ∈ y) → vok n v)
  | .iface _ v => vok n v
  | .agg cs => ∀ v, (h : v ∈ cs) → vok n v
  | .tuple vs => ∀ v, (h : v ∈ vs) → vok n v
  | _ => True
termination_by v => SizeOf.sizeOf v
decreasing_by
  all_goals simp_wf
  all_goals first
    | omega
    | (have := Array.sizeOf_lt_of_mem h; omega)

section
variable {β : Bm}
@[simp] theorem ren_bool (b : Bool) : ren β (.bool b) = .bool b := by unfold ren; rfl
@[simp] theorem ren_int (k : IntKind) (n : Int) : ren β (.int k n) = .int k n := by unfold ren; rfl
@[simp] theorem ren_float (k : FloatKind) (n : Nat) : ren β (.float k n) = .float k n := by unfold ren; rfl
@[simp] theorem ren_string (s : ByteArray) : ren β (.string s) = .string s := by unfold ren; rfl
@[simp] theorem ren_nil : ren β (.pointer none) = .pointer none := by unfold ren; rfl
@[simp] theorem ren_pointer (a : Addr) : ren β (.pointer (some a)) = .pointer (some (renA β a)) := by unfold ren; rfl
@[simp] theorem ren_slice_nil (n c : Nat) : ren β (.slice none n c) = .slice none n c := by unfold ren; rfl
@[simp] theorem ren_slice (a : Addr) (n c : Nat) : ren β (.slice (some a) n c) = .slice (some (renA β a)) n (renCap β a c) := by unfold ren; rfl
@[simp] theorem ren_map_nil : ren β (.map none) = .map none := by unfold ren; rfl
@[simp] theorem ren_map (r : Nat) : ren β (.map (some r)) = .map (some (β r).B) := by unfold ren; rfl
@[simp] theorem ren_nilFunc : ren β .nilFunc = .nilFunc := by unfold ren; rfl
@[simp] theorem ren_nilIface : ren β .nilIface = .nilIface := by unfold ren; rfl
@[simp] theorem ren_iface (t : TypeId) (v : Value) : ren β (.iface t v) = .iface t (ren β v) := by rw [ren]
@[simp] theorem ren_agg (cs : Array Value) : ren β (.agg cs) = .agg (cs.map (ren β)) := by rw [ren]; simp
@[simp] theorem ren_tuple (cs : Array Value) : ren β (.tuple cs) = .tuple (cs.map (ren β)) := by rw [ren]; simp
@[simp] theorem ren_func (f : Fn) (x y : Array Value) : ren β (.func f x y) = .func (renFn β f) (x.map (ren β)) (y.map (ren β)) := by rw [ren]; simp
@[simp] theorem ren_undef : ren β undef = undef := by simp [undef]

@[simp] theorem vok_pointer {n : Nat} (a : Addr) : vok n (.pointer (some a)) ↔ a.block < n := by rw [vok]
@[simp] theorem vok_slice {n : Nat} (a : Addr) (l c : Nat) : vok n (.slice (some a) l c) ↔ a.block < n := by rw [vok]
@[simp] theorem vok_map {n : Nat} (r : Nat) : vok n (.map (some r)) ↔ r < n := by rw [vok]
@[simp] theorem vok_func {n : Nat} (f : Fn) (x y : Array Value) : vok n (.func f x y) ↔ fnok n f ∧ (∀ v ∈ x, vok n v) ∧ (∀ v ∈ y, vok n v) := by rw [vok]
@[simp] theorem vok_iface {n : Nat} (t : TypeId) (v : Value) : vok n (.iface t v) ↔ vok n v := by rw [vok]
@[simp] theorem vok_agg {n : Nat} (cs : Array Value) : vok n (.agg cs) ↔ ∀ v ∈ cs, vok n v := by rw [vok]
@[simp] theorem vok_tuple {n : Nat} (cs : Array Value) : vok n (.tuple cs) ↔ ∀ v ∈ cs, vok n v := by rw [vok]
@[simp] theorem vok_bool {n : Nat} (b : Bool) : vok n (.bool b) := by simp [vok]
@[simp] theorem vok_int {n : Nat} (k : IntKind) (i : Int) : vok n (.int k i) := by simp [vok]
@[simp] theorem vok_float {n : Nat} (k : FloatKind) (i : Nat) : vok n (.float k i) := by simp [vok]
@[simp] theorem vok_string {n : Nat} (s : ByteArray) : vok n (.string s) := by simp [vok]
@[simp] theorem vok_nil {n : Nat} : vok n (.pointer none) := by simp [vok]
@[simp] theorem vok_slice_nil {n l c : Nat} : vok n (.slice none l c) := by simp [vok]
@[simp] theorem vok_map_nil {n : Nat} : vok n (.map none) := by simp [vok]
@[simp] theorem vok_nilFunc {n : Nat} : vok n .nilFunc := by simp [vok]
@[simp] theorem vok_nilIface {n : Nat} : vok n .nilIface := by simp [vok]
@[simp] theorem vok_undef {n : Nat} : vok n undef := by simp [undef]
end

/-- More blocks: as good. -/
theorem vok_mono {n m : Nat} (h : n ≤ m) : ∀ v : Value, vok n v → vok m v
  | .pointer none, _ => by simp
  | .pointer (some a), hv => by simp at hv ⊢; omega
  | .slice none _ _, _ => by simp
  | .slice (some a) _ _, hv => by simp at hv ⊢; omega
  | .map none, _ => by simp
  | .map (some r), hv => by simp at hv ⊢; omega
  | .chan none, _ => by simp [vok]
  | .chan (some r), hv => by simp [vok] at hv
  | .func f x y, hv => by
    simp only [vok_func] at hv ⊢
    refine ⟨?_, fun v hm => vok_mono h v (hv.2.1 v hm), fun v hm => vok_mono h v (hv.2.2 v hm)⟩
    have := hv.1
    cases f <;> simp_all [fnok]
    omega
  | .iface t v, hv => by simp only [vok_iface] at hv ⊢; exact vok_mono h v hv
  | .agg cs, hv => by simp only [vok_agg] at hv ⊢; exact fun v hm => vok_mono h v (hv v hm)
  | .tuple cs, hv => by simp only [vok_tuple] at hv ⊢; exact fun v hm => vok_mono h v (hv v hm)
  | .bool _, _ => by simp
  | .int _ _, _ => by simp
  | .float _ _, _ => by simp
  | .complex _ _ _, _ => by simp [vok]
  | .string _, _ => by simp
  | .nilFunc, _ => by simp
  | .nilIface, _ => by simp
termination_by v => SizeOf.sizeOf v
decreasing_by
  all_goals simp_wf
  all_goals first
    | omega
    | (have := Array.sizeOf_lt_of_mem hm; omega)

/-- Two maps that agree below n say the same of a value whose addresses are below n. -/
theorem ren_congr {n : Nat} {β γ : Bm} (h : ∀ b, b < n → γ b = β b) : ∀ v : Value, vok n v → ren γ v = ren β v
  | .pointer none, _ => by simp
  | .pointer (some a), hv => by simp at hv; simp [renA, h _ hv]
  | .slice none _ _, _ => by simp
  | .slice (some a) _ _, hv => by simp at hv; simp [renA, renCap, h _ hv]
  | .map none, _ => by simp
  | .map (some r), hv => by simp at hv; simp [h _ hv]
  | .chan none, _ => by simp [ren]
  | .chan (some r), hv => by simp [vok] at hv
  | .func f x y, hv => by
    simp only [vok_func] at hv
    simp only [ren_func]
    congr 1
    · have := hv.1
      cases f <;> simp_all [fnok, renFn]
    · exact Array.map_congr_left fun v hm => ren_congr h v (hv.2.1 v hm)
    · exact Array.map_congr_left fun v hm => ren_congr h v (hv.2.2 v hm)
  | .iface t v, hv => by simp only [vok_iface] at hv; simp only [ren_iface]; rw [ren_congr h v hv]
  | .agg cs, hv => by simp only [vok_agg] at hv; simp only [ren_agg]; congr 1; exact Array.map_congr_left fun v hm => ren_congr h v (hv v hm)
  | .tuple cs, hv => by simp only [vok_tuple] at hv; simp only [ren_tuple]; congr 1; exact Array.map_congr_left fun v hm => ren_congr h v (hv v hm)
  | .bool _, _ => by simp
  | .int _ _, _ => by simp
  | .float _ _, _ => by simp
  | .complex _ _ _, _ => by simp [ren]
  | .string _, _ => by simp
  | .nilFunc, _ => by simp
  | .nilIface, _ => by simp
termination_by v => SizeOf.sizeOf v
decreasing_by
  all_goals simp_wf
  all_goals first
    | omega
    | (have := Array.sizeOf_lt_of_mem hm; omega)

/-- The value of one cell. -/
def oneC : Value → Bool
  | .agg _ | .tuple _ => false
  | _ => true

theorem ren_oneC {β : Bm} (v : Value) : oneC (ren β v) = oneC v := by
  cases v with
  | pointer a => cases a <;> simp [oneC]
  | slice a n c => cases a <;> simp [oneC]
  | map a => cases a <;> simp [oneC]
  | chan a => simp [ren]
  | complex => simp [ren]
  | _ => simp [oneC]

theorem ren_cells {β : Bm} (v : Value) : (ren β v).cells = v.cells.map (ren β) := by
  cases v with
  | pointer a => cases a <;> simp [Value.cells]
  | slice a n c => cases a <;> simp [Value.cells]
  | map a => cases a <;> simp [Value.cells]
  | chan a => simp [ren, Value.cells]
  | complex => simp [ren, Value.cells]
  | _ => simp [Value.cells]

theorem vok_cells {n : Nat} {v : Value} (h : vok n v) : ∀ c ∈ v.cells, vok n c := by
  cases v with
  | agg cs => simpa [Value.cells] using h
  | _ => simp only [Value.cells]; intro c hc; simp at hc; subst hc; exact h

/-! ### The abstract heap -/
inductive Blk where
  | cells (cs : Array Value) (own : Bool)
  | loop (st : LoopState) (pending : Option Code) (tmps : Array Value) (params : Array Tmp) (assign body : Code) (defers : Nat)
  | defd (taken : Bool)
  | map (es : Array MapEntry) (clock : Nat)

inductive Tr where
  | nil
  | node (l : Tr) (v : Option Blk) (r : Tr)

def Tr.get : Tr → Nat → Option Blk
  | .nil, _ => none
  | .node l v r, i => match i with
    | 0 => v
    | i + 1 => match i % 2 with
      | 0 => l.get (i / 2)
      | _ => r.get (i / 2)

def Tr.set : Nat → Tr → Nat → Option Blk → Tr
  | 0, t, _, _ => t
  | f + 1, .nil, i, v => match i with
    | 0 => .node .nil v .nil
    | i + 1 => match i % 2 with
      | 0 => .node (Tr.set f .nil (i / 2) v) none .nil
      | _ => .node .nil none (Tr.set f .nil (i / 2) v)
  | f + 1, .node l u r, i, v => match i with
    | 0 => .node l v r
    | i + 1 => match i % 2 with
      | 0 => .node (Tr.set f l (i / 2) v) u r
      | _ => .node l u (Tr.set f r (i / 2) v)

theorem Tr.get_set (v : Option Blk) : ∀ (f : Nat) (t : Tr) (i j : Nat), i < f → (Tr.set f t i v).get j = if j = i then v else t.get j := by
  intro f
  induction f with
  | zero => intro t i j h; omega
  | succ f ih =>
    intro t i j h
    cases t with
    | nil =>
      cases i with
      | zero => cases j <;> simp [Tr.set, Tr.get]; split <;> simp
      | succ i =>
        have hi : i / 2 < f := by omega
        simp only [Tr.set]
        rcases Nat.mod_two_eq_zero_or_one i with e | e <;> rw [e] <;> simp only []
        all_goals
          cases j with
          | zero => simp [Tr.get]
          | succ j =>
            simp only [Tr.get]
            rcases Nat.mod_two_eq_zero_or_one j with e' | e' <;> rw [e'] <;> simp only [Tr.get, ih _ _ _ hi]
            all_goals ((repeat' split) <;> first | rfl | omega)
    | node l u r =>
      cases i with
      | zero => cases j <;> simp [Tr.set, Tr.get]
      | succ i =>
        have hi : i / 2 < f := by omega
        simp only [Tr.set]
        rcases Nat.mod_two_eq_zero_or_one i with e | e <;> rw [e] <;> simp only []
        all_goals
          cases j with
          | zero => simp [Tr.get]
          | succ j =>
            simp only [Tr.get]
            rcases Nat.mod_two_eq_zero_or_one j with e' | e' <;> rw [e'] <;> simp only [ih _ _ _ hi]
            all_goals ((repeat' split) <;> first | rfl | omega)

/-- The heap: blocks by number; how many numbers are given away; below ro nothing may be written. -/
structure Hp where
  tr : Tr
  size : Nat
  ro : Nat

def Hp.get (h : Hp) (b : Nat) : Option Blk := h.tr.get b
def Hp.setB (h : Hp) (b : Nat) (x : Option Blk) : Hp := { h with tr := h.tr.set (b + 1) b x }
def Hp.push (h : Hp) (x : Option Blk) : Hp := { h with tr := h.tr.set (h.size + 1) h.size x, size := h.size + 1 }

theorem Hp.get_setB (h : Hp) (b : Nat) (x : Option Blk) (c : Nat) : (h.setB b x).get c = if c = b then x else h.get c := by
  simp [Hp.setB, Hp.get, Tr.get_set]
theorem Hp.get_push (h : Hp) (x : Option Blk) (c : Nat) : (h.push x).get c = if c = h.size then x else h.get c := by
  simp [Hp.push, Hp.get, Tr.get_set]
@[simp] theorem Hp.size_setB (h : Hp) (b : Nat) (x : Option Blk) : (h.setB b x).size = h.size := rfl
@[simp] theorem Hp.ro_setB (h : Hp) (b : Nat) (x : Option Blk) : (h.setB b x).ro = h.ro := rfl
@[simp] theorem Hp.size_push (h : Hp) (x : Option Blk) : (h.push x).size = h.size + 1 := rfl
@[simp] theorem Hp.ro_push (h : Hp) (x : Option Blk) : (h.push x).ro = h.ro := rfl

/-- A block that may be written. -/
def Blk.own : Blk → Bool
  | .cells _ o => o
  | _ => true

def Hp.own (h : Hp) (b : Nat) : Prop := ∃ x, h.get b = some x ∧ x.own = true

end Go.Abs
/- What it is that an abstract heap lies in a world; what a step may do. -/
namespace Go.Abs

/-- How an abstract block lies in a block of the machine's. CK: what is known of code that a loop's record bears. -/
def BlkOk (CK : Code → Prop) (β : Bm) (n : Nat) (im : Im) : Blk → Obj → Prop
  | .cells cs own, o => ∃ C e fz, o = .cells C e fz ∧ (∀ (i : Nat) v, cs[i]? = some v → C[im.O + i]? = some (ren β v) ∧ vok n v) ∧ cs.size ≤ im.av ∧
      (own = true → fz = (0, 0) ∧ im.O + im.av ≤ C.size)
  | .loop st pd tm ps asg body d, o => d < n ∧ (∀ v ∈ tm, vok n v) ∧ CK asg ∧ CK body ∧ (pd = none ∨ pd = some .ret ∨ ∃ id, pd = some (.exit id)) ∧
      ∃ fn, o = .loop { state := st, pending := pd, fn := fn, tmps := tm.map (ren β), params := ps, assign := asg, body := body, defers := (β d).B }
  | .defd t, o => o = .deferred (if t then none else some [])
  | .map es cl, o => (∀ e ∈ es, vok n e.key ∧ vok n e.val) ∧ o = .map (es.map fun e => { key := ren β e.key, val := ren β e.val, born := e.born }) cl

theorem BlkOk.congr {CK : Code → Prop} {β γ : Bm} {n m : Nat} {im : Im} {y : Blk} {o : Obj} (h : ∀ b, b < n → γ b = β b) (hnm : n ≤ m) (k : BlkOk CK β n im y o) : BlkOk CK γ m im y o := by
  cases y with
  | cells cs own =>
    obtain ⟨C, e, fz, h1, h2, h3, h4⟩ := k
    exact ⟨C, e, fz, h1, fun i v hi => by have := h2 i v hi; rw [ren_congr h v this.2]; exact ⟨this.1, vok_mono hnm _ this.2⟩, h3, h4⟩
  | loop st pd tm ps asg body d =>
    obtain ⟨h1, h2, h3, h4, h5, fn, h6⟩ := k
    refine ⟨by omega, fun v hv => vok_mono hnm _ (h2 v hv), h3, h4, h5, fn, ?_⟩
    rw [h6, h d h1]
    congr 2
    exact Array.map_congr_left fun v hv => (ren_congr h v (h2 v hv)).symm
  | defd t => exact k
  | map es cl =>
    obtain ⟨h1, h2⟩ := k
    refine ⟨fun e he => ⟨vok_mono hnm _ (h1 e he).1, vok_mono hnm _ (h1 e he).2⟩, ?_⟩
    rw [h2]
    congr 1
    exact Array.map_congr_left fun e he => by rw [ren_congr h _ (h1 e he).1, ren_congr h _ (h1 e he).2]

structure Rel (P : Program) (CK : Code → Prop) (β : Bm) (h : Hp) (w : World) : Prop where
  glob : ∀ g, g < P.globals.size → (β g).B = g ∧ (β g).O = 0
  gsize : P.globals.size ≤ h.size
  blk : ∀ b y, h.get b = some y → ∃ o, w.heap[(β b).B]? = some o ∧ BlkOk CK β h.size (β b) y o
  inj : ∀ b b', h.own b → h.get b' ≠ none → b ≠ b' → (β b).B ≠ (β b').B
  lt : ∀ b, h.get b ≠ none → b < h.size
  roLe : h.ro ≤ h.size

theorem Rel.wlt {P : Program} {CK : Code → Prop} {β : Bm} {h : Hp} {w : World} (r : Rel P CK β h w) {b : Nat} {y : Blk} (hb : h.get b = some y) : (β b).B < w.heap.size := by
  obtain ⟨o, ho, _⟩ := r.blk b y hb
  exact (Array.getElem?_eq_some_iff.1 ho).1

/-- What a piece of the run may have done: more blocks; of the old ones only those that may be written have turned. -/
structure St (P : Program) (CK : Code → Prop) (β : Bm) (h : Hp) (w : World) (β' : Bm) (h' : Hp) (w' : World) : Prop where
  rel : Rel P CK β' h' w'
  ext : ∀ b, b < h.size → β' b = β b
  size : h.size ≤ h'.size
  wsize : w.heap.size ≤ w'.heap.size
  ro : h'.ro = h.ro
  keep : ∀ b, b < h.ro → b < h.size → h'.get b = h.get b
  ownOld : ∀ b, b < h.size → h'.own b → h.own b
  pres : ∀ b, b < h.size → h'.get b ≠ none → h.get b ≠ none
  fresh : ∀ b, h.size ≤ b → h'.get b ≠ none → w.heap.size ≤ (β' b).B ∨ ∃ c, c < h.size ∧ h.ro ≤ c ∧ h.own c ∧ (β c).B = (β' b).B
  frame : ∀ k, k < w.heap.size → (∀ b, h.ro ≤ b → h.own b → (β b).B ≠ k) → w'.heap[k]? = w.heap[k]?
  os : w'.os = w.os
  tape : w'.tape = w.tape
  output : w'.output = w.output

theorem St.refl {P : Program} {CK : Code → Prop} {β : Bm} {h : Hp} {w : World} (r : Rel P CK β h w) : St P CK β h w β h w :=
  ⟨r, fun _ _ => rfl, Nat.le_refl _, Nat.le_refl _, rfl, fun _ _ _ => rfl, fun _ _ o => o, fun _ _ o => o,
    fun b hb ho => by have := r.lt b ho; omega, fun _ _ _ => rfl, rfl, rfl, rfl⟩

theorem Hp.own.pres {h : Hp} {b : Nat} (o : h.own b) : h.get b ≠ none := by obtain ⟨x, hx, _⟩ := o; rw [hx]; simp

theorem St.trans {P : Program} {CK : Code → Prop} {β₀ β₁ β₂ : Bm} {h₀ h₁ h₂ : Hp} {w₀ w₁ w₂ : World} (a : St P CK β₀ h₀ w₀ β₁ h₁ w₁) (b : St P CK β₁ h₁ w₁ β₂ h₂ w₂) :
    St P CK β₀ h₀ w₀ β₂ h₂ w₂ := by
  have ha := a.size; have hb := b.size; have hwa := a.wsize; have hwb := b.wsize
  refine ⟨b.rel, fun k hk => (b.ext k (by omega)).trans (a.ext k hk), by omega, by omega, b.ro.trans a.ro, fun k hk hk' => ?_, fun k hk ho => ?_, fun k hk ho => ?_, fun k hk ho => ?_, fun k hk hn => ?_, b.os.trans a.os, b.tape.trans a.tape, b.output.trans a.output⟩
  · rw [b.keep k (by rw [a.ro]; exact hk) (by omega), a.keep k hk hk']
  · exact a.ownOld k hk (b.ownOld k (by omega) ho)
  · exact a.pres k hk (b.pres k (by omega) ho)
  · have new1 : ∀ c, h₀.size ≤ c → h₁.get c ≠ none → w₀.heap.size ≤ (β₁ c).B ∨ ∃ c', c' < h₀.size ∧ h₀.ro ≤ c' ∧ h₀.own c' ∧ (β₀ c').B = (β₁ c).B := a.fresh
    by_cases hlt : k < h₁.size
    · have ho1 := b.pres k hlt ho
      rw [b.ext k hlt]
      exact new1 k hk ho1
    · rcases b.fresh k (by omega) ho with h | ⟨c, hc, hro, hoc, hB⟩
      · exact .inl (by omega)
      · by_cases hc0 : c < h₀.size
        · exact .inr ⟨c, hc0, by rw [← a.ro]; exact hro, a.ownOld c hc0 hoc, by rw [← a.ext c hc0]; exact hB⟩
        · rcases new1 c (by omega) hoc.pres with h | ⟨c', h1, h2, h3, h4⟩
          · exact .inl (by omega)
          · exact .inr ⟨c', h1, h2, h3, by omega⟩
  · rw [b.frame k (by omega) fun c hro hc => ?_, a.frame k hk hn]
    rw [a.ro] at hro
    by_cases hc0 : c < h₀.size
    · rw [a.ext c hc0]; exact hn c hro (a.ownOld c hc0 hc)
    · rcases a.fresh c (by omega) hc.pres with h | ⟨c', h1, h2, h3, h4⟩
      · omega
      · rw [← h4]; exact hn c' h2 h3

section
variable {P : Program} {CK : Code → Prop} {β : Bm} {h : Hp} {w : World}

/-- A draw. -/
theorem Rel.drew (r : Rel P CK β h w) (n : Nat) : Rel P CK β h { w with drawn := n } := ⟨r.glob, r.gsize, r.blk, r.inj, r.lt, r.roLe⟩
theorem St.drew (r : Rel P CK β h w) (n : Nat) : St P CK β h w β h { w with drawn := n } := { St.refl r with rel := r.drew n }

/-- A map that says something of one more block. -/
def upd (β : Bm) (n : Nat) (x : Im) : Bm := fun b => if b = n then x else β b
theorem upd_lt {n b : Nat} {x : Im} (hb : b < n) : upd β n x b = β b := by simp only [upd]; rw [if_neg (by omega)]
@[simp] theorem upd_self {n : Nat} {x : Im} : upd β n x n = x := by simp [upd]
theorem ren_upd {x : Im} {v : Value} (hv : vok h.size v) : ren (upd β h.size x) v = ren β v := ren_congr (fun _ hb => upd_lt hb) v hv

/-- A number is given away, for nothing or for a block that the machine makes now. -/
theorem St.push (r : Rel P CK β h w) (x : Im) (y : Option Blk) (news : Array Obj) (hlen : news.size ≤ 1)
    (hy : ∀ z, y = some z → ∃ o, news = #[o] ∧ x.B = w.heap.size ∧ BlkOk CK β h.size x z o) :
    St P CK β h w (upd β h.size x) (h.push y) { w with heap := w.heap ++ news } := by
  have hget : ∀ b, (h.push y).get b = if b = h.size then y else h.get b := h.get_push y
  have hold : ∀ b z, b ≠ h.size → (h.push y).get b = some z → b < h.size ∧ h.get b = some z := by
    intro b z hne hb
    rw [hget, if_neg hne] at hb
    exact ⟨r.lt b (by rw [hb]; simp), hb⟩
  have happ : ∀ k, k < w.heap.size → (w.heap ++ news)[k]? = w.heap[k]? := fun k hk => by rw [Array.getElem?_append_left hk]
  refine ⟨⟨?_, ?_, ?_, ?_, ?_, by have := r.roLe; simp; omega⟩, fun b hb => upd_lt hb, by simp, by simp, rfl, fun b _ hb => ?_, fun b hb ho => ?_, fun b hb ho => ?_, fun b hb ho => ?_, fun k hk _ => happ k hk, rfl, rfl, rfl⟩
  · intro g hg; rw [upd_lt (by have := r.gsize; omega)]; exact r.glob g hg
  · have := r.gsize; simp; omega
  · intro b z hb
    by_cases hbn : b = h.size
    · subst hbn
      rw [hget, if_pos rfl] at hb
      obtain ⟨o, hn, hB, hok⟩ := hy z hb
      refine ⟨o, ?_, ?_⟩
      · rw [upd_self, hB, hn]; simp
      · rw [upd_self]; exact hok.congr (fun b hb => upd_lt hb) (by simp)
    · obtain ⟨hb1, hb2⟩ := hold b z hbn hb
      obtain ⟨o, ho, hok⟩ := r.blk b z hb2
      rw [upd_lt hb1]
      exact ⟨o, by rw [← ho]; exact happ _ (r.wlt hb2), hok.congr (fun b hb => upd_lt hb) (by simp)⟩
  · intro b b' ho hb' hne'
    obtain ⟨z, hz, hzo⟩ := ho
    by_cases hbn : b = h.size
    · subst hbn
      have hb'n : b' ≠ h.size := fun e => hne' e.symm
      rw [hget, if_pos rfl] at hz
      obtain ⟨o, _, hB, _⟩ := hy z hz
      rw [hget, if_neg hb'n] at hb'
      rw [upd_self, upd_lt (r.lt b' hb'), hB]
      obtain ⟨z', hz'⟩ := Option.ne_none_iff_exists'.1 hb'
      have := r.wlt hz'
      omega
    · obtain ⟨hb1, hb2⟩ := hold b z hbn hz
      have hw := r.wlt hb2
      by_cases hb'n : b' = h.size
      · subst hb'n
        rw [hget, if_pos rfl] at hb'
        obtain ⟨z', hz'⟩ := Option.ne_none_iff_exists'.1 hb'
        obtain ⟨o, _, hB, _⟩ := hy z' hz'
        rw [upd_self, upd_lt hb1, hB]; omega
      · rw [hget, if_neg hb'n] at hb'
        rw [upd_lt hb1, upd_lt (r.lt b' hb')]
        exact r.inj b b' ⟨z, hb2, hzo⟩ hb' hne'
  · intro b hb
    rw [hget] at hb
    split at hb
    · simp; omega
    · have := r.lt b hb; simp; omega
  · rw [hget, if_neg (by omega)]
  · obtain ⟨z, hz, hzo⟩ := ho
    exact ⟨z, (hold b z (by omega) hz).2, hzo⟩
  · obtain ⟨z, hz⟩ := Option.ne_none_iff_exists'.1 ho
    rw [(hold b z (by omega) hz).2]; simp
  · obtain ⟨z, hz⟩ := Option.ne_none_iff_exists'.1 ho
    by_cases hbn : b = h.size
    · subst hbn
      rw [hget, if_pos rfl] at hz
      obtain ⟨o, _, hB, _⟩ := hy z hz
      left; rw [upd_self, hB]; exact Nat.le_refl _
    · have := (hold b z hbn hz).1
      omega

theorem St.skip (r : Rel P CK β h w) (x : Im) : St P CK β h w (upd β h.size x) (h.push none) w := by
  have := St.push r x none #[] (by simp) (fun z hz => by cases hz)
  simpa using this

theorem St.new (r : Rel P CK β h w) (x : Im) (y : Blk) (o : Obj) (hB : x.B = w.heap.size) (hok : BlkOk CK β h.size x y o) :
    St P CK β h w (upd β h.size x) (h.push (some y)) { w with heap := w.heap.push o } := by
  have := St.push r x (some y) #[o] (by simp) (fun z hz => by cases hz; exact ⟨o, rfl, hB, hok⟩)
  rw [Array.push_eq_append]; exact this

/-- A block of one's own is written. -/
theorem St.set (r : Rel P CK β h w) {b : Nat} {x : Blk} (hb : h.get b = some x) (hx : x.own = true) (hro : h.ro ≤ b) (y : Blk) (o : Obj) (hok : BlkOk CK β h.size (β b) y o) :
    St P CK β h w β (h.setB b (some y)) { w with heap := w.heap.setIfInBounds (β b).B o } := by
  have hget : ∀ c, (h.setB b (some y)).get c = if c = b then some y else h.get c := h.get_setB b _
  have hbl := r.lt b (by rw [hb]; simp)
  have hown : h.own b := ⟨x, hb, hx⟩
  have hset : ∀ k, k ≠ (β b).B → (w.heap.setIfInBounds (β b).B o)[k]? = w.heap[k]? := fun k hk => by
    rw [Array.getElem?_setIfInBounds, if_neg (fun e => hk e.symm)]
  have hself : (w.heap.setIfInBounds (β b).B o)[(β b).B]? = some o := by
    rw [Array.getElem?_setIfInBounds, if_pos rfl, if_pos (r.wlt hb)]
  have hoo : ∀ c, (h.setB b (some y)).own c → h.own c := by
    rintro c ⟨z, hz, hzo⟩
    rw [hget] at hz
    split at hz
    · rename_i e; subst e; exact hown
    · exact ⟨z, hz, hzo⟩
  have hne : ∀ c, (h.setB b (some y)).get c ≠ none → h.get c ≠ none := by
    intro c hc
    rw [hget] at hc
    split at hc
    · rename_i e; subst e; rw [hb]; simp
    · exact hc
  refine ⟨⟨r.glob, r.gsize, ?_, ?_, ?_, r.roLe⟩, fun _ _ => rfl, Nat.le_refl _, by simp, rfl, fun c hc _ => ?_, fun c _ ho => hoo c ho, fun c _ ho => hne c ho, fun c hc ho => ?_, fun k hk hn => hset k fun e => hn b hro hown e.symm, rfl, rfl, rfl⟩
  · intro c z hc
    rw [hget] at hc
    split at hc
    · rename_i e; subst e; cases hc; exact ⟨o, hself, hok⟩
    · rename_i e
      obtain ⟨o', ho', hok'⟩ := r.blk c z hc
      refine ⟨o', ?_, hok'⟩
      rw [hset _ (fun e' => r.inj b c hown (by rw [hc]; simp) (fun e'' => e e''.symm) e'.symm)]
      exact ho'
  · intro c c' ho hc' hcc
    exact r.inj c c' (hoo c ho) (hne c' hc') hcc
  · intro c hc; exact r.lt c (hne c hc)
  · rw [hget, if_neg (by omega)]
  · have := r.lt c (hne c ho)
    omega

/-- A block is forgotten. -/
theorem St.kill (r : Rel P CK β h w) {b : Nat} (hro : h.ro ≤ b) : St P CK β h w β (h.setB b none) w := by
  have hget : ∀ c, (h.setB b none).get c = if c = b then none else h.get c := h.get_setB b _
  have hold : ∀ c z, (h.setB b none).get c = some z → h.get c = some z := by
    intro c z hc; rw [hget] at hc; split at hc
    · cases hc
    · exact hc
  have hne : ∀ c, (h.setB b none).get c ≠ none → h.get c ≠ none := by
    intro c hc; obtain ⟨z, hz⟩ := Option.ne_none_iff_exists'.1 hc; rw [hold c z hz]; simp
  have hoo : ∀ c, (h.setB b none).own c → h.own c := fun c ⟨z, hz, hzo⟩ => ⟨z, hold c z hz, hzo⟩
  refine ⟨⟨r.glob, r.gsize, fun c z hc => r.blk c z (hold c z hc), fun c c' ho hc' hcc => r.inj c c' (hoo c ho) (hne c' hc') hcc, fun c hc => r.lt c (hne c hc), r.roLe⟩,
    fun _ _ => rfl, Nat.le_refl _, Nat.le_refl _, rfl, fun c hc _ => ?_, fun c _ ho => hoo c ho, fun c _ ho => hne c ho, fun c hc ho => ?_, fun _ _ _ => rfl, rfl, rfl, rfl⟩
  · rw [hget, if_neg (by omega)]
  · have := r.lt c (hne c ho)
    omega

/-- A block of one's own goes on under a new number. -/
theorem St.rehang (r : Rel P CK β h w) {b : Nat} {x : Blk} (hb : h.get b = some x) (hx : x.own = true) (hro : h.ro ≤ b) (im : Im) (him : im.B = (β b).B) (y : Blk) (o : Obj)
    (hok : BlkOk CK β h.size im y o) : St P CK β h w (upd β h.size im) ((h.setB b none).push (some y)) { w with heap := w.heap.setIfInBounds (β b).B o } := by
  have hget : ∀ c, ((h.setB b none).push (some y)).get c = if c = h.size then some y else if c = b then none else h.get c := by
    intro c; rw [Hp.get_push, Hp.get_setB]; rfl
  have hbl := r.lt b (by rw [hb]; simp)
  have hown : h.own b := ⟨x, hb, hx⟩
  have hset : ∀ k, k ≠ (β b).B → (w.heap.setIfInBounds (β b).B o)[k]? = w.heap[k]? := fun k hk => by
    rw [Array.getElem?_setIfInBounds, if_neg (fun e => hk e.symm)]
  have hself : (w.heap.setIfInBounds (β b).B o)[(β b).B]? = some o := by
    rw [Array.getElem?_setIfInBounds, if_pos rfl, if_pos (r.wlt hb)]
  have hold : ∀ c z, c ≠ h.size → ((h.setB b none).push (some y)).get c = some z → c < h.size ∧ c ≠ b ∧ h.get c = some z := by
    intro c z hne hc
    rw [hget, if_neg hne] at hc
    split at hc
    · cases hc
    · rename_i hcb; exact ⟨r.lt c (by rw [hc]; simp), hcb, hc⟩
  refine ⟨⟨?_, ?_, ?_, ?_, ?_, by have := r.roLe; simp; omega⟩, fun c hc => upd_lt hc, by simp, by simp, rfl, fun c hc hc' => ?_, fun c hc ho => ?_, fun c hc ho => ?_, fun c hc ho => ?_, fun k hk hn => hset k fun e => hn b hro hown e.symm, rfl, rfl, rfl⟩
  · intro g hg; rw [upd_lt (by have := r.gsize; omega)]; exact r.glob g hg
  · have := r.gsize; simp; omega
  · intro c z hc
    by_cases hcn : c = h.size
    · subst hcn
      rw [hget, if_pos rfl] at hc
      cases hc
      rw [upd_self, him]
      exact ⟨o, hself, hok.congr (fun b hb => upd_lt hb) (by simp)⟩
    · obtain ⟨h1, h2, h3⟩ := hold c z hcn hc
      obtain ⟨o', ho', hok'⟩ := r.blk c z h3
      rw [upd_lt h1]
      refine ⟨o', ?_, hok'.congr (fun b hb => upd_lt hb) (by simp)⟩
      rw [hset _ (fun e' => r.inj b c hown (by rw [h3]; simp) (fun e'' => h2 e''.symm) e'.symm)]
      exact ho'
  · intro c c' ho hc' hcc
    obtain ⟨z, hz, hzo⟩ := ho
    obtain ⟨z', hz'⟩ := Option.ne_none_iff_exists'.1 hc'
    by_cases hcn : c = h.size
    · subst hcn
      have hc'n : c' ≠ h.size := fun e => hcc e.symm
      obtain ⟨h1, h2, h3⟩ := hold c' z' hc'n hz'
      rw [upd_self, upd_lt h1, him]
      exact r.inj b c' hown (by rw [h3]; simp) (fun e => h2 e.symm)
    · obtain ⟨h1, h2, h3⟩ := hold c z hcn hz
      by_cases hc'n : c' = h.size
      · subst hc'n
        rw [upd_self, upd_lt h1, him]
        exact r.inj c b ⟨z, h3, hzo⟩ (by rw [hb]; simp) h2
      · obtain ⟨h1', h2', h3'⟩ := hold c' z' hc'n hz'
        rw [upd_lt h1, upd_lt h1']
        exact r.inj c c' ⟨z, h3, hzo⟩ (by rw [h3']; simp) hcc
  · intro c hc
    obtain ⟨z, hz⟩ := Option.ne_none_iff_exists'.1 hc
    by_cases hcn : c = h.size
    · subst hcn; simp
    · have := (hold c z hcn hz).1; simp; omega
  · rw [hget, if_neg (by omega), if_neg (by omega)]
  · obtain ⟨z, hz, hzo⟩ := ho
    exact ⟨z, (hold c z (by omega) hz).2.2, hzo⟩
  · obtain ⟨z, hz⟩ := Option.ne_none_iff_exists'.1 ho
    rw [(hold c z (by omega) hz).2.2]; simp
  · by_cases hcn : c = h.size
    · subst hcn; right; exact ⟨b, hbl, hro, hown, by rw [upd_self, him]⟩
    · obtain ⟨z, hz⟩ := Option.ne_none_iff_exists'.1 ho
      have := (hold c z hcn hz).1
      omega

end
end Go.Abs
/- Operations that only reckon: their answers do not hang on the heap, and follow the renaming of addresses. -/
namespace Go.Abs

/-- What a piece of the model's own semantics gives, if it asks for nothing but the program's tables. -/
def pureP {α : Type} (P : Program) : Sem α → Option α
  | .pure a => some a
  | .program k => pureP P (k P)
  | .mark _ k => pureP P k
  | _ => none

theorem pureP_run {α : Type} {P : Program} {s : Sem α} {a : α} (h : pureP P s = some a) (w : World) : s.run P w = .ok a w := by
  induction s with
  | pure x => simp only [pureP, Option.some.injEq] at h; subst h; rfl
  | program k ih => simp only [pureP] at h; simpa [Sem.run] using ih P h
  | mark m k ih => simp only [pureP] at h; simpa [Sem.run] using ih h
  | _ => simp [pureP] at h

section
variable {P : Program} {α β' : Type}
@[simp] theorem pureP_pure (a : α) : pureP P (pure a : Sem α) = some a := rfl
@[simp] theorem pureP_pure' (a : α) : pureP P (Sem.pure a : Sem α) = some a := rfl
theorem pureP_bind' (s : Sem α) (f : α → Sem β') : pureP P (s.bind f) = (pureP P s).bind fun a => pureP P (f a) := by
  induction s with
  | pure x => simp [Sem.bind, pureP]
  | program k ih => simp only [Sem.bind, pureP]; exact ih P
  | mark m k ih => simp only [Sem.bind, pureP]; exact ih
  | _ => simp [Sem.bind, pureP]
@[simp] theorem pureP_bind (s : Sem α) (f : α → Sem β') : pureP P (s >>= f) = (pureP P s).bind fun a => pureP P (f a) := pureP_bind' s f
@[simp] theorem pureP_halt (x : Halt) : pureP P (.halt x : Sem α) = none := rfl
@[simp] theorem pureP_stuck (x : String) : pureP P (stuck x : Sem α) = none := rfl
@[simp] theorem pureP_unsupported (x : Unsupported) : pureP P (unsupported x : Sem α) = none := rfl
@[simp] theorem pureP_goPanic (x : Value) : pureP P (goPanic x : Sem α) = none := rfl
@[simp] theorem pureP_program : pureP P program = some P := rfl
@[simp] theorem pureP_typeInfo (t : TypeId) : pureP P (typeInfo t) = P.info? t := by
  simp only [typeInfo, pureP_bind, pureP_program, Option.bind_some]; cases P.info? t <;> rfl
@[simp] theorem pureP_underlying (t : TypeId) : pureP P (underlying t) = P.underlying t := by
  simp only [underlying, pureP_bind, pureP_program, Option.bind_some]; cases P.underlying t <;> rfl
@[simp] theorem pureP_sizeOf (t : TypeId) : pureP P (sizeOf t) = (P.info? t).map (·.size) := by
  simp only [sizeOf, pureP_bind, pureP_typeInfo]; cases P.info? t <;> rfl
@[simp] theorem pureP_zeroValue (t : TypeId) : pureP P (zeroValue t) = (P.info? t).bind (·.zero) := by
  simp only [zeroValue, pureP_bind, pureP_typeInfo]
  cases P.info? t with
  | none => rfl
  | some i => simp only [Option.bind_some]; cases i.zero <;> rfl
@[simp] theorem pureP_runtimePanic (e : RuntimeError) : pureP P (runtimePanic e : Sem α) = none := by
  cases e <;> simp [runtimePanic]
@[simp] theorem pureP_boundsPanic (k : IntKind) (x y : Int) (c : BoundsCode) : pureP P (boundsPanic k x y c : Sem α) = none := by
  simp [boundsPanic]; split <;> simp
end

/-- A value without any address. -/
def flatB : Value → Bool
  | .pointer (some _) => false
  | .slice (some _) _ _ => false
  | .map (some _) => false
  | .chan (some _) => false
  | .func _ _ _ => false
  | .iface _ v => flatB v
  | .agg cs => cs.attach.all fun ⟨v, _⟩ => flatB v
  | .tuple cs => cs.attach.all fun ⟨v, _⟩ => flatB v
  | _ => true
termination_by v => SizeOf.sizeOf v
decreasing_by
  all_goals simp_wf
  all_goals first
    | omega
    | (rename_i h; have := Array.sizeOf_lt_of_mem h; omega)

@[simp] theorem flatB_agg (cs : Array Value) : flatB (.agg cs) = cs.all flatB := by rw [flatB]; simp
@[simp] theorem flatB_tuple (cs : Array Value) : flatB (.tuple cs) = cs.all flatB := by rw [flatB]; simp
@[simp] theorem flatB_iface (t : TypeId) (v : Value) : flatB (.iface t v) = flatB v := by rw [flatB]

theorem flat_ren {β : Bm} : ∀ v : Value, flatB v = true → ren β v = v
  | .pointer none, _ => by simp
  | .pointer (some a), h => by simp [flatB] at h
  | .slice none _ _, _ => by simp
  | .slice (some a) _ _, h => by simp [flatB] at h
  | .map none, _ => by simp
  | .map (some r), h => by simp [flatB] at h
  | .chan none, _ => by simp [ren]
  | .chan (some r), h => by simp [flatB] at h
  | .func f x y, h => by simp [flatB] at h
  | .iface t v, h => by simp only [flatB_iface] at h; simp only [ren_iface]; rw [flat_ren v h]
  | .agg cs, h => by
    simp only [flatB_agg, Array.all_eq_true_iff_forall_mem] at h
    simp only [ren_agg]; congr 1
    conv => rhs; rw [← Array.map_id cs]
    exact Array.map_congr_left fun v hm => flat_ren v (h v hm)
  | .tuple cs, h => by
    simp only [flatB_tuple, Array.all_eq_true_iff_forall_mem] at h
    simp only [ren_tuple]; congr 1
    conv => rhs; rw [← Array.map_id cs]
    exact Array.map_congr_left fun v hm => flat_ren v (h v hm)
  | .bool _, _ => by simp
  | .int _ _, _ => by simp
  | .float _ _, _ => by simp
  | .complex _ _ _, _ => by simp [ren]
  | .string _, _ => by simp
  | .nilFunc, _ => by simp
  | .nilIface, _ => by simp
termination_by v => SizeOf.sizeOf v
decreasing_by
  all_goals simp_wf
  all_goals first
    | omega
    | (have := Array.sizeOf_lt_of_mem hm; omega)

theorem flat_vok {n : Nat} : ∀ v : Value, flatB v = true → vok n v
  | .pointer none, _ => by simp
  | .pointer (some a), h => by simp [flatB] at h
  | .slice none _ _, _ => by simp
  | .slice (some a) _ _, h => by simp [flatB] at h
  | .map none, _ => by simp
  | .map (some r), h => by simp [flatB] at h
  | .chan none, _ => by simp [vok]
  | .chan (some r), h => by simp [flatB] at h
  | .func f x y, h => by simp [flatB] at h
  | .iface t v, h => by simp only [flatB_iface] at h; simp only [vok_iface]; exact flat_vok v h
  | .agg cs, h => by
    simp only [flatB_agg, Array.all_eq_true_iff_forall_mem] at h
    simp only [vok_agg]; exact fun v hm => flat_vok v (h v hm)
  | .tuple cs, h => by
    simp only [flatB_tuple, Array.all_eq_true_iff_forall_mem] at h
    simp only [vok_tuple]; exact fun v hm => flat_vok v (h v hm)
  | .bool _, _ => by simp
  | .int _ _, _ => by simp
  | .float _ _, _ => by simp
  | .complex _ _ _, _ => by simp [vok]
  | .string _, _ => by simp
  | .nilFunc, _ => by simp
  | .nilIface, _ => by simp
termination_by v => SizeOf.sizeOf v
decreasing_by
  all_goals simp_wf
  all_goals first
    | omega
    | (have := Array.sizeOf_lt_of_mem hm; omega)

/-- What is asked of a program, once and for all: its types' zero values hold no address. -/
def ZeroOk (P : Program) : Prop := ∀ t i v, P.info? t = some i → i.zero = some v → flatB v = true ∧ v.cells.size = i.size

theorem mem_extract {cs : Array Value} {a b : Nat} {c : Value} (h : c ∈ cs.extract a b) : c ∈ cs := by
  obtain ⟨i, hi, rfl⟩ := Array.mem_iff_getElem.1 h
  rw [Array.getElem_extract]; exact Array.getElem_mem _

/-! ### Equality -/
section
variable {P : Program} {β : Bm} {n : Nat}

theorem add_renA (a : Addr) (k : Nat) : (renA β a).add k = renA β (a.add k) := by
  simp only [Addr.add]
  split <;> simp [renA, Nat.add_assoc]
theorem add_block (a : Addr) (k : Nat) : (a.add k).block = a.block := by simp only [Addr.add]; split <;> rfl
theorem add_spot (a : Addr) (h : a.spot = none) (k : Nat) : (a.add k).spot = none := by simp only [Addr.add]; split <;> simp [h]

theorem part_ren {t : TypeId} {cs : Array Value} {off : Nat} {v : Value} (hv : ∀ c ∈ cs, vok n c) (h : pureP P (part t cs off) = some v) :
    vok n v ∧ pureP P (part t (cs.map (ren β)) off) = some (ren β v) := by
  simp only [part, isAgg, pureP_bind] at h ⊢
  cases hu : pureP P (underlying t) with
  | none => rw [hu] at h; simp at h
  | some d =>
    rw [hu] at h
    simp only [Option.bind_some] at h ⊢
    have cell : pureP P (match cs[off]? with | some v => pure v | none => stuck "part: no such cell") = some v →
        vok n v ∧ pureP P (match (cs.map (ren β))[off]? with | some v => pure v | none => stuck "part: no such cell") = some (ren β v) := by
      intro h
      cases hc : cs[off]? with
      | none => rw [hc] at h; simp at h
      | some c =>
        rw [hc] at h
        simp only [pureP_pure, Option.some.injEq] at h
        subst h
        exact ⟨hv _ (Array.mem_of_getElem? hc), by simp [hc]⟩
    have whole : ((pureP P (sizeOf t)).bind fun a => pureP P (pure (Value.agg (cs.extract off (off + a))))) = some v →
        vok n v ∧ ((pureP P (sizeOf t)).bind fun a => pureP P (pure (Value.agg ((cs.map (ren β)).extract off (off + a))))) = some (ren β v) := by
      intro h
      cases hs : pureP P (sizeOf t) with
      | none => rw [hs] at h; simp at h
      | some k =>
        rw [hs] at h
        simp only [Option.bind_some, pureP_pure, Option.some.injEq] at h ⊢
        subst h
        refine ⟨?_, ?_⟩
        · simp only [vok_agg]; intro c hc; exact hv c (mem_extract hc)
        · simp [Array.map_extract]
    cases d <;> simp only [pureP_pure, Option.bind_some, if_true, if_false, Bool.false_eq_true] at h ⊢ <;>
      first
        | exact cell h
        | (simp only [pureP_bind] at h ⊢; exact whole h)

end
end Go.Abs
/- Equality follows the renaming. -/
namespace Go.Abs
section
variable {P : Program} {β : Bm} {n : Nat}

/-- The second gives what the first gives. -/
def Fol {α : Type} (P : Program) (s s' : Sem α) : Prop := ∀ r, pureP P s = some r → pureP P s' = some r

theorem Fol.refl {α : Type} (s : Sem α) : Fol P s s := fun _ h => h
theorem Fol.bind {α γ : Type} {s s' : Sem α} {f f' : α → Sem γ} (h : Fol P s s') (k : ∀ a, Fol P (f a) (f' a)) : Fol P (s >>= f) (s' >>= f') := by
  intro r hr
  simp only [pureP_bind] at hr ⊢
  cases hs : pureP P s with
  | none => rw [hs] at hr; simp at hr
  | some a => rw [hs] at hr; rw [h a hs]; exact k a r hr
theorem Fol.ite {α : Type} {c : Prop} [Decidable c] {a a' b b' : Sem α} (h : Fol P a a') (k : Fol P b b') : Fol P (if c then a else b) (if c then a' else b') := by
  split <;> assumption
theorem Fol.none {α : Type} {s s' : Sem α} (h : pureP P s = .none) : Fol P s s' := fun r hr => by rw [h] at hr; cases hr

theorem Fol.forIn_list {γ σ : Type} (l : List γ) (f g : γ → σ → Sem (ForInStep σ)) (h : ∀ x b, Fol P (f x b) (g x b)) : ∀ b, Fol P (forIn l b f) (forIn l b g) := by
  induction l with
  | nil => intro b; simp only [List.forIn_nil]; exact Fol.refl _
  | cons x l ih =>
    intro b
    simp only [List.forIn_cons]
    refine Fol.bind (h x b) fun a => ?_
    cases a with
    | done b => exact Fol.refl _
    | yield b => exact ih b

theorem Fol.forIn_array {γ σ : Type} (l : Array γ) (f g : γ → σ → Sem (ForInStep σ)) (h : ∀ x b, Fol P (f x b) (g x b)) (b : σ) : Fol P (forIn l b f) (forIn l b g) := by
  rw [← Array.forIn_toList, ← Array.forIn_toList]; exact Fol.forIn_list _ _ _ h b

theorem Fol.forIn_range {σ : Type} (m : Nat) (f g : Nat → σ → Sem (ForInStep σ)) (h : ∀ x b, Fol P (f x b) (g x b)) (b : σ) : Fol P (forIn [0:m] b f) (forIn [0:m] b g) := by
  rw [Std.Legacy.Range.forIn_eq_forIn_range', Std.Legacy.Range.forIn_eq_forIn_range']; exact Fol.forIn_list _ _ _ h b

/-- A part of an aggregate, handed on. -/
theorem Fol.part2 {α : Type} {t u : TypeId} {xs ys : Array Value} {i j : Nat} (hx : ∀ c ∈ xs, vok n c) (hy : ∀ c ∈ ys, vok n c) {k k' : Value → Value → Sem α}
    (h : ∀ a b, vok n a → vok n b → Fol P (k a b) (k' (ren β a) (ren β b))) :
    Fol P (do k (← part t xs i) (← part u ys j)) (do k' (← part t (xs.map (ren β)) i) (← part u (ys.map (ren β)) j)) := by
  intro r hr
  simp only [pureP_bind] at hr ⊢
  cases ha : pureP P (part t xs i) with
  | none => rw [ha] at hr; simp at hr
  | some a =>
    obtain ⟨oa, ea⟩ := part_ren (β := β) hx ha
    rw [ha] at hr; rw [ea]
    simp only [Option.bind_some] at hr ⊢
    cases hb : pureP P (part u ys j) with
    | none => rw [hb] at hr; simp at hr
    | some b =>
      obtain ⟨ob, eb⟩ := part_ren (β := β) hy hb
      rw [hb] at hr; rw [eb]
      exact h a b oa ob r hr

theorem sameAddr_ren (a b : Addr) : Fol P (sameAddr a b) (sameAddr (renA β a) (renA β b)) := by
  intro r hr
  unfold sameAddr at hr ⊢
  by_cases e : a.block = b.block
  · rw [if_pos (by simpa using e)] at hr
    rw [if_pos (by simp [renA, e])]
    simp only [pureP_pure, Option.some.injEq] at hr ⊢
    rw [← hr]
    obtain ⟨ab, ao, as⟩ := a
    obtain ⟨bb, bo, bs⟩ := b
    simp only at e
    subst e
    rw [Bool.eq_iff_iff]
    simp [renA]
  · rw [if_neg (by simpa using e)] at hr
    simp [frozen, pureP, bind, Sem.bind] at hr

set_option maxHeartbeats 400000 in
theorem equalIn_ren : ∀ (d : Nat) (t : TypeId) (x y : Value), vok n x → vok n y → Fol P (Op.equalIn d t x y) (Op.equalIn d t (ren β x) (ren β y)) := by
  intro d
  induction d with
  | zero => intro t x y _ _; exact Fol.none rfl
  | succ d ih =>
    intro t x y hx hy r hr
    unfold Op.equalIn at hr ⊢
    simp only [pureP_bind] at hr ⊢
    cases hu : pureP P (underlying t) with
    | none => rw [hu] at hr; simp at hr
    | some u =>
      rw [hu] at hr
      simp only [Option.bind_some] at hr ⊢
      have stepF : ∀ (tp : TypeId) (xs ys : Array Value) (o : Nat), (∀ c ∈ xs, vok n c) → (∀ c ∈ ys, vok n c) →
          Fol P (do
            let a ← part tp xs o
            let b ← part tp ys o
            let c ← Op.equalIn d tp a b
            if (!c) = true then pure (ForInStep.done (some false, ())) else pure (ForInStep.yield ((none : Option Bool), ())))
          (do
            let a ← part tp (xs.map (ren β)) o
            let b ← part tp (ys.map (ren β)) o
            let c ← Op.equalIn d tp a b
            if (!c) = true then pure (ForInStep.done (some false, ())) else pure (ForInStep.yield ((none : Option Bool), ()))) :=
        fun tp xs ys o hxs hys => Fol.part2 (n := n) (k := fun a b => do
            let c ← Op.equalIn d tp a b
            if (!c) = true then pure (ForInStep.done (some false, ())) else pure (ForInStep.yield ((none : Option Bool), ())))
          (k' := fun a b => do
            let c ← Op.equalIn d tp a b
            if (!c) = true then pure (ForInStep.done (some false, ())) else pure (ForInStep.yield ((none : Option Bool), ()))) hxs hys
          (fun a b oa ob => Fol.bind (ih tp a b oa ob) fun _ => Fol.refl _)
      split at hr
      case h_1 => simpa using hr
      case h_2 => simpa using hr
      case h_3 => simpa using hr
      case h_4 => simpa using hr
      case h_5 => simp [behindNumber, numberAt, shape, pureP, bind, Sem.bind] at hr
      case h_6 => simp at hr
      case h_7 => simp at hr
      case h_8 => simpa using hr
      case h_9 => simpa [ren] using hr
      case h_10 => simpa using hr
      case h_11 b =>
        cases b <;> simpa using hr
      case h_12 b hb =>
        cases b with
        | none => simp_all
        | some b => simpa using hr
      case h_13 el a b =>
        simp only [ren_pointer]
        simp only [vok_pointer] at hx hy
        refine Fol.bind (Fol.refl _) (fun s => Fol.ite (sameAddr_ren a b) ?_) r hr
        intro r hr
        by_cases e : (a == b) = true
        · rw [if_pos e] at hr
          rw [if_pos (by simp only [beq_iff_eq] at e ⊢; rw [e])]
          exact hr
        · rw [if_neg e] at hr
          simp [choose, pureP, bind, Sem.bind] at hr
      case h_14 a b =>
        cases a with
        | none => cases b <;> simpa [samePointer] using hr
        | some a =>
          cases b with
          | none => simpa [samePointer] using hr
          | some b =>
            simp only [vok_pointer] at hx hy
            simp only [ren_pointer]
            exact sameAddr_ren a b r hr
      case h_15 a b =>
        cases a <;> cases b <;> simp [vok] at hx hy
        simpa [ren] using hr
      case h_16 => simpa using hr
      case h_17 => simpa using hr
      case h_18 => simpa using hr
      case h_19 =>
        simp only [vok_iface] at hx hy
        simp only [ren_iface]
        exact Fol.ite (Fol.refl _) (Fol.bind (Fol.refl _) fun info => Fol.ite (Fol.refl _) (ih _ _ _ hx hy)) r hr
      case h_20 fs xs ys =>
        simp only [vok_agg] at hx hy
        simp only [ren_agg]
        have stepG : ∀ (f : Field) (b : Option Bool × Unit), Fol P (if f.name ≠ "_" then do
                  let a ← part f.type xs f.offset
                  let b ← part f.type ys f.offset
                  let c ← Op.equalIn d f.type a b
                  if (!c) = true then pure (ForInStep.done (some false, ())) else pure (ForInStep.yield ((none : Option Bool), ()))
                else pure (ForInStep.yield (none, ())))
              (if f.name ≠ "_" then do
                  let a ← part f.type (xs.map (ren β)) f.offset
                  let b ← part f.type (ys.map (ren β)) f.offset
                  let c ← Op.equalIn d f.type a b
                  if (!c) = true then pure (ForInStep.done (some false, ())) else pure (ForInStep.yield ((none : Option Bool), ()))
                else pure (ForInStep.yield (none, ()))) := by
          intro f b
          by_cases c : f.name ≠ "_"
          · rw [if_pos c, if_pos c]; exact stepF f.type xs ys f.offset hx hy
          · rw [if_neg c, if_neg c]; exact Fol.refl _
        have loop := Fol.forIn_array fs _ _ stepG ((none : Option Bool), ())
        rw [pureP_bind] at hr ⊢
        rw [pureP_program, Option.bind_some] at hr ⊢
        by_cases c : P.stoodInHeld t = true
        · rw [if_pos c, pureP_bind, pureP_unsupported] at hr; cases hr
        · rw [if_neg c] at hr ⊢
          exact Fol.bind loop (fun _ => Fol.refl _) r hr
      case h_21 len el xs ys =>
        simp only [vok_agg] at hx hy
        simp only [ren_agg]
        exact Fol.bind (Fol.refl _) (fun s => Fol.bind (Fol.forIn_range _ _ _ (fun i _ => stepF el xs ys (i * s) hx hy) _) fun _ => Fol.refl _) r hr
      case h_22 b _ _ => cases b <;> simpa using hr
      case h_23 b _ _ _ _ hb =>
        cases b with
        | none => simp_all
        | some b => simpa using hr
      case h_24 b => cases b <;> simpa using hr
      case h_25 b hb =>
        cases b with
        | none => simp_all
        | some b => simpa using hr
      case h_26 => simpa using hr
      case h_27 => simpa using hr
      case h_28 => simpa using hr
      case h_29 => simp at hr
end
end Go.Abs
/- Pure operations: what they give, and that it follows the renaming. -/
namespace Go.Abs

def flatOnly (P : Program) (args : Array Value) (s : Sem Value) : Option Value :=
  if args.all flatB then match pureP P s with
    | some v => if flatB v then some v else none
    | none => none
  else none

def aEql (P : Program) (op : BinOp) (t : TypeId) (x y : Value) : Option Value :=
  match op with
  | .eql => (pureP P (Op.equal t x y)).map .bool
  | .neq => (pureP P (Op.equal t x y)).map fun b => .bool (!b)
  | _ => none

def aBin (P : Program) (op : BinOp) (t : TypeId) (x y : Value) : Option Value :=
  match x with
  | .int _ _ => flatOnly P #[x, y] (binOp op t x y)
  | .string _ => flatOnly P #[x, y] (binOp op t x y)
  | .float _ _ => none
  | .complex _ _ _ => none
  | .nilIface => none
  | .agg _ => if P.eqGuardType P.depth t = false then aEql P op t x y else none
  | _ => aEql P op t x y

def aPureCall (P : Program) (ρ : Operand → Value) (ty : TypeId) (c : Call) : Option Value :=
  match c.callee with
  | .builtin .len =>
    match (c.args.map ρ).toList with
    | [.slice a n k] => pureP P (Builtin.len_ c.argTypes ty #[.slice a n k])
    | [.string s] => flatOnly P #[.string s] (Builtin.len_ c.argTypes ty #[.string s])
    | _ => none
  | .builtin .cap =>
    match c.argTypes.toList, (c.args.map ρ).toList with
    | [t], [.slice _ _ k] => match P.underlying t with
      | some (.slice _) => if k < capOpen then some (goInt k) else none
      | _ => none
    | _, _ => none
  | .builtin .min => flatOnly P (c.args.map ρ) (Builtin.min_ c.argTypes ty (c.args.map ρ))
  | .builtin .max => flatOnly P (c.args.map ρ) (Builtin.max_ c.argTypes ty (c.args.map ρ))
  | _ => none

def aPure (P : Program) (ρ : Operand → Value) (o : Oper) : Option Value :=
  match o.op with
  | .move x | .assign x => some (ρ x)
  | .pick c a b => match ρ c with
    | .bool t => some (if t then ρ a else ρ b)
    | _ => none
  | .build t parts => pureP P (Instr.build t (parts.map fun (i, x) => (i, ρ x)))
  | .nilCheck x => match ρ x with
    | .pointer (some a) => some (.pointer (some a))
    | .func (.func f) xs ys => some (.func (.func f) xs ys)
    | .func (.yield l) xs ys => some (.func (.yield l) xs ys)
    | _ => none
  | .binOp op t x y _ => aBin P op t (ρ x) (ρ y)
  | .unOp op _ x => flatOnly P #[ρ x] (Op.unary op (ρ x))
  | .convert src dst x => flatOnly P #[ρ x] (convert src dst (ρ x))
  | .fieldAddr s x f => pureP P (Instr.fieldAt s (ρ x) f)
  | .field t x f => pureP P (Instr.field t (ρ x) f)
  | .indexAddr t x i => match ρ i with
    | .int k n => pureP P (Instr.indexAt t (ρ x) (.int k n))
    | _ => none
  | .index t x i => match ρ i with
    | .int k n => pureP P (Instr.index t (ρ x) (.int k n))
    | _ => none
  | .extract t i => pureP P (Instr.extract (ρ t) i)
  | .sliceToArrayPointer arr x => pureP P (Instr.arrayAt arr (ρ x))
  | .makeFunc fn first captured => match fn with
    | .func f => some (.func (.func f) (first.map ρ) (captured.map ρ))
    | _ => none
  | .call c => aPureCall P ρ o.type c
  | _ => none

section
variable {P : Program} {β : Bm} {n : Nat}

/-- What is claimed of each: the answer's addresses are good, and the machine's operation on the renamed operands gives the renamed answer. -/
def EqvO (P : Program) (β : Bm) (n : Nat) (v : Value) (s : Sem Next) : Prop := vok n v ∧ pureP P s = some (.value (ren β v))

theorem eqv_of {v : Value} {s : Sem Value} (h1 : vok n v) (h2 : pureP P s = some (ren β v)) : EqvO P β n v (do pure (.value (← s))) := by
  refine ⟨h1, ?_⟩
  rw [pureP_bind, h2]; rfl

theorem flatOnly_eqv {args : Array Value} {s : Sem Value} {v : Value} (h : flatOnly P args s = some v) : (∀ a ∈ args, flatB a = true) ∧ flatB v = true ∧ pureP P s = some v := by
  unfold flatOnly at h
  split at h
  · rename_i hf
    split at h
    · rename_i v' hv
      split at h
      · rename_i hv'
        simp only [Option.some.injEq] at h; subst h
        exact ⟨Array.all_eq_true_iff_forall_mem.1 hf, hv', hv⟩
      · cases h
    · cases h
  · cases h

theorem map_flat {args : Array Value} (h : ∀ a ∈ args, flatB a = true) : args.map (ren β) = args := by
  conv => rhs; rw [← Array.map_id args]
  exact Array.map_congr_left fun v hm => flat_ren v (h v hm)

theorem equal_ren {t : TypeId} {x y : Value} (hx : vok n x) (hy : vok n y) {b : Bool} (h : pureP P (Op.equal t x y) = some b) : pureP P (Op.equal t (ren β x) (ren β y)) = some b :=
  equalIn_ren _ t x y hx hy b h

theorem binOp_eql {t : TypeId} {x y : Value} (h : match x with | .int _ _ | .string _ | .float _ _ | .complex _ _ _ => False | _ => True) :
    binOp .eql t x y = (do pure (.bool (← Op.equal t x y))) ∧ binOp .neq t x y = (do pure (.bool (!(← Op.equal t x y)))) := by
  cases x <;> first | exact h.elim | exact ⟨rfl, rfl⟩

theorem eqGuard_other {op : BinOp} {t : TypeId} {xo yo : Operand} {x y : Value} (h : match x with | .nilIface | .agg _ => False | _ => True) :
    pureP P (eqGuard op t xo yo x y) = some () := by
  cases x <;> first | exact h.elim | (cases op <;> rfl)

theorem eqGuard_agg {op : BinOp} {t : TypeId} {xo yo : Operand} {cs : Array Value} {y : Value} (hg : P.eqGuardType P.depth t = false) :
    pureP P (eqGuard op t xo yo (.agg cs) y) = some () := by
  cases y <;> first
    | (cases op <;> rfl)
    | (cases op <;> simp [eqGuard, hg])

theorem pureP_map {α γ : Type} {s : Sem α} {f : α → γ} : pureP P (do pure (f (← s))) = (pureP P s).map f := by
  rw [pureP_bind]; cases pureP P s <;> rfl

theorem aBin_eqv {op : BinOp} {t : TypeId} {xo yo : Operand} {x y v : Value} (hx : vok n x) (hy : vok n y) (h : aBin P op t x y = some v) :
    vok n v ∧ pureP P (do eqGuard op t xo yo (ren β x) (ren β y); binOp op t (ren β x) (ren β y)) = some (ren β v) := by
  have flat : ∀ {x : Value}, (match x with | .nilIface | .agg _ => False | _ => True) → vok n x → flatOnly P #[x, y] (binOp op t x y) = some v →
      vok n v ∧ pureP P (do eqGuard op t xo yo (ren β x) (ren β y); binOp op t (ren β x) (ren β y)) = some (ren β v) := by
    intro x hk _ h
    obtain ⟨hf, hv, he⟩ := flatOnly_eqv h
    have h1 : ren β x = x := flat_ren x (hf x (by simp))
    have h2 : ren β y = y := flat_ren y (hf y (by simp))
    refine ⟨flat_vok v hv, ?_⟩
    rw [h1, h2, pureP_bind, eqGuard_other hk, flat_ren v hv]
    exact he
  have eq : ∀ {x : Value}, (match x with | .int _ _ | .string _ | .float _ _ | .complex _ _ _ => False | _ => True) → vok n x →
      pureP P (eqGuard op t xo yo (ren β x) (ren β y)) = some () →
      aEql P op t x y = some v →
      vok n v ∧ pureP P (do eqGuard op t xo yo (ren β x) (ren β y); binOp op t (ren β x) (ren β y)) = some (ren β v) := by
    intro x hk hx hg h
    have hk' : match ren β x with | .int _ _ | .string _ | .float _ _ | .complex _ _ _ => False | _ => True := by
      cases x with
      | pointer a => cases a <;> simp
      | slice a _ _ => cases a <;> simp
      | map a => cases a <;> simp
      | chan a => simp [ren]
      | int => exact hk.elim
      | string => exact hk.elim
      | float => exact hk.elim
      | complex => exact hk.elim
      | _ => simp
    rw [pureP_bind, hg]
    simp only [Option.bind_some]
    cases op <;> first | (simp [aEql] at h; done) | skip
    · simp only [aEql, Option.map_eq_some_iff] at h
      obtain ⟨b, hb, rfl⟩ := h
      refine ⟨by simp, ?_⟩
      rw [(binOp_eql hk').1, pureP_map, equal_ren hx hy hb]; simp
    · simp only [aEql, Option.map_eq_some_iff] at h
      obtain ⟨b, hb, rfl⟩ := h
      refine ⟨by simp, ?_⟩
      rw [(binOp_eql hk').2, pureP_map, equal_ren hx hy hb]; simp
  cases x with
  | int => exact flat trivial hx h
  | string => exact flat trivial hx h
  | float => simp [aBin] at h
  | complex => simp [aBin] at h
  | nilIface => simp [aBin] at h
  | agg cs =>
    simp only [aBin] at h
    split at h
    · rename_i hg
      exact eq trivial hx (by rw [ren_agg]; exact eqGuard_agg hg) h
    · cases h
  | pointer a => exact eq trivial hx (eqGuard_other (by cases a <;> simp)) h
  | slice a _ _ => exact eq trivial hx (eqGuard_other (by cases a <;> simp)) h
  | map a => exact eq trivial hx (eqGuard_other (by cases a <;> simp)) h
  | chan a => exact eq trivial hx (eqGuard_other (by simp [ren])) h
  | _ => exact eq trivial hx (eqGuard_other (by simp)) h

end
end Go.Abs
/- Pure operations, the rest. -/
namespace Go.Abs
section
variable {P : Program} {β : Bm} {n : Nat}

theorem setC_map (cs : Array Value) (i : Nat) (v : Value) : (cs.setIfInBounds i v).map (ren β) = (cs.map (ren β)).setIfInBounds i (ren β v) := by
  apply Array.ext_getElem?
  intro j
  simp only [Array.getElem?_map, Array.getElem?_setIfInBounds, Array.size_map]
  split
  · split <;> rfl
  · rfl

theorem mem_setC {cs : Array Value} {i : Nat} {v c : Value} (h : c ∈ cs.setIfInBounds i v) : c = v ∨ c ∈ cs := by
  obtain ⟨j, hj⟩ := Array.mem_iff_getElem?.1 h
  rw [Array.getElem?_setIfInBounds] at hj
  split at hj
  · split at hj
    · exact .inl (Option.some.inj hj).symm
    · cases hj
  · exact .inr (Array.mem_of_getElem? hj)

def putAll (off : Nat) (vs : List (Value × Nat)) (cells : Array Value) : Array Value := vs.foldl (fun cs (c, j) => cs.setIfInBounds (off + j) c) cells

theorem putAll_ren (off : Nat) : ∀ (vs : List (Value × Nat)) (cells : Array Value),
    (putAll off vs cells).map (ren β) = putAll off (vs.map fun p => (ren β p.1, p.2)) (cells.map (ren β))
  | [], cells => rfl
  | (c, j) :: vs, cells => by
    simp only [putAll, List.foldl_cons, List.map_cons]
    have := putAll_ren off vs (cells.setIfInBounds (off + j) c)
    simp only [putAll] at this
    rw [this, setC_map]

theorem putAll_vok (off : Nat) : ∀ (vs : List (Value × Nat)) (cells : Array Value), (∀ p ∈ vs, vok n p.1) → (∀ c ∈ cells, vok n c) → ∀ c ∈ putAll off vs cells, vok n c
  | [], cells, _, hc => hc
  | (c, j) :: vs, cells, hv, hc => by
    simp only [putAll, List.foldl_cons]
    refine putAll_vok off vs _ (fun p hp => hv p (List.mem_cons_of_mem _ hp)) fun x hx => ?_
    rcases mem_setC hx with rfl | hx
    · exact hv _ List.mem_cons_self
    · exact hc x hx

theorem fill_ren (place : Nat → Option (Nat × Nat)) : ∀ (parts : List (Nat × Value)) (cells r : Array Value), (∀ p ∈ parts, vok n p.2) → (∀ c ∈ cells, vok n c) →
    Instr.fill place cells parts = some r → (∀ c ∈ r, vok n c) ∧ Instr.fill place (cells.map (ren β)) (parts.map fun p => (p.1, ren β p.2)) = some (r.map (ren β))
  | [], cells, r, _, hc, h => by simp only [Instr.fill, Option.some.injEq] at h; subst h; exact ⟨hc, rfl⟩
  | (i, v) :: parts, cells, r, hp, hc, h => by
    simp only [Instr.fill, List.map_cons] at h ⊢
    cases hpl : place i with
    | none => rw [hpl] at h; cases h
    | some q =>
      obtain ⟨off, size⟩ := q
      rw [hpl] at h
      simp only [] at h ⊢
      split at h
      · cases h
      · rename_i hcond
        rw [if_neg (by rw [ren_cells]; simpa using hcond)]
        have hvc : ∀ p ∈ v.cells.zipIdx.toList, vok n p.1 := by
          intro p hp'
          have := Array.mem_zipIdx (Array.mem_toList_iff.1 hp')
          have hm : p.1 ∈ v.cells := by rw [this.2.2]; exact Array.getElem_mem _
          exact vok_cells (hp (i, v) List.mem_cons_self) _ hm
        have e1 : v.cells.zipIdx.foldl (fun cs x => cs.setIfInBounds (off + x.2) x.1) cells = putAll off v.cells.zipIdx.toList cells := by
          rw [← Array.foldl_toList]; rfl
        have e2 : (ren β v).cells.zipIdx.foldl (fun cs x => cs.setIfInBounds (off + x.2) x.1) (cells.map (ren β)) = (putAll off v.cells.zipIdx.toList cells).map (ren β) := by
          rw [← Array.foldl_toList, putAll_ren]
          simp only [putAll]
          congr 1
          rw [ren_cells]
          apply List.ext_getElem
          · simp
          · intro j h1 h2; simp
        have h' : Instr.fill place (v.cells.zipIdx.foldl (fun cs x => cs.setIfInBounds (off + x.2) x.1) cells) parts = some r := h
        rw [e1] at h'
        have := fill_ren place parts _ r (fun p hp' => hp p (List.mem_cons_of_mem _ hp')) (putAll_vok off _ _ hvc hc) h'
        refine ⟨this.1, ?_⟩
        rw [← this.2, ← e2]

theorem zero_flat (hz : ZeroOk P) {t : TypeId} {v : Value} (h : pureP P (zeroValue t) = some v) : flatB v = true := by
  rw [pureP_zeroValue] at h
  cases hi : P.info? t with
  | none => rw [hi] at h; simp at h
  | some i => rw [hi] at h; exact (hz t i v hi h).1

theorem flat_cells {v : Value} (h : flatB v = true) : ∀ c ∈ v.cells, flatB c = true := by
  cases v with
  | agg cs => rw [flatB_agg, Array.all_eq_true_iff_forall_mem] at h; exact h
  | _ => simp only [Value.cells]; intro c hc; simp at hc; subst hc; exact h

theorem parts_map (parts : Array (Nat × Value)) : (parts.map fun p => (p.1, ren β p.2)).toList = parts.toList.map fun p => (p.1, ren β p.2) := by simp

theorem build_ren (hz : ZeroOk P) {t : TypeId} {parts : Array (Nat × Value)} {v : Value} (hp : ∀ p ∈ parts, vok n p.2) (h : pureP P (Instr.build t parts) = some v) :
    vok n v ∧ pureP P (Instr.build t (parts.map fun p => (p.1, ren β p.2))) = some (ren β v) := by
  unfold Instr.build at h ⊢
  rw [pureP_bind] at h ⊢
  cases hzv : pureP P (zeroValue t) with
  | none => rw [hzv] at h; simp at h
  | some z =>
    rw [hzv] at h
    rw [Option.bind_some, pureP_bind] at h ⊢
    have hzf := zero_flat hz hzv
    have hzc : ∀ c ∈ z.cells, vok n c := fun c hc => flat_vok c (flat_cells hzf c hc)
    have hzr : z.cells.map (ren β) = z.cells := map_flat (flat_cells hzf)
    cases hu : pureP P (underlying t) with
    | none => rw [hu] at h; simp at h
    | some u =>
      rw [hu] at h
      rw [Option.bind_some] at h ⊢
      have fin : ∀ (place : Nat → Option (Nat × Nat)) (s : String), pureP P (match Instr.fill place z.cells parts.toList with | some cells => pure (Value.agg cells) | _ => stuck s) = some v →
          vok n v ∧ pureP P (match Instr.fill place z.cells (parts.map fun p => (p.1, ren β p.2)).toList with | some cells => pure (Value.agg cells) | _ => stuck s) = some (ren β v) := by
        intro place s h
        cases hf : Instr.fill place z.cells parts.toList with
        | none => rw [hf] at h; simp at h
        | some r =>
          rw [hf] at h
          simp only [pureP_pure, Option.some.injEq] at h
          subst h
          have := fill_ren (β := β) place parts.toList z.cells r (fun p hp' => hp p (by simpa using hp')) hzc hf
          rw [hzr] at this
          rw [parts_map, this.2]
          exact ⟨by simpa using this.1, by simp⟩
      cases u <;> simp only [] at h ⊢ <;> first | (simp at h; done) | skip
      · rw [pureP_bind] at h ⊢
        cases hs : pureP P (sizeOf ‹TypeId›) with
        | none => rw [hs] at h; simp at h
        | some s => rw [hs] at h; rw [Option.bind_some] at h ⊢; exact fin _ _ h
      · rw [pureP_bind] at h ⊢
        cases hs : pureP P (Array.mapM _ _) with
        | none => rw [hs] at h; simp at h
        | some s => rw [hs] at h; rw [Option.bind_some] at h ⊢; exact fin _ _ h

theorem mem_map_val {xs : Array (Nat × Operand)} {ρ : Operand → Value} (h : ∀ x ∈ (xs.toList.map (·.2)).toArray, vok n (ρ x)) :
    ∀ p ∈ xs.map (fun (i, x) => (i, ρ x)), vok n p.2 := by
  intro p hp
  obtain ⟨⟨i, x⟩, hq, rfl⟩ := Array.mem_map.1 hp
  exact h x (by simp; exact ⟨i, hq⟩)

theorem field_ren {t : TypeId} {x v : Value} {f : Nat} (hx : vok n x) (h : pureP P (Instr.field t x f) = some v) :
    vok n v ∧ pureP P (Instr.field t (ren β x) f) = some (ren β v) := by
  unfold Instr.field at h ⊢
  rw [pureP_bind] at h ⊢
  cases hu : pureP P (underlying t) with
  | none => rw [hu] at h; simp at h
  | some u =>
    rw [hu] at h
    rw [Option.bind_some] at h ⊢
    cases u <;> simp only [] at h ⊢ <;> first | (simp at h; done) | skip
    rename_i fs
    split at h
    · rename_i g hg
      rw [pureP_bind] at h ⊢
      cases x <;> simp only [asAgg, pureP_stuck, Option.bind_none] at h <;> first | (cases h; done) | skip
      simp only [asAgg, pureP_pure, Option.bind_some, ren_agg] at h ⊢
      simp only [vok_agg] at hx
      exact part_ren hx h
    · simp at h

theorem fieldAt_ren {t : TypeId} {x v : Value} {f : Nat} (hx : vok n x) (h : pureP P (Instr.fieldAt t x f) = some v) :
    vok n v ∧ pureP P (Instr.fieldAt t (ren β x) f) = some (ren β v) := by
  unfold Instr.fieldAt at h ⊢
  rw [pureP_bind] at h ⊢
  cases hu : pureP P (underlying t) with
  | none => rw [hu] at h; simp at h
  | some u =>
    rw [hu] at h
    rw [Option.bind_some] at h ⊢
    cases u <;> simp only [] at h ⊢ <;> first | (simp at h; done) | skip
    rename_i fs
    split at h
    · rename_i g hg
      rw [pureP_bind] at h ⊢
      cases x <;> simp only [Instr.sureAddr, pureP_stuck, Option.bind_none] at h <;> first | (cases h; done) | skip
      rename_i a
      cases a with
      | none => simp at h
      | some a =>
        simp only [Instr.sureAddr, pureP_pure, Option.bind_some, ren_pointer, pureP_bind, fieldPlace] at h ⊢
        simp only [vok_pointer] at hx
        cases hs : pureP P (sizeOf g.type) with
        | none => rw [hs] at h; simp at h
        | some s =>
          rw [hs] at h
          simp only [Option.bind_some] at h ⊢
          by_cases e : s = 0
          · rw [if_pos e] at h
            rcases hsp : a.spot with _ | sp <;>
              simp [partAt, byteOf, bind, hsp, pureP, noView, viewAt, shape, Sem.bind, program, pure] at h
          · rw [if_neg e] at h ⊢
            simp only [pureP_pure, Option.bind_some, Option.some.injEq] at h ⊢
            subst h
            refine ⟨by simp [add_block, hx], ?_⟩
            rw [add_renA, ren_pointer]
    · simp at h

theorem extract_ren {x v : Value} {i : Nat} (hx : vok n x) (h : pureP P (Instr.extract x i) = some v) :
    vok n v ∧ pureP P (Instr.extract (ren β x) i) = some (ren β v) := by
  unfold Instr.extract at h ⊢
  cases x <;> simp only [pureP_stuck] at h <;> first | (cases h; done) | skip
  rename_i vs
  simp only [vok_tuple] at hx
  simp only [ren_tuple]
  cases hi : vs[i]? with
  | none => rw [hi] at h; simp at h
  | some c =>
    rw [hi] at h
    simp only [pureP_pure, Option.some.injEq] at h
    subst h
    exact ⟨hx _ (Array.mem_of_getElem? hi), by simp [hi]⟩

theorem arrayAt_ren {t : TypeId} {x v : Value} (hx : vok n x) (h : pureP P (Instr.arrayAt t x) = some v) :
    vok n v ∧ pureP P (Instr.arrayAt t (ren β x)) = some (ren β v) := by
  unfold Instr.arrayAt at h ⊢
  rw [pureP_bind] at h ⊢
  cases hu : pureP P (underlying t) with
  | none => rw [hu] at h; simp at h
  | some u =>
    rw [hu] at h
    rw [Option.bind_some] at h ⊢
    cases u <;> simp only [] at h ⊢ <;> first | (simp at h; done) | skip
    cases x <;> simp only [pureP_stuck] at h <;> first | (cases h; done) | skip
    rename_i a len cap
    cases a with
    | none =>
      simp only [ren_slice_nil]
      split at h
      · simp at h
      · rename_i hlt
        rw [if_neg hlt]
        simp only [pureP_pure, Option.some.injEq] at h ⊢
        subst h; exact ⟨by simp, by simp⟩
    | some a =>
      simp only [vok_slice] at hx
      simp only [ren_slice]
      split at h
      · simp at h
      · rename_i hlt
        rw [if_neg hlt]
        simp only [pureP_pure, Option.some.injEq] at h ⊢
        subst h; exact ⟨by simp [hx], by simp⟩

end
end Go.Abs
/- All pure operations follow the renaming. -/
namespace Go.Abs
section
variable {P : Program} {β : Bm} {n : Nat}

theorem indexAt_ren {t : TypeId} {x v : Value} {k : IntKind} {i : Int} (hx : vok n x) (h : pureP P (Instr.indexAt t x (.int k i)) = some v) :
    vok n v ∧ pureP P (Instr.indexAt t (ren β x) (.int k i)) = some (ren β v) := by
  unfold Instr.indexAt at h ⊢
  simp only [asIntOf, pureP_bind, pureP_pure, Option.bind_some] at h ⊢
  cases hu : pureP P (underlying t) with
  | none => rw [hu] at h; simp at h
  | some u =>
    rw [hu] at h
    rw [Option.bind_some] at h ⊢
    have fin : ∀ (a : Addr) (len : Nat) (el : TypeId) (z : Bool), a.block < n →
        pureP P (if 0 ≤ i ∧ i < len then (do pure (.pointer (some (a.add (i.toNat * (← sizeOf el)))))) else if z then unsupported (.noEntry "op/indexAddr.an index out of range at an array of length 0 or 1 (ledger 616)") else boundsPanic k i len .index) = some v →
        vok n v ∧ pureP P (if 0 ≤ i ∧ i < len then (do pure (.pointer (some ((renA β a).add (i.toNat * (← sizeOf el)))))) else if z then unsupported (.noEntry "op/indexAddr.an index out of range at an array of length 0 or 1 (ledger 616)") else boundsPanic k i len .index) = some (ren β v) := by
      intro a len el z hb h
      split at h
      · rename_i hc
        rw [if_pos hc]
        rw [pureP_bind] at h ⊢
        cases hsz : pureP P (sizeOf el) with
        | none => rw [hsz] at h; simp at h
        | some s =>
          rw [hsz] at h
          simp only [Option.bind_some, pureP_pure, Option.some.injEq] at h ⊢
          subst h
          exact ⟨by simp [add_block, hb], by rw [add_renA, ren_pointer]⟩
      · split at h <;> simp at h
    cases u <;> cases x <;> simp only [pureP_bind, pureP_stuck, Instr.sureAddr, Option.bind_none, Option.bind_some, pureP_pure] at h <;> first | (cases h; done) | skip
    · rename_i el a len cap
      cases a with
      | none => simp at h
      | some a =>
        simp only [vok_slice] at hx
        simp only [ren_slice, pureP_bind, pureP_pure, Option.bind_some]
        rw [hu, Option.bind_some] at h ⊢
        exact fin a len el _ hx h
    · rename_i len el a
      cases a with
      | none => simp at h
      | some a =>
        simp only [vok_pointer] at hx
        simp only [ren_pointer, Instr.sureAddr, pureP_pure, Option.bind_some, pureP_bind] at h ⊢
        rw [hu, Option.bind_some] at h ⊢
        exact fin a len el _ hx h

theorem index_ren {t : TypeId} {x v : Value} {k : IntKind} {i : Int} (hx : vok n x) (h : pureP P (Instr.index t x (.int k i)) = some v) :
    vok n v ∧ pureP P (Instr.index t (ren β x) (.int k i)) = some (ren β v) := by
  unfold Instr.index at h ⊢
  simp only [asIntOf, pureP_bind, pureP_pure, Option.bind_some] at h ⊢
  cases hu : pureP P (underlying t) with
  | none => rw [hu] at h; simp at h
  | some u =>
    rw [hu] at h
    rw [Option.bind_some] at h ⊢
    cases u <;> cases x <;> simp only [pureP_stuck] at h <;> first | (cases h; done) | skip
    · rename_i s
      rw [ren_string]
      split at h
      · rename_i b hb
        rw [pureP_pure, Option.some.injEq] at h
        subst h
        simp only [hb]
        exact ⟨by simp, by simp⟩
      · simp at h
    · rename_i len el cs
      simp only [vok_agg] at hx
      simp only [ren_agg]
      split at h
      · rename_i hc
        rw [if_pos hc]
        rw [pureP_bind] at h ⊢
        cases hsz : pureP P (sizeOf el) with
        | none => rw [hsz] at h; simp at h
        | some s =>
          rw [hsz] at h
          rw [Option.bind_some] at h ⊢
          exact part_ren hx h
      · simp at h

theorem len_slice_ren {ts : Array TypeId} {ty : TypeId} {a : Option Addr} {l c : Nat} {v : Value} (h : pureP P (Builtin.len_ ts ty #[.slice a l c]) = some v) :
    flatB v = true ∧ ∀ (a' : Option Addr) (c' : Nat), pureP P (Builtin.len_ ts ty #[.slice a' l c']) = some v := by
  unfold Builtin.len_ at h
  cases ht : ts[0]? with
  | none => rw [ht] at h; simp at h
  | some t =>
    rw [ht] at h
    simp only [List.getElem?_toArray, List.length_cons, List.length_nil, Nat.zero_add, Nat.zero_lt_one, getElem?_pos, List.getElem_cons_zero] at h
    simp only [pureP_bind] at h
    cases hu : pureP P (underlying t) with
    | none => rw [hu] at h; simp at h
    | some u =>
      rw [hu] at h
      rw [Option.bind_some] at h
      have mk : ∀ w : Value, flatB w = true → some w = some v → (∀ (a' : Option Addr) (c' : Nat), pureP P (Builtin.len_ ts ty #[.slice a' l c']) = some w) →
          flatB v = true ∧ ∀ (a' : Option Addr) (c' : Nat), pureP P (Builtin.len_ ts ty #[.slice a' l c']) = some v := by
        intro w hw e k; cases e; exact ⟨hw, k⟩
      cases u <;> simp only [pureP_stuck, pureP_bind, pureP_pure] at h <;> first | (cases h; done) | skip
      · rename_i arr
        cases hu2 : pureP P (underlying arr) with
        | none => rw [hu2] at h; simp at h
        | some u2 =>
          rw [hu2] at h
          rw [Option.bind_some] at h
          cases u2 <;> simp only [pureP_stuck, pureP_pure] at h <;> first | (cases h; done) | skip
          exact mk _ (by simp [goInt, flatB]) h fun a' c' => by simp [Builtin.len_, ht, hu, hu2]
      · exact mk _ (by simp [goInt, flatB]) h fun a' c' => by simp [Builtin.len_, ht, hu]
      · exact mk _ (by simp [goInt, flatB]) h fun a' c' => by simp [Builtin.len_, ht, hu]

theorem vok_if {b : Bool} {x y : Value} (hx : vok n x) (hy : vok n y) : vok n (if b then x else y) := by cases b <;> simpa

theorem flat_eqv {args : Array Value} {s : Sem Value} {v : Value} (h : flatOnly P args s = some v) : vok n v ∧ pureP P s = some (ren β v) := by
  obtain ⟨_, h2, h3⟩ := flatOnly_eqv h
  exact ⟨flat_vok v h2, by rw [flat_ren v h2]; exact h3⟩

theorem map_ren {xs : Array Operand} {ρ ρ' : Operand → Value} (h : ∀ x ∈ xs, vok n (ρ x) ∧ ρ' x = ren β (ρ x)) : xs.map ρ' = (xs.map ρ).map (ren β) := by
  rw [Array.map_map]; exact Array.map_congr_left fun x hx => (h x hx).2
theorem map_vok {xs : Array Operand} {ρ ρ' : Operand → Value} (h : ∀ x ∈ xs, vok n (ρ x) ∧ ρ' x = ren β (ρ x)) : ∀ v ∈ xs.map ρ, vok n v := by
  intro v hv; obtain ⟨x, hx, rfl⟩ := Array.mem_map.1 hv; exact (h x hx).1

theorem aPureCall_eqv {ρ ρ' : Operand → Value} {ty : TypeId} {c : Call} {v : Value} (hρ : ∀ x ∈ c.operands, vok n (ρ x) ∧ ρ' x = ren β (ρ x)) (h : aPureCall P ρ ty c = some v) :
    EqvO P β n v (do let d ← resolve ρ' c ty; invoke d.target d.args) := by
  unfold aPureCall at h
  unfold resolve
  split at h
  · rename_i hc
    have ha : ∀ x ∈ c.args, vok n (ρ x) ∧ ρ' x = ren β (ρ x) := fun x hx => hρ x (by simp [Call.operands, hx])
    have hm := map_ren ha
    rw [hc, hm]
    split at h
    · rename_i a l k hl
      have hl : c.args.map ρ = #[.slice a l k] := Array.toList_inj.1 hl
      obtain ⟨h1, h2⟩ := len_slice_ren h
      refine ⟨flat_vok v h1, ?_⟩
      rw [hl, flat_ren v h1]
      have : (#[Value.slice a l k].map (ren β)) = #[ren β (.slice a l k)] := by simp only [List.map_toArray, List.map_cons, List.map_nil]
      rw [this]
      cases a with
      | none =>
        simp only [pureP_bind, pureP_pure, Option.bind_some, invoke, builtin, ren_slice_nil]
        rw [h2]; rfl
      | some a =>
        simp only [pureP_bind, pureP_pure, Option.bind_some, invoke, builtin, ren_slice]
        rw [h2]; rfl
    · rename_i s hl
      have hl : c.args.map ρ = #[.string s] := Array.toList_inj.1 hl
      obtain ⟨h1, h2⟩ := flat_eqv (n := n) (β := β) h
      refine ⟨h1, ?_⟩
      rw [hl]
      have : (#[Value.string s].map (ren β)) = #[Value.string s] := by simp
      rw [this]
      simp only [pureP_bind, pureP_pure, Option.bind_some, invoke, builtin]
      rw [h2]; rfl
    · cases h
  · rename_i hc
    have ha : ∀ x ∈ c.args, vok n (ρ x) ∧ ρ' x = ren β (ρ x) := fun x hx => hρ x (by simp [Call.operands, hx])
    have hm := map_ren ha
    rw [hc, hm]
    split at h
    · rename_i t a l k ht hl
      split at h
      · rename_i e hu
        split at h
        · rename_i hk
          cases h
          have hl : c.args.map ρ = #[.slice a l k] := Array.toList_inj.1 hl
          have ht : c.argTypes = #[t] := Array.toList_inj.1 ht
          refine ⟨by simp [goInt], ?_⟩
          rw [hl, ht]
          have : (#[Value.slice a l k].map (ren β)) = #[ren β (.slice a l k)] := by simp only [List.map_toArray, List.map_cons, List.map_nil]
          rw [this]
          cases a with
          | none => simp [invoke, builtin, Builtin.cap_, hu, goInt]
          | some a =>
            have : renCap β a k = k := by unfold renCap; rw [if_neg (by omega)]
            simp [invoke, builtin, Builtin.cap_, hu, goInt, this]
        · cases h
      · cases h
    · cases h
  · rename_i hc
    have ha : ∀ x ∈ c.args, vok n (ρ x) ∧ ρ' x = ren β (ρ x) := fun x hx => hρ x (by simp [Call.operands, hx])
    obtain ⟨h1, h2⟩ := flat_eqv (n := n) (β := β) h
    refine ⟨h1, ?_⟩
    rw [hc, map_ren ha, map_flat (flatOnly_eqv h).1]
    simp only [pureP_bind, pureP_pure, Option.bind_some, invoke, builtin]
    rw [h2]; rfl
  · rename_i hc
    have ha : ∀ x ∈ c.args, vok n (ρ x) ∧ ρ' x = ren β (ρ x) := fun x hx => hρ x (by simp [Call.operands, hx])
    obtain ⟨h1, h2⟩ := flat_eqv (n := n) (β := β) h
    refine ⟨h1, ?_⟩
    rw [hc, map_ren ha, map_flat (flatOnly_eqv h).1]
    simp only [pureP_bind, pureP_pure, Option.bind_some, invoke, builtin]
    rw [h2]; rfl
  · cases h

/-- EVERY PURE OPERATION: the machine's, on the renamed operands, gives the renamed answer. -/
theorem aPure_eqv (hz : ZeroOk P) {ρ ρ' : Operand → Value} {o : Oper} {v : Value} (hρ : ∀ x ∈ o.op.operands, vok n (ρ x) ∧ ρ' x = ren β (ρ x)) (h : aPure P ρ o = some v) :
    EqvO P β n v (execOp ρ' o) := by
  unfold aPure at h
  unfold execOp
  cases ho : o.op <;> rw [ho] at h hρ <;> simp only [] at h ⊢ <;> first | (cases h; done) | skip
  case move x =>
    have hx := hρ x (by simp [Op.operands])
    simp only [Option.some.injEq] at h; subst h
    exact ⟨hx.1, by rw [hx.2]; rfl⟩
  case assign x =>
    have hx := hρ x (by simp [Op.operands])
    simp only [Option.some.injEq] at h; subst h
    exact ⟨hx.1, by rw [hx.2]; rfl⟩
  case pick c a b =>
    have hc := hρ c (by simp [Op.operands])
    have ha := hρ a (by simp [Op.operands])
    have hb := hρ b (by simp [Op.operands])
    split at h
    · rename_i t ht
      simp only [Option.some.injEq] at h; subst h
      refine ⟨vok_if ha.1 hb.1, ?_⟩
      rw [hc.2, ht, ren_bool, ha.2, hb.2]
      cases t <;> rfl
    · cases h
  case build t parts =>
    have hp : ∀ p ∈ parts.map (fun (i, x) => (i, ρ x)), vok n p.2 := by
      intro p hp
      obtain ⟨⟨i, x⟩, hq, rfl⟩ := Array.mem_map.1 hp
      exact (hρ x (by simp [Op.operands]; exact ⟨i, hq⟩)).1
    have e : parts.map (fun (i, x) => (i, ρ' x)) = (parts.map (fun (i, x) => (i, ρ x))).map fun p => (p.1, ren β p.2) := by
      rw [Array.map_map]
      refine Array.map_congr_left fun p hp => ?_
      have := (hρ p.2 (by simp [Op.operands]; exact ⟨p.1, hp⟩)).2
      simp [this]
    have := build_ren (β := β) hz hp h
    refine eqv_of this.1 ?_
    rw [e]; exact this.2
  case nilCheck x =>
    have hx := hρ x (by simp [Op.operands])
    rw [hx.2]
    split at h
    all_goals first | (cases h; done) | skip
    · rename_i a he
      simp only [Option.some.injEq] at h; subst h
      rw [he] at hx
      refine ⟨hx.1, ?_⟩
      rw [he]; simp
    · rename_i f xs ys he
      simp only [Option.some.injEq] at h; subst h
      rw [he] at hx
      refine ⟨hx.1, ?_⟩
      rw [he]; simp [renFn]
    · rename_i f xs ys he
      simp only [Option.some.injEq] at h; subst h
      rw [he] at hx
      refine ⟨hx.1, ?_⟩
      rw [he]; simp [renFn]
  case binOp op t x y yt =>
    have hx := hρ x (by simp [Op.operands])
    have hy := hρ y (by simp [Op.operands])
    have := aBin_eqv (β := β) (xo := x) (yo := y) hx.1 hy.1 h
    refine eqv_of this.1 ?_
    rw [hx.2, hy.2]; exact this.2
  case unOp op t x =>
    have hx := hρ x (by simp [Op.operands])
    have := flat_eqv (n := n) (β := β) h
    refine eqv_of this.1 ?_
    rw [hx.2, flat_ren _ ((flatOnly_eqv h).1 _ (by simp))]; exact this.2
  case convert s d x =>
    have hx := hρ x (by simp [Op.operands])
    have := flat_eqv (n := n) (β := β) h
    refine eqv_of this.1 ?_
    rw [hx.2, flat_ren _ ((flatOnly_eqv h).1 _ (by simp))]; exact this.2
  case sliceToArrayPointer t x =>
    have hx := hρ x (by simp [Op.operands])
    have := arrayAt_ren (β := β) hx.1 h
    refine eqv_of this.1 ?_
    rw [hx.2]; exact this.2
  case makeFunc fn first cap =>
    cases fn <;> simp only [] at h <;> first | (cases h; done) | skip
    simp only [Option.some.injEq] at h; subst h
    have h1 : ∀ x ∈ first, vok n (ρ x) ∧ ρ' x = ren β (ρ x) := fun x hx => hρ x (by simp [Op.operands, hx])
    have h2 : ∀ x ∈ cap, vok n (ρ x) ∧ ρ' x = ren β (ρ x) := fun x hx => hρ x (by simp [Op.operands, hx])
    refine ⟨by simp only [vok_func]; exact ⟨trivial, map_vok h1, map_vok h2⟩, ?_⟩
    rw [map_ren h1, map_ren h2]
    simp [Instr.makeFunc, renFn]
  case fieldAddr t x f =>
    have hx := hρ x (by simp [Op.operands])
    have := fieldAt_ren (β := β) hx.1 h
    refine eqv_of this.1 ?_
    rw [hx.2]; exact this.2
  case field t x f =>
    have hx := hρ x (by simp [Op.operands])
    have := field_ren (β := β) hx.1 h
    refine eqv_of this.1 ?_
    rw [hx.2]; exact this.2
  case indexAddr t x i =>
    have hx := hρ x (by simp [Op.operands])
    have hi := hρ i (by simp [Op.operands])
    split at h
    · rename_i k m he
      have := indexAt_ren (β := β) hx.1 h
      refine eqv_of this.1 ?_
      rw [hx.2, hi.2, he, ren_int]; exact this.2
    · cases h
  case index t x i =>
    have hx := hρ x (by simp [Op.operands])
    have hi := hρ i (by simp [Op.operands])
    split at h
    · rename_i k m he
      have := index_ren (β := β) hx.1 h
      refine eqv_of this.1 ?_
      rw [hx.2, hi.2, he, ren_int]; exact this.2
    · cases h
  case extract x i =>
    have hx := hρ x (by simp [Op.operands])
    have := extract_ren (β := β) hx.1 h
    refine eqv_of this.1 ?_
    rw [hx.2]; exact this.2
  case call c =>
    exact aPureCall_eqv (fun x hx => hρ x (by simpa [Op.operands] using hx)) h

end
end Go.Abs
/- Loads, stores, new blocks. -/
namespace Go.Abs

theorem run_then {α γ : Type} {P : Program} {s : Sem α} {f : α → Sem γ} {w w' : World} {a : α} (h : s.run P w = .ok a w') : (s >>= f).run P w = (f a).run P w' := by
  rw [Sem.run_bind, h]; rfl
theorem run_pureP {α γ : Type} {P : Program} {s : Sem α} {f : α → Sem γ} {w : World} {a : α} (h : pureP P s = some a) : (s >>= f).run P w = (f a).run P w :=
  run_then (pureP_run h w)
theorem run_ret {α : Type} {P : Program} {w : World} (a : α) : (pure a : Sem α).run P w = .ok a w := rfl

/-! ### Loads -/
def Hp.cell (h : Hp) (a : Addr) : Option Value :=
  match a.spot, h.get a.block with
  | none, some (.cells cs _) => cs[a.off]?
  | _, _ => none
def Hp.row (h : Hp) (a : Addr) (n : Nat) : Option (Array Value) :=
  match a.spot, h.get a.block with
  | none, some (.cells cs _) => if a.off + n ≤ cs.size then some (cs.extract a.off (a.off + n)) else none
  | _, _ => none

def aLoadVar (P : Program) (t : TypeId) (a : Addr) (h : Hp) : Option Value :=
  match pureP P (isAgg t) with
  | some true => match pureP P (sizeOf t) with
    | some n => (h.row a n).map .agg
    | none => none
  | some false => h.cell a
  | none => none

section
variable {P : Program} {CK : Code → Prop} {β : Bm} {h : Hp} {w : World}

theorem Rel.cellsOf (r : Rel P CK β h w) {b : Nat} {cs : Array Value} {own : Bool} (hb : h.get b = some (.cells cs own)) :
    ∃ C e fz, w.heap[(β b).B]? = some (.cells C e fz) ∧ (∀ (i : Nat) v, cs[i]? = some v → C[(β b).O + i]? = some (ren β v) ∧ vok h.size v) ∧ cs.size ≤ (β b).av ∧
      (own = true → fz = (0, 0) ∧ (β b).O + (β b).av ≤ C.size) := by
  obtain ⟨o, ho, C, e, fz, rfl, h2⟩ := r.blk b _ hb
  exact ⟨C, e, fz, ho, h2⟩

theorem Rel.cell? (r : Rel P CK β h w) {b i : Nat} {cs : Array Value} {own : Bool} {v : Value} (hb : h.get b = some (.cells cs own)) (hi : cs[i]? = some v) :
    w.cell? ⟨(β b).B, (β b).O + i, none⟩ = some (ren β v) ∧ vok h.size v := by
  obtain ⟨C, e, fz, h1, h2, _⟩ := r.cellsOf hb
  have := h2 i v hi
  exact ⟨by simp only [World.cell?, h1]; simpa using this.1, this.2⟩

theorem load_ok {a : Addr} {v : Value} (hv : w.cell? a = some v) : (load a).run P w = .ok v w := by
  simp [load, Sem.run, hv]

theorem cell_run (r : Rel P CK β h w) {a : Addr} {v : Value} (hc : h.cell a = some v) : (load (renA β a)).run P w = .ok (ren β v) w ∧ vok h.size v := by
  unfold Hp.cell at hc
  split at hc
  · rename_i cs own hs hb
    obtain ⟨h1, h2⟩ := r.cell? hb hc
    exact ⟨load_ok (by simp only [renA, hs]; exact h1), h2⟩
  · cases hc

theorem loadFrom_run (r : Rel P CK β h w) {b : Nat} {cs : Array Value} {own : Bool} (hb : h.get b = some (.cells cs own)) (off : Nat) :
    ∀ (n i : Nat) (acc : Array Value), off + i + n ≤ cs.size →
      (loadCellsFrom ⟨(β b).B, (β b).O + off, none⟩ i n acc).run P w = .ok (acc ++ (cs.extract (off + i) (off + i + n)).map (ren β)) w
  | 0, i, acc, _ => by simp [loadCellsFrom, run_ret]; omega
  | n + 1, i, acc, hle => by
    unfold loadCellsFrom
    have hlt : off + i < cs.size := by omega
    have hi : cs[off + i]? = some cs[off + i] := by simp [hlt]
    have ha : (⟨(β b).B, (β b).O + off, none⟩ : Addr).add i = ⟨(β b).B, (β b).O + (off + i), none⟩ := by
      simp only [Addr.add]; split <;> simp_all [Nat.add_assoc]
    rw [ha, run_then (load_ok (r.cell? hb hi).1), loadFrom_run r hb off n (i + 1) _ (by omega)]
    congr 1
    have e : cs.extract (off + i) (off + i + (n + 1)) = #[cs[off + i]] ++ cs.extract (off + (i + 1)) (off + (i + 1) + n) := by
      apply Array.ext
      · simp; omega
      · intro j h1 h2
        simp only [Array.getElem_extract, Array.getElem_append, Array.size_singleton]
        split
        · have : j = 0 := by omega
          subst this; simp
        · congr 1; omega
    rw [e]; simp

theorem row_run (r : Rel P CK β h w) {a : Addr} {n : Nat} {vs : Array Value} (hc : h.row a n = some vs) :
    (loadCells (renA β a) n).run P w = .ok (vs.map (ren β)) w ∧ (∀ v ∈ vs, vok h.size v) ∧ vs.size = n := by
  unfold Hp.row at hc
  split at hc
  · rename_i cs own hs hb
    split at hc
    · rename_i hle
      simp only [Option.some.injEq] at hc
      subst hc
      refine ⟨?_, fun v hv => ?_, by simp; omega⟩
      · have := loadFrom_run r hb a.off n 0 #[] (by omega)
        simpa [loadCells, renA, hs] using this
      · obtain ⟨i, hi⟩ := Array.mem_iff_getElem?.1 (mem_extract hv)
        exact (r.cell? hb hi).2
    · cases hc
  · cases hc

theorem loadVar_run (r : Rel P CK β h w) {t : TypeId} {a : Addr} {v : Value} (hl : aLoadVar P t a h = some v) :
    (loadVar t (renA β a)).run P w = .ok (ren β v) w ∧ vok h.size v := by
  unfold aLoadVar at hl
  unfold loadVar
  split at hl
  · rename_i hg
    split at hl
    · rename_i n hn
      rw [Option.map_eq_some_iff] at hl
      obtain ⟨vs, hvs, rfl⟩ := hl
      obtain ⟨h1, h2, _⟩ := row_run r hvs
      rw [run_pureP hg]
      simp only [if_true]
      rw [run_pureP hn, run_then h1, run_ret]
      exact ⟨by simp, by simpa using h2⟩
    · cases hl
  · rename_i hg
    rw [run_pureP hg]
    exact cell_run r hl
  · cases hl

/-! ### Stores -/
def splice (cs : Array Value) (i : Nat) : List Value → Array Value
  | [] => cs
  | v :: vs => splice (cs.setIfInBounds i v) (i + 1) vs

theorem splice_size (cs : Array Value) (i : Nat) (vs : List Value) : (splice cs i vs).size = cs.size := by
  induction vs generalizing cs i with
  | nil => rfl
  | cons v vs ih => simp [splice, ih]

theorem splice_get (vs : List Value) : ∀ (cs : Array Value) (i j : Nat), i + vs.length ≤ cs.size →
    (splice cs i vs)[j]? = if i ≤ j ∧ j < i + vs.length then vs[j - i]? else cs[j]? := by
  induction vs with
  | nil => intro cs i j _; simp only [splice, List.length_nil]; rw [if_neg (by omega)]
  | cons v vs ih =>
    intro cs i j hle
    simp only [List.length_cons] at hle ⊢
    rw [splice, ih _ _ _ (by simp; omega), Array.getElem?_setIfInBounds]
    by_cases hj : j = i
    · subst hj
      rw [if_neg (by omega), if_pos rfl, if_pos (by omega), if_pos (by omega)]
      simp
    · by_cases h1 : i + 1 ≤ j ∧ j < i + 1 + vs.length
      · rw [if_pos h1, if_pos (by omega)]
        have : j - i = (j - (i + 1)) + 1 := by omega
        rw [this, List.getElem?_cons_succ]
      · rw [if_neg h1, if_neg (by omega), if_neg (by omega)]

theorem setCell_eq {k off : Nat} {C : Array Value} {e : TypeId} {fz : Nat × Nat} {v : Value} (hk : w.heap[k]? = some (.cells C e fz)) :
    w.setCell ⟨k, off, none⟩ v = { w with heap := w.heap.setIfInBounds k (.cells (C.setIfInBounds off v) e fz) } := by
  simp only [World.setCell]
  congr 1
  apply Array.ext_getElem?
  intro j
  rw [Array.getElem?_modify, Array.getElem?_setIfInBounds]
  by_cases e : k = j
  · subst e
    have := (Array.getElem?_eq_some_iff.1 hk).1
    rw [if_pos rfl, if_pos rfl, if_pos this, hk]; simp
  · rw [if_neg e, if_neg e]

theorem store_ok {k off : Nat} {C : Array Value} {e : TypeId} {v : Value} (hk : w.heap[k]? = some (.cells C e (0, 0))) (ho : off < C.size) (h1 : oneC v = true) :
    (store ⟨k, off, none⟩ v).run P w = .ok () { w with heap := w.heap.setIfInBounds k (.cells (C.setIfInBounds off v) e (0, 0)) } := by
  have hc : w.cell? ⟨k, off, none⟩ = some C[off] := by simp [World.cell?, hk, ho]
  have hf : w.frozen? ⟨k, off, none⟩ = false := by simp [World.frozen?, hk]
  rw [← setCell_eq hk]
  cases v <;> first | (simp [oneC] at h1; done) | simp [store, Sem.run, hc, hf]

theorem storeCells_run {k : Nat} {e : TypeId} (off : Nat) : ∀ (vs : List Value) (i : Nat) (w : World) (C : Array Value), w.heap[k]? = some (.cells C e (0, 0)) → off + i + vs.length ≤ C.size →
    vs.all oneC = true → (storeCells ⟨k, off, none⟩ vs i).run P w = .ok () { w with heap := w.heap.setIfInBounds k (.cells (splice C (off + i) vs) e (0, 0)) }
  | [], i, w, C, hk, _, _ => by
    simp only [storeCells, splice, run_ret]
    congr 1
    have hlt := (Array.getElem?_eq_some_iff.1 hk).1
    have : w.heap.setIfInBounds k (.cells C e (0, 0)) = w.heap := by
      apply Array.ext_getElem?
      intro j
      rw [Array.getElem?_setIfInBounds]
      by_cases e' : k = j
      · subst e'; rw [if_pos rfl, if_pos hlt, hk]
      · rw [if_neg e']
    rw [this]
  | v :: vs, i, w, C, hk, hle, h1 => by
    simp only [List.length_cons] at hle
    simp only [List.all_cons, Bool.and_eq_true] at h1
    unfold storeCells
    have ha : (⟨k, off, none⟩ : Addr).add i = ⟨k, off + i, none⟩ := by
      simp only [Addr.add]; split <;> simp_all
    have hlt := (Array.getElem?_eq_some_iff.1 hk).1
    rw [ha, run_then (store_ok hk (by omega) h1.1)]
    rw [storeCells_run (e := e) off vs (i + 1) _ (C.setIfInBounds (off + i) v) (by simp [hlt]) (by simp; omega) h1.2]
    simp only [splice]
    congr 2
    apply Array.ext_getElem?
    intro j
    simp only [Array.getElem?_setIfInBounds, Array.size_setIfInBounds]
    split <;> rfl

def Hp.wr (h : Hp) (a : Addr) (vs : List Value) : Option Hp :=
  match a.spot, h.get a.block with
  | none, some (.cells cs true) =>
    if h.ro ≤ a.block ∧ a.off + vs.length ≤ cs.size ∧ vs.all oneC = true then some (h.setB a.block (some (.cells (splice cs a.off vs) true))) else none
  | _, _ => none

theorem wr_run (r : Rel P CK β h w) {a : Addr} {vs : List Value} {h' : Hp} (hv : ∀ v ∈ vs, vok h.size v) (hw : h.wr a vs = some h') :
    ∃ w', (storeCells (renA β a) (vs.map (ren β))).run P w = .ok () w' ∧ St P CK β h w β h' w' := by
  unfold Hp.wr at hw
  split at hw
  · rename_i cs hs hb
    split at hw
    · rename_i hc
      simp only [Option.some.injEq] at hw
      subst hw
      obtain ⟨C, e, fz, h1, h2, h3, h4⟩ := r.cellsOf hb
      obtain ⟨rfl, h5⟩ := h4 rfl
      refine ⟨{ w with heap := w.heap.setIfInBounds (β a.block).B (.cells (splice C ((β a.block).O + a.off) (vs.map (ren β))) e (0, 0)) }, ?_, ?_⟩
      · have := storeCells_run (P := P) ((β a.block).O + a.off) (vs.map (ren β)) 0 w C h1 (by simp; omega) (by
          rw [List.all_map]; rw [← hc.2.2]; congr 1; funext v; exact ren_oneC v)
        simpa [renA, hs] using this
      · refine St.set r hb rfl hc.1 _ _ ⟨_, _, _, rfl, fun i v hi => ?_, by rw [splice_size]; exact h3, fun _ => ⟨rfl, by rw [splice_size]; exact h5⟩⟩
        rw [splice_get _ _ _ _ hc.2.1] at hi
        rw [splice_get _ _ _ _ (by simp; omega)]
        simp only [List.length_map]
        split at hi
        · rename_i hin
          rw [if_pos (by omega)]
          have : (β a.block).O + i - ((β a.block).O + a.off) = i - a.off := by omega
          rw [this, List.getElem?_map, hi]
          exact ⟨rfl, hv v (List.mem_of_getElem? hi)⟩
        · rename_i hin
          rw [if_neg (by omega)]
          exact h2 i v hi
    · cases hw
  · cases hw

def aStoreVar (P : Program) (t : TypeId) (a : Addr) (v : Value) (h : Hp) : Option Hp :=
  match pureP P (sizeOf t) with
  | some n => if v.cells.size = n then h.wr a v.cells.toList else none
  | none => none

theorem storeVar_run (r : Rel P CK β h w) {t : TypeId} {a : Addr} {v : Value} {h' : Hp} (hv : vok h.size v) (hs : aStoreVar P t a v h = some h') :
    ∃ w', (storeVar t (renA β a) (ren β v)).run P w = .ok () w' ∧ St P CK β h w β h' w' := by
  unfold aStoreVar at hs
  split at hs
  · rename_i n hn
    split at hs
    · rename_i hc
      obtain ⟨w', h1, h2⟩ := wr_run r (fun x hx => vok_cells hv x (by simpa using hx)) hs
      refine ⟨w', ?_, h2⟩
      unfold storeVar
      rw [run_pureP hn, if_neg (by rw [ren_cells]; simpa using hc)]
      rw [ren_cells]
      simpa using h1
    · cases hs
  · cases hs

/-! ### New blocks -/
theorem newRow_run (r : Rel P CK β h w) {e : TypeId} {cs : Array Value} (hv : ∀ v ∈ cs, vok h.size v) :
    (newRow e (cs.map (ren β))).run P w = .ok ⟨w.heap.size, 0, none⟩ { w with heap := w.heap.push (.cells (cs.map (ren β)) e) } ∧
    St P CK β h w (upd β h.size ⟨w.heap.size, 0, cs.size⟩) (h.push (some (.cells cs true))) { w with heap := w.heap.push (.cells (cs.map (ren β)) e) } := by
  refine ⟨rfl, St.new r _ _ _ rfl ⟨_, _, _, rfl, fun i v hi => ⟨?_, hv v (Array.mem_of_getElem? hi)⟩, Nat.le_refl _, fun _ => ⟨rfl, by simp⟩⟩⟩
  simp [hi]

end
end Go.Abs
/- Slices of rows, append, copy, clear, make. -/
namespace Go.Abs

/-! ### New variables and rows -/
def aNewRow (cs : Array Value) (h : Hp) : Value × Hp := (.pointer (some ⟨h.size, 0, none⟩), h.push (some (.cells cs true)))

def aAlloc (P : Program) (e : TypeId) (h : Hp) : Option (Value × Hp) :=
  match pureP P (zeroValue e) with
  | some z => some (aNewRow z.cells h)
  | none => none

def aBuildSlice (P : Program) (t : TypeId) (len : Nat) (parts : Array (Nat × Value)) (h : Hp) : Option (Value × Hp) :=
  match P.underlying t with
  | some (.slice e) =>
    match pureP P (sizeOf e) with
    | some size =>
      if len = 0 ∧ parts.size = 0 then some (.slice (some ⟨h.size, 0, none⟩) 0 0, h.push (some (.cells #[] true))) else
      if len * size > 2 ^ 24 ∨ len * size = 0 ∨ capOpen ≤ len then none else
      match pureP P (zeroValue e) with
      | some z =>
        match Instr.fill (fun i => some (i * size, size)) ((Array.range (len * size)).map (z.cells[· % z.cells.size]!)) parts.toList with
        | some cells => some (.slice (some ⟨h.size, 0, none⟩) len len, h.push (some (.cells cells true)))
        | none => none
      | none => none
    | none => none
  | _ => none

def aMakeSlice (P : Program) (t : TypeId) (len cap : Value) (h : Hp) : Option (Value × Hp) :=
  match P.underlying t, len, cap with
  | some (.slice e), .int _ l, .int _ c =>
    match P.info? e, pureP P (zeroValue e) with
    | some i, some z =>
      if 0 ≤ l ∧ l ≤ c ∧ c ≤ 2 ^ 47 ∧ i.bytes * c ≤ 2 ^ 48 then
        some (.slice (some ⟨h.size, 0, none⟩) l.toNat c.toNat,
          h.push (some (.cells (if c.toNat * i.size = 0 then #[] else (Array.range (c.toNat * i.size)).map (z.cells[· % z.cells.size]!)) true)))
      else none
    | _, _ => none
  | _, _, _ => none

/-! ### Slices -/
def natOf : Value → Option Nat
  | .int _ n => if 0 ≤ n then some n.toNat else none
  | _ => none
def natOr (v : Option Value) (d : Nat) : Option Nat :=
  match v with
  | none => some d
  | some v => natOf v

/-- How many elements are surely there. -/
def Hp.known (h : Hp) (a : Addr) (s : Nat) : Nat :=
  match h.get a.block with
  | some (.cells cs _) => if a.off ≤ cs.size then (cs.size - a.off) / s else 0
  | _ => 0

def aSlice (P : Program) (t : TypeId) (x : Value) (lo hi mx : Option Value) (h : Hp) : Option (Value × Hp) :=
  match x with
  | .slice none n c => if c < capOpen then (pureP P (Instr.sliceAt t (.slice none n c) lo hi mx)).map fun v => (v, h) else none
  | .slice (some a) n c =>
    if c < capOpen then (pureP P (Instr.sliceAt t (.slice (some a) n c) lo hi mx)).map fun v => (v, h) else
    match P.underlying t with
    | some (.slice e) =>
      match pureP P (sizeOf e) with
      | some s =>
        if s = 0 ∨ c - capOpen ≠ s ∨ a.spot ≠ none then none else
        match natOr lo 0, natOr hi n, mx with
        | some l, some hh, none =>
          if l ≤ hh ∧ hh ≤ h.known a s then
            if l = 0 then some (.slice (some a) hh c, h)
            else if l < h.known a s then some (.slice (some (a.add (l * s))) (hh - l) c, h)
            else some (.slice (some ⟨h.size, 0, none⟩) 0 c, h.push none)
          else none
        | some l, some hh, some m =>
          match hi, natOf m with
          | some _, some m => if l ≤ hh ∧ hh ≤ m ∧ m ≤ h.known a s ∧ m < capOpen then some (.slice (some (if m = l then a else a.add (l * s))) (hh - l) (m - l), h) else none
          | _, _ => none
        | _, _, _ => none
      | none => none
    | _ => none
  | .string s => (flatOnly P (#[.string s] ++ lo.toArray ++ hi.toArray ++ mx.toArray) (Instr.sliceAt t (.string s) lo hi mx)).map fun v => (v, h)
  | .pointer (some a) =>
    match P.underlying t with
    | some (.array n _) => if n < capOpen then (pureP P (Instr.sliceAt t (.pointer (some a)) lo hi mx)).map fun v => (v, h) else none
    | _ => none
  | _ => none

section
variable {P : Program} {CK : Code → Prop} {β : Bm} {h : Hp} {w : World}

/-- What is claimed of an operation that gives a value. -/
def Good (P : Program) (CK : Code → Prop) (β : Bm) (h : Hp) (w : World) (v : Value) (h' : Hp) (s : Sem Value) : Prop :=
  ∃ β' w', s.run P w = .ok (ren β' v) w' ∧ vok h'.size v ∧ St P CK β h w β' h' w'

theorem newVar_good (r : Rel P CK β h w) {e : TypeId} {cs : Array Value} (hv : ∀ v ∈ cs, vok h.size v) :
    Good P CK β h w (aNewRow cs h).1 (aNewRow cs h).2 (do pure (.pointer (some (← newRow e (cs.map (ren β)))))) := by
  obtain ⟨h1, h2⟩ := newRow_run r (e := e) hv
  refine ⟨_, _, ?_, ?_, h2⟩
  · rw [run_then h1, run_ret]; simp [aNewRow, renA]
  · simp [aNewRow]

theorem alloc_good (hz : ZeroOk P) (r : Rel P CK β h w) {e : TypeId} {v : Value} {h' : Hp} (ha : aAlloc P e h = some (v, h')) :
    Good P CK β h w v h' (Instr.alloc e true (.tuple #[])) := by
  unfold aAlloc at ha
  split at ha
  · rename_i z hzv
    simp only [Option.some.injEq, Prod.mk.injEq] at ha
    obtain ⟨rfl, rfl⟩ := ha
    have hf := flat_cells (zero_flat hz hzv)
    obtain ⟨β', w', h1, h2⟩ := newVar_good r (e := e) (cs := z.cells) fun c hc => flat_vok c (hf c hc)
    refine ⟨β', w', ?_, h2⟩
    rw [map_flat hf] at h1
    unfold Instr.alloc
    rw [run_pureP hzv]
    exact h1
  · cases ha

theorem box_good (r : Rel P CK β h w) {e : TypeId} {v : Value} (hv : vok h.size v) :
    Good P CK β h w (aNewRow v.cells h).1 (aNewRow v.cells h).2 (Instr.box e (ren β v)) := by
  obtain ⟨β', w', h1, h2⟩ := newVar_good r (e := e) (cs := v.cells) (vok_cells hv)
  refine ⟨β', w', ?_, h2⟩
  unfold Instr.box newVar
  rw [ren_cells]; exact h1

theorem range_cells {z : Array Value} {m : Nat} (hf : ∀ c ∈ z, flatB c = true) : ∀ c ∈ (Array.range m).map (z[· % z.size]!), flatB c = true := by
  intro c hc
  obtain ⟨i, _, rfl⟩ := Array.mem_map.1 hc
  by_cases hs : 0 < z.size
  · have : i % z.size < z.size := Nat.mod_lt _ hs
    rw [getElem!_pos z _ this]
    exact hf _ (Array.getElem_mem _)
  · have : z = #[] := Array.size_eq_zero_iff.1 (by omega)
    subst this
    have e : (#[] : Array Value)[i % (#[] : Array Value).size]! = default := by simp
    rw [e]; simp [default, instInhabitedValue, instInhabitedValue.default, flatB]

theorem buildSlice_good (hz : ZeroOk P) (r : Rel P CK β h w) {t : TypeId} {len : Nat} {parts : Array (Nat × Value)} {v : Value} {h' : Hp} (hp : ∀ p ∈ parts, vok h.size p.2)
    (ha : aBuildSlice P t len parts h = some (v, h')) : Good P CK β h w v h' (Instr.buildSlice t len (parts.map fun p => (p.1, ren β p.2))) := by
  unfold aBuildSlice at ha
  split at ha
  · rename_i e hu
    split at ha
    · rename_i size hs
      split at ha
      · rename_i h0
        obtain ⟨rfl, hps⟩ := h0
        have hpe : parts = #[] := Array.size_eq_zero_iff.1 hps
        subst hpe
        simp only [Option.some.injEq, Prod.mk.injEq] at ha
        obtain ⟨rfl, rfl⟩ := ha
        obtain ⟨h1, h2⟩ := newRow_run r (e := e) (cs := #[]) (by simp)
        refine ⟨_, _, ?_, by simp, h2⟩
        unfold Instr.buildSlice
        have hu' : pureP P (underlying t) = some (.slice e) := by rw [pureP_underlying]; exact hu
        rw [run_pureP hu']
        simp only []
        rw [run_pureP hs, if_neg (by simp), if_pos (by simp), run_pureP (pureP_pure _)]
        simp only [Nat.zero_mul, Array.map_empty, Instr.fill]
        have he : (Array.range 0).map (fun x => (#[] : Array Value)[x % (#[] : Array Value).size]!) = #[] := by simp
        rw [he]
        simp only [Array.map_empty] at h1
        rw [run_then h1, run_ret]
        simp only [ren_slice, renA, renCap, upd_self, Nat.add_zero, Nat.zero_add]
        rw [if_neg (by unfold capOpen; omega)]
      split at ha
      · cases ha
      · rename_i hc
        split at ha
        · rename_i z hzv
          split at ha
          · rename_i cells hf
            simp only [Option.some.injEq, Prod.mk.injEq] at ha
            obtain ⟨rfl, rfl⟩ := ha
            have hzf := flat_cells (zero_flat hz hzv)
            have hrf := range_cells (m := len * size) hzf
            obtain ⟨hv, hfr⟩ := fill_ren (β := β) (n := h.size) _ _ _ _ (fun p hp' => hp p (by simpa using hp')) (fun c hc => flat_vok c (hrf c hc)) hf
            rw [map_flat hrf] at hfr
            obtain ⟨h1, h2⟩ := newRow_run r (e := e) hv
            refine ⟨_, _, ?_, by simp, h2⟩
            unfold Instr.buildSlice
            have hu' : pureP P (underlying t) = some (.slice e) := by rw [pureP_underlying]; exact hu
            rw [run_pureP hu']
            simp only []
            rw [run_pureP hs, if_neg (by omega), if_neg (by omega)]
            rw [run_pureP hzv, run_pureP (pureP_pure _), parts_map, hfr]
            simp only []
            rw [run_then h1, run_ret]
            simp only [ren_slice, renA, renCap, upd_self, Nat.add_zero, Nat.zero_add]
            rw [if_neg (by omega)]
          · cases ha
        · cases ha
    · cases ha
  · cases ha

theorem makeSlice_good (hz : ZeroOk P) (r : Rel P CK β h w) {t : TypeId} {len cap v : Value} {h' : Hp}
    (ha : aMakeSlice P t len cap h = some (v, h')) : Good P CK β h w v h' (Instr.makeSlice t (ren β len) (ren β cap)) := by
  unfold aMakeSlice at ha
  split at ha
  · rename_i e k l k' c hu
    split at ha
    · rename_i i z hi hzv
      split at ha
      · rename_i hc
        simp only [Option.some.injEq, Prod.mk.injEq] at ha
        obtain ⟨rfl, rfl⟩ := ha
        obtain ⟨c1, c2, c3, c4⟩ := hc
        have hzf := flat_cells (zero_flat hz hzv)
        have hrf : ∀ x ∈ (if c.toNat * i.size = 0 then #[] else (Array.range (c.toNat * i.size)).map (z.cells[· % z.cells.size]!)), flatB x = true := by
          split
          · intro x hx; simp at hx
          · exact range_cells hzf
        obtain ⟨h1, h2⟩ := newRow_run r (e := e) fun x hx => flat_vok x (hrf x hx)
        rw [map_flat hrf] at h1 h2
        refine ⟨_, _, ?_, by simp, h2⟩
        unfold Instr.makeSlice
        have hu' : pureP P (underlying t) = some (.slice e) := by rw [pureP_underlying]; exact hu
        have hl : pureP P (asInt (ren β (.int k l))) = some l := by simp [asInt, asIntOf]
        have hcp : pureP P (asInt (ren β (.int k' c))) = some c := by simp [asInt, asIntOf]
        have hti : pureP P (typeInfo e) = some i := by rw [pureP_typeInfo]; exact hi
        have hsz : pureP P (sizeOf e) = some i.size := by rw [pureP_sizeOf, hi]; rfl
        have wrap_in : ∀ x : Int, 0 ≤ x → x ≤ 2 ^ 47 → IntKind.i64.wrap x = x := fun x h0 h1 => by
          rw [IntKind.wrap_i64]; omega
        have wl := wrap_in l (by omega) (by omega)
        have wc := wrap_in c (by omega) (by omega)
        rw [run_pureP hu']
        simp only []
        rw [run_pureP hl, run_pureP hcp, run_pureP hti]
        simp only [wl, wc]
        rw [if_neg (by simp; omega)]
        have hroom : ∀ m : Nat, pureP P (askRoom m) = some () := by intro m; unfold askRoom; split <;> rfl
        rw [run_pureP (hroom _), run_pureP hsz]
        by_cases e0 : c.toNat * i.size = 0
        · rw [if_pos e0] at h1 h2 ⊢
          rw [if_pos e0, run_pureP (pureP_pure _), e0]
          have he : (Array.range 0).map (fun x => (#[] : Array Value)[x % (#[] : Array Value).size]!) = #[] := by simp
          rw [he, run_then h1, run_ret]
          simp only [ren_slice, renA, renCap, upd_self, Nat.add_zero, Nat.zero_add]
          rw [if_neg (by unfold capOpen; omega)]
        · rw [if_neg e0] at h1 h2 ⊢
          rw [if_neg e0, run_pureP hzv, run_pureP (pureP_pure _), run_then h1, run_ret]
          simp only [ren_slice, renA, renCap, upd_self, Nat.add_zero, Nat.zero_add]
          rw [if_neg (by unfold capOpen; omega)]
      · cases ha
    · cases ha
  · cases ha

end
end Go.Abs
