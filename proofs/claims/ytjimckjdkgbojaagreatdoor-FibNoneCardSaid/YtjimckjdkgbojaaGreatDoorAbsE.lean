/- An evaluator for the model, and that it is sound (part AbsE): no statement of a law stands here. -/
import Derived.Test.YtjimckjdkgbojaaGreatDoorAbsD
import Derived.JoinedOf
import Derived.Handed
import Derived.LaidMore
import Derived.LaidLaws
import Derived.MakeChecks
import Derived.Stop.Joined
import Derived.LaidHandle
import Derived.OpenShut
set_option linter.all false
/- More operations by rewriting: equality of truth values, of pointers and slices with nil; strings' lengths. -/
namespace Go.Abs
set_option linter.all false
def tBool (P : Program) (t : TypeId) : Bool := match P.underlying t with
  | some .bool => true
  | _ => false
def tPtr (P : Program) (t : TypeId) : Bool := match P.underlying t with
  | some (.pointer _) => true
  | _ => false
def tSli (P : Program) (t : TypeId) : Bool := match P.underlying t with
  | some (.slice _) => true
  | _ => false
section
variable {P : Program} {call : CallF} {a : Act} {h : Hp} {ty t : TypeId}
theorem eqb_val {x y : Bool} : (x == y) = decide (x = y) := by cases x <;> cases y <;> rfl
theorem bin_eqb (hT : tBool P t = true) {x y : Bool} : aBin P .eql t (.bool x) (.bool y) = some (.bool (decide (x = y))) := by
  unfold tBool at hT
  split at hT
  · rename_i hu
    simp only [aBin, aEql, Op.equal, Op.maxDepth]
    unfold Op.equalIn
    simp [hu, eqb_val]
  · cases hT
theorem bin_neb (hT : tBool P t = true) {x y : Bool} : aBin P .neq t (.bool x) (.bool y) = some (.bool (!decide (x = y))) := by
  unfold tBool at hT
  split at hT
  · rename_i hu
    simp only [aBin, aEql, Op.equal, Op.maxDepth]
    unfold Op.equalIn
    simp [hu, eqb_val]
  · cases hT
theorem bin_eqnp (hT : tPtr P t = true) {x : Option Addr} : aBin P .eql t (.pointer x) (.pointer none) = some (.bool x.isNone) := by
  unfold tPtr at hT
  split at hT
  · rename_i hu
    simp only [aBin, aEql, Op.equal, Op.maxDepth]
    unfold Op.equalIn
    cases x <;> simp [hu]
  · cases hT
theorem bin_nenp (hT : tPtr P t = true) {x : Option Addr} : aBin P .neq t (.pointer x) (.pointer none) = some (.bool (!x.isNone)) := by
  unfold tPtr at hT
  split at hT
  · rename_i hu
    simp only [aBin, aEql, Op.equal, Op.maxDepth]
    unfold Op.equalIn
    cases x <;> simp [hu]
  · cases hT
theorem bin_eqns (hT : tSli P t = true) {x : Option Addr} {n c : Nat} : aBin P .eql t (.slice x n c) (.slice none 0 0) = some (.bool x.isNone) := by
  unfold tSli at hT
  split at hT
  · rename_i hu
    simp only [aBin, aEql, Op.equal, Op.maxDepth]
    unfold Op.equalIn
    cases x <;> simp [hu]
  · cases hT
theorem bin_nens (hT : tSli P t = true) {x : Option Addr} {n c : Nat} : aBin P .neq t (.slice x n c) (.slice none 0 0) = some (.bool (!x.isNone)) := by
  unfold tSli at hT
  split at hT
  · rename_i hu
    simp only [aBin, aEql, Op.equal, Op.maxDepth]
    unfold Op.equalIn
    cases x <;> simp [hu]
  · cases hT
end
end Go.Abs
/- Decoding what is handed in. -/
namespace Go.Abs
set_option linter.all false
section
variable {P : Program} {h : Hp} {d : Nat} {t : TypeId} {cs : List Value} {v : Value}
theorem lies_int {k : IntKind} (hu : P.underlying t = some (.int k)) (hl : Lies P h d t cs) : ∃ x, cs = [.int k x] ∧ k.min ≤ x ∧ x ≤ k.max := by
  cases d with
  | zero => exact hl.elim
  | succ d =>
    unfold Lies at hl
    rw [hu] at hl
    obtain ⟨x, rfl, hw⟩ := hl
    simp only [Lit.wf, Bool.and_eq_true, decide_eq_true_eq] at hw
    exact ⟨x, rfl, hw⟩
theorem lies_bool (hu : P.underlying t = some .bool) (hl : Lies P h d t cs) : ∃ b, cs = [.bool b] := by
  cases d with
  | zero => exact hl.elim
  | succ d =>
    unfold Lies at hl
    rw [hu] at hl
    exact hl
theorem lies_struct {fs : Array Field} (hu : P.underlying t = some (.struct fs)) (hl : Lies P h (d + 1) t cs) :
    ∃ parts : List (List Value), cs = parts.flatten ∧ parts.length = fs.size ∧ ∀ (i : Nat) (f : Field) (p : List Value), fs[i]? = some f → parts[i]? = some p → p.length = P.cellsOf f.type ∧ Lies P h d f.type p := by
  unfold Lies at hl
  rw [hu] at hl
  exact hl
theorem lies_array {n : Nat} {e : TypeId} (hu : P.underlying t = some (.array n e)) (hl : Lies P h (d + 1) t cs) :
    ∃ parts : List (List Value), cs = parts.flatten ∧ parts.length = n ∧ ∀ p ∈ parts, p.length = P.cellsOf e ∧ Lies P h d e p := by
  unfold Lies at hl
  rw [hu] at hl
  exact hl
theorem lies_slice {e : TypeId} (hu : P.underlying t = some (.slice e)) (hl : Lies P h (d + 1) t cs) :
    cs = [.slice none 0 0] ∨ ∃ (b len cap : Nat) (sp : Option Nat) (parts : List (List Value)), cs = [.slice (some ⟨b, 0, sp⟩) len cap] ∧ b < h.size ∧ len ≤ cap ∧ cap * P.bytesOf e ≤ reachBytes ∧ (cap ≠ 0 → sp = none ∧ h.get b = some (.cells parts.flatten.toArray false)) ∧
        parts.length = cap ∧ ∀ p ∈ parts, p.length = P.cellsOf e ∧ Lies P h d e p := by
  unfold Lies at hl
  rw [hu] at hl
  exact hl
theorem liesV_int {k : IntKind} (hu : P.underlying t = some (.int k)) (hl : LiesV P h d t v) : ∃ x, v = .int k x ∧ k.min ≤ x ∧ x ≤ k.max := by
  obtain ⟨cs, h1, h2⟩ := hl
  obtain ⟨x, rfl, hx⟩ := lies_int hu h1
  rcases h2 with ⟨h2, _⟩ | ⟨_, h2⟩
  · simp [tAgg, hu] at h2
  · simp at h2; exact ⟨x, h2.symm, hx⟩
theorem liesV_bool (hu : P.underlying t = some .bool) (hl : LiesV P h d t v) : ∃ x, v = .bool x := by
  obtain ⟨cs, h1, h2⟩ := hl
  obtain ⟨x, rfl⟩ := lies_bool hu h1
  rcases h2 with ⟨h2, _⟩ | ⟨_, h2⟩
  · simp [tAgg, hu] at h2
  · simp at h2; exact ⟨x, h2.symm⟩
theorem liesV_agg (ha : tAgg P t = some true) (hl : LiesV P h d t v) : ∃ cs : List Value, v = .agg cs.toArray ∧ Lies P h d t cs := by
  obtain ⟨cs, h1, h2⟩ := hl
  rcases h2 with ⟨_, h2⟩ | ⟨h2, _⟩
  · exact ⟨cs, h2, h1⟩
  · rw [ha] at h2; cases h2
theorem liesV_one (ha : tAgg P t = some false) (hl : LiesV P h d t v) : Lies P h d t [v] := by
  obtain ⟨cs, h1, h2⟩ := hl
  rcases h2 with ⟨h2, _⟩ | ⟨_, h2⟩
  · rw [ha] at h2; cases h2
  · rw [← h2]; exact h1
theorem liesAll_cons {ts : List TypeId} {vs : List Value} (hl : LiesAll P h d (t :: ts) vs) : ∃ v vs', vs = v :: vs' ∧ LiesV P h d t v ∧ LiesAll P h d ts vs' := by
  cases vs with
  | nil => exact hl.elim
  | cons v vs => exact ⟨v, vs, rfl, hl.1, hl.2⟩
theorem liesAll_nil {vs : List Value} (hl : LiesAll P h d [] vs) : vs = [] := by
  cases vs with
  | nil => rfl
  | cons v vs => exact hl.elim
end
theorem u64_bounds {x : Int} (h : IntKind.u64.min ≤ x ∧ x ≤ IntKind.u64.max) : 0 ≤ x ∧ x < 18446744073709551616 := by
  simp [IntKind.min, IntKind.max, IntKind.bits, IntKind.signed] at h; omega
theorem u32_bounds {x : Int} (h : IntKind.u32.min ≤ x ∧ x ≤ IntKind.u32.max) : 0 ≤ x ∧ x < 4294967296 := by
  simp [IntKind.min, IntKind.max, IntKind.bits, IntKind.signed] at h; omega
theorem u8_bounds {x : Int} (h : IntKind.u8.min ≤ x ∧ x ≤ IntKind.u8.max) : 0 ≤ x ∧ x < 256 := by
  simp [IntKind.min, IntKind.max, IntKind.bits, IntKind.signed] at h; omega
theorem i64_bounds {x : Int} (h : IntKind.i64.min ≤ x ∧ x ≤ IntKind.i64.max) : -9223372036854775808 ≤ x ∧ x < 9223372036854775808 := by
  simp [IntKind.min, IntKind.max, IntKind.bits, IntKind.signed] at h; omega
end Go.Abs
/- Loops: an invariant and a measure. -/
namespace Go.Abs
set_option linter.all false
def unrollL (f : Nat → Value) : Nat → Nat → List Value
  | 0, _ => []
  | n + 1, i => f i :: unrollL f n (i + 1)
theorem unrollL_eq (l : List Value) : ∀ (n i : Nat), i + n = l.length → unrollL (fun k => l.getD k undef) n i = l.drop i
  | 0, i, h => by simp [unrollL, List.drop_eq_nil_of_le (by omega : l.length ≤ i)]
  | n + 1, i, h => by
    rw [unrollL, unrollL_eq l n (i + 1) (by omega), List.drop_eq_getElem_cons (by omega : i < l.length)]
    congr 1
    simp [List.getD_eq_getElem?_getD, List.getElem?_eq_getElem (by omega : i < l.length)]
/-- The state of a call, temporary by temporary. -/
theorem act_eta {x : Act} {n : Nat} (hn : x.tmps.size = n) (hd : x.defers = []) : x = { tmps := (unrollL (fun k => x.tmps.getD k undef) n 0).toArray, defers := [] } := by
  obtain ⟨ts, ds⟩ := x
  simp only at hn hd
  subst hd
  have := unrollL_eq ts.toList n 0 (by simp [← hn])
  have e : (fun k => ts.toList.getD k undef) = fun k => ts.getD k undef := by funext k; simp [List.getD_eq_getElem?_getD, Array.getD_eq_getD_getElem?]
  rw [e] at this
  simp only [this, List.drop_zero, Array.toArray_toList]

section
variable {R : Type} {P : Program} {call : CallF} {draw : Array Oper → Act → Hp → (Act → Hp → Option R) → Option R} {ctx : Option Nat} {lf : Nat}
theorem loop_rule {body : Code} {K : Exit → Act → Hp → Option R} (Q : Option R → Prop) (I : Nat → Act → Hp → Prop)
    (step : ∀ (m n : Nat) (a : Act) (h : Hp), I m a h → (∀ (m' : Nat) (a' : Act) (h' : Hp), m' < m → I m' a' h' → Q (evalLoop (evalC P call draw ctx lf body) n a' h' K)) → Q (evalC P call draw ctx lf body a h (Kloop P call draw ctx lf body n K))) :
    ∀ (n m : Nat) (a : Act) (h : Hp), m < n → I m a h → Q (evalLoop (evalC P call draw ctx lf body) n a h K)
  | 0, m, a, h, hm, _ => by omega
  | n + 1, m, a, h, hm, hI => by
    rw [evalLoop_succ]
    exact step m n a h hI fun m' a' h' hm' hI' => loop_rule Q I step n m' a' h' (by omega) hI'
end
end Go.Abs
/- Slices of one's own: literals, append. -/
namespace Go.Abs
set_option linter.all false
section
variable {P : Program} {call : CallF} {a : Act} {h : Hp} {ty t : TypeId}
theorem op_append {xs : Array Operand} {ts : Array TypeId} : opVal P call (bare (.call { callee := .builtin .append, args := xs, argTypes := ts }) ty) a h = aAppend P ts (xs.map a.eval) h := by
  have h1 : aPure P a.eval (bare (.call { callee := .builtin .append, args := xs, argTypes := ts }) ty) = none := rfl
  have h2 : aHeap P a.eval (bare (.call { callee := .builtin .append, args := xs, argTypes := ts }) ty) h = (aAppend P ts (xs.map a.eval) h).map fun x => (.val x.1, x.2) := rfl
  unfold opVal
  rw [h1, h2]
  rcases aAppend P ts (xs.map a.eval) h with _ | ⟨v, h'⟩ <;> rfl
theorem op_copy {xs : Array Operand} {ts : Array TypeId} : opVal P call (bare (.call { callee := .builtin .copy, args := xs, argTypes := ts }) ty) a h = aCopy P ts (xs.map a.eval) h := by
  have h1 : aPure P a.eval (bare (.call { callee := .builtin .copy, args := xs, argTypes := ts }) ty) = none := rfl
  have h2 : aHeap P a.eval (bare (.call { callee := .builtin .copy, args := xs, argTypes := ts }) ty) h = (aCopy P ts (xs.map a.eval) h).map fun x => (.val x.1, x.2) := rfl
  unfold opVal
  rw [h1, h2]
  rcases aCopy P ts (xs.map a.eval) h with _ | ⟨v, h'⟩ <;> rfl
theorem op_clear {xs : Array Operand} {ts : Array TypeId} : opVal P call (bare (.call { callee := .builtin .clear, args := xs, argTypes := ts }) ty) a h = aClear P ts (xs.map a.eval) h := by
  have h1 : aPure P a.eval (bare (.call { callee := .builtin .clear, args := xs, argTypes := ts }) ty) = none := rfl
  have h2 : aHeap P a.eval (bare (.call { callee := .builtin .clear, args := xs, argTypes := ts }) ty) h = (aClear P ts (xs.map a.eval) h).map fun x => (.val x.1, x.2) := rfl
  unfold opVal
  rw [h1, h2]
  rcases aClear P ts (xs.map a.eval) h with _ | ⟨v, h'⟩ <;> rfl
/-- The length of a slice, or of a text. -/
def lenS : Value → Option Value
  | .slice _ n _ => some (goInt n)
  | _ => none
def lenT : Value → Option Value
  | .string s => some (goInt s.size)
  | _ => none
theorem lenS_slice {b : Option Addr} {n c : Nat} : lenS (.slice b n c) = some (.int .i64 n) := nd rfl
theorem lenT_string {s : ByteArray} : lenT (.string s) = some (.int .i64 s.size) := nd rfl
theorem op_lenS {x : Operand} {t : TypeId} (ht : tLen P t = some false) : opVal P call (bare (.call { callee := .builtin .len, args := #[x], argTypes := #[t] }) ty) a h = liftP (lenS (a.eval x)) h := by
  have key : aPure P a.eval (bare (.call { callee := .builtin .len, args := #[x], argTypes := #[t] }) ty) = lenS (a.eval x) := by
    simp only [aPure, aPureCall, List.map_toArray, List.map_cons, List.map_nil]
    unfold tLen at ht
    cases hu : P.underlying t with
    | none => simp [hu] at ht
    | some d =>
      cases hx : a.eval x <;> cases d <;> simp_all [Builtin.len_, lenS, goInt, flatOnly, flatB]
  unfold opVal
  rw [key]
  cases lenS (a.eval x) <;> rfl
theorem op_lenT {x : Operand} {t : TypeId} (ht : tLen P t = some true) : opVal P call (bare (.call { callee := .builtin .len, args := #[x], argTypes := #[t] }) ty) a h = liftP (lenT (a.eval x)) h := by
  have key : aPure P a.eval (bare (.call { callee := .builtin .len, args := #[x], argTypes := #[t] }) ty) = lenT (a.eval x) := by
    simp only [aPure, aPureCall, List.map_toArray, List.map_cons, List.map_nil]
    unfold tLen at ht
    cases hu : P.underlying t with
    | none => simp [hu] at ht
    | some d =>
      cases hx : a.eval x <;> cases d <;> simp_all [Builtin.len_, lenT, goInt, flatOnly, flatB]
  unfold opVal
  rw [key]
  cases lenT (a.eval x) <;> rfl

/-! ### Literals -/
theorem foldl_splice (off : Nat) : ∀ (l : List Value) (k : Nat) (cells : Array Value), (l.zipIdx k).foldl (fun cs (x : Value × Nat) => cs.setIfInBounds (off + x.2) x.1) cells = splice cells (off + k) l
  | [], _, _ => rfl
  | v :: l, k, cells => by
    simp only [List.zipIdx_cons, List.foldl_cons, splice]
    rw [foldl_splice off l (k + 1)]
    rfl
theorem foldl_arr (off : Nat) (cs cells : Array Value) : cs.zipIdx.foldl (fun acc (x : Value × Nat) => acc.setIfInBounds (off + x.2) x.1) cells = splice cells off cs.toList := by
  rw [← Array.foldl_toList, Array.toList_zipIdx]
  exact foldl_splice off cs.toList 0 cells
theorem fill_seq (s : Nat) : ∀ (vs : List Value) (i : Nat) (cells : Array Value), cells.size = (i + vs.length) * s → (∀ v ∈ vs, v.cells.size = s) →
    Instr.fill (fun i => some (i * s, s)) cells ((vs.zipIdx i).map fun x => (x.2, x.1)) = some (cells.extract 0 (i * s) ++ (vs.map fun v => v.cells).toArray.flatten)
  | [], i, cells, hs, _ => by
    have : cells.size = i * s := by simpa using hs
    simp [Instr.fill, ← this]
  | v :: vs, i, cells, hs, hv => by
    have hvs := hv v List.mem_cons_self
    have hsz : (i + (vs.length + 1)) * s = i * s + (vs.length * s + s) := by rw [Nat.add_mul, Nat.add_mul]; omega
    simp only [List.length_cons] at hs
    simp only [List.zipIdx_cons, List.map_cons, Instr.fill]
    have hc : (decide (v.cells.size ≠ s) || decide (i * s + v.cells.size > cells.size)) = false := by
      rw [Bool.or_eq_false_iff]; simp only [decide_eq_false_iff_not]
      omega
    rw [hc]
    simp only [Bool.false_eq_true, if_false]
    rw [foldl_arr, fill_seq s vs (i + 1) _ (by rw [splice_size, hs]; congr 1; omega) fun w hw => hv w (List.mem_cons_of_mem _ hw)]
    congr 1
    have e : (splice cells (i * s) v.cells.toList).extract 0 ((i + 1) * s) = cells.extract 0 (i * s) ++ v.cells := by
      apply Array.ext_getElem?
      intro j
      rw [Array.getElem?_extract, splice_get _ _ _ _ (by simp; omega), Array.getElem?_append, Array.getElem?_extract]
      simp only [splice_size, Array.length_toList, Array.size_extract, Nat.sub_zero, Nat.zero_add, Array.getElem?_toList]
      have h1 : (i + 1) * s = i * s + s := by rw [Nat.add_mul, Nat.one_mul]
      have h2 : min ((i + 1) * s) cells.size = i * s + s := by omega
      have h3 : min (i * s) cells.size = i * s := by omega
      rw [h2, h3]
      by_cases c1 : j < i * s
      · simp only [c1, if_true]
        rw [if_pos (by omega), if_neg (by omega)]
      · by_cases c2 : j < i * s + s
        · rw [if_pos c2, if_pos (by omega), if_neg c1]
        · rw [if_neg c2, if_neg c1, Array.getElem?_eq_none (by omega)]
    rw [e]
    apply Array.ext'
    simp
theorem build_lit {n s by' : Nat} {z : Array Value} (hT : tRow P t = some (s, by', z)) (vs : List Value) (hn : n = vs.length) (hv : ∀ v ∈ vs, v.cells.size = s) (h1 : n * s ≤ 2 ^ 24) (h2 : 0 < n * s) :
    aBuildSlice P t n (vs.zipIdx.map fun x => (x.2, x.1)).toArray h = some (.slice (some ⟨h.size, 0, none⟩) n n, h.push (some (.cells (vs.map fun v => v.cells).toArray.flatten true))) := by
  unfold tRow at hT
  unfold aBuildSlice
  cases hu : P.underlying t with
  | none => rw [hu] at hT; cases hT
  | some u =>
    rw [hu] at hT
    cases u <;> simp only [] at hT ⊢ <;> first | (cases hT; done) | skip
    rename_i e
    cases hi : P.info? e with
    | none => rw [hi] at hT; cases hT
    | some i =>
      rw [hi] at hT
      simp only [] at hT
      cases hz : i.zero with
      | none => rw [hz] at hT; cases hT
      | some zz =>
        rw [hz] at hT
        simp only [Option.some.injEq, Prod.mk.injEq] at hT
        obtain ⟨rfl, rfl, rfl⟩ := hT
        simp only [pureP_sizeOf, hi, Option.map_some, pureP_zeroValue, Option.bind_some, hz]
        have hne : n ≠ 0 := fun e => by rw [e] at h2; simp at h2
        have hn1 : n ≤ n * i.size := Nat.le_mul_of_pos_right n (Nat.pos_of_ne_zero fun e => by rw [e] at h2; simp at h2)
        rw [if_neg (by omega), if_neg (by unfold capOpen; omega)]
        have := fill_seq i.size vs 0 ((Array.range (n * i.size)).map (zz.cells[· % zz.cells.size]!)) (by simp [hn]) hv
        simp only [Nat.zero_mul] at this
        rw [this]
        simp

theorem build_nil {s by' : Nat} {z : Array Value} (hT : tRow P t = some (s, by', z)) : aBuildSlice P t 0 #[] h = some (.slice (some ⟨h.size, 0, none⟩) 0 0, h.push (some (.cells #[] true))) := by
  unfold tRow at hT
  unfold aBuildSlice
  cases hu : P.underlying t with
  | none => rw [hu] at hT; cases hT
  | some u =>
    rw [hu] at hT
    cases u <;> simp only [] at hT ⊢ <;> first | (cases hT; done) | skip
    rename_i e
    cases hi : P.info? e with
    | none => rw [hi] at hT; cases hT
    | some i => simp [hi]

/-! ### What a call has made for itself -/
def blkOf : Value → Option Nat
  | .slice (some a) _ _ => some a.block
  | _ => none
/-- A slice whose row goes on no further than its elements; of s cells each. -/
def SlAt (lo : Nat) (k : Hp) (v : Value) (s : Nat) (cells : List Value) : Prop :=
  (v = .slice none 0 0 ∧ cells = []) ∨ ∃ b n, v = .slice (some ⟨b, 0, none⟩) n (capOpen + s) ∧ lo ≤ b ∧ b < k.size ∧ cells.length = n * s ∧ k.get b = some (.cells cells.toArray true)
theorem SlAt.mono {lo : Nat} {k k' : Hp} {v : Value} {s : Nat} {cells : List Value} (hs : SlAt lo k v s cells) (hk : k.size ≤ k'.size) (hg : ∀ b, blkOf v = some b → k'.get b = k.get b) : SlAt lo k' v s cells := by
  rcases hs with hs | ⟨b, n, rfl, h1, h2, h3, h4⟩
  · exact .inl hs
  · exact .inr ⟨b, n, rfl, h1, by omega, h3, by rw [hg b rfl]; exact h4⟩
theorem SlAt.lt {lo : Nat} {k : Hp} {v : Value} {s : Nat} {cells : List Value} (hs : SlAt lo k v s cells) {b : Nat} (hb : blkOf v = some b) : lo ≤ b ∧ b < k.size := by
  rcases hs with ⟨rfl, _⟩ | ⟨b', n, rfl, h1, h2, h3, h4⟩
  · cases hb
  · cases hb; exact ⟨h1, h2⟩
theorem SlAt.nil {lo : Nat} {k : Hp} {s : Nat} : SlAt lo k (.slice none 0 0) s [] := .inl ⟨rfl, rfl⟩

theorem append_own {tx : TypeId} {s by' : Nat} {z : Array Value} (hT : tRow P t = some (s, by', z)) (hx : rowOrText (P.underlying tx) = true) {lo : Nat} {k : Hp} {v w : Value} {cells : List Value} {m : Nat} {new : Array Value}
    (hv : SlAt lo k v s cells) (hro : k.ro ≤ lo) (hlo : lo ≤ k.size) (hw1 : aLen w = some m) (hw2 : aFirst s m w k = some new) (hnew : new.size = m * s) (hone : new.toList.all oneC = true) (hm : 0 < m) (hs : 0 < s)
    (hb : (cells.length + m * s) * by' ≤ 2 ^ 47) (hb2 : cells.length + m < capOpen) :
    ∃ v' k', aAppend P #[t, tx] #[v, w] k = some (v', k') ∧ SlAt lo k' v' s (cells ++ new.toList) ∧ blkOf v' = some k.size ∧ k'.size = k.size + 1 ∧ k'.ro = k.ro ∧ ∀ c, c < k.size → blkOf v ≠ some c → k'.get c = k.get c := by
  unfold tRow at hT
  cases hu : P.underlying t with
  | none => rw [hu] at hT; cases hT
  | some u =>
    rw [hu] at hT
    cases u <;> simp only [] at hT <;> first | (cases hT; done) | skip
    rename_i e
    cases hi : P.info? e with
    | none => rw [hi] at hT; cases hT
    | some i =>
      rw [hi] at hT
      simp only [] at hT
      cases hz : i.zero with
      | none => rw [hz] at hT; cases hT
      | some zz =>
        rw [hz] at hT
        simp only [Option.some.injEq, Prod.mk.injEq] at hT
        obtain ⟨rfl, rfl, rfl⟩ := hT
        have hn : aNews P tx i.size w k = some (m, new) := by
          unfold aNews
          rw [if_pos hx, hw1]
          simp only [hw2]; rfl
        have hms : m ≤ m * i.size := Nat.le_mul_of_pos_right m hs
        rcases hv with ⟨rfl, rfl⟩ | ⟨b, n, rfl, h1, h2, h3, h4⟩
        · refine ⟨.slice (some ⟨k.size, 0, none⟩) m (capOpen + i.size), k.push (some (.cells new true)), ?_, .inr ⟨k.size, m, rfl, ?_, by simp, by simpa using hnew, by simp⟩, rfl, by simp, rfl, fun c hc _ => by rw [get_push_ne (by omega)]⟩
          · simp only [aAppend, hu, hi, hn, hz]
            have hb3 : m * i.bytes ≤ 2 ^ 47 := Nat.le_trans (Nat.mul_le_mul_right _ (by simpa using hms)) hb
            simp only [List.length_nil, Nat.zero_add] at hb2 hb
            rw [if_neg (by simp only [Nat.zero_add]; omega)]
            simp only [Nat.zero_add, and_self, if_true, aGrow]
            rw [if_neg (by omega)]
          · exact hlo
        · have hn1 : n ≤ n * i.size := Nat.le_mul_of_pos_right n hs
          refine ⟨.slice (some ⟨k.size, 0, none⟩) (n + m) (capOpen + i.size), (k.setB b none).push (some (.cells (cells.toArray ++ new) true)), ?_, .inr ⟨k.size, n + m, rfl, by omega, by simp, ?_, ?_⟩, rfl, by simp, rfl, fun c hc hne => ?_⟩
          · simp only [aAppend, hu, hi, hn, hz]
            have hb3 : (n + m) * i.bytes ≤ 2 ^ 47 := Nat.le_trans (Nat.mul_le_mul_right _ (by omega)) hb
            rw [if_neg (by omega)]
            have hkn : k.known ⟨b, 0, none⟩ i.size = n := by
              simp only [Hp.known, h4, List.size_toArray, Nat.zero_le, if_true, Nat.sub_zero, h3]
              exact Nat.mul_div_cancel _ hs
            have hrow : k.row ⟨b, 0, none⟩ (n * i.size) = some cells.toArray := by
              simp only [Hp.row, h4, List.size_toArray, h3, Nat.zero_add, Nat.le_refl, if_true]
              rw [← h3]; simp
            simp only [show ¬ capOpen + i.size < capOpen by omega, if_false, Nat.add_sub_cancel_left, ne_eq, not_true_eq_false, hkn, show ¬ n + m ≤ n by omega, h4, hrow]
            rw [if_pos ⟨by omega, hone⟩]
          · have : new.toList.length = m * i.size := by simpa using hnew
            rw [List.length_append, this, h3, Nat.add_mul]
          · rw [← Hp.size_setB k b none, get_push_self]
            simp
          · rw [get_push_ne (by simp; omega), get_set_ne (fun e => hne (by rw [e]; rfl))]
end
end Go.Abs
/- Cuts; elements of slices. -/
namespace Go.Abs
set_option linter.all false
section
variable {R : Type} {P : Program} {call : CallF} {draw : Array Oper → Act → Hp → (Act → Hp → Option R) → Option R} {ctx : Option Nat} {lf : Nat}
/-- Two pieces of code: what the first one comes to is all that the second one may know. -/
theorem cut_rule {x y : Code} {K : Exit → Act → Hp → Option R} {a : Act} {h : Hp} (Q : Option R → Prop) (J : Act → Hp → Prop) (h1 : ∀ a' h', J a' h' → Q (evalC P call draw ctx lf y a' h' K))
    (h2 : ∀ K' : Exit → Act → Hp → Option R, (∀ a' h', J a' h' → Q (K' .normal a' h')) → (∀ a' h', K' .ret a' h' = K .ret a' h') → (∀ id a' h', K' (.exit id) a' h' = K (.exit id) a' h') → Q (evalC P call draw ctx lf x a h K')) :
    Q (evalC P call draw ctx lf x a h (Kseq P call draw ctx lf y K)) :=
  h2 _ (fun a' h' hj => h1 a' h' hj) (fun _ _ => rfl) (fun _ _ _ => rfl)
end
theorem flat_len {α : Type} {f : α → List Value} {s : Nat} (hf : ∀ x, (f x).length = s) : ∀ l : List α, (l.flatMap f).length = l.length * s
  | [] => by simp
  | x :: l => by simp [flat_len hf l, hf, Nat.add_mul]; omega
theorem flat_drop {α : Type} {f : α → List Value} {s : Nat} (hf : ∀ x, (f x).length = s) : ∀ (l : List α) (i : Nat) (x : α), l[i]? = some x → ((l.flatMap f).drop (i * s)).take s = f x
  | [], i, x, h => by simp at h
  | y :: l, 0, x, h => by
    simp only [List.getElem?_cons_zero, Option.some.injEq] at h
    subst h
    simp only [Nat.zero_mul, List.drop_zero, List.flatMap_cons]
    rw [List.take_append_of_le_length (by rw [hf]; exact Nat.le_refl _), ← hf y, List.take_length]
  | y :: l, i + 1, x, h => by
    simp only [List.getElem?_cons_succ] at h
    rw [List.flatMap_cons, Nat.add_mul, Nat.one_mul, Nat.add_comm, ← List.drop_drop, List.drop_append_of_le_length (by rw [hf]; exact Nat.le_refl _)]
    rw [← hf y, List.drop_length, List.nil_append, hf y]
    exact flat_drop hf l i x h
end Go.Abs
namespace Go.Abs
theorem parts_list {α : Type} {f : α → List Value} {R : α → Prop} : ∀ parts : List (List Value), (∀ p ∈ parts, ∃ x, p = f x ∧ R x) → ∃ L : List α, parts = L.map f ∧ ∀ x ∈ L, R x
  | [], _ => ⟨[], rfl, by simp⟩
  | p :: ps, h => by
    obtain ⟨x, rfl, hx⟩ := h p List.mem_cons_self
    obtain ⟨L, rfl, hL⟩ := parts_list ps fun q hq => h q (List.mem_cons_of_mem _ hq)
    exact ⟨x :: L, rfl, fun y hy => by
      rcases List.mem_cons.1 hy with rfl | hy
      · exact hx
      · exact hL y hy⟩
end Go.Abs
/- Numbers, bit by bit; decoders with conditions. -/
namespace Go.Abs
set_option linter.all false
theorem wrapU64 (x : Int) : IntKind.u64.wrap x = x % 18446744073709551616 := by simp [IntKind.wrap, IntKind.bits, IntKind.signed]
theorem wrapU32 (x : Int) : IntKind.u32.wrap x = x % 4294967296 := by simp [IntKind.wrap, IntKind.bits, IntKind.signed]
theorem wrapU8 (x : Int) : IntKind.u8.wrap x = x % 256 := by simp [IntKind.wrap, IntKind.bits, IntKind.signed]
theorem wrapI64 (x : Int) : IntKind.i64.wrap x = if x % 18446744073709551616 ≥ 9223372036854775808 then x % 18446744073709551616 - 18446744073709551616 else x % 18446744073709551616 := by simp [IntKind.wrap, IntKind.bits, IntKind.signed]
theorem i64_in {x : Int} (h : -9223372036854775808 ≤ x) (h' : x < 9223372036854775808) : IntKind.i64.wrap x = x := by rw [wrapI64]; split <;> omega
theorem u64_in {x : Int} (h : 0 ≤ x) (h' : x < 18446744073709551616) : IntKind.u64.wrap x = x := by rw [wrapU64]; omega
theorem u32_in {x : Int} (h : 0 ≤ x) (h' : x < 4294967296) : IntKind.u32.wrap x = x := by rw [wrapU32]; omega
theorem u8_in {x : Int} (h : 0 ≤ x) (h' : x < 256) : IntKind.u8.wrap x = x := by rw [wrapU8]; omega
theorem ofInt_nat (w : Nat) (x : Int) : (BitVec.ofInt w x).toNat = (x % 2 ^ w).toNat := by
  rw [BitVec.toNat_ofInt]
  simp
theorem mask_nat (w m : Nat) (x : Int) (hm : m ≤ w) : (BitVec.ofInt w x &&& BitVec.ofInt w (2 ^ m - 1)).toNat = (x % 2 ^ m).toNat := by
  rw [BitVec.toNat_and, ofInt_nat, ofInt_nat]
  have h1 : (1 : Int) ≤ 2 ^ m := by
    have : (1 : Nat) ≤ 2 ^ m := Nat.one_le_two_pow
    exact_mod_cast this
  have h2 : (2 : Int) ^ m ≤ 2 ^ w := by exact_mod_cast Nat.pow_le_pow_right (by decide) hm
  have e1 : ((2 : Int) ^ m - 1) % 2 ^ w = 2 ^ m - 1 := Int.emod_eq_of_lt (by omega) (by omega)
  rw [e1]
  have e2 : ((2 : Int) ^ m - 1).toNat = 2 ^ m - 1 := by
    have : ((2 : Int) ^ m) = ((2 ^ m : Nat) : Int) := by simp
    rw [this]; omega
  rw [e2, Nat.and_two_pow_sub_one_eq_mod]
  have hd : ((2 : Int) ^ m) ∣ 2 ^ w := by
    obtain ⟨k, rfl⟩ := Nat.exists_eq_add_of_le hm
    exact ⟨2 ^ k, by rw [Int.pow_add]⟩
  have e3 : x % 2 ^ m = (x % 2 ^ w) % 2 ^ m := (Int.emod_emod_of_dvd x hd).symm
  rw [e3]
  have hp : 0 ≤ x % 2 ^ w := Int.emod_nonneg _ (by omega)
  generalize x % 2 ^ w = y at *
  obtain ⟨n, rfl⟩ := Int.eq_ofNat_of_zero_le hp
  have : ((2 : Int) ^ m) = ((2 ^ m : Nat) : Int) := by simp
  rw [this, ← Int.natCast_emod, Int.toNat_natCast, Int.toNat_natCast]
theorem and_i64_15 (x : Int) : ibAnd .i64 x 15 = x % 16 := by
  unfold ibAnd
  have := mask_nat 64 4 x (by decide)
  simp only [show ((2 : Int) ^ 4) = 16 by decide, show (16 : Int) - 1 = 15 by decide] at this
  show IntKind.i64.wrap _ = _
  rw [show IntKind.i64.bits = 64 from rfl, this, i64_in] <;> omega
theorem and_u32_1 (x : Int) : ibAnd .u32 x 1 = x % 2 := by
  unfold ibAnd
  have := mask_nat 32 1 x (by decide)
  simp only [show ((2 : Int) ^ 1) = 2 by decide, show (2 : Int) - 1 = 1 by decide] at this
  show IntKind.u32.wrap _ = _
  rw [show IntKind.u32.bits = 32 from rfl, this, u32_in] <;> omega
theorem and_u32_65535 (x : Int) : ibAnd .u32 x 65535 = x % 65536 := by
  unfold ibAnd
  have := mask_nat 32 16 x (by decide)
  simp only [show ((2 : Int) ^ 16) = 65536 by decide, show (65536 : Int) - 1 = 65535 by decide] at this
  show IntKind.u32.wrap _ = _
  rw [show IntKind.u32.bits = 32 from rfl, this, u32_in] <;> omega
theorem shr_nat {k : IntKind} {x : Int} {n : Nat} (hn : n ≤ k.bits) : ishr k x n = x / 2 ^ n := by
  unfold ishr
  have : min (n : Int).toNat k.bits = n := by simp; omega
  rw [this, Int.fdiv_eq_ediv_of_nonneg]
  exact Int.pow_nonneg (by decide)

def Dec1.sub {α : Type} (x : Dec1 α) (p : α → Prop) [DecidablePred p] : Dec1 {a : α // p a} where
  d v := match x.d v with
    | some a => if h : p a then some ⟨a, h⟩ else none
    | none => none
  e a := x.e a.1
  ok v a h := by
    cases hx : x.d v with
    | none => rw [hx] at h; cases h
    | some b =>
      rw [hx] at h
      simp only [] at h
      split at h
      · cases h; exact x.ok v _ hx
      · cases h
end Go.Abs
/- More on append. -/
namespace Go.Abs
set_option linter.all false
section
variable {P : Program} {t : TypeId}
theorem tRow_some {s by' : Nat} {z : Array Value} (hT : tRow P t = some (s, by', z)) : ∃ e i zz, P.underlying t = some (.slice e) ∧ P.info? e = some i ∧ i.zero = some zz ∧ i.size = s ∧ i.bytes = by' ∧ zz.cells = z := by
  unfold tRow at hT
  cases hu : P.underlying t with
  | none => rw [hu] at hT; cases hT
  | some u =>
    rw [hu] at hT
    cases u <;> simp only [] at hT <;> first | (cases hT; done) | skip
    rename_i e
    cases hi : P.info? e with
    | none => rw [hi] at hT; cases hT
    | some i =>
      rw [hi] at hT
      simp only [] at hT
      cases hz : i.zero with
      | none => rw [hz] at hT; cases hT
      | some zz =>
        rw [hz] at hT
        simp only [Option.some.injEq, Prod.mk.injEq] at hT
        exact ⟨e, i, zz, rfl, hi, hz, hT⟩
/-- Nothing is appended. -/
theorem append_nothing2 {tx : TypeId} {s by' : Nat} {z : Array Value} (hT : tRow P t = some (s, by', z)) (hx : rowOrText (P.underlying tx) = true) {k : Hp} {a : Addr} {n c : Nat} {w : Value} (hc : c < capOpen) (hn : n ≤ c) (hs : 0 < s) (hb : n * by' ≤ 2 ^ 47)
    (hw1 : aLen w = some 0) (hw2 : aFirst s 0 w k = some #[]) : aAppend P #[t, tx] #[.slice (some a) n c, w] k = some (.slice (some a) n c, k) := by
  obtain ⟨e, i, zz, hu, hi, hz, rfl, rfl, rfl⟩ := tRow_some hT
  have hnw : aNews P tx i.size w k = some (0, #[]) := by
    unfold aNews
    rw [if_pos hx, hw1]
    simp only [hw2]; rfl
  simp only [aAppend, hu, hi, hnw, hz]
  rw [if_neg (by simp only [Array.size_empty, Nat.zero_mul, Nat.add_zero]; omega)]
  simp only [hc, if_true, Nat.add_zero, hn, aInto, Array.size_empty]
/-- Appended to a slice whose room does not do. -/
theorem append_copy {tx : TypeId} {s by' : Nat} {z : Array Value} (hT : tRow P t = some (s, by', z)) (hx : rowOrText (P.underlying tx) = true) {k : Hp} {a : Addr} {n c m : Nat} {w : Value} {old new : Array Value} (hc : c < capOpen) (hn : c < n + m) (hs : 0 < s) (hb : (n + m) * by' ≤ 2 ^ 47) (hb2 : n + m < capOpen)
    (hw1 : aLen w = some m) (hw2 : aFirst s m w k = some new) (hnew : new.size = m * s) (hold : k.row a (n * s) = some old) :
    aAppend P #[t, tx] #[.slice (some a) n c, w] k = some (.slice (some ⟨k.size, 0, none⟩) (n + m) (capOpen + s), k.push (some (.cells (old ++ new) true))) := by
  obtain ⟨e, i, zz, hu, hi, hz, rfl, rfl, rfl⟩ := tRow_some hT
  have hnw : aNews P tx i.size w k = some (m, new) := by
    unfold aNews
    rw [if_pos hx, hw1]
    simp only [hw2]; rfl
  simp only [aAppend, hu, hi, hnw, hz]
  rw [if_neg (by omega)]
  simp only [hc, if_true]
  rw [if_neg (by omega), hold]
  rfl
end
end Go.Abs
namespace Go.Abs
theorem nc0 : ((0 : Nat) : Int) = 0 := nd rfl
theorem nc1 : ((1 : Nat) : Int) = 1 := nd rfl
theorem nc2 : ((2 : Nat) : Int) = 2 := nd rfl
theorem nc3 : ((3 : Nat) : Int) = 3 := nd rfl
theorem nc4 : ((4 : Nat) : Int) = 4 := nd rfl
end Go.Abs
namespace Go.Abs
/-- Nothing is appended to a slice whose row may go on. -/
theorem append_nothing3 {P : Program} {t tx : TypeId} {s by' : Nat} {z : Array Value} (hT : tRow P t = some (s, by', z)) (hx : rowOrText (P.underlying tx) = true) {k : Hp} {b n : Nat} {w : Value} {cs : Array Value} {own : Bool} (hg : k.get b = some (.cells cs own)) (hcs : cs.size = n * s) (hs : 0 < s) (hb : n * by' ≤ 2 ^ 47) (hn : n < capOpen)
    (hw1 : aLen w = some 0) (hw2 : aFirst s 0 w k = some #[]) : aAppend P #[t, tx] #[.slice (some ⟨b, 0, none⟩) n (capOpen + s), w] k = some (.slice (some ⟨b, 0, none⟩) n (capOpen + s), k) := by
  obtain ⟨e, i, zz, hu, hi, hz, rfl, rfl, rfl⟩ := tRow_some hT
  have hnw : aNews P tx i.size w k = some (0, #[]) := by
    unfold aNews
    rw [if_pos hx, hw1]
    simp only [hw2]; rfl
  have hkn : k.known ⟨b, 0, none⟩ i.size = n := by
    simp only [Hp.known, hg, Nat.zero_le, if_true, Nat.sub_zero, hcs]
    exact Nat.mul_div_cancel _ hs
  simp only [aAppend, hu, hi, hnw, hz]
  rw [if_neg (by simp only [Array.size_empty, Nat.zero_mul, Nat.add_zero]; omega)]
  simp only [show ¬ capOpen + i.size < capOpen by omega, if_false, Nat.add_sub_cancel_left, ne_eq, not_true_eq_false, Nat.add_zero, hkn, Nat.le_refl, if_true, aInto, Array.size_empty]
end Go.Abs
/- Rounds of a range over a function, by rewriting; cells of strings. -/
namespace Go.Abs
set_option linter.all false
section
variable {P : Program} {intr : Intr} {n l : Nat} {h : Hp} {a : Act} {st : LoopState} {pd : Option Code} {tm : Array Value} {ps : Array Tmp} {asg body : Code} {d : Nat} {args : Array Value}
/-- Behind the body of a round. -/
def Kbody (l : Nat) : Exit → Act → Hp → Option (Value × Hp) := fun e _ h => match e with
  | .normal => endR l none h
  | .ret => endR l (some .ret) h
  | .exit id => endR l (some (.exit id)) h
  | _ => none
/-- Behind the taking over of what a round is told. -/
def Kasg (P : Program) (intr : Intr) (n l : Nat) (body : Code) : Exit → Act → Hp → Option (Value × Hp) := fun e a h => match e with
  | .normal => match beginR l h with
    | some h => evalC P (evalV P intr n) (evalDraw P (evalV P intr n)) (some l) n body a h (Kbody l)
    | none => none
  | _ => none
theorem evalV_yield {asg' body' : Code} (hg : h.get l = some (.loop st pd tm ps asg body d)) (hs : args.size = ps.size) (ea : asg = asg') (eb : body = body') :
    evalV P intr (n + 1) (.yield l) args h = evalC P (evalV P intr n) (evalDraw P (evalV P intr n)) (some l) n asg' { tmps := (ps.zip args).foldl (fun tmps x => tmps.setIfInBounds x.1 x.2) tm, defers := [] } h (Kasg P intr n l body') := by
  subst ea eb
  simp only [evalV, hg]
  rw [if_neg (by omega)]
  congr 1
theorem Kasg_normal {body' : Code} (hg : h.get l = some (.loop .ready pd tm ps asg body d)) (hr : h.ro ≤ l) :
    Kasg P intr n l body' .normal a h = evalC P (evalV P intr n) (evalDraw P (evalV P intr n)) (some l) n body' a (h.setB l (some (.loop .busy pd tm ps asg body d))) (Kbody l) := by
  simp only [Kasg, beginR, hg, if_pos hr]
theorem Kbody_normal (hg : h.get l = some (.loop st pd tm ps asg body d)) (hr : h.ro ≤ l) :
    Kbody l .normal a h = some (.bool true, h.setB l (some (.loop .ready none tm ps asg body d))) := by
  simp only [Kbody, endR, hg, if_pos hr]; rfl
theorem Kbody_ret (hg : h.get l = some (.loop st pd tm ps asg body d)) (hr : h.ro ≤ l) :
    Kbody l .ret a h = some (.bool false, h.setB l (some (.loop .done (some .ret) tm ps asg body d))) := by
  simp only [Kbody, endR, hg, if_pos hr]; rfl
theorem Kbody_exit {id : Nat} (hg : h.get l = some (.loop st pd tm ps asg body d)) (hr : h.ro ≤ l) :
    Kbody l (.exit id) a h = some (.bool false, h.setB l (some (.loop .done (some (.exit id)) tm ps asg body d))) := by
  simp only [Kbody, endR, hg, if_pos hr]; rfl

variable {R : Type} {call : CallF} {draw : Array Oper → Act → Hp → (Act → Hp → Option R) → Option R} {lf : Nat} {K : Exit → Act → Hp → Option R} {f : Operand}
/-- The heap in which the rounds of a range over a function run. -/
def enterH (h : Hp) (tm : Array Value) (ps : Array Tmp) (asg body : Code) : Hp := (h.push (some (.defd false))).push (some (.loop .ready none tm ps asg body h.size))
theorem range_rule (Q : Option R → Prop) (H : ∀ asg' body', asg' = asg → body' = body → ∃ g args v h2 e h3, aTarget P (a.eval f) #[.func (.yield (h.size + 1)) #[] #[]] = some (.fn g, args) ∧ call (.fn g) args (enterH h a.tmps ps asg' body') = some (v, h2) ∧ leaveL (h.size + 1) h2 = some (e, h3) ∧
    Q (K e { a with defers := { target := .collected h.size, args := #[] } :: a.defers } h3)) : Q (evalC P call draw none lf (.rangeFunc f ps asg body) a h K) := by
  obtain ⟨g, args, v, h2, e, h3, h1, h4, h5, h6⟩ := H asg body rfl rfl
  unfold enterH at h4
  simp only [evalC, enterL, h1, h4, h5]
  exact h6
theorem leave_normal (hg : h.get l = some (.loop st none tm ps asg body d)) (hs : st ≠ .busy) (hr : h.ro ≤ l) : leaveL l h = some (.normal, h.setB l (some (.loop .exhausted none tm ps asg body d))) := by
  simp only [leaveL, hg]
  rw [if_neg (by simp [hs, hr])]
theorem leave_exit {id : Nat} (hg : h.get l = some (.loop st (some (.exit id)) tm ps asg body d)) (hs : st ≠ .busy) (hr : h.ro ≤ l) : leaveL l h = some (.exit id, h.setB l (some (.loop .exhausted (some (.exit id)) tm ps asg body d))) := by
  simp only [leaveL, hg]
  rw [if_neg (by simp [hs, hr])]
theorem leave_ret (hg : h.get l = some (.loop st (some .ret) tm ps asg body d)) (hs : st ≠ .busy) (hr : h.ro ≤ l) : leaveL l h = some (.ret, h.setB l (some (.loop .exhausted (some .ret) tm ps asg body d))) := by
  simp only [leaveL, hg]
  rw [if_neg (by simp [hs, hr])]
/-- A mark is taken on the way out. -/
theorem finR_mark {dc : DCall} {rs : Array ResultVar} {ts : Array Value} {r : Nat} {ds : List Deferred} (hg : h.get r = some (.defd false)) (hr : h.ro ≤ r) :
    finR P dc rs { tmps := ts, defers := { target := .collected r, args := #[] } :: ds } h = finR P dc rs { tmps := ts, defers := ds } (h.setB r (some (.defd true))) := by
  simp only [finR, takeMarks, hg, if_pos hr]

/-- A string's byte. -/
def strAt (s : ByteArray) (i : Int) : Option Value := match (if 0 ≤ i then s[i.toNat]? else none) with
  | some b => some (.int .u8 b.toNat)
  | none => none
def tStr (P : Program) (t : TypeId) : Bool := match P.underlying t with
  | some .string => true
  | _ => false
theorem idx_str {t : TypeId} {s : ByteArray} {k : IntKind} {i : Int} {v : Value} (ht : tStr P t = true) (hv : strAt s i = some v) : pureP P (Instr.index t (.string s) (.int k i)) = some v := by
  have hu : P.underlying t = some .string := by
    unfold tStr at ht; split at ht
    · assumption
    · cases ht
  simp only [Instr.index, asIntOf, pureP_bind, pureP_underlying, hu]
  unfold strAt at hv
  rw [show pureP P (pure (k, i)) = some (k, i) from rfl]
  simp only [Option.bind_some]
  revert hv
  generalize (if 0 ≤ i then s[i.toNat]? else none) = r
  intro hv
  cases r with
  | none => cases hv
  | some b => cases hv; rfl
end
end Go.Abs
/- A law's row over variables that lie as the text lays them. -/
namespace Go.Abs
set_option linter.all false
section
variable {P : Program} {β : Bm} {h : Hp} {w : World} {intr : Intr}
/-- The heap of which one variable is known. -/
def laidHp (P : Program) (g : Nat) (cs : Array Value) : Hp := (bareHp P).setB g (some (.cells cs false))
def laidBm (g : Nat) (n : Nat) : Bm := fun b => if b = g then ⟨b, 0, n⟩ else ⟨b, 0, 0⟩
theorem laid_ro {CK : Code → Prop} {g : Nat} {cs : Array Value} {e : TypeId} {fz : Nat × Nat} (hg : g < P.globals.size) (ho : w.heap[g]? = some (.cells cs e fz)) (hf : ∀ v ∈ cs, flatB v = true) : RO P CK (laidBm g cs.size) (laidHp P g cs) w := by
  have hget : ∀ b z, (laidHp P g cs).get b = some z → b = g ∧ z = .cells cs false := by
    intro b z hb
    unfold laidHp at hb
    rw [Hp.get_setB] at hb
    split at hb
    · cases hb; exact ⟨by assumption, rfl⟩
    · cases hb
  refine ⟨⟨fun b hb => ?_, ?_, fun b y hy => ?_, fun b b' ho' => ?_, fun b hb => ?_, ?_⟩, fun c hc => ?_⟩
  · unfold laidBm; split <;> exact ⟨rfl, rfl⟩
  · exact Nat.le_refl _
  · obtain ⟨rfl, rfl⟩ := hget b y hy
    have e1 : laidBm b cs.size b = ⟨b, 0, cs.size⟩ := by unfold laidBm; rw [if_pos rfl]
    rw [e1]
    refine ⟨_, ho, cs, e, fz, rfl, fun i v hv => ?_, Nat.le_refl _, fun h => by cases h⟩
    have := hf v (Array.mem_of_getElem? hv)
    refine ⟨?_, flat_vok _ this⟩
    rw [flat_ren _ this, Nat.zero_add]; exact hv
  · obtain ⟨z, hz, hz2⟩ := ho'
    obtain ⟨_, rfl⟩ := hget _ _ hz
    cases hz2
  · obtain ⟨z, hz⟩ := Option.ne_none_iff_exists'.1 hb
    obtain ⟨rfl, _⟩ := hget _ _ hz
    exact hg
  · exact Nat.le_refl _
  · obtain ⟨z, hz, hz2⟩ := hc
    obtain ⟨_, rfl⟩ := hget _ _ hz
    cases hz2
theorem law_lifted_laid {C : Checked} {f : FuncId} {fn : Func} {s : ChangeSpec} {d : Nat} {os : Os} {H : Type} {enc : TypeId × Value → H} (own : ownKnob C.prog.godebug = none) (started : os.Started) (B : Base C.prog) (hi : IntrOk C.prog (CKb C.prog) intr)
    (laid : laidOutB C.prog = true) (noInit : C.prog.inits.idxOf? f = none) (hfn : C.prog.funcs[f]? = some fn) (hvars : s.vars = [])
    (hspec : ∀ (H : Type) (ds : List (DataW H)), ds.length = fn.params.toList.length → (s.fn H ds).results = [.lit (.bool true)] ∧ (s.fn H ds).args = ds ∧ (s.fn H ds).vars = []) (hlaw : lawB C.prog d fn = true)
    (lay : List (String × DataW Unit)) (S : Hp → Prop) (hS : ∀ h h', h.size ≤ h'.size → (∀ b, b < h.size → h'.get b = h.get b) → S h → S h') (start : ∀ W, laidMetH C.prog lay W → ∃ β h, RO C.prog (CKb C.prog) β h W ∧ S h)
    (witness : ∃ (w : World) (tape : Tape) (i : Input), w.os = os ∧ (w.forCall tape i).Shaped C.prog ∧ i.vars = [] ∧ Input.okWide C.prog (w.forCall tape i) .any w.heap.size f i ∧
      ((s.pre enc C.prog fn [] false (w.forCall tape i).memory i.args ∧ laidMetH C.prog lay (w.forCall tape i).memory) ∧ sizedMet enc C.prog fn (OpenSpec.ofChange s) false (w.forCall tape i).memory i.args) ∧ ({} : Assume).holds C.prog (lone (Frame.enter C.prog f i.args .normal) [] (w.forCall tape i)))
    (walk : ∀ (h : Hp) (as : List Value), h.ro = h.size → (∀ a ∈ as, vok h.size a) → LiesAll C.prog h d fn.params.toList as → S h → ∃ n h', evalV C.prog intr n (.fn f) as.toArray h = some (.bool true, h')) :
    ReturnsInHanded {} C os f .any (fun w args => (s.pre enc C.prog fn [] false w args ∧ laidMetH C.prog lay w) ∧ sizedMet enc C.prog fn (OpenSpec.ofChange s) false w args) (s.post enc C.prog fn false true false false) := by
  refine returnsInHanded_of_change_and (C := C) (X := fun w _ => laidMetH C.prog lay w) (fun _ _ _ hh h => h.of_heap hh) own started noInit hfn witness ?_
  intro W base args ds gs before hval hW _ hsz hlay _
  obtain ⟨βs, hs, rs, hSs⟩ := start W hlay
  have hW' := hW
  have hlt := DataW.Whole.lt hW
  simp only [lawB, Bool.and_eq_true, List.all_eq_true, decide_eq_true_eq] at hlaw
  obtain ⟨hpar, hres⟩ := hlaw
  obtain ⟨p, q, hA, hV, rfl, hfz, hnd⟩ := hW
  rw [hvars] at hV
  obtain ⟨rfl, rfl⟩ : gs = [] ∧ q = [] := by cases gs <;> simp [DataW.TrodVars] at hV; exact ⟨rfl, hV⟩
  rw [List.append_nil] at hW'
  have hlen := trodAll_length hA
  obtain ⟨β, h, as, r, xs, e, hk, hL⟩ := laid_args (CK := CKb C.prog) (β := βs) (h := hs) (d := d) (fun t ht => (hpar t ht).1) (fun j t v hj hv => ⟨base, hval j t v (by simpa using hj) (by simpa using hv)⟩) hA
    (fun n hn => by
      have := List.all_eq_true.1 hsz n (by
        rw [show s.plain.varTypes C.prog = [] by simp [DataSpec.varTypes, ChangeSpec.plain, hvars]]
        simpa using hn)
      simpa using this) rs
  let h0 : Hp := { h with ro := h.size }
  have r0 : Rel C.prog (CKb C.prog) β h0 W := ⟨r.rel.glob, r.rel.gsize, r.rel.blk, r.rel.inj, r.rel.lt, Nat.le_refl _⟩
  have hL0 : LiesAll C.prog h0 d fn.params.toList as := by
    have x0 : Ext β h β h0 := ⟨Nat.le_refl _, fun _ _ => rfl, fun _ _ => rfl⟩
    clear e hk hpar hres hspec witness walk hlen hA hval hsz
    generalize fn.params.toList = ts at hL ⊢
    induction ts generalizing as with
    | nil =>
      cases as with
      | nil => trivial
      | cons a as => exact hL.elim
    | cons t ts ih =>
      cases as with
      | nil => exact hL.elim
      | cons a as => exact ⟨hL.1.mono x0, ih as hL.2⟩
  obtain ⟨n, h', he⟩ := walk h0 as rfl hk hL0 (hS hs h0 xs.size xs.get hSs)
  have ha : as.toArray.map (ren β) = args := by
    apply Array.ext'
    rw [e]; simp
  have key := law_calls B hi he r0 (by simpa using hk) (fun c _ => r.no c)
  rw [ha] at key
  refine key.mono fun e W' ⟨he, bel⟩ => ?_
  subst he
  obtain ⟨s1, s2, s3⟩ := hspec H ds hlen.2
  have hrt : ∃ t, fn.resultTypes = #[t] ∧ C.prog.underlying t = some .bool := by
    match hh : fn.resultTypes.toList, hres with
    | [t], hres =>
      simp only [] at hres
      refine ⟨t, by rw [← Array.toList_inj]; simpa using hh, ?_⟩
      split at hres
      · assumption
      · cases hres
  obtain ⟨tb, hrt, hub⟩ := hrt
  refine ⟨_, rfl, ds, [], p, [], p, [], hW', ?_, ?_, ?_, bel.frame _, fun h => by cases h⟩
  · rw [List.append_nil, s1, hrt]
    exact ChangeShapes.trodAll_mk1 (RowKit.shut_bool hub _)
  · rw [List.append_nil, s2]
    exact below_trodAll laid bel (fun t ht => (hpar t ht).2) hA fun x hx => hlt x (by simpa using hx)
  · rw [List.append_nil, s3, hvars]
    exact rfl
end
end Go.Abs
/- Data and how they lie in the heap: numbers, structs, slices, pointers; frames. -/
namespace Go.Abs
set_option linter.all false
/-- All addresses in a value are of blocks that p lets by. -/
def vin (p : Nat → Prop) (v : Value) : Prop := vokB (fun b => @decide (p b) (Classical.propDecidable _)) v = true
theorem vin_mono {p q : Nat → Prop} (hpq : ∀ b, p b → q b) {v : Value} (h : vin p v) : vin q v :=
  vokB_mono (fun b hb => by simp at hb ⊢; exact hpq b hb) v h
theorem vin_vok {p : Nat → Prop} {n : Nat} {v : Value} (h : vin p v) (hn : ∀ b, p b → b < n) : vok n v := vok_of_vokB (fun b hb => by simp at hb; exact hn b hb) v h
theorem vin_p {p : Nat → Prop} {q : Nat → Bool} {v : Value} (h : vin p v) (hp : ∀ b, p b → q b = true) : vokB q v = true :=
  vokB_mono (fun b hb => by simp at hb; exact hp b hb) v h
theorem vin_slice {p : Nat → Prop} {b o n c : Nat} {sp : Option Nat} : vin p (.slice (some ⟨b, o, sp⟩) n c) ↔ p b := by simp [vin]
theorem vin_ptr {p : Nat → Prop} {b o : Nat} {sp : Option Nat} : vin p (.pointer (some ⟨b, o, sp⟩)) ↔ p b := by simp [vin]
theorem vin_flat {p : Nat → Prop} {v : Value} (h : flatB v = true) : vin p v := vokB_of_vok (n := 0) (fun b hb => by omega) v (flat_vok v h)
@[simp] theorem vin_int {p : Nat → Prop} {k : IntKind} {x : Int} : vin p (.int k x) := by simp [vin, vokB]
@[simp] theorem vin_bool {p : Nat → Prop} {x : Bool} : vin p (.bool x) := by simp [vin, vokB]
@[simp] theorem vin_string {p : Nat → Prop} {x : ByteArray} : vin p (.string x) := by simp [vin, vokB]
@[simp] theorem vin_nil {p : Nat → Prop} : vin p (.pointer none) := by simp [vin, vokB]
@[simp] theorem vin_nilS {p : Nat → Prop} {n c : Nat} : vin p (.slice none n c) := by simp [vin, vokB]

/-- The blocks of cells that p lets by stand in another heap as they were. -/
def Fr (p : Nat → Prop) (h h' : Hp) : Prop := ∀ (b : Nat) (cs : Array Value) (ow : Bool), p b → h.get b = some (.cells cs ow) → (∀ c ∈ cs, vin p c) → h'.get b = some (.cells cs ow)
theorem Fr.refl {p : Nat → Prop} (h : Hp) : Fr p h h := fun b cs ow _ hb _ => hb
theorem Fr.of {p : Nat → Prop} {h h' : Hp} (hg : ∀ b, p b → h'.get b = h.get b) : Fr p h h' := fun b cs ow h1 hb _ => by rw [hg b h1]; exact hb
theorem Fr.trans {p : Nat → Prop} {h h' h'' : Hp} (a : Fr p h h') (b : Fr p h' h'') : Fr p h h'' := fun c cs ow h1 hb hv => b c cs ow h1 (a c cs ow h1 hb hv) hv
theorem Fr.sub {p q : Nat → Prop} {h h' : Hp} (a : Fr p h h') (hq : ∀ b, q b → p b) : Fr q h h' := fun c cs ow k1 hb hv =>
  a c cs ow (hq c k1) hb fun v hv' => vin_mono hq (hv v hv')
theorem Keeps.fr {p : Nat → Prop} {h h' : Hp} (k : Keeps h h') (hp : ∀ b, p b → b < h.size) : Fr p h h' := Fr.of fun b hb => k.get b (hp b hb)
theorem Keeps.trans {h h' h'' : Hp} (a : Keeps h h') (b : Keeps h' h'') : Keeps h h'' := ⟨Nat.le_trans a.size b.size, fun c hc => by rw [b.get c (by have := a.size; omega), a.get c hc]⟩

/-- How a datum of a kind lies in cells: with blocks that may be written (o), that p lets by. -/
structure Rp (α : Type) where
  len : Nat
  r : Bool → (Nat → Prop) → Hp → List Value → α → Prop
  rlen : ∀ {o p h cs x}, r o p h cs x → cs.length = len
  uniq : ∀ {o p o' p' h cs x y}, r o p h cs x → r o' p' h cs y → x = y
  mono : ∀ {o p o' p' h h' cs x}, r o p h cs x → (∀ b, p b → p' b) → (o' = true → o = true) → Fr p h h' → r o' p' h' cs x
  rvin : ∀ {o p h cs x}, r o p h cs x → ∀ c ∈ cs, vin p c
  rone : ∀ {o p h cs x}, r o p h cs x → ∀ c ∈ cs, oneC c = true
  rflat : ∀ {o p o' p' h h' cs x}, r o p h cs x → (∀ c ∈ cs, flatB c = true) → r o' p' h' cs x

def Rp.int (k : IntKind) : Rp Int where
  len := 1
  r o p h cs x := cs = [.int k x] ∧ k.min ≤ x ∧ x ≤ k.max
  rlen h := by rw [h.1]; rfl
  uniq h h' := by obtain ⟨rfl, _⟩ := h; obtain ⟨h', _⟩ := h'; simp at h'; exact h'
  mono h _ _ _ := h
  rvin h := by obtain ⟨rfl, _⟩ := h; simp
  rone h := by obtain ⟨rfl, _⟩ := h; simp [oneC]
  rflat h _ := h
def Rp.bool : Rp Bool where
  len := 1
  r o p h cs x := cs = [.bool x]
  rlen h := by rw [h]; rfl
  uniq h h' := by subst h; simp at h'; exact h'
  mono h _ _ _ := h
  rvin h := by subst h; simp
  rone h := by subst h; simp [oneC]
  rflat h _ := h
def Rp.unit : Rp Unit where
  len := 0
  r o p h cs x := cs = []
  rlen h := by rw [h]; rfl
  uniq _ _ := rfl
  mono h _ _ _ := h
  rvin h := by subst h; simp
  rone h := by subst h; simp
  rflat h _ := h

/-- What a call has made, in the heap behind it. -/
theorem Rp.fresh {α : Type} {E : Rp α} {o : Bool} {p : Nat → Prop} {k m : Hp} {ds : List Value} {x : α} (r : E.r o p k ds x) (hf : flatB (.agg ds.toArray) = false → Fr p k m) : E.r o p m ds x := by
  cases hb : flatB (.agg ds.toArray) with
  | false => exact E.mono r (fun _ h => h) id (hf hb)
  | true =>
    rw [flatB_agg, Array.all_eq_true_iff_forall_mem] at hb
    exact E.rflat r fun c hc => hb c (by simpa using hc)
theorem Rp.fresh1 {α : Type} {E : Rp α} {o : Bool} {p : Nat → Prop} {k m : Hp} {v : Value} {x : α} (r : E.r o p k [v] x) (hf : flatB v = false → Fr p k m) : E.r o p m [v] x := by
  cases hb : flatB v with
  | false => exact E.mono r (fun _ h => h) id (hf hb)
  | true => exact E.rflat r fun c hc => by simp at hc; subst hc; exact hb
/-- The cells of a type that bears no address. -/
def scOk : Sc → Value → Prop
  | .int k, .int k' x => k' = k ∧ k.min ≤ x ∧ x ≤ k.max
  | .bool, .bool _ => True
  | _, _ => False
def flatOk : List Sc → List Value → Prop
  | [], [] => True
  | s :: ss, v :: vs => scOk s v ∧ flatOk ss vs
  | _, _ => False
theorem flatOk.len : ∀ {k : List Sc} {cs : List Value}, flatOk k cs → cs.length = k.length
  | [], [], _ => rfl
  | [], _ :: _, h => h.elim
  | _ :: _, [], h => h.elim
  | s :: k, v :: cs, h => by simp [flatOk.len h.2]
theorem flatOk.mem : ∀ {k : List Sc} {cs : List Value}, flatOk k cs → ∀ c ∈ cs, flatB c = true ∧ oneC c = true
  | [], [], _ => by simp
  | [], _ :: _, h => h.elim
  | _ :: _, [], h => h.elim
  | s :: k, v :: cs, h => by
    intro c hc
    rcases List.mem_cons.1 hc with rfl | hc
    · have := h.1
      cases s <;> cases c <;> simp [scOk] at this <;> simp [flatB, oneC]
    · exact flatOk.mem h.2 c hc
theorem flatOk.append : ∀ {k l : List Sc} {cs ds : List Value}, flatOk k cs → flatOk l ds → flatOk (k ++ l) (cs ++ ds)
  | [], l, [], ds, _, h => h
  | [], _, _ :: _, _, h, _ => h.elim
  | _ :: _, _, [], _, h, _ => h.elim
  | s :: k, l, v :: cs, ds, h, h' => ⟨h.1, h.2.append h'⟩
theorem cellsEq_ok : ∀ {k : List Sc} {xs ys : List Value}, flatOk k xs → flatOk k ys → ∃ b, cellsEq k xs ys = some b ∧ (b = true ↔ xs = ys)
  | [], [], [], _, _ => ⟨true, rfl, by simp⟩
  | [], _ :: _, _, h, _ => h.elim
  | [], [], _ :: _, _, h => h.elim
  | _ :: _, [], _, h, _ => h.elim
  | _ :: _, _ :: _, [], _, h => h.elim
  | s :: k, x :: xs, y :: ys, h, h' => by
    obtain ⟨b, e, hb⟩ := cellsEq_ok h.2 h'.2
    obtain ⟨c, e', hc⟩ : ∃ c, scEq s x y = some c ∧ (c = true ↔ x = y) := by
      have h1 := h.1; have h2 := h'.1
      cases s <;> cases x <;> simp [scOk] at h1 <;> cases y <;> simp [scOk] at h2
      · obtain ⟨rfl, h1⟩ := h1; obtain ⟨rfl, h2⟩ := h2; exact ⟨decide (_ = _), by simp only [scEq, and_self, if_true]; rfl, by simp⟩
      · exact ⟨_, rfl, by simp⟩
    refine ⟨c && b, by simp [cellsEq, e, e', andO], ?_⟩
    simp [hb, hc]
def Rp.flat (k : List Sc) : Rp (List Value) where
  len := k.length
  r o p h cs x := cs = x ∧ flatOk k x
  rlen h := by obtain ⟨rfl, h⟩ := h; exact h.len
  uniq h h' := by obtain ⟨rfl, _⟩ := h; exact h'.1
  mono h _ _ _ := h
  rvin h := by obtain ⟨rfl, h⟩ := h; exact fun c hc => vin_flat (h.mem c hc).1
  rone h := by obtain ⟨rfl, h⟩ := h; exact fun c hc => (h.mem c hc).2
  rflat h _ := h

def Rp.pair {α β : Type} (a : Rp α) (b : Rp β) : Rp (α × β) where
  len := a.len + b.len
  r o p h cs x := ∃ c d, cs = c ++ d ∧ a.r o p h c x.1 ∧ b.r o p h d x.2
  rlen h := by obtain ⟨c, d, rfl, h1, h2⟩ := h; rw [List.length_append, a.rlen h1, b.rlen h2]
  uniq h h' := by
    obtain ⟨c, d, rfl, h1, h2⟩ := h
    obtain ⟨c', d', e, h3, h4⟩ := h'
    obtain ⟨rfl, rfl⟩ := List.append_inj e (by rw [a.rlen h1, a.rlen h3])
    exact Prod.ext (a.uniq h1 h3) (b.uniq h2 h4)
  mono h k1 k3 f := by
    obtain ⟨c, d, e, h1, h2⟩ := h
    exact ⟨c, d, e, a.mono h1 k1 k3 f, b.mono h2 k1 k3 f⟩
  rvin h := by
    obtain ⟨c, d, rfl, h1, h2⟩ := h
    intro v hv
    rcases List.mem_append.1 hv with hv | hv
    · exact a.rvin h1 v hv
    · exact b.rvin h2 v hv
  rone h := by
    obtain ⟨c, d, rfl, h1, h2⟩ := h
    intro v hv
    rcases List.mem_append.1 hv with hv | hv
    · exact a.rone h1 v hv
    · exact b.rone h2 v hv
  rflat h hf := by
    obtain ⟨c, d, rfl, h1, h2⟩ := h
    exact ⟨c, d, rfl, a.rflat h1 fun v hv => hf v (List.mem_append_left _ hv), b.rflat h2 fun v hv => hf v (List.mem_append_right _ hv)⟩

/-- Rows: one datum behind the other. -/
def rows {α : Type} (e : Rp α) (o : Bool) (p : Nat → Prop) (h : Hp) : List Value → List α → Prop
  | cs, [] => cs = []
  | cs, x :: xs => ∃ c d, cs = c ++ d ∧ e.r o p h c x ∧ rows e o p h d xs
section
variable {α : Type} {e : Rp α} {o o' : Bool} {p p' : Nat → Prop} {h h' : Hp}
theorem rows.len : ∀ {cs : List Value} {xs : List α}, rows e o p h cs xs → cs.length = xs.length * e.len
  | cs, [], r => by simp [show cs = [] from r]
  | cs, x :: xs, r => by
    obtain ⟨c, d, rfl, h1, h2⟩ := r
    simp [e.rlen h1, h2.len, Nat.add_mul]; omega
theorem rows.uniq : ∀ {cs : List Value} {xs ys : List α}, xs.length = ys.length → rows e o p h cs xs → rows e o' p' h cs ys → xs = ys
  | _, [], [], _, _, _ => rfl
  | _, [], _ :: _, hl, _, _ => by simp at hl
  | _, _ :: _, [], hl, _, _ => by simp at hl
  | cs, x :: xs, y :: ys, hl, r, s => by
    obtain ⟨c, d, rfl, h1, h2⟩ := r
    obtain ⟨c', d', e', h3, h4⟩ := s
    obtain ⟨rfl, rfl⟩ := List.append_inj e' (by rw [e.rlen h1, e.rlen h3])
    rw [e.uniq h1 h3, rows.uniq (by simpa using hl) h2 h4]
theorem rows.mono : ∀ {cs : List Value} {xs : List α}, rows e o p h cs xs → (∀ b, p b → p' b) → (o' = true → o = true) → Fr p h h' → rows e o' p' h' cs xs
  | _, [], r, _, _, _ => r
  | cs, x :: xs, r, k1, k3, f => by
    obtain ⟨c, d, e', h1, h2⟩ := r
    exact ⟨c, d, e', e.mono h1 k1 k3 f, h2.mono k1 k3 f⟩
theorem rows.vin : ∀ {cs : List Value} {xs : List α}, rows e o p h cs xs → ∀ c ∈ cs, vin p c
  | cs, [], r => by simp [show cs = [] from r]
  | cs, x :: xs, r => by
    obtain ⟨c, d, rfl, h1, h2⟩ := r
    intro v hv
    rcases List.mem_append.1 hv with hv | hv
    · exact e.rvin h1 v hv
    · exact h2.vin v hv
theorem rows.one : ∀ {cs : List Value} {xs : List α}, rows e o p h cs xs → ∀ c ∈ cs, oneC c = true
  | cs, [], r => by simp [show cs = [] from r]
  | cs, x :: xs, r => by
    obtain ⟨c, d, rfl, h1, h2⟩ := r
    intro v hv
    rcases List.mem_append.1 hv with hv | hv
    · exact e.rone h1 v hv
    · exact h2.one v hv
theorem rows.rflat : ∀ {cs : List Value} {xs : List α}, rows e o p h cs xs → (∀ c ∈ cs, flatB c = true) → rows e o' p' h' cs xs
  | cs, [], r, _ => r
  | cs, x :: xs, r, hf => by
    obtain ⟨c, d, rfl, h1, h2⟩ := r
    exact ⟨c, d, rfl, e.rflat h1 fun v hv => hf v (List.mem_append_left _ hv), h2.rflat fun v hv => hf v (List.mem_append_right _ hv)⟩
theorem rows.append : ∀ {cs ds : List Value} {xs ys : List α}, rows e o p h cs xs → rows e o p h ds ys → rows e o p h (cs ++ ds) (xs ++ ys)
  | cs, ds, [], ys, r, s => by rw [show cs = [] from r]; exact s
  | cs, ds, x :: xs, ys, r, s => by
    obtain ⟨c, d, rfl, h1, h2⟩ := r
    exact ⟨c, d ++ ds, by simp, h1, h2.append s⟩
theorem rows.one_row {c : List Value} {x : α} (r : e.r o p h c x) : rows e o p h c [x] := ⟨c, [], by simp, r, rfl⟩
theorem rows.split : ∀ {cs : List Value} {xs ys : List α}, rows e o p h cs (xs ++ ys) → rows e o p h (cs.take (xs.length * e.len)) xs ∧ rows e o p h (cs.drop (xs.length * e.len)) ys
  | cs, [], ys, r => by simpa [rows] using r
  | cs, x :: xs, ys, r => by
    obtain ⟨c, d, rfl, h1, h2⟩ := r
    obtain ⟨k1, k2⟩ := rows.split h2
    have hl := e.rlen h1
    have e1 : (xs.length + 1) * e.len = c.length + xs.length * e.len := by rw [hl, Nat.add_mul]; omega
    simp only [List.length_cons, e1]
    refine ⟨⟨c, d.take (xs.length * e.len), ?_, h1, k1⟩, ?_⟩
    · rw [List.take_append, List.take_of_length_le (by omega)]; congr 2; omega
    · rw [List.drop_append, List.drop_of_length_le (by omega), List.nil_append]
      rw [show c.length + xs.length * e.len - c.length = xs.length * e.len by omega]; exact k2
theorem rows.take {cs : List Value} {xs : List α} (r : rows e o p h cs xs) {n : Nat} (hn : n ≤ xs.length) : rows e o p h (cs.take (n * e.len)) (xs.take n) := by
  have := (rows.split (xs := xs.take n) (ys := xs.drop n) (by rw [List.take_append_drop]; exact r)).1
  rwa [List.length_take, Nat.min_eq_left hn] at this
theorem rows.drop {cs : List Value} {xs : List α} (r : rows e o p h cs xs) {n : Nat} (hn : n ≤ xs.length) : rows e o p h (cs.drop (n * e.len)) (xs.drop n) := by
  have := (rows.split (xs := xs.take n) (ys := xs.drop n) (by rw [List.take_append_drop]; exact r)).2
  rwa [List.length_take, Nat.min_eq_left hn] at this
theorem rows.get {cs : List Value} {xs : List α} (r : rows e o p h cs xs) {i : Nat} {x : α} (hx : xs[i]? = some x) : e.r o p h ((cs.drop (i * e.len)).take e.len) x := by
  obtain ⟨hi, rfl⟩ := List.getElem?_eq_some_iff.1 hx
  have := r.drop (n := i) (by omega)
  rw [List.drop_eq_getElem_cons hi] at this
  obtain ⟨c, d, e', h1, h2⟩ := this
  rw [e', List.take_append_of_le_length (by rw [e.rlen h1]; exact Nat.le_refl _), ← e.rlen h1, List.take_length]
  exact h1
end

/-- How far a slice's row goes. -/
def capOk (n c s : Nat) : Prop := n ≤ c ∧ (c < capOpen ∨ c = capOpen + s)
def Rp.slice {α : Type} (e : Rp α) : Rp (List α) where
  len := 1
  r o p h cs xs := ∃ a c, cs = [.slice a xs.length c] ∧ capOk xs.length c e.len ∧ xs.length < capOpen ∧ (xs = [] ∧ (c = 0 ∨ ∃ b off, a = some (⟨b, off, none⟩ : Addr)) ∧ vin p (.slice a 0 0) ∨
    ∃ b off cells ow, a = some ⟨b, off, none⟩ ∧ p b ∧ h.get b = some (.cells cells ow) ∧ (o = true → ow = true) ∧ (∀ v ∈ cells, vin p v) ∧ off + xs.length * e.len ≤ cells.size ∧ rows e o p h ((cells.toList.drop off).take (xs.length * e.len)) xs)
  rlen h := by obtain ⟨a, c, rfl, _⟩ := h; rfl
  uniq h h' := by
    obtain ⟨a, c, rfl, _, _, h1⟩ := h
    obtain ⟨a', c', e', _, _, h2⟩ := h'
    simp only [List.cons.injEq, Value.slice.injEq, and_true] at e'
    obtain ⟨rfl, hl, rfl⟩ := e'
    rcases h1 with ⟨rfl, _⟩ | ⟨b, off, cells, ow, rfl, _, hg, _, _, _, hr⟩
    · exact (List.eq_nil_of_length_eq_zero hl.symm).symm
    · rcases h2 with ⟨rfl, _⟩ | ⟨b', off', cells', ow', e', _, hg', _, _, _, hr'⟩
      · exact List.eq_nil_of_length_eq_zero hl
      · cases e'
        rw [hg] at hg'
        cases hg'
        rw [← hl] at hr'
        exact rows.uniq hl hr hr'
  mono h k1 k3 f := by
    obtain ⟨a, c, rfl, hc, hn, h1⟩ := h
    refine ⟨a, c, rfl, hc, hn, ?_⟩
    rcases h1 with ⟨rfl, hc, hv⟩ | ⟨b, off, cells, ow, rfl, h1, hg, ho, hv, hs, hr⟩
    · exact .inl ⟨rfl, hc, vin_mono k1 hv⟩
    · exact .inr ⟨b, off, cells, ow, rfl, k1 _ h1, f b cells ow h1 hg hv, fun h => ho (k3 h), fun v hv' => vin_mono k1 (hv v hv'), hs, hr.mono k1 k3 f⟩
  rvin h := by
    obtain ⟨a, c, rfl, _, _, h1⟩ := h
    rcases h1 with ⟨rfl, _, hv⟩ | ⟨b, off, cells, ow, rfl, h1, _⟩
    · cases a with
      | none => simp
      | some a =>
        obtain ⟨b, off, sp⟩ := a
        simp only [List.mem_singleton]
        intro v hv'
        subst hv'
        exact vin_slice.2 (vin_slice.1 hv)
    · simpa [vin_slice] using h1
  rone h := by obtain ⟨a, c, rfl, _⟩ := h; simp [oneC]
  rflat h hf := by
    obtain ⟨a, c, rfl, hc, hn, h1⟩ := h
    have := hf _ (List.mem_singleton.2 rfl)
    cases a with
    | some a => rw [flatB_slice] at this; cases this
    | none =>
      rcases h1 with ⟨rfl, hc', hv⟩ | ⟨b, off, cells, ow, e', _⟩
      · exact ⟨none, c, rfl, hc, hn, .inl ⟨rfl, hc', by simp⟩⟩
      · cases e'
/-- A pointer to a datum that has a block of its own. -/
def Rp.ptr {α : Type} (e : Rp α) : Rp α where
  len := 1
  r o p h cs x := ∃ b cells ow, cs = [.pointer (some ⟨b, 0, none⟩)] ∧ p b ∧ h.get b = some (.cells cells ow) ∧ (o = true → ow = true) ∧ e.r o p h cells.toList x
  rlen h := by obtain ⟨b, c, ow, rfl, _⟩ := h; rfl
  uniq h h' := by
    obtain ⟨b, c, ow, rfl, _, hg, _, h1⟩ := h
    obtain ⟨b', c', ow', e', _, hg', _, h2⟩ := h'
    simp at e'
    subst e'
    rw [hg] at hg'
    cases hg'
    exact e.uniq h1 h2
  mono h k1 k3 f := by
    obtain ⟨b, c, ow, rfl, h1, hg, ho, hr⟩ := h
    exact ⟨b, c, ow, rfl, k1 _ h1, f b c ow h1 hg (fun v hv => e.rvin hr v (by simpa using hv)), fun h => ho (k3 h), e.mono hr k1 k3 f⟩
  rvin h := by obtain ⟨b, c, ow, rfl, h1, _⟩ := h; simpa [vin_ptr] using h1
  rone h := by obtain ⟨b, c, ow, rfl, _⟩ := h; simp [oneC]
  rflat h hf := by
    obtain ⟨b, c, ow, rfl, _⟩ := h
    have := hf _ (List.mem_singleton.2 rfl)
    rw [flatB_ptr] at this; cases this
/-- An array: so many, one behind the other. -/
def Rp.vec {α : Type} (n : Nat) (e : Rp α) : Rp (List α) where
  len := n * e.len
  r o p h cs xs := xs.length = n ∧ rows e o p h cs xs
  rlen h := by obtain ⟨rfl, h⟩ := h; exact h.len
  uniq h h' := rows.uniq (h.1.trans h'.1.symm) h.2 h'.2
  mono h k1 k3 f := ⟨h.1, h.2.mono k1 k3 f⟩
  rvin h := h.2.vin
  rone h := h.2.one
  rflat h hf := ⟨h.1, h.2.rflat hf⟩
end Go.Abs
/- Data that are handed in; elements of slices; slicing; copies. -/
namespace Go.Abs
set_option linter.all false
section
variable {P : Program} {h : Hp} {d : Nat} {t : TypeId} {α β : Type}
def LiesRp (P : Program) (d : Nat) (t : TypeId) (E : Rp α) : Prop := ∀ (h : Hp) (cs : List Value), Lies P h d t cs → ∃ x, E.r false (· < h.size) h cs x
theorem liesRp_int {k : IntKind} (hu : P.underlying t = some (.int k)) : LiesRp P d t (Rp.int k) := fun h cs hl => by
  obtain ⟨x, rfl, h1, h2⟩ := lies_int hu hl
  exact ⟨x, rfl, h1, h2⟩
theorem liesRp_bool (hu : P.underlying t = some .bool) : LiesRp P d t Rp.bool := fun h cs hl => by
  obtain ⟨b, rfl⟩ := lies_bool hu hl
  exact ⟨b, rfl⟩
theorem rows_of {E : Rp α} {o : Bool} {p : Nat → Prop} : ∀ {parts : List (List Value)}, (∀ q ∈ parts, ∃ x, E.r o p h q x) → ∃ xs, xs.length = parts.length ∧ rows E o p h parts.flatten xs
  | [], _ => ⟨[], rfl, rfl⟩
  | q :: ps, hp => by
    obtain ⟨x, hx⟩ := hp q List.mem_cons_self
    obtain ⟨xs, hl, hr⟩ := rows_of fun q hq => hp q (List.mem_cons_of_mem _ hq)
    exact ⟨x :: xs, by simp [hl], q, ps.flatten, by simp, hx, hr⟩
theorem liesRp_slice {e : TypeId} {E : Rp α} (hu : P.underlying t = some (.slice e)) (he : LiesRp P d e E) (hb : P.bytesOf e ≠ 0) : LiesRp P (d + 1) t (Rp.slice E) := fun h cs hl => by
  rcases lies_slice hu hl with rfl | ⟨b, len, cap, sp, parts, rfl, h1, h2, h3, h4, h5, h6⟩
  · exact ⟨[], none, 0, rfl, ⟨Nat.le_refl _, .inl (by simp [capOpen])⟩, by simp [capOpen], .inl ⟨rfl, .inl rfl, by simp⟩⟩
  · have hc : cap < capOpen := by
      have : cap ≤ cap * P.bytesOf e := Nat.le_mul_of_pos_right _ (Nat.pos_of_ne_zero hb)
      have h8 : reachBytes < capOpen := by decide
      omega
    obtain ⟨xs, hxl, hr⟩ := rows_of fun p hp => he h p (h6 p hp).2
    have hle : len ≤ xs.length := by omega
    have hl2 : (xs.take len).length = len := by rw [List.length_take]; omega
    refine ⟨xs.take len, some ⟨b, 0, sp⟩, cap, by rw [hl2], by rw [hl2]; exact ⟨h2, .inl hc⟩, by omega, ?_⟩
    by_cases h0 : cap = 0
    · subst h0
      have : len = 0 := by omega
      subst this
      exact .inl ⟨by simp, .inl rfl, by simp [vin_slice]; assumption⟩
    · obtain ⟨rfl, hg⟩ := h4 h0
      refine .inr ⟨b, 0, _, false, rfl, h1, hg, by simp, fun v hv => hr.vin v (by simpa using hv), ?_, ?_⟩
      · have := hr.len
        rw [hl2]
        simp only [List.size_toArray, this, Nat.zero_add]
        exact Nat.mul_le_mul_right _ hle
      · rw [hl2]
        simpa using hr.take hle
def LiesRpF (P : Program) (d : Nat) (fs : List Field) (E : Rp α) : Prop := ∀ (h : Hp) (parts : List (List Value)), parts.length = fs.length → (∀ (i : Nat) (f : Field) (p : List Value), fs[i]? = some f → parts[i]? = some p → Lies P h d f.type p) → ∃ x, E.r false (· < h.size) h parts.flatten x
theorem liesRpF_nil : LiesRpF P d [] Rp.unit := fun h parts hl _ => by
  have : parts = [] := List.eq_nil_of_length_eq_zero hl
  subst this
  exact ⟨(), rfl⟩
theorem liesRpF_cons {f : Field} {fs : List Field} {E : Rp α} {F : Rp β} (h1 : LiesRp P d f.type E) (h2 : LiesRpF P d fs F) : LiesRpF P d (f :: fs) (Rp.pair E F) := fun h parts hl hp => by
  cases parts with
  | nil => simp at hl
  | cons p ps =>
    obtain ⟨x, hx⟩ := h1 h p (hp 0 f p rfl rfl)
    obtain ⟨y, hy⟩ := h2 h ps (by simpa using hl) fun i g q hg hq => hp (i + 1) g q (by simpa using hg) (by simpa using hq)
    exact ⟨(x, y), p, ps.flatten, by simp, hx, hy⟩
theorem liesRp_struct {fs : Array Field} {E : Rp α} (hu : P.underlying t = some (.struct fs)) (hf : LiesRpF P d fs.toList E) : LiesRp P (d + 1) t E := fun h cs hl => by
  obtain ⟨parts, rfl, h1, h2⟩ := lies_struct hu hl
  exact hf h parts (by simpa using h1) fun i f p hi hp => (h2 i f p (by simpa using hi) hp).2
theorem liesRp_array {n : Nat} {e : TypeId} {E : Rp α} (hu : P.underlying t = some (.array n e)) (he : LiesRp P d e E) : LiesRp P (d + 1) t (Rp.vec n E) := fun h cs hl => by
  obtain ⟨parts, rfl, h1, h2⟩ := lies_array hu hl
  obtain ⟨xs, hx, hr⟩ := rows_of fun p hp => he h p (h2 p hp).2
  exact ⟨xs, hx.trans h1, hr⟩

theorem flatOk_rep {k : List Sc} : ∀ {parts : List (List Value)}, (∀ p ∈ parts, flatOk k p) → flatOk (List.replicate parts.length k).flatten parts.flatten
  | [], _ => trivial
  | p :: ps, hp => by
    simp only [List.length_cons, List.replicate_succ, List.flatten_cons]
    exact (hp p List.mem_cons_self).append (flatOk_rep fun q hq => hp q (List.mem_cons_of_mem _ hq))
theorem flatOk_fs {g : TypeId → Option (List Sc)} : ∀ {fs : List Field} {o : Nat} {k : List Sc} {parts : List (List Value)}, flatFs g fs o = some k → parts.length = fs.length →
    (∀ (i : Nat) (f : Field) (p : List Value) (l : List Sc), fs[i]? = some f → parts[i]? = some p → g f.type = some l → flatOk l p) → flatOk k parts.flatten
  | [], o, k, parts, hk, hl, _ => by
    have : parts = [] := List.eq_nil_of_length_eq_zero hl
    subst this
    simp only [flatFs, Option.some.injEq] at hk
    subst hk; trivial
  | f :: fs, o, k, parts, hk, hl, hp => by
    cases parts with
    | nil => simp at hl
    | cons p ps =>
      simp only [flatFs] at hk
      split at hk
      · cases hk
      · split at hk
        · rename_i l hl'
          split at hk
          · rename_i l2 hl2
            cases hk
            simp only [List.flatten_cons]
            exact (hp 0 f p l rfl rfl hl').append (flatOk_fs hl2 (by simpa using hl) fun i g q m hg hq hm => hp (i + 1) g q m (by simpa using hg) (by simpa using hq) hm)
          · cases hk
        · cases hk
theorem flatOk_lies : ∀ {d : Nat} {t : TypeId} {k : List Sc} {cs : List Value}, flatT P d t = some k → k.all (· ≠ .string) = true → Lies P h d t cs → flatOk k cs
  | 0, _, _, _, hk, _, _ => by cases hk
  | d + 1, t, k, cs, hk, hs, hl => by
    unfold flatT at hk
    cases hu : P.underlying t with
    | none => rw [hu] at hk; cases hk
    | some u =>
      rw [hu] at hk
      cases u <;> simp only [] at hk <;> first | (cases hk; done) | skip
      · cases hk
        obtain ⟨b, rfl⟩ := lies_bool hu hl
        exact ⟨trivial, trivial⟩
      · cases hk
        obtain ⟨x, rfl, h1, h2⟩ := lies_int hu hl
        exact ⟨⟨rfl, h1, h2⟩, trivial⟩
      · cases hk; simp at hs
      · rename_i n e
        split at hk
        · rename_i k' hk'
          split at hk
          · cases hk
            obtain ⟨parts, rfl, h1, h2⟩ := lies_array hu hl
            by_cases hn : n = 0
            · subst hn
              have : parts = [] := List.eq_nil_of_length_eq_zero h1
              subst this; trivial
            · have hs' : k'.all (· ≠ .string) = true := by
                rw [List.all_eq_true] at hs ⊢
                intro x hx
                exact hs x (List.mem_flatten.2 ⟨k', List.mem_replicate.2 ⟨hn, rfl⟩, hx⟩)
              have := flatOk_rep (k := k') fun p hp => flatOk_lies hk' hs' (h2 p hp).2
              rwa [h1] at this
          · cases hk
        · cases hk
      · rename_i fs
        split at hk
        · cases hk
        · split at hk
          · rename_i l hl'
            split at hk
            · cases hk
              obtain ⟨parts, rfl, h1, h2⟩ := lies_struct hu hl
              have sub : ∀ {fs : List Field} {o : Nat} {k : List Sc}, flatFs (flatT P d) fs o = some k → k.all (· ≠ .string) = true → ∀ f ∈ fs, ∀ l, flatT P d f.type = some l → l.all (· ≠ .string) = true := by
                intro fs
                induction fs with
                | nil => intro o k _ _ f hf; simp at hf
                | cons g gs ih =>
                  intro o k hk hs f hf l hl
                  simp only [flatFs] at hk
                  split at hk
                  · cases hk
                  · split at hk
                    · rename_i l1 hl1
                      split at hk
                      · rename_i l2 hl2
                        cases hk
                        rw [List.all_append, Bool.and_eq_true] at hs
                        rcases List.mem_cons.1 hf with rfl | hf
                        · rw [hl] at hl1; cases hl1; exact hs.1
                        · exact ih hl2 hs.2 f hf l hl
                      · cases hk
                    · cases hk
              refine flatOk_fs hl' (by simpa using h1) fun i f p l hi hp hl => flatOk_lies hl (sub hl' hs f (List.mem_of_getElem? hi) l hl) (h2 i f p (by simpa using hi) hp).2
            · cases hk
          · cases hk
theorem liesRp_flat {k : List Sc} (hk : flatT P d t = some k) (hs : k.all (· ≠ .string) = true) : LiesRp P d t (Rp.flat k) := fun h cs hl => ⟨cs, rfl, flatOk_lies hk hs hl⟩
end

/-! ### Elements -/
section
variable {P : Program} {α : Type} {e : Rp α} {o : Bool} {p : Nat → Prop} {h : Hp} {v : Value} {xs : List α}
theorem slice_form (r : (Rp.slice e).r o p h [v] xs) : ∃ a c, v = .slice a xs.length c ∧ xs.length ≤ c ∧ xs.length < capOpen := by
  obtain ⟨a, c, e', h1, h2, _⟩ := r
  simp only [List.cons.injEq, and_true] at e'
  exact ⟨a, c, e', h1.1, h2⟩
/-- An element: where it lies. -/
theorem slice_elem (r : (Rp.slice e).r o p h [v] xs) {i : Nat} {x : α} (hx : xs[i]? = some x) (he : 0 < e.len) :
    ∃ b off c cells ow part, v = .slice (some ⟨b, off, none⟩) xs.length c ∧ p b ∧ h.get b = some (.cells cells ow) ∧ (o = true → ow = true) ∧ off + i * e.len + e.len ≤ cells.size ∧
      part = (cells.toList.drop (off + i * e.len)).take e.len ∧ e.r o p h part x ∧ (∀ k, k < e.len → cells[off + (i * e.len + k)]? = part[k]?) ∧ cells.extract (off + i * e.len) (off + i * e.len + e.len) = part.toArray := by
  obtain ⟨hil, rfl⟩ := List.getElem?_eq_some_iff.1 hx
  obtain ⟨a, c, e', _, _, hcase⟩ := r
  simp only [List.cons.injEq, and_true] at e'
  rcases hcase with ⟨rfl, _⟩ | ⟨b, off, cells, ow, rfl, h1, hg, ho, _, hs, hr⟩
  · simp at hil
  · have hle : i * e.len + e.len ≤ xs.length * e.len := by
      have : (i + 1) * e.len ≤ xs.length * e.len := Nat.mul_le_mul_right _ hil
      rwa [Nat.add_mul, Nat.one_mul] at this
    have hp := hr.get hx
    rw [List.drop_take, List.take_take, Nat.min_eq_left (by omega), List.drop_drop] at hp
    refine ⟨b, off, c, cells, ow, _, e', h1, hg, ho, by omega, rfl, hp, fun k hk => ?_, ?_⟩
    · rw [List.getElem?_take_of_lt hk, List.getElem?_drop, Array.getElem?_toList, Nat.add_assoc]
    · apply Array.ext'
      rw [Array.toList_extract, List.extract_eq_drop_take]
      simp
/-- Slicing. -/
theorem sliceBound_val {k : IntKind} {x : Int} {n : Nat} {b} (h0 : 0 ≤ x) (h1 : x ≤ n) : pureP P (Instr.sliceBound (.int k x) n b) = some x.toNat := by
  simp only [Instr.sliceBound, asIntOf, pureP_bind, pureP_pure, Option.bind_some]
  rw [if_pos ⟨h0, h1⟩]
  rfl
/-- Bounds of a cut, as they are handed in. -/
def bndOk (v : Option Value) (dflt x : Nat) : Prop := match v with
  | none => x = dflt
  | some v => ∃ k, v = .int k (x : Int)
theorem bnd_natOr {v : Option Value} {dflt x : Nat} (h : bndOk v dflt x) : natOr v dflt = some x := by
  cases v with
  | none => simp only [bndOk] at h; subst h; rfl
  | some v => obtain ⟨k, rfl⟩ := h; simp [natOr, natOf]
theorem bounds_val {n c l hh : Nat} {lov hiv : Option Value} (hl : bndOk lov 0 l) (hhi : bndOk hiv n hh) (h1 : l ≤ hh) (h2 : hh ≤ c) :
    pureP P (Instr.sliceBounds true n c lov hiv none) = some (l, hh, c) := by
  unfold Instr.sliceBounds
  cases hiv with
  | none =>
    simp only [bndOk] at hhi
    subst hhi
    cases lov with
    | none => simp only [bndOk] at hl; subst hl; rfl
    | some v =>
      obtain ⟨k, rfl⟩ := hl
      simp only [pureP_bind, pureP_pure, Option.bind_some]
      rw [sliceBound_val (by omega) (by omega)]
      simp
  | some w =>
    obtain ⟨k', rfl⟩ := hhi
    simp only [pureP_bind, pureP_pure, Option.bind_some]
    rw [sliceBound_val (by omega) (by omega)]
    cases lov with
    | none => simp only [bndOk] at hl; subst hl; simp
    | some v =>
      obtain ⟨k, rfl⟩ := hl
      simp only [Int.toNat_natCast, Option.bind_some, pureP_bind, pureP_pure]
      rw [sliceBound_val (by omega) (by omega)]
      simp
theorem sliceAt_val {t : TypeId} {s n c l hh : Nat} {a : Option Addr} {lov hiv : Option Value} (ht : tElem P t = some s) (hl : bndOk lov 0 l) (hhi : bndOk hiv n hh) (h1 : l ≤ hh) (h2 : hh ≤ c) :
    pureP P (Instr.sliceAt t (.slice a n c) lov hiv none) = some (.slice (if c = l then a else a.map (·.add (l * s))) (hh - l) (c - l)) := by
  unfold tElem at ht
  unfold Instr.sliceAt
  simp only [pureP_bind, pureP_underlying]
  cases hu : P.underlying t with
  | none => rw [hu] at ht; cases ht
  | some u =>
    rw [hu] at ht
    cases u <;> simp only [] at ht <;> first | (cases ht; done) | skip
    rename_i el
    simp only [Option.bind_some]
    unfold Instr.slice
    simp only [pureP_bind, pureP_underlying, hu, Option.bind_some, bounds_val hl hhi h1 h2, pureP_sizeOf]
    unfold tSize at ht
    rw [ht]
    rfl
/-- A cut of a slice, from one of its elements on, or from its beginning. -/
theorem slice_rp {t : TypeId} {l hh : Nat} {lov hiv : Option Value} (r : (Rp.slice e).r o p h [v] xs) (ht : tElem P t = some e.len) (he : 0 < e.len) (hl : bndOk lov 0 l) (hhi : bndOk hiv xs.length hh) (h1 : l ≤ hh) (h2 : hh ≤ xs.length)
    (hx : l = 0 ∨ l < xs.length) : ∃ v', aSlice P t v lov hiv none h = some (v', h) ∧ (Rp.slice e).r o p h [v'] ((xs.take hh).drop l) := by
  obtain ⟨a, c, e', ⟨hc1, hc2⟩, hcap, hcase⟩ := r
  simp only [List.cons.injEq, and_true] at e'
  subst e'
  have hlen : ((xs.take hh).drop l).length = hh - l := by rw [List.length_drop, List.length_take]; omega
  have hbig : ¬ capOpen + e.len < capOpen := by omega
  have hs2 : tSize P = tSize P := rfl
  rcases hcase with ⟨rfl, hc0, hv⟩ | ⟨b, off, cells, ow, rfl, hb1, hg, ho, hv, hs, hr⟩
  · have hh0 : hh = 0 := by simpa using h2
    subst hh0
    have hl0 : l = 0 := by omega
    subst hl0
    rcases hc0 with rfl | ⟨b, off, rfl⟩
    · have key := sliceAt_val (a := a) (s := e.len) (c := 0) ht hl hhi (Nat.le_refl _) (Nat.le_refl _)
      refine ⟨.slice a 0 0, ?_, a, 0, by simp, ⟨by simp, .inl (by simp [capOpen])⟩, by simp [capOpen], .inl ⟨by simp, .inl rfl, hv⟩⟩
      cases a <;> simp only [aSlice] <;> rw [if_pos (by simp [capOpen])] <;> simp only [List.length_nil] at key ⊢ <;> rw [key] <;> simp
    · rcases hc2 with hc2 | rfl
      · refine ⟨_, by simp only [aSlice]; rw [if_pos hc2, sliceAt_val ht hl hhi h1 (by simp)]; rfl, _, _, rfl, ⟨by simp, .inl (by omega)⟩, by simp [capOpen], .inl ⟨by simp, ?_, ?_⟩⟩
        · by_cases hc : c = 0
          · exact .inl (by omega)
          · exact .inr ⟨b, off, by rw [if_neg hc]; simp [add_none]⟩
        · by_cases hc : c = 0
          · rw [if_pos hc]; exact hv
          · rw [if_neg hc]; simpa [add_none, vin_slice] using hv
      · unfold tElem at ht
        cases hu : P.underlying t with
        | none => rw [hu] at ht; cases ht
        | some u =>
          rw [hu] at ht
          cases u <;> simp only [] at ht <;> first | (cases ht; done) | skip
          rename_i el
          unfold tSize at ht
          refine ⟨.slice (some ⟨b, off, none⟩) 0 (capOpen + e.len), ?_, _, _, rfl, ⟨by simp, .inr rfl⟩, by simp [capOpen], .inl ⟨by simp, .inr ⟨b, off, rfl⟩, hv⟩⟩
          simp only [aSlice, hbig, if_false, hu, pureP_sizeOf, ht, bnd_natOr hl, bnd_natOr hhi]
          rw [if_neg (by simp; omega)]
          rw [if_pos ⟨Nat.zero_le _, Nat.zero_le _⟩, if_pos trivial]
  · have hrow : rows e o p h ((cells.toList.drop (off + l * e.len)).take ((hh - l) * e.len)) ((xs.take hh).drop l) := by
      have := (hr.take h2).drop (n := l) (by rw [List.length_take]; omega)
      rw [List.take_take, Nat.min_eq_left (Nat.mul_le_mul_right _ h2), List.drop_take, List.drop_drop, ← Nat.sub_mul] at this
      exact this
    have hle : l * e.len + (hh - l) * e.len ≤ xs.length * e.len := by rw [← Nat.add_mul]; exact Nat.mul_le_mul_right _ (by omega)
    rcases hc2 with hc2 | rfl
    · by_cases hcl : c = l
      · have : l = hh := by omega
        subst this
        have hz : xs = [] ∨ l = xs.length := by omega
        refine ⟨_, by simp only [aSlice]; rw [if_pos hc2, sliceAt_val ht hl hhi h1 (by omega)]; rfl, _, _, by rw [hlen], ⟨by rw [hlen]; omega, .inl (by omega)⟩, by rw [hlen]; omega, ?_⟩
        rw [if_pos hcl]
        refine .inl ⟨List.eq_nil_of_length_eq_zero (by rw [hlen]; omega), .inl (by omega), by simp [vin_slice]; assumption⟩
      · refine ⟨_, by simp only [aSlice]; rw [if_pos hc2, sliceAt_val ht hl hhi h1 (by omega)]; rfl, _, _, by rw [hlen], ⟨by rw [hlen]; omega, .inl (by omega)⟩, by rw [hlen]; omega, ?_⟩
        rw [if_neg hcl]
        refine .inr ⟨b, off + l * e.len, cells, ow, by simp [add_none], hb1, hg, ho, hv, by rw [hlen]; omega, by rw [hlen]; exact hrow⟩
    · unfold tElem at ht
      cases hu : P.underlying t with
      | none => rw [hu] at ht; cases ht
      | some u =>
        rw [hu] at ht
        cases u <;> simp only [] at ht <;> first | (cases ht; done) | skip
        rename_i el
        unfold tSize at ht
        have hk : xs.length ≤ h.known ⟨b, off, none⟩ e.len := by
          simp only [Hp.known, hg]
          rw [if_pos (by omega)]
          exact (Nat.le_div_iff_mul_le he).2 (by omega)
        by_cases hl0 : l = 0
        · subst hl0
          refine ⟨.slice (some ⟨b, off, none⟩) hh (capOpen + e.len), ?_, _, _, by rw [hlen]; rfl, ⟨by rw [hlen]; unfold capOpen at hcap ⊢; omega, .inr rfl⟩, by rw [hlen]; omega, .inr ⟨b, off, cells, ow, rfl, hb1, hg, ho, hv, by rw [hlen]; omega, by rw [hlen]; simpa using hrow⟩⟩
          simp only [aSlice, hbig, if_false, hu, pureP_sizeOf, ht, bnd_natOr hl, bnd_natOr hhi]
          rw [if_neg (by simp; omega)]
          rw [if_pos ⟨Nat.zero_le _, by omega⟩, if_pos trivial]
        · refine ⟨.slice (some ⟨b, off + l * e.len, none⟩) (hh - l) (capOpen + e.len), ?_, _, _, by rw [hlen], ⟨by rw [hlen]; unfold capOpen at hcap ⊢; omega, .inr rfl⟩, by rw [hlen]; omega, .inr ⟨b, off + l * e.len, cells, ow, rfl, hb1, hg, ho, hv, by rw [hlen]; omega, by rw [hlen]; exact hrow⟩⟩
          simp only [aSlice, hbig, if_false, hu, pureP_sizeOf, ht, bnd_natOr hl, bnd_natOr hhi]
          rw [if_neg (by simp; omega)]
          rw [if_pos ⟨h1, by omega⟩, if_neg hl0, if_pos (by omega), add_none]
/-- A cut, wherever. -/
theorem slice_rp_any {t : TypeId} {l hh : Nat} {lov hiv : Option Value} (r : (Rp.slice e).r o p h [v] xs) (ht : tElem P t = some e.len) (he : 0 < e.len) (hl : bndOk lov 0 l) (hhi : bndOk hiv xs.length hh) (h1 : l ≤ hh) (h2 : hh ≤ xs.length) :
    ∃ v', aSlice P t v lov hiv none h = some (v', h) ∧ (Rp.slice e).r o p h [v'] ((xs.take hh).drop l) ∨
      aSlice P t v lov hiv none h = some (v', h.push none) ∧ ((xs.take hh).drop l) = [] ∧ v' = .slice (some ⟨h.size, 0, none⟩) 0 (capOpen + e.len) := by
  by_cases hx : l = 0 ∨ l < xs.length
  · obtain ⟨v', h1, h2⟩ := slice_rp r ht he hl hhi h1 h2 hx
    exact ⟨v', .inl ⟨h1, h2⟩⟩
  · have r0 := r
    obtain ⟨a, c, e', ⟨hc1, hc2⟩, hcap, hcase⟩ := r
    simp only [List.cons.injEq, and_true] at e'
    subst e'
    have hlen : ((xs.take hh).drop l).length = hh - l := by rw [List.length_drop, List.length_take]; omega
    have hlx : l = xs.length ∧ hh = xs.length ∧ 0 < l := by omega
    have hbig : ¬ capOpen + e.len < capOpen := by omega
    rcases hcase with ⟨rfl, _, hv⟩ | ⟨b, off, cells, ow, rfl, hb1, hg, ho, hv, hs, hr⟩
    · simp at hlx; omega
    · rcases hc2 with hc2 | rfl
      · refine ⟨_, .inl ⟨by simp only [aSlice]; rw [if_pos hc2, sliceAt_val ht hl hhi h1 (by omega)]; rfl, ?_⟩⟩
        by_cases hcl : c = l
        · rw [if_pos hcl]
          exact ⟨_, _, by rw [hlen], ⟨by rw [hlen]; omega, .inl (by omega)⟩, by rw [hlen]; omega, .inl ⟨List.eq_nil_of_length_eq_zero (by rw [hlen]; omega), .inl (by omega), by simp [vin_slice]; assumption⟩⟩
        · rw [if_neg hcl]
          have hz : (xs.take hh).drop l = [] := List.eq_nil_of_length_eq_zero (by rw [hlen]; omega)
          refine ⟨_, _, by rw [hlen], ⟨by rw [hlen]; omega, .inl (by omega)⟩, by rw [hlen]; omega, .inr ⟨b, off + l * e.len, cells, ow, by simp [add_none], hb1, hg, ho, hv, ?_, ?_⟩⟩
          · rw [hlen, hlx.1]
            have : hh - xs.length = 0 := by omega
            rw [this]; omega
          · rw [hz]; simp [rows]
      · unfold tElem at ht
        cases hu : P.underlying t with
        | none => rw [hu] at ht; cases ht
        | some u =>
          rw [hu] at ht
          cases u <;> simp only [] at ht <;> first | (cases ht; done) | skip
          rename_i el
          unfold tSize at ht
          have hk : xs.length ≤ h.known ⟨b, off, none⟩ e.len := by
            simp only [Hp.known, hg]
            rw [if_pos (by omega)]
            exact (Nat.le_div_iff_mul_le he).2 (by omega)
          have hz : (xs.take hh).drop l = [] := List.eq_nil_of_length_eq_zero (by rw [hlen]; omega)
          by_cases hkn : l < h.known ⟨b, off, none⟩ e.len
          · refine ⟨.slice (some ⟨b, off + l * e.len, none⟩) (hh - l) (capOpen + e.len), .inl ⟨?_, _, _, by rw [hlen], ⟨by rw [hlen]; unfold capOpen at hcap ⊢; omega, .inr rfl⟩, by rw [hlen]; omega, .inr ⟨b, off + l * e.len, cells, ow, rfl, hb1, hg, ho, hv, ?_, ?_⟩⟩⟩
            · simp only [aSlice, hbig, if_false, hu, pureP_sizeOf, ht, bnd_natOr hl, bnd_natOr hhi]
              rw [if_neg (by simp; omega)]
              rw [if_pos ⟨h1, by omega⟩, if_neg (by omega), if_pos hkn, add_none]
            · rw [hlen, hlx.1]
              have : hh - xs.length = 0 := by omega
              rw [this]; omega
            · rw [hz]; simp [rows]
          · refine ⟨_, .inr ⟨?_, hz, rfl⟩⟩
            simp only [aSlice, hbig, if_false, hu, pureP_sizeOf, ht, bnd_natOr hl, bnd_natOr hhi]
            rw [if_neg (by simp; omega)]
            rw [if_pos ⟨h1, by omega⟩, if_neg (by omega), if_neg hkn]
end
end Go.Abs
/- Slices of one's own: copies, append. Contracts of functions that look at data. -/
namespace Go.Abs
set_option linter.all false
section
variable {P : Program} {α : Type} {e : Rp α} {o o' : Bool} {p q : Nat → Prop} {k : Hp} {v w : Value} {xs ys : List α}
/-- A slice with a block b of its own that has just its elements' cells (none, if it is nil); what they lead to stands elsewhere. -/
def OwnS (e : Rp α) (o : Bool) (p : Nat → Prop) (k : Hp) (v : Value) (b? : Option Nat) (xs : List α) : Prop :=
  (v = .slice none 0 0 ∧ b? = none ∧ xs = []) ∨ ∃ b c cells, v = .slice (some ⟨b, 0, none⟩) xs.length c ∧ b? = some b ∧ (c = xs.length ∨ c = capOpen + e.len) ∧ xs.length < capOpen ∧ b < k.size ∧ ¬ p b ∧ k.get b = some (.cells cells true) ∧ rows e o p k cells.toList xs
theorem OwnS.nil : OwnS e o p k (.slice none 0 0) none [] := .inl ⟨rfl, rfl, rfl⟩
theorem OwnS.lt {b : Nat} (r : OwnS e o p k v (some b) xs) : b < k.size := by
  rcases r with ⟨_, h, _⟩ | ⟨b', c, cells, _, h, _, _, h1, _⟩
  · cases h
  · cases h; exact h1
theorem OwnS.blk {b? : Option Nat} (r : OwnS e o p k v b? xs) : blkOf v = b? := by
  rcases r with ⟨rfl, rfl, _⟩ | ⟨b', c, cells, rfl, rfl, _⟩ <;> rfl
theorem OwnS.mono {k' : Hp} {b? : Option Nat} (r : OwnS e o p k v b? xs) (hs : k.size ≤ k'.size) (hf : Fr p k k') (hb : ∀ b, b? = some b → k'.get b = k.get b) : OwnS e o p k' v b? xs := by
  rcases r with h | ⟨b, c, cells, rfl, rfl, h1, h2, h3, h4, h5, h6⟩
  · exact .inl h
  · exact .inr ⟨b, c, cells, rfl, rfl, h1, h2, by omega, h4, by rw [hb b rfl]; exact h5, h6.mono (fun _ h => h) id hf⟩
/-- It may lead to more. -/
theorem OwnS.wide {p' : Nat → Prop} {b? : Option Nat} (r : OwnS e o p k v b? xs) (hp : ∀ b, p b → p' b) (hb : ∀ b, b? = some b → ¬ p' b) : OwnS e o p' k v b? xs := by
  rcases r with h | ⟨b, c, cells, rfl, rfl, h1, h2, h3, h4, h5, h6⟩
  · exact .inl h
  · exact .inr ⟨b, c, cells, rfl, rfl, h1, h2, h3, hb b rfl, h5, h6.mono hp id (Fr.refl _)⟩
theorem OwnS.rp {b? : Option Nat} (r : OwnS e o p k v b? xs) (hp : ∀ b, p b → q b) (hb : ∀ b, b? = some b → q b) : (Rp.slice e).r o q k [v] xs := by
  rcases r with ⟨rfl, rfl, rfl⟩ | ⟨b, c, cells, rfl, rfl, h1, h2, h3, h4, h5, h6⟩
  · exact ⟨none, 0, rfl, ⟨Nat.le_refl _, .inl (by simp [capOpen])⟩, by simp [capOpen], .inl ⟨rfl, .inl rfl, by simp⟩⟩
  · have hl := h6.len
    refine ⟨_, _, rfl, ⟨by omega, ?_⟩, h2, .inr ⟨b, 0, cells, true, rfl, hb b rfl, h5, fun _ => rfl, fun v hv => vin_mono hp (h6.vin v (by simpa using hv)), by simp at hl; omega, ?_⟩⟩
    · rcases h1 with rfl | rfl
      · exact .inl h2
      · exact .inr rfl
    · rw [List.drop_zero, ← hl, List.take_length]
      exact h6.mono hp id (Fr.refl _)
/-- What is appended. -/
theorem news_rp {t : TypeId} {s : Nat} (r : (Rp.slice e).r o p k [w] ys) (hx : rowOrText (P.underlying t) = true) (hs : s = e.len) (he : 0 < s) :
    ∃ cells, aNews P t s w k = some (ys.length, cells) ∧ cells.size = ys.length * s ∧ rows e o p k cells.toList ys := by
  subst hs
  obtain ⟨a, c, e', _, _, hcase⟩ := r
  simp only [List.cons.injEq, and_true] at e'
  subst e'
  unfold aNews
  rw [if_pos hx]
  simp only [aLen]
  rcases hcase with ⟨rfl, _, _⟩ | ⟨b, off, cells, ow, rfl, h1, hg, ho, _, hs, hr⟩
  · exact ⟨#[], by cases a <;> simp [aFirst], by simp, rfl⟩
  · by_cases h0 : ys.length = 0
    · have : ys = [] := List.eq_nil_of_length_eq_zero h0
      subst this
      exact ⟨#[], by simp [aFirst], by simp, rfl⟩
    · refine ⟨cells.extract off (off + ys.length * e.len), ?_, ?_, ?_⟩
      · simp only [aFirst]
        have : ys.length * e.len ≠ 0 := Nat.mul_ne_zero h0 (by omega)
        rw [if_neg this]
        simp only [Hp.row, hg]
        rw [if_pos hs]; rfl
      · rw [Array.size_extract]; omega
      · rw [Array.toList_extract, List.extract_eq_drop_take]
        rw [show off + ys.length * e.len - off = ys.length * e.len by omega]
        exact hr
theorem list_all_one {l : List Value} (h : ∀ c ∈ l, oneC c = true) : l.all oneC = true := List.all_eq_true.2 h
/-- append to a slice of one's own. -/
theorem append_own_rp {t tx : TypeId} {s by' : Nat} {z : Array Value} (hT : tRow P t = some (s, by', z)) (hx : rowOrText (P.underlying tx) = true) (hse : s = e.len) (hs : 0 < s) {b? : Option Nat} (hv : OwnS e o p k v b? xs) (hw : (Rp.slice e).r o' q k [w] ys)
    (hoo : o = true → o' = true) (hro : ∀ b, b? = some b → k.ro ≤ b) (hqb : ∀ b, b? = some b → ¬ q b) (hpk : ∀ c, p c → c < k.size) (hqk : ∀ c, q c → c < k.size) (hb : (xs.length + ys.length) * by' ≤ 2 ^ 47) (hb2 : xs.length + ys.length < capOpen) :
    ∃ v' k' b', aAppend P #[t, tx] #[v, w] k = some (v', k') ∧ OwnS e o (fun c => p c ∨ q c) k' v' b' (xs ++ ys) ∧ (∀ b, b' = some b → k.ro ≤ b ∨ k.size ≤ b) ∧ k.size ≤ k'.size ∧ k'.ro = k.ro ∧ (∀ c, c < k.size → b? ≠ some c → k'.get c = k.get c) ∧
      (k' = k ∧ b' = b? ∨ k'.size = k.size + 1 ∧ b' = some k.size ∧ ∃ n, v' = .slice (some ⟨k.size, 0, none⟩) n (capOpen + s)) := by
  unfold tRow at hT
  cases hu : P.underlying t with
  | none => rw [hu] at hT; cases hT
  | some u =>
    rw [hu] at hT
    cases u <;> simp only [] at hT <;> first | (cases hT; done) | skip
    rename_i el
    cases hi : P.info? el with
    | none => rw [hi] at hT; cases hT
    | some i =>
      rw [hi] at hT
      simp only [] at hT
      cases hz : i.zero with
      | none => rw [hz] at hT; cases hT
      | some zz =>
        rw [hz] at hT
        simp only [Option.some.injEq, Prod.mk.injEq] at hT
        obtain ⟨hsz, rfl, rfl⟩ := hT
        obtain ⟨new, hn, hnew, hrow⟩ := news_rp (P := P) (t := tx) (s := i.size) hw hx (by omega) (by omega)
        have hone : new.toList.all oneC = true := list_all_one hrow.one
        have hms : ys.length ≤ ys.length * i.size := Nat.le_mul_of_pos_right _ (by omega)
        rcases hv with ⟨rfl, rfl, rfl⟩ | ⟨b, c, cells, rfl, rfl, hc, hcap, hbk, hpb, hg, hr⟩
        · by_cases h0 : ys.length = 0
          · have : ys = [] := List.eq_nil_of_length_eq_zero h0
            subst this
            refine ⟨.slice none 0 0, k, none, ?_, .inl ⟨rfl, rfl, rfl⟩, by simp, Nat.le_refl _, rfl, fun _ _ _ => rfl, .inl ⟨rfl, rfl⟩⟩
            simp only [aAppend, hu, hi, hn, hz]
            rw [if_neg (by simp; simp at hnew; exact ⟨by omega, hnew, by simp [capOpen]⟩)]
            simp
          · refine ⟨.slice (some ⟨k.size, 0, none⟩) ys.length (capOpen + i.size), k.push (some (.cells new true)), some k.size, ?_, .inr ⟨k.size, capOpen + i.size, new, by simp, rfl, .inr (by rw [hsz, hse]), by simpa using hb2, by simp, fun h => by rcases h with h | h; exact absurd (hpk _ h) (by omega); exact absurd (hqk _ h) (by omega), get_push_self, ?_⟩, by simp, by simp, rfl, fun c hc _ => get_push_ne (by omega), .inr ⟨by simp, rfl, _, by rw [← hsz]⟩⟩
            · simp only [aAppend, hu, hi, hn, hz]
              simp only [List.length_nil, Nat.zero_add] at hb hb2
              rw [if_neg (by simp only [Nat.zero_add]; omega)]
              simp only [Nat.zero_add, and_self, if_true, aGrow, h0, if_false]
            · exact hrow.mono (fun c hc => .inr hc) hoo (Fr.of fun c hc => get_push_ne (by have := hqk c hc; omega))
        · have hlen := hr.len
          have hcs : cells.size = xs.length * i.size := by simp at hlen; rw [hlen, hsz, hse]
          have hrw : k.row ⟨b, 0, none⟩ (xs.length * i.size) = some cells := by
            simp only [Hp.row, hg]
            rw [if_pos (by omega), Nat.zero_add, ← hcs]; simp
          have guard : ¬ (i.size = 0 ∨ new.size ≠ ys.length * i.size ∨ capOpen ≤ xs.length + ys.length ∨ 2 ^ 47 < (xs.length + ys.length) * i.bytes) := by omega
          have hfr : ∀ h', (∀ c, c < k.size → c ≠ b → h'.get c = k.get c) → rows e o (fun c => p c ∨ q c) h' (cells ++ new).toList (xs ++ ys) := fun h' hh => by
            rw [Array.toList_append]
            refine rows.append (hr.mono (fun _ h => .inl h) id (Fr.of fun c hc => hh c (hpk c hc) fun e => hpb (e ▸ hc))) (hrow.mono (fun _ h => .inr h) hoo (Fr.of fun c hc => hh c (hqk c hc) fun e => hqb b rfl (e ▸ hc)))
          have hnot : ¬ (p k.size ∨ q k.size) := fun h => by rcases h with h | h; exact absurd (hpk _ h) (by omega); exact absurd (hqk _ h) (by omega)
          by_cases h0 : ys.length = 0
          · have hy : ys = [] := List.eq_nil_of_length_eq_zero h0
            subst hy
            have hn0 : new.size = 0 := by simpa using hnew
            have hkn : k.known ⟨b, 0, none⟩ i.size = xs.length := by
              simp only [Hp.known, hg, Nat.zero_le, if_true, Nat.sub_zero, hcs]
              exact Nat.mul_div_cancel _ (by omega)
            refine ⟨.slice (some ⟨b, 0, none⟩) xs.length c, k, some b, ?_, .inr ⟨b, c, cells, by simp, rfl, by simpa using hc, by simpa using hcap, hbk, fun h => by rcases h with h | h; exact hpb h; exact hqb b rfl h, hg, ?_⟩, fun c hc => by cases hc; exact .inl (hro b rfl), Nat.le_refl _, rfl, fun _ _ _ => rfl, .inl ⟨rfl, rfl⟩⟩
            · simp only [aAppend, hu, hi, hn, hz]
              rw [if_neg guard]
              rcases hc with rfl | rfl
              · rw [if_pos hcap, if_pos (by simp)]
                simp [aInto, hn0]
              · rw [if_neg (by omega), if_neg (by omega), if_pos (by rw [hkn]; simp)]
                simp [aInto, hn0]
            · rw [List.append_nil]; exact hr.mono (fun _ h => .inl h) id (Fr.refl _)
          · rcases hc with rfl | rfl
            · refine ⟨_, k.push (some (.cells (cells ++ new) true)), some k.size, ?_, .inr ⟨k.size, capOpen + i.size, cells ++ new, rfl, rfl, .inr (by rw [hsz, hse]), by simpa using hb2, by simp, hnot, get_push_self, hfr _ fun c hc _ => get_push_ne (by omega)⟩, by simp, by simp, rfl, fun c hc _ => get_push_ne (by omega), .inr ⟨by simp, rfl, _, by rw [← hsz]⟩⟩
              simp only [aAppend, hu, hi, hn, hz]
              rw [if_neg guard, if_pos hcap, if_neg (by omega), hrw]
              simp [aGrow]
            · have hkn : k.known ⟨b, 0, none⟩ i.size = xs.length := by
                simp only [Hp.known, hg, Nat.zero_le, if_true, Nat.sub_zero, hcs]
                exact Nat.mul_div_cancel _ (by omega)
              refine ⟨_, (k.setB b none).push (some (.cells (cells ++ new) true)), some k.size, ?_, .inr ⟨k.size, capOpen + e.len, cells ++ new, rfl, rfl, .inr rfl, by simpa using hb2, by simp, hnot, by rw [← Hp.size_setB k b none, get_push_self], hfr _ fun c hc hne => by rw [get_push_ne (by simp; omega), get_set_ne hne]⟩, by simp, by simp, rfl, fun c hc hne => ?_, .inr ⟨by simp, rfl, _, by rw [hse]⟩⟩
              · simp only [aAppend, hu, hi, hn, hz]
                rw [if_neg guard, if_neg (by omega), if_neg (by omega), if_neg (by rw [hkn]; omega)]
                simp only [hg, hrw]
                rw [if_pos ⟨hro b rfl, hone⟩]
                simp
              · rw [get_push_ne (by simp; omega), get_set_ne (fun e => hne (by rw [e]))]
end
end Go.Abs
/- Contracts of functions that look at data; calls in regions that draw their order. -/
namespace Go.Abs
set_option linter.all false
/-- How arguments bear a datum. -/
structure Ar (α : Type) where
  r : (Nat → Prop) → Hp → List Value → α → Prop
  uniq : ∀ {p p' h vs x y}, r p h vs x → r p' h vs y → x = y
  mono : ∀ {p p' h h' vs x}, r p h vs x → (∀ b, p b → p' b) → Fr p h h' → r p' h' vs x
def Ar.nil : Ar Unit where
  r p h vs x := vs = []
  uniq _ _ := rfl
  mono h _ _ := h
def Ar.agg {α β : Type} (E : Rp α) (A : Ar β) : Ar (α × β) where
  r p h vs x := ∃ cs vs', vs = .agg cs.toArray :: vs' ∧ E.r false p h cs x.1 ∧ A.r p h vs' x.2
  uniq h h' := by
    obtain ⟨cs, vs, rfl, h1, h2⟩ := h
    obtain ⟨cs', vs', e, h3, h4⟩ := h'
    simp only [List.cons.injEq, Value.agg.injEq] at e
    obtain ⟨e1, rfl⟩ := e
    have e1 : cs = cs' := by simpa using e1
    subst e1
    exact Prod.ext (E.uniq h1 h3) (A.uniq h2 h4)
  mono h k f := by
    obtain ⟨cs, vs, e, h1, h2⟩ := h
    exact ⟨cs, vs, e, E.mono h1 k id f, A.mono h2 k f⟩
def Ar.one {α β : Type} (E : Rp α) (A : Ar β) : Ar (α × β) where
  r p h vs x := ∃ v vs', vs = v :: vs' ∧ E.r false p h [v] x.1 ∧ A.r p h vs' x.2
  uniq h h' := by
    obtain ⟨v, vs, rfl, h1, h2⟩ := h
    obtain ⟨v', vs', e, h3, h4⟩ := h'
    simp only [List.cons.injEq] at e
    obtain ⟨rfl, rfl⟩ := e
    exact Prod.ext (E.uniq h1 h3) (A.uniq h2 h4)
  mono h k f := by
    obtain ⟨v, vs, e, h1, h2⟩ := h
    exact ⟨v, vs, e, E.mono h1 k id f, A.mono h2 k f⟩
/-- Only such data. -/
def Ar.on {α : Type} (A : Ar α) (φ : α → Prop) : Ar α where
  r p h vs x := A.r p h vs x ∧ φ x
  uniq h h' := A.uniq h.1 h'.1
  mono h k f := ⟨A.mono h.1 k f, h.2⟩

open Classical in
noncomputable def gRd {α : Type} (A : Ar α) (spec : α → Value) : Array Value → Hp → Option (Value × Hp) := fun args h =>
  if hx : ∃ x, A.r (· < h.size) h args.toList x then some (spec (Classical.choose hx), h) else none
section
variable {P : Program} {intr : Intr} {α : Type} {A : Ar α} {spec : α → Value}
theorem gRd_val {h : Hp} {as : List Value} {x : α} (r : A.r (· < h.size) h as x) : gRd A spec as.toArray h = some (spec x, h) := by
  have hx : ∃ x, A.r (· < h.size) h as.toArray.toList x := ⟨x, by simpa using r⟩
  unfold gRd
  rw [dif_pos hx, A.uniq (Classical.choose_spec hx) (by simpa using r)]
theorem Con.rd (B : Base P) (hi : IntrOk P (CKb P) intr) {f : FuncId} (A : Ar α) {spec : α → Value} (hs : ∀ x, flatB (spec x) = true)
    (hev : ∀ (h : Hp) as x, h.ro ≤ h.size → A.r (· < h.size) h as x → ∃ n h', evalV P intr n (.fn f) as.toArray h = some (spec x, h') ∧ ∀ b, b < h.size → h'.get b = h.get b) : Con P (CKb P) f (gRd A spec) := by
  open Classical in
  have := Con.clean B hi (f := f) (F := fun args h => if hx : ∃ x, A.r (· < h.size) h args.toList x then some (spec (Classical.choose hx)) else none) fun args h v hv hro ha => by
    split at hv
    · rename_i hx
      cases hv
      obtain ⟨n, h', h1, h2⟩ := hev h args.toList _ hro (Classical.choose_spec hx)
      exact ⟨n, h', by simpa using h1, h2, flat_vok _ (hs _)⟩
    · cases hv
  intro args h v h' hg
  refine this args h v h' ?_
  unfold gRd at hg
  split at hg
  · rename_i hx
    simp only []
    rw [dif_pos hx]; exact hg
  · cases hg
theorem call_rd {I : Intr} {f : FuncId} (hI : I f = some (gRd A spec)) {n : Nat} {k : Hp} {as : List Value} {x : α} {p : Nat → Prop} (r : A.r p k as x) (hp : ∀ b, p b → b < k.size) : evalV P I (n + 1) (.fn f) as.toArray k = some (spec x, k) :=
  (evalV_intr hI).trans (gRd_val (A.mono r hp (Fr.refl _)))
def LiesAr (P : Program) (d : Nat) (ts : List TypeId) (A : Ar α) : Prop := ∀ (h : Hp) (as : List Value), LiesAll P h d ts as → ∃ x, A.r (· < h.size) h as x
theorem liesAr_nil {d : Nat} : LiesAr P d [] Ar.nil := fun h as hl => ⟨(), liesAll_nil hl⟩
theorem liesAr_agg {β : Type} {d : Nat} {t : TypeId} {ts : List TypeId} {E : Rp β} (ht : tAgg P t = some true) (hE : LiesRp P d t E) (hA : LiesAr P d ts A) : LiesAr P d (t :: ts) (Ar.agg E A) := fun h as hl => by
  obtain ⟨v, vs, rfl, h1, h2⟩ := liesAll_cons hl
  obtain ⟨cs, rfl, h3⟩ := liesV_agg ht h1
  obtain ⟨x, hx⟩ := hE h cs h3
  obtain ⟨y, hy⟩ := hA h vs h2
  exact ⟨(x, y), cs, vs, rfl, hx, hy⟩
theorem liesAr_one {β : Type} {d : Nat} {t : TypeId} {ts : List TypeId} {E : Rp β} (ht : tAgg P t = some false) (hE : LiesRp P d t E) (hA : LiesAr P d ts A) : LiesAr P d (t :: ts) (Ar.one E A) := fun h as hl => by
  obtain ⟨v, vs, rfl, h1, h2⟩ := liesAll_cons hl
  obtain ⟨x, hx⟩ := hE h [v] (liesV_one ht h1)
  obtain ⟨y, hy⟩ := hA h vs h2
  exact ⟨(x, y), v, vs, rfl, hx, hy⟩
end

/-! ### Heaps that keep what was there: as rules for rewriting -/
theorem keeps_refl {h : Hp} : Keeps h h = True := eq_true (Keeps.refl h)
theorem keeps_push {h k : Hp} {x : Option Blk} (a : Keeps h k) : Keeps h (k.push x) = True := eq_true (a.push x)
theorem keeps_set {h k : Hp} {c : Nat} {x : Option Blk} (a : Keeps h k) (hc : h.size ≤ c) : Keeps h (k.setB c x) = True := eq_true (a.set hc x)

/-! ### A call in a region that draws its order -/
section
variable {h g : Hp} {q : Nat → Bool} {fl : Bool}
theorem takeR_size {lo : Nat} : ∀ n : Nat, (h.takeR g q lo n).size = h.size
  | 0 => rfl
  | n + 1 => by simp only [Hp.takeR, Hp.size_setB]; exact takeR_size n
theorem takeR_ro {lo : Nat} : ∀ n : Nat, (h.takeR g q lo n).ro = h.ro
  | 0 => rfl
  | n + 1 => by simp only [Hp.takeR, Hp.ro_setB]; exact takeR_ro n
theorem takeR_get {lo b : Nat} : ∀ n : Nat, (h.takeR g q lo n).get b = if lo ≤ b ∧ b < lo + n then keepBlk q (g.get b) else h.get b
  | 0 => by simp only [Hp.takeR]; rw [if_neg (by omega)]
  | n + 1 => by
    simp only [Hp.takeR, Hp.get_setB, takeR_get n]
    by_cases hb : b = lo + n
    · subst hb; rw [if_pos rfl, if_pos (by omega)]
    · rw [if_neg hb]
      by_cases h1 : lo ≤ b ∧ b < lo + n
      · rw [if_pos h1, if_pos (by omega)]
      · rw [if_neg h1, if_neg (by omega)]
theorem more_size (hs : h.size ≤ g.size) : (h.more g q fl).size = g.size := by cases fl <;> rfl
theorem more_ro : (h.more g q fl).ro = h.ro := by
  cases fl
  · exact takeR_ro _
  · rfl
theorem more_old {b : Nat} (hb : b < h.size) : (h.more g q fl).get b = h.get b := by
  cases fl
  · show (h.takeR g q h.size (g.size - h.size)).get b = h.get b
    rw [takeR_get, if_neg (by omega)]
  · rfl
theorem more_new {b : Nat} (hb : h.size ≤ b) (hb' : b < g.size) : (h.more g q false).get b = keepBlk q (g.get b) := by
  show (h.takeR g q h.size (g.size - h.size)).get b = _
  rw [takeR_get, if_pos (by omega)]
theorem more_fr {p : Nat → Prop} (hp : ∀ b, p b → b < g.size ∧ q b = true) (ho : ∀ b y, b < h.size → g.get b = some y → h.get b = some y) : Fr p g (h.more g q false) := by
  intro b cs ow hb hg hv
  by_cases hb' : b < h.size
  · rw [more_old hb']; exact ho b _ hb' hg
  · rw [more_new (by omega) (hp b hb).1, hg]
    simp only [keepBlk]
    rw [if_pos]
    rw [Array.all_eq_true_iff_forall_mem]
    exact fun c hc => vin_p (hv c hc) fun b hb => (hp b hb).2
theorem view_old {bits : Nat} : ∀ {kept : List (Nat × Nat × Nat)} {b : Nat} {y : Blk}, (h.view bits kept).get b = some y → h.get b = some y
  | [], b, y, hb => hb
  | (i, lo, hi) :: kept, b, y, hb => by
    rw [view_cons] at hb
    split at hb
    · exact view_old hb
    · cases hb
theorem view_keeps {h0 : Hp} {bits : Nat} (hk : Keeps h0 h) : ∀ {kept : List (Nat × Nat × Nat)}, (∀ x ∈ kept, h0.size ≤ x.2.1) → Keeps h0 (h.view bits kept)
  | [], _ => ⟨by rw [view_size]; exact hk.size, fun b hb => by rw [view_nil]; exact hk.get b hb⟩
  | (i, lo, hi) :: kept, hl => ⟨by rw [view_size]; exact hk.size, fun b hb => by
      have h1 := hl _ List.mem_cons_self
      simp only [] at h1
      rw [view_cons, if_pos (by simp; left; right; omega)]
      exact (view_keeps hk fun x hx => hl x (List.mem_cons_of_mem _ hx)).get b hb⟩
theorem keeps_view_nil {h0 : Hp} {bits : Nat} (hk : Keeps h0 h) : Keeps h0 (h.view bits []) = True := eq_true (view_keeps hk (by simp))
theorem keepR_mem {j lo hi : Nat} {kept : List (Nat × Nat × Nat)} {x : Nat × Nat × Nat} (hx : x ∈ keepR j lo hi kept) : x = (j, lo, hi) ∨ x ∈ kept := by
  unfold keepR at hx
  split at hx
  · exact .inr hx
  · exact List.mem_cons.1 hx
theorem allow_own {s0 j lo hi bits id : Nat} {kept : List (Nat × Nat × Nat)} (h1 : lo ≤ id) (h2 : id < hi) (hb : bits.testBit j = true) : allow s0 (keepR j lo hi kept) bits id = true := by
  unfold keepR
  rw [if_neg (by omega), allow_cons]
  simp [hb, h1, h2]
theorem allow_old {s0 bits id : Nat} {kept : List (Nat × Nat × Nat)} (h1 : id < s0) : allow s0 kept bits id = true := by
  simp [allow, h1]
theorem allow_keep {s0 j lo hi bits id : Nat} {kept : List (Nat × Nat × Nat)} (h1 : allow s0 kept bits id = true) : allow s0 (keepR j lo hi kept) bits id = true := by
  unfold keepR
  split
  · exact h1
  · rw [allow_cons, h1]; simp
/-- What it made lies behind in the heap. -/
theorem KD2_fresh {R : Type} {P : Program} {call : CallF} {ops : Array Oper} {bits bits' s0 j : Nat} {l : List (Oper × Nat × Nat × Nat)} {kept : List (Nat × Nat × Nat)} {K : Act → Hp → Option R} {d : Option Tmp} {a : Act} {h k : Hp} {v : Value} (Q : Option R → Prop)
    (hk : Keeps (h.view bits kept) k) (hv : vin (fun b => b < s0 ∨ h.size ≤ b ∧ b < k.size) v) (hb : bits'.testBit j = true)
    (H : ∀ m : Hp, m.size = k.size → m.ro = h.ro → (∀ b, b < h.size → m.get b = h.get b) → (flatB v = false → ∀ p : Nat → Prop, (∀ b, p b → b < k.size ∧ (b < s0 ∨ h.size ≤ b)) → Fr p k m) →
      Q (evalDM P call ops s0 l (j + 1) (a.put d v) m (keepR j h.size k.size kept) false K)) : Q (KD2 P call ops bits bits' s0 j l kept K d a h (some (v, k))) := by
  have hs : h.size ≤ k.size := by have := hk.size; rwa [view_size] at this
  rw [KD2_some, if_pos hs, if_pos (vin_p hv fun b hb' => by
    rcases hb' with hb' | hb'
    · exact allow_old hb'
    · exact allow_own hb'.1 hb'.2 hb)]
  refine H _ (more_size hs) more_ro (fun b hb => more_old hb) fun hfl p hp => ?_
  rw [hfl]
  refine more_fr (fun b hb' => ⟨(hp b hb').1, ?_⟩) fun b y hb' hg => ?_
  · rcases (hp b hb').2 with h1 | h1
    · exact allow_old h1
    · exact allow_own h1 (hp b hb').1 hb
  · rw [hk.get b (by rw [view_size]; exact hb')] at hg
    exact view_old hg
end
end Go.Abs
namespace Go.Abs
theorem one_cell {α : Type} {E : Rp α} {o : Bool} {p : Nat → Prop} {h : Hp} {cs : List Value} {x : α} (hl : E.len = 1) (r : E.r o p h cs x) : ∃ v, cs = [v] := by
  have := E.rlen r
  match cs, this with
  | [v], _ => exact ⟨v, rfl⟩
  | [], e => simp [hl] at e
  | _ :: _ :: _, e => simp [hl] at e
theorem liesRpF_last {P : Program} {d : Nat} {α : Type} {f : Field} {E : Rp α} (h1 : LiesRp P d f.type E) : LiesRpF P d [f] E := fun h parts hl hp => by
  match parts, hl with
  | [q], _ =>
    obtain ⟨x, hx⟩ := h1 h q (hp 0 f q rfl rfl)
    exact ⟨x, by simpa using hx⟩
def LiesRpA (P : Program) (d : Nat) (e : TypeId) (n : Nat) {α : Type} (F : Rp α) : Prop := ∀ (h : Hp) (parts : List (List Value)), parts.length = n → (∀ q ∈ parts, Lies P h d e q) → ∃ x, F.r false (· < h.size) h parts.flatten x
theorem liesRpA_last {P : Program} {d : Nat} {α : Type} {e : TypeId} {E : Rp α} (h1 : LiesRp P d e E) : LiesRpA P d e 1 E := fun h parts hl hp => by
  match parts, hl with
  | [q], _ =>
    obtain ⟨x, hx⟩ := h1 h q (hp q (by simp))
    exact ⟨x, by simpa using hx⟩
theorem liesRpA_cons {P : Program} {d n : Nat} {α β : Type} {e : TypeId} {E : Rp α} {F : Rp β} (h1 : LiesRp P d e E) (h2 : LiesRpA P d e n F) : LiesRpA P d e (n + 1) (Rp.pair E F) := fun h parts hl hp => by
  cases parts with
  | nil => simp at hl
  | cons q ps =>
    obtain ⟨x, hx⟩ := h1 h q (hp q (by simp))
    obtain ⟨y, hy⟩ := h2 h ps (by simpa using hl) fun r hr => hp r (List.mem_cons_of_mem _ hr)
    exact ⟨(x, y), q, ps.flatten, by simp, hx, hy⟩
theorem liesRp_arr {P : Program} {d n : Nat} {t e : TypeId} {α : Type} {F : Rp α} (hu : P.underlying t = some (.array n e)) (hf : LiesRpA P d e n F) : LiesRp P (d + 1) t F := fun h cs hl => by
  obtain ⟨parts, rfl, h1, h2⟩ := lies_array hu hl
  exact hf h parts h1 fun q hq => (h2 q hq).2
theorem flatOk_cons_inv {s : Sc} {ss : List Sc} {cs : List Value} (h : flatOk (s :: ss) cs) : ∃ v vs, cs = v :: vs ∧ scOk s v ∧ flatOk ss vs := by
  cases cs with
  | nil => exact h.elim
  | cons v vs => exact ⟨v, vs, rfl, h⟩
theorem flatOk_nil_inv {cs : List Value} (h : flatOk [] cs) : cs = [] := by
  cases cs with
  | nil => rfl
  | cons v vs => exact h.elim
theorem scOk_int_inv {k : IntKind} {v : Value} (h : scOk (.int k) v) : ∃ x, v = .int k x ∧ k.min ≤ x ∧ x ≤ k.max := by
  cases v <;> simp [scOk] at h
  obtain ⟨rfl, h⟩ := h; exact ⟨_, rfl, h⟩
theorem scOk_bool_inv {v : Value} (h : scOk .bool v) : ∃ x, v = .bool x := by
  cases v <;> simp [scOk] at h
  exact ⟨_, rfl⟩
end Go.Abs
namespace Go.Abs
section
variable {α β : Type} {a : Rp α} {b : Rp β} {o : Bool} {p : Nat → Prop} {h : Hp} {cs c d : List Value} {x : α × β} {k : IntKind} {n : Int} {t : Bool}
theorem Rp.pair_inv (r : (Rp.pair a b).r o p h cs x) : ∃ c d, cs = c ++ d ∧ a.r o p h c x.1 ∧ b.r o p h d x.2 := r
theorem Rp.pair_mk (r : a.r o p h c x.1) (s : b.r o p h d x.2) : (Rp.pair a b).r o p h (c ++ d) x := ⟨c, d, rfl, r, s⟩
theorem Rp.int_inv (r : (Rp.int k).r o p h cs n) : cs = [.int k n] ∧ k.min ≤ n ∧ n ≤ k.max := r
theorem Rp.int_mk (r : k.min ≤ n ∧ n ≤ k.max) : (Rp.int k).r o p h [.int k n] n := ⟨rfl, r⟩
theorem Rp.bool_inv (r : Rp.bool.r o p h cs t) : cs = [.bool t] := r
theorem Rp.bool_mk : Rp.bool.r o p h [.bool t] t := rfl
end
end Go.Abs
namespace Go.Abs
theorem call_rdk {P : Program} {α : Type} {A : Ar α} {spec : α → Value} {I : Intr} {f : FuncId} (hI : I f = some (gRd A spec)) (N : Nat) {h : Hp} {vs : List Value} {x : α} (r : A.r (· < h.size) h vs x) (hN : 0 < N := by decide) (k : Hp) (hk : Keeps h k) :
    evalV P I N (.fn f) vs.toArray k = some (spec x, k) := by
  obtain ⟨n, rfl⟩ : ∃ n, N = n + 1 := ⟨N - 1, by omega⟩
  exact call_rd hI (A.mono r (fun _ h => h) (hk.fr fun _ h => h)) fun b hb => Nat.lt_of_lt_of_le hb hk.size
end Go.Abs
/- Building structs and arrays, by rewriting. -/
namespace Go.Abs
set_option linter.all false
/-- Where a part of a struct or array lies, and its size. -/
def tBuildF (P : Program) (t : TypeId) (i : Nat) : Option (Nat × Nat) := match P.underlying t with
  | some (.struct fs) => match fs[i]? with
    | some f => (tSize P f.type).map fun s => (f.offset, s)
    | none => none
  | some (.array _ e) => (tSize P e).map fun s => (i * s, s)
  | _ => none
def tBuildOk (P : Program) (t : TypeId) : Bool := match P.underlying t with
  | some (.struct fs) => fs.toList.all fun f => (tSize P f.type).isSome
  | some (.array _ e) => (tSize P e).isSome
  | _ => false
def fillT (P : Program) (t : TypeId) (cells : Array Value) : List (Nat × Value) → Option (Array Value)
  | [] => some cells
  | (i, v) :: rest => match tBuildF P t i with
    | none => none
    | some (off, size) => if v.cells.size = size ∧ off + size ≤ cells.size then fillT P t (splice cells off v.cells.toList) rest else none
section
variable {P : Program} {t : TypeId}
theorem fillT_nil {cells : Array Value} : fillT P t cells [] = some cells := nd rfl
def fillK (P : Program) (t : TypeId) (x : Option (Nat × Nat)) (cells : Array Value) (v : Value) (rest : List (Nat × Value)) : Option (Array Value) := match x with
  | none => none
  | some (off, size) => if v.cells.size = size ∧ off + size ≤ cells.size then fillT P t (splice cells off v.cells.toList) rest else none
theorem fillT_cons {cells : Array Value} {i : Nat} {v : Value} {rest : List (Nat × Value)} : fillT P t cells ((i, v) :: rest) = fillK P t (tBuildF P t i) cells v rest := nd rfl
theorem fillK_some {cells : Array Value} {v : Value} {rest : List (Nat × Value)} {off size : Nat} :
    fillK P t (some (off, size)) cells v rest = if v.cells.size = size ∧ off + size ≤ cells.size then fillT P t (splice cells off v.cells.toList) rest else none := nd rfl
theorem fillT_fill {place : Nat → Option (Nat × Nat)} (hp : ∀ i, place i = tBuildF P t i) : ∀ (l : List (Nat × Value)) (cells : Array Value), Instr.fill place cells l = fillT P t cells l
  | [], cells => rfl
  | (i, v) :: rest, cells => by
    simp only [Instr.fill, fillT, hp]
    cases tBuildF P t i with
    | none => rfl
    | some x =>
      obtain ⟨off, size⟩ := x
      simp only []
      by_cases h : v.cells.size = size ∧ off + size ≤ cells.size
      · rw [if_pos h, if_neg (by simp; omega), foldl_arr, fillT_fill hp]
      · rw [if_neg h, if_pos (by simp; omega)]
theorem pureP_mapM {α β : Type} (f : α → Sem β) (g : α → β) : ∀ l : List α, (∀ x ∈ l, pureP P (f x) = some (g x)) → pureP P (l.mapM f) = some (l.map g)
  | [], _ => by simp
  | x :: l, h => by
    simp only [List.mapM_cons, pureP_bind]
    rw [h x List.mem_cons_self, Option.bind_some, pureP_mapM f g l fun y hy => h y (List.mem_cons_of_mem _ hy)]
    simp
theorem pureP_mapA {α β : Type} (f : α → Sem β) (g : α → β) (a : Array α) (h : ∀ x ∈ a.toList, pureP P (f x) = some (g x)) : pureP P (a.mapM f) = some (a.map g) := by
  rw [Array.mapM_eq_mapM_toList]
  have : (List.toArray <$> a.toList.mapM f : Sem (Array β)) = (a.toList.mapM f >>= fun l => pure l.toArray) := rfl
  rw [this, pureP_bind, pureP_mapM f g _ h]
  simp only [Option.bind_some, pureP_pure, Option.some.injEq]
  apply Array.ext'
  simp
theorem build_val {parts : Array (Nat × Value)} (hz : (tZero P t).isSome = true) (hk : tBuildOk P t = true) : pureP P (Instr.build t parts) = (fillT P t ((tZero P t).getD #[]) parts.toList).map .agg := by
  unfold Instr.build
  unfold tZero at hz ⊢
  rw [pureP_bind, pureP_zeroValue]
  cases hzv : (P.info? t).bind (·.zero) with
  | none => rw [hzv] at hz; simp at hz
  | some z =>
    simp only [Option.bind_some, Option.map_some, Option.getD_some, pureP_bind, pureP_underlying]
    unfold tBuildOk at hk
    cases hu : P.underlying t with
    | none => rw [hu] at hk; cases hk
    | some u =>
      rw [hu] at hk
      simp only [Option.bind_some]
      cases u <;> simp only [] at hk ⊢ <;> first | (cases hk; done) | skip
      · rename_i n e
        obtain ⟨s, hs⟩ := Option.isSome_iff_exists.1 hk
        unfold tSize at hs
        rw [pureP_bind, pureP_sizeOf, hs, Option.bind_some]
        rw [fillT_fill (P := P) (t := t) (fun i => by simp [tBuildF, hu, tSize, hs])]
        cases fillT P t z.cells parts.toList <;> simp
      · rename_i fs
        have key := pureP_mapA (P := P) (fun f : Field => do pure (f.offset, ← sizeOf f.type)) (fun f => (f.offset, (tSize P f.type).getD 0)) fs (fun f hf => by
          have h1 := List.all_eq_true.1 hk f hf
          obtain ⟨s, hs⟩ := Option.isSome_iff_exists.1 h1
          rw [hs]
          unfold tSize at hs
          rw [pureP_bind, pureP_sizeOf, hs]; rfl)
        rw [pureP_bind, key, Option.bind_some]
        rw [fillT_fill (P := P) (t := t) (fun i => by
          simp only [tBuildF, hu, Array.getElem?_map]
          cases hf : fs[i]? with
          | none => rfl
          | some f =>
            have h1 := List.all_eq_true.1 hk f (by simpa using Array.mem_of_getElem? hf)
            obtain ⟨s, hs⟩ := Option.isSome_iff_exists.1 h1
            simp [hs])]
        cases fillT P t z.cells parts.toList <;> simp
end
end Go.Abs
namespace Go.Abs
/-! ### Functions that give of what they are handed -/
open Classical in
noncomputable def gRdv {α : Type} (A : Ar α) (spec : List Value → α → Value) : Array Value → Hp → Option (Value × Hp) := fun args h =>
  if hx : ∃ x, A.r (· < h.size) h args.toList x then some (spec args.toList (Classical.choose hx), h) else none
section
variable {P : Program} {intr : Intr} {α : Type} {A : Ar α} {spec : List Value → α → Value}
theorem gRdv_val {h : Hp} {vs : List Value} {x : α} (r : A.r (· < h.size) h vs x) : gRdv A spec vs.toArray h = some (spec vs x, h) := by
  have hx : ∃ x, A.r (· < h.size) h vs.toArray.toList x := ⟨x, by simpa using r⟩
  unfold gRdv
  rw [dif_pos hx, A.uniq (Classical.choose_spec hx) (by simpa using r)]
theorem Con.rdv (B : Base P) (hi : IntrOk P (CKb P) intr) {f : FuncId} (A : Ar α) {spec : List Value → α → Value} (hs : ∀ (h : Hp) vs x, A.r (· < h.size) h vs x → vok h.size (spec vs x))
    (hev : ∀ (h : Hp) vs x, h.ro ≤ h.size → A.r (· < h.size) h vs x → ∃ n h', evalV P intr n (.fn f) vs.toArray h = some (spec vs x, h') ∧ ∀ b, b < h.size → h'.get b = h.get b) : Con P (CKb P) f (gRdv A spec) := by
  open Classical in
  have := Con.clean B hi (f := f) (F := fun args h => if hx : ∃ x, A.r (· < h.size) h args.toList x then some (spec args.toList (Classical.choose hx)) else none) fun args h v hv hro ha => by
    split at hv
    · rename_i hx
      cases hv
      obtain ⟨n, h', h1, h2⟩ := hev h args.toList _ hro (Classical.choose_spec hx)
      exact ⟨n, h', by simpa using h1, h2, hs _ _ _ (Classical.choose_spec hx)⟩
    · cases hv
  intro args h v h' hg
  refine this args h v h' ?_
  unfold gRdv at hg
  split at hg
  · rename_i hx
    simp only []
    rw [dif_pos hx]; exact hg
  · cases hg
theorem call_rdv {I : Intr} {f : FuncId} (hI : I f = some (gRdv A spec)) (N : Nat) {h : Hp} {vs : List Value} {x : α} (r : A.r (· < h.size) h vs x) (hN : 0 < N := by decide) (k : Hp) (hk : Keeps h k) :
    evalV P I N (.fn f) vs.toArray k = some (spec vs x, k) := by
  obtain ⟨n, rfl⟩ : ∃ n, N = n + 1 := ⟨N - 1, by omega⟩
  exact (evalV_intr hI).trans (gRdv_val (A.mono r (fun b hb => Nat.lt_of_lt_of_le hb hk.size) (hk.fr fun _ h => h)))
end
end Go.Abs
namespace Go.Abs
theorem ne_f {b n k : Nat} (h : b < n) : (b = n + k) = False := by simp; omega
theorem ne_f0 {b n : Nat} (h : b < n) : (b = n) = False := by simp; omega
theorem lt_t {b n k : Nat} (h : b < n) : (b < n + k) = True := by simp; omega
end Go.Abs
namespace Go.Abs
section
variable {P : Program} {α : Type} {e : Rp α} {o : Bool} {p : Nat → Prop} {h : Hp} {v : Value} {xs : List α}
/-- An element, as rewriting asks for it. -/
theorem elem_at {s : Nat} (r : (Rp.slice e).r o p h [v] xs) {i : Nat} {x : α} (hx : xs[i]? = some x) (hs : e.len = s) (he : 0 < s) :
    ∃ b off c cells ow part, v = .slice (some ⟨b, off, none⟩) xs.length c ∧ p b ∧ h.get b = some (.cells cells ow) ∧ (o = true → ow = true) ∧ e.r o p h part x ∧ off + (i * s + s) ≤ cells.size ∧
      cells.extract (off + i * s) (off + (i * s + s)) = part.toArray ∧ (∀ k, k < s → cells[off + (i * s + k)]? = part[k]?) := by
  subst hs
  obtain ⟨b, off, c, cells, ow, part, h1, h2, h3, h4, h5, h6, h7, h8, h9⟩ := slice_elem r hx he
  rw [Nat.add_assoc] at h5 h9
  exact ⟨b, off, c, cells, ow, part, h1, h2, h3, h4, h7, h5, h9, h8⟩
noncomputable instance decValue : DecidableEq Value := fun a b => Classical.propDecidable _
/-- Equality of values that bear no address. -/
theorem eq_flat {t : TypeId} {k : List Sc} {xs ys : List Value} (hk : flatT P Op.maxDepth t = some k) (hg : P.eqGuardType P.depth t = false) (ha : tAgg P t = some true) (hx : flatOk k xs) (hy : flatOk k ys) :
    aBin P .eql t (.agg xs.toArray) (.agg ys.toArray) = some (.bool (decide (xs = ys))) ∧ aBin P .neq t (.agg xs.toArray) (.agg ys.toArray) = some (.bool (!decide (xs = ys))) := by
  obtain ⟨b, h1, h2⟩ := cellsEq_ok hx hy
  have := bin_eql_agg (xs := xs.toArray) (ys := ys.toArray) hk hg ha h1
  have e : b = decide (xs = ys) := by
    cases b
    · exact (decide_eq_false fun h => by have := h2.2 h; cases this).symm
    · exact (decide_eq_true (h2.1 rfl)).symm
  rw [e] at this
  exact this
end
end Go.Abs
namespace Go.Abs
theorem lt_t0 {b n : Nat} (h : b < n) : (b < n) = True := eq_true h
theorem vb_flat {k : List Sc} {cs : List Value} {p : Nat → Bool} (h : flatOk k cs) : vokB p (.agg cs.toArray) = true := by
  rw [vb_agg]
  rw [Array.all_eq_true_iff_forall_mem]
  exact fun c hc => vokB_of_vok (n := 0) (fun b hb => by omega) c (flat_vok c (h.mem c (by simpa using hc)).1)
theorem all_flat {k : List Sc} {cs : List Value} {p : Nat → Bool} (h : flatOk k cs) : cs.all (vokB p) = true := by
  rw [List.all_eq_true]
  exact fun c hc => vokB_of_vok (n := 0) (fun b hb => by omega) c (flat_vok c (h.mem c hc).1)
end Go.Abs
namespace Go.Abs
theorem extract_one {cells : Array Value} {j : Nat} {w : Value} (h : cells[j]? = some w) : cells.extract j (j + 1) = #[w] := by
  obtain ⟨hj, rfl⟩ := Array.getElem?_eq_some_iff.1 h
  apply Array.ext_getElem?
  intro i
  rw [Array.getElem?_extract]
  by_cases hi : i = 0
  · subst hi
    rw [if_pos (by omega)]
    simp [hj]
  · rw [if_neg (by omega)]
    simp [hi]
end Go.Abs
namespace Go.Abs
theorem vb_old {s0 bits : Nat} {kept : List (Nat × Nat × Nat)} {v : Value} (h : vin (· < s0) v) : vokB (allow s0 kept bits) v = true := vin_p h fun b hb => allow_old hb
end Go.Abs
namespace Go.Abs
theorem lap_cons {α : Type} {x : α} {l m : List α} : List.append (x :: l) m = x :: List.append l m := nd rfl
theorem lap_nil {α : Type} {m : List α} : List.append ([] : List α) m = m := nd rfl
end Go.Abs
/- What a piece of a run comes to, with what it has made; steps of a walk over calls that make data. -/
namespace Go.Abs
set_option linter.all false
/-- The same list of what was given away, under a name that rewriting leaves alone. -/
def keepS (j lo hi : Nat) (kept : List (Nat × Nat × Nat)) : List (Nat × Nat × Nat) := keepR j lo hi kept
/-- It comes to a value of a kind, and what was there stays. -/
def Al (h : Hp) (R : Hp → Value → Prop) (r : Option (Value × Hp)) : Prop := ∃ v k, r = some (v, k) ∧ Keeps h k ∧ k.ro = h.ro ∧ R k v
section
variable {P : Program} {call : CallF} {h k : Hp} {R S : Hp → Value → Prop} {r : Option (Value × Hp)}
theorem Al.done {v : Value} (hk : Keeps h k) (hr : k.ro = h.ro) (hR : R k v) : Al h R (some (v, k)) := ⟨v, k, rfl, hk, hr, hR⟩
theorem al_kops {ops : Array Oper} {l : List Oper} {Ka : Act → Hp → Option (Value × Hp)} {d : Option Tmp} {a : Act} {top : Bool} {op : Op} {hh : Hp} (x : Al k S r) (H : ∀ v k', Keeps k k' → k'.ro = k.ro → S k' v → Al h R (Kops P call top ops l Ka d op a hh (some (v, k')))) :
    Al h R (Kops P call top ops l Ka d op a hh r) := by
  obtain ⟨v, k', rfl, h1, h2, h3⟩ := x
  exact H v k' h1 h2 h3
theorem al_kd1 {ops : Array Oper} {bits bits' s0 j : Nat} {l : List (Oper × Nat × Nat × Nat)} {kept : List (Nat × Nat × Nat)} {Ka : Act → Hp → Option (Value × Hp)} {d : Option Tmp} {a : Act} (x : Al k S r)
    (hv : ∀ v k', Keeps k k' → S k' v → vin (fun b => b < s0 ∨ k.size ≤ b ∧ b < k'.size) v) (hb : bits'.testBit j = true)
    (H : ∀ v k', Keeps k k' → k'.ro = k.ro → S k' v → Al h R (evalDM P call ops s0 l (j + 1) (a.put d v) k' (keepS j k.size k'.size kept) true Ka)) :
    Al h R (KD1 P call ops bits bits' s0 j l kept Ka d a k r) := by
  obtain ⟨v, k', rfl, h1, h2, h3⟩ := x
  rw [KD1_some, if_pos h1.size, if_pos (vin_p (hv v k' h1 h3) fun b hb' => by
    rcases hb' with hb' | hb'
    · exact allow_old hb'
    · exact allow_own hb'.1 hb'.2 hb)]
  exact H v k' h1 h2 h3
theorem al_kd2 {ops : Array Oper} {bits bits' s0 j : Nat} {l : List (Oper × Nat × Nat × Nat)} {kept : List (Nat × Nat × Nat)} {Ka : Act → Hp → Option (Value × Hp)} {d : Option Tmp} {a : Act} (x : Al (k.view bits kept) S r)
    (hv : ∀ v k', Keeps (k.view bits kept) k' → S k' v → vin (fun b => b < s0 ∨ k.size ≤ b ∧ b < k'.size) v) (hb : bits'.testBit j = true)
    (H : ∀ v k' m, Keeps (k.view bits kept) k' → S k' v → m.size = k'.size → m.ro = k.ro → (∀ b, b < k.size → m.get b = k.get b) → (flatB v = false → ∀ p : Nat → Prop, (∀ b, p b → b < k'.size ∧ (b < s0 ∨ k.size ≤ b)) → Fr p k' m) →
      Al h R (evalDM P call ops s0 l (j + 1) (a.put d v) m (keepS j k.size k'.size kept) false Ka)) :
    Al h R (KD2 P call ops bits bits' s0 j l kept Ka d a k r) := by
  obtain ⟨v, k', rfl, h1, h2, h3⟩ := x
  exact KD2_fresh (Al h R) h1 (hv v k' h1 h3) hb fun m m1 m2 m3 m4 => H v k' m h1 h3 m1 m2 m3 m4
end
theorem Con.al {P : Program} {intr : Intr} {α : Type} {spec : α → Value} (B : Base P) (hi : IntrOk P (CKb P) intr) {f : FuncId} (A : Ar α) (hs : ∀ x, flatB (spec x) = true)
    (hev : ∀ (h : Hp) vs x, h.ro ≤ h.size → A.r (· < h.size) h vs x → ∃ n, Al h (fun _ w => w = spec x) (evalV P intr n (.fn f) vs.toArray h)) : Con P (CKb P) f (gRd A spec) :=
  Con.rd B hi A hs fun h vs x hro hx => by
    obtain ⟨n, v, k, h1, h2, h3, rfl⟩ := hev h vs x hro hx
    exact ⟨n, k, h1, h2.get⟩
theorem build_nil_r {P : Program} {t : TypeId} {h : Hp} (hT : (tRow P t).isSome = true) : aBuildSlice P t 0 #[] h = some (.slice (some ⟨h.size, 0, none⟩) 0 0, h.push (some (.cells #[] true))) := by
  obtain ⟨⟨s, b, z⟩, hT⟩ := Option.isSome_iff_exists.1 hT
  exact build_nil hT
/-- A cut of a slice, as a value. -/
def cutV (v : Value) (l hh s : Nat) : Value := match v with
  | .slice a n c => if c < capOpen then .slice (if c = l then a else a.map (·.add (l * s))) (hh - l) (c - l) else .slice (if l = 0 then a else a.map (·.add (l * s))) (hh - l) c
  | v => v
section
variable {P : Program} {α : Type} {e : Rp α} {o : Bool} {p : Nat → Prop} {h : Hp} {v : Value} {xs : List α}
theorem cut_rp {t : TypeId} {l hh : Nat} {lov hiv : Option Value} (r : (Rp.slice e).r o p h [v] xs) (ht : tElem P t = some e.len) (he : 0 < e.len) (hl : bndOk lov 0 l) (hhi : bndOk hiv xs.length hh) (h1 : l ≤ hh) (h2 : hh ≤ xs.length)
    (hx : l = 0 ∨ l < xs.length) : aSlice P t v lov hiv none h = some (cutV v l hh e.len, h) ∧ (Rp.slice e).r o p h [cutV v l hh e.len] ((xs.take hh).drop l) := by
  obtain ⟨v', e1, r'⟩ := slice_rp r ht he hl hhi h1 h2 hx
  have : v' = cutV v l hh e.len := by
    obtain ⟨a, c, e', ⟨hc1, hc2⟩, hcap, hcase⟩ := r
    simp only [List.cons.injEq, and_true] at e'
    subst e'
    unfold cutV
    simp only []
    by_cases hc : c < capOpen
    · rw [if_pos hc]
      have key := sliceAt_val (a := a) (s := e.len) (c := c) ht hl hhi h1 (by omega)
      cases a <;> simp only [aSlice, if_pos hc, key, Option.map_some, Option.some.injEq, Prod.mk.injEq, and_true] at e1 <;> exact e1.symm
    · rw [if_neg hc]
      rcases hcase with ⟨rfl, hc0, _⟩ | ⟨b, off, cells, ow, rfl, hb1, hg, ho, hv, hs, hr⟩
      · rcases hc0 with rfl | ⟨b, off, rfl⟩
        · simp [capOpen] at hc
        · have hc3 : c = capOpen + e.len := by rcases hc2 with h | h; exact absurd h hc; exact h
          subst hc3
          have hl0 : l = 0 := by have : hh = 0 := by simpa using h2
                                 omega
          have hh0 : hh = 0 := by simpa using h2
          subst hl0 hh0
          unfold tElem at ht
          cases hu : P.underlying t with
          | none => rw [hu] at ht; cases ht
          | some u =>
            rw [hu] at ht
            cases u <;> simp only [] at ht <;> first | (cases ht; done) | skip
            rename_i el
            unfold tSize at ht
            simp only [aSlice, hc, if_false, hu, pureP_sizeOf, ht, bnd_natOr hl, bnd_natOr hhi] at e1
            rw [if_neg (by simp; omega), if_pos ⟨Nat.zero_le _, Nat.zero_le _⟩, if_pos trivial] at e1
            cases e1
            simp
      · have hc3 : c = capOpen + e.len := by rcases hc2 with h | h; exact absurd h hc; exact h
        subst hc3
        unfold tElem at ht
        cases hu : P.underlying t with
        | none => rw [hu] at ht; cases ht
        | some u =>
          rw [hu] at ht
          cases u <;> simp only [] at ht <;> first | (cases ht; done) | skip
          rename_i el
          unfold tSize at ht
          have hk : xs.length ≤ h.known ⟨b, off, none⟩ e.len := by
            simp only [Hp.known, hg]
            rw [if_pos (by omega)]
            exact (Nat.le_div_iff_mul_le he).2 (by omega)
          simp only [aSlice, hc, if_false, hu, pureP_sizeOf, ht, bnd_natOr hl, bnd_natOr hhi] at e1
          rw [if_neg (by simp; omega), if_pos ⟨h1, by omega⟩] at e1
          by_cases hl0 : l = 0
          · subst hl0
            rw [if_pos rfl] at e1
            cases e1
            simp
          · rw [if_neg hl0, if_pos (by omega), add_none] at e1
            cases e1
            rw [if_neg hl0]; simp [add_none]
  subst this
  exact ⟨e1, r'⟩
end
/-- A literal without elements. -/
theorem own_empty {α : Type} {e : Rp α} {o : Bool} {k : Hp} {b : Nat} (hb : b < k.size) (hg : k.get b = some (.cells #[] true)) : OwnS e o (fun _ => False) k (.slice (some ⟨b, 0, none⟩) 0 0) (some b) ([] : List α) :=
  .inr ⟨b, 0, #[], rfl, rfl, .inl rfl, by simp [capOpen], hb, id, hg, rfl⟩
/-- A copy: what is appended to a literal without elements. -/
theorem copy_al {P : Program} {α : Type} {e : Rp α} {o : Bool} {q : Nat → Prop} {k : Hp} {w : Value} {ys : List α} {t tx : TypeId} {s by' : Nat} {z : Array Value} {b : Nat} (hT : tRow P t = some (s, by', z)) (hx : rowOrText (P.underlying tx) = true) (hse : s = e.len) (hs : 0 < s)
    (hw : (Rp.slice e).r o q k [w] ys) (hb : b < k.size) (hg : k.get b = some (.cells #[] true)) (hro : k.ro ≤ b) (hq : ∀ c, q c → c < k.size) (hqb : ¬ q b) (hby : ys.length * by' ≤ 2 ^ 47) (hl : ys.length < capOpen) :
    Al k (fun k' v => ∃ b', (b' = b ∨ b' = k.size) ∧ b' < k'.size ∧ OwnS e o q k' v (some b') ys) (aAppend P #[t, tx] #[.slice (some ⟨b, 0, none⟩) 0 0, w] k) := by
  unfold tRow at hT
  cases hu : P.underlying t with
  | none => rw [hu] at hT; cases hT
  | some u =>
    rw [hu] at hT
    cases u <;> simp only [] at hT <;> first | (cases hT; done) | skip
    rename_i el
    cases hi : P.info? el with
    | none => rw [hi] at hT; cases hT
    | some i =>
      rw [hi] at hT
      simp only [] at hT
      cases hz : i.zero with
      | none => rw [hz] at hT; cases hT
      | some zz =>
        rw [hz] at hT
        simp only [Option.some.injEq, Prod.mk.injEq] at hT
        obtain ⟨hsz, rfl, rfl⟩ := hT
        obtain ⟨new, hn, hnew, hrow⟩ := news_rp (P := P) (t := tx) (s := i.size) hw hx (by omega) (by omega)
        have hms : ys.length ≤ ys.length * i.size := Nat.le_mul_of_pos_right _ (by omega)
        have guard : ¬ (i.size = 0 ∨ new.size ≠ ys.length * i.size ∨ capOpen ≤ 0 + ys.length ∨ 2 ^ 47 < (0 + ys.length) * i.bytes) := by rw [Nat.zero_add]; omega
        have c0 : (0 : Nat) < capOpen := by simp [capOpen]
        by_cases h0 : ys.length = 0
        · have hy : ys = [] := List.eq_nil_of_length_eq_zero h0
          subst hy
          have hn0 : new.size = 0 := by simpa using hnew
          refine ⟨.slice (some ⟨b, 0, none⟩) 0 0, k, ?_, Keeps.refl _, rfl, b, .inl rfl, hb, .inr ⟨b, 0, #[], rfl, rfl, .inl rfl, by simp [capOpen], hb, hqb, hg, rfl⟩⟩
          simp only [aAppend, hu, hi, hn, hz]
          rw [if_neg guard, if_pos c0, if_pos (by simp)]
          simp [aInto, hn0]
        · have hrw : k.row ⟨b, 0, none⟩ (0 * i.size) = some #[] := by
            simp only [Hp.row, hg]
            simp
          refine ⟨_, k.push (some (.cells (#[] ++ new) true)), ?_, ⟨by simp, fun d hd => get_push_ne (by omega)⟩, rfl, k.size, .inr rfl, by simp, .inr ⟨k.size, capOpen + i.size, #[] ++ new, rfl, rfl, .inr (by rw [hsz, hse]), hl, by simp, fun h => absurd (hq _ h) (by omega), get_push_self, ?_⟩⟩
          · simp only [aAppend, hu, hi, hn, hz]
            rw [if_neg guard, if_pos c0, if_neg (by omega), hrw]
            simp [aGrow]
          · rw [Array.empty_append]
            exact hrow.mono (fun _ h => h) id (Fr.of fun c hc => get_push_ne (by have := hq c hc; omega))
end Go.Abs
namespace Go.Abs
section
variable {α : Type} {e : Rp α} {o o' : Bool} {p p' : Nat → Prop} {k k' : Hp} {v : Value} {xs : List α} {b : Nat}
theorem OwnS.form (r : OwnS e o p k v (some b) xs) : ∃ c, v = .slice (some ⟨b, 0, none⟩) xs.length c := by
  rcases r with ⟨_, h, _⟩ | ⟨b', c, cells, h1, h, _⟩
  · cases h
  · cases h; exact ⟨c, h1⟩
theorem rows_flat {K : List Sc} : ∀ {cs : List Value} {xs : List (List Value)}, rows (Rp.flat K) o p k cs xs → rows (Rp.flat K) o' p' k' cs xs
  | _, [], r => r
  | cs, x :: xs, r => by
    obtain ⟨c, d, e', h1, h2⟩ := r
    exact ⟨c, d, e', h1, rows_flat h2⟩
theorem OwnS.flat {K : List Sc} {xs : List (List Value)} {b? : Option Nat} (r : OwnS (Rp.flat K) o p k v b? xs) (hb : ∀ b, b? = some b → ¬ p' b) : OwnS (Rp.flat K) o' p' k v b? xs := by
  rcases r with h | ⟨b, c, cells, rfl, rfl, h1, h2, h3, h4, h5, h6⟩
  · exact .inl h
  · exact .inr ⟨b, c, cells, rfl, rfl, h1, h2, h3, hb b rfl, h5, rows_flat h6⟩
end
end Go.Abs
/- Slices that are made by appending one element after the other. -/
namespace Go.Abs
set_option linter.all false
def Ex (S : Value → Hp → Prop) (r : Option (Value × Hp)) : Prop := ∃ v k, r = some (v, k) ∧ S v k
section
variable {P : Program} {call : CallF} {h k : Hp} {R : Hp → Value → Prop} {S : Value → Hp → Prop} {r : Option (Value × Hp)}
theorem ex_kops {ops : Array Oper} {l : List Oper} {Ka : Act → Hp → Option (Value × Hp)} {d : Option Tmp} {a : Act} {top : Bool} {op : Op} {hh : Hp} (x : Ex S r) (H : ∀ v k', S v k' → Al h R (Kops P call top ops l Ka d op a hh (some (v, k')))) :
    Al h R (Kops P call top ops l Ka d op a hh r) := by
  obtain ⟨v, k', rfl, h1⟩ := x
  exact H v k' h1
end
theorem build_one_r {P : Program} {t : TypeId} {h : Hp} {v : Value} (hT : (tRow P t).isSome = true) (hv : some v.cells.size = (tRow P t).map (·.1)) (h0 : 0 < v.cells.size) (h1 : v.cells.size ≤ 16777216) :
    aBuildSlice P t 1 #[(0, v)] h = some (.slice (some ⟨h.size, 0, none⟩) 1 1, h.push (some (.cells v.cells true))) := by
  obtain ⟨⟨s, b, z⟩, hT⟩ := Option.isSome_iff_exists.1 hT
  rw [hT] at hv
  simp only [Option.map_some, Option.some.injEq] at hv
  have := build_lit (h := h) hT [v] (n := 1) rfl (by simpa using hv) (by rw [← hv]; omega) (by omega)
  rw [show ([v].zipIdx.map fun x => (x.2, x.1)).toArray = #[(0, v)] from rfl] at this
  rw [this]
  simp
section
variable {P : Program} {α : Type} {e : Rp α} {lo : Nat} {k k' : Hp} {v : Value} {xs : List α} {x : α}
/-- A slice that was made from block lo on, by appending. -/
def Acc (e : Rp α) (lo : Nat) (k : Hp) (v : Value) (xs : List α) : Prop := ∃ b? : Option Nat, OwnS e true (fun c => lo ≤ c ∧ c < k.size ∧ b? ≠ some c) k v b? xs ∧ (∀ b, b? = some b → lo ≤ b) ∧ ∀ a n c, v = .slice (some a) n c → c = capOpen + e.len
theorem Acc.nil : Acc e lo k (.slice none 0 0) [] := ⟨none, OwnS.nil, (fun b h => by cases h), (fun a n c h => by cases h)⟩
theorem Acc.mono (a : Acc e lo k v xs) (hk : Keeps k k') : Acc e lo k' v xs := by
  obtain ⟨b?, h1, h2, h3⟩ := a
  refine ⟨b?, (h1.mono hk.size (Fr.of fun b hb => hk.get b hb.2.1) fun b hb => ?_).wide (fun b hb => ⟨hb.1, by have := hk.size; omega, hb.2.2⟩) (fun b hb h => h.2.2 hb), h2, h3⟩
  subst hb
  exact hk.get b h1.lt
theorem Acc.form (a : Acc e lo k v xs) : ∃ o c, v = .slice o xs.length c := by
  obtain ⟨b?, h1, h2, _⟩ := a
  rcases h1 with ⟨rfl, _, rfl⟩ | ⟨b, c, cells, rfl, _⟩
  · exact ⟨none, 0, rfl⟩
  · exact ⟨_, _, rfl⟩
theorem Acc.rp (a : Acc e lo k v xs) : (Rp.slice e).r true (fun c => lo ≤ c ∧ c < k.size) k [v] xs := by
  obtain ⟨b?, h1, h2, _⟩ := a
  exact h1.rp (fun b hb => ⟨hb.1, hb.2.1⟩) (fun b hb => ⟨h2 b hb, by subst hb; exact h1.lt⟩)
/-- A literal of one element. -/
theorem lit_rp {q : Nat → Prop} {cs : Array Value} {ow : Bool} {lit : Nat} (he : 0 < e.len) (hx : e.r true q k cs.toList x) (hg : k.get lit = some (.cells cs true)) : (Rp.slice e).r true (fun c => q c ∨ c = lit) k [.slice (some ⟨lit, 0, none⟩) 1 1] [x] := by
  have hl := e.rlen hx
  refine ⟨_, 1, rfl, ⟨Nat.le_refl _, .inl (by simp [capOpen])⟩, by simp [capOpen], .inr ⟨lit, 0, cs, true, rfl, .inr rfl, hg, fun _ => rfl, fun v hv => vin_mono (fun b hb => .inl hb) (e.rvin hx v (by simpa using hv)), by simp at hl ⊢; omega, ?_⟩⟩
  simp only [List.length_cons, List.length_nil, Nat.zero_add, Nat.one_mul, List.drop_zero]
  rw [← hl, List.take_length]
  exact rows.one_row (e.mono hx (fun _ h => .inl h) id (Fr.refl _))
theorem Acc.append1 {t tx : TypeId} {s by' : Nat} {z : Array Value} (hT : tRow P t = some (s, by', z)) (hx : rowOrText (P.underlying tx) = true) (hse : s = e.len) (hs : 0 < s) (a : Acc e lo k v xs) (hro : k.ro ≤ lo) {q : Nat → Prop} {cs : Array Value} {lit : Nat}
    (hr : e.r true q k cs.toList x) (hg : k.get lit = some (.cells cs true)) (hlit : lo ≤ lit ∧ lit < k.size ∧ blkOf v ≠ some lit) (hq : ∀ c, q c → lo ≤ c ∧ c < k.size ∧ blkOf v ≠ some c) (hb : (xs.length + 1) * by' ≤ 2 ^ 47) (hb2 : xs.length + 1 < capOpen) :
    Ex (fun v' k' => Acc e lo k' v' (xs ++ [x]) ∧ k.size ≤ k'.size ∧ k'.ro = k.ro ∧ (∀ c, c < k.size → blkOf v ≠ some c → k'.get c = k.get c) ∧ (∀ c, blkOf v' = some c → k.size ≤ c)) (aAppend P #[t, tx] #[v, .slice (some ⟨lit, 0, none⟩) 1 1] k) := by
  obtain ⟨b?, h1, h2, _⟩ := a
  have hbk := h1.blk
  obtain ⟨v', k', b', e1, e2, e3, e4, e5, e6, e7⟩ := append_own_rp (o := true) hT hx hse hs h1 (lit_rp (ow := true) (by omega) hr hg) id (fun b hb => by have := h2 b hb; omega)
    (fun b hb h => by
      rw [hbk] at hq hlit
      rcases h with h | rfl
      · exact (hq b h).2.2 hb
      · exact hlit.2.2 hb) (fun c hc => hc.2.1) (fun c hc => by
      rcases hc with h | rfl
      · exact (hq c h).2.1
      · exact hlit.2.1) (by simpa using hb) (by simpa using hb2)
  have hnew : k'.size = k.size + 1 ∧ b' = some k.size ∧ ∃ n, v' = .slice (some ⟨k.size, 0, none⟩) n (capOpen + s) := by
    rcases e7 with ⟨rfl, rfl⟩ | h
    · -- something was appended
      exfalso
      rcases e2 with ⟨_, _, h⟩ | ⟨b, c, cells, f1, f2, f3, f4, f5, f6, f7, f8⟩
      · simp at h
      · rcases h1 with ⟨_, hh, _⟩ | ⟨b0, c0, cells0, g1, g2, g3, g4, g5, g6, g7, g8⟩
        · rw [hh] at f2; cases f2
        · rw [f2] at g2; cases g2
          rw [f7] at g7; cases g7
          have q1 := f8.len; have q2 := g8.len
          rw [q1] at q2
          have hep : 0 < e.len := by omega
          simp only [List.length_append, List.length_cons, List.length_nil, Nat.zero_add] at q2
          have := Nat.eq_of_mul_eq_mul_right hep q2
          omega
    · exact h
  have hv' : blkOf v' = some k.size := by rw [e2.blk, hnew.2.1]
  refine ⟨v', k', e1, ⟨b', e2.wide (fun c hc => ?_) (fun b hb h => h.2.2 hb), fun b hb => ?_, fun o n c h => by obtain ⟨n', e⟩ := hnew.2.2; rw [e] at h; cases h; rw [hse]⟩, e4, e5, fun c hc hne => e6 c hc (by rw [hbk] at hne; exact hne), fun c hc => ?_⟩
  · have hlt : c < k.size ∧ lo ≤ c := by
      rcases hc with hc | hc
      · exact ⟨hc.2.1, hc.1⟩
      · rcases hc with hc | rfl
        · exact ⟨(hq c hc).2.1, (hq c hc).1⟩
        · exact ⟨hlit.2.1, hlit.1⟩
    refine ⟨hlt.2, by omega, ?_⟩
    rw [hnew.2.1]
    intro e; cases e; omega
  · rw [hnew.2.1] at hb
    cases hb
    omega
  · rw [hv'] at hc; cases hc; exact Nat.le_refl _
end
end Go.Abs
namespace Go.Abs
theorem Acc.blk {α : Type} {e : Rp α} {lo : Nat} {k : Hp} {v : Value} {xs : List α} (a : Acc e lo k v xs) {c : Nat} (h : blkOf v = some c) : lo ≤ c ∧ c < k.size := by
  obtain ⟨b?, h1, h2, _⟩ := a
  have := h1.blk
  rw [h] at this
  subst this
  exact ⟨h2 c rfl, h1.lt⟩
theorem take_next {α β : Type} {f : α → β} {xs : List α} {i n : Nat} {y : α} (hy : xs[i]? = some y) (hin : i < n) : (xs.take (min i n)).map f ++ [f y] = (xs.take (min (i + 1) n)).map f := by
  rw [Nat.min_eq_left (by omega), Nat.min_eq_left (by omega), List.take_add_one, hy]; simp
end Go.Abs
namespace Go.Abs
section
variable {P : Program} {call : CallF} {h k : Hp} {R S : Hp → Value → Prop} {r : Option (Value × Hp)}
theorem al_kdt {ops : Array Oper} {bits bits' s0 j : Nat} {l : List (Oper × Nat × Nat × Nat)} {kept : List (Nat × Nat × Nat)} {Ka : Act → Hp → Option (Value × Hp)} {d : Option Tmp} {a : Act} {op : Op} {t : TypeId} (x : Al (k.view bits kept) S r)
    (hv : ∀ v k', Keeps (k.view bits kept) k' → S k' v → vin (fun b => b < s0 ∨ k.size ≤ b ∧ b < k'.size) v) (hb : bits'.testBit j = true)
    (H : ∀ v k' m, Keeps (k.view bits kept) k' → S k' v → m.size = k'.size → m.ro = k.ro → (∀ b, b < k.size → m.get b = k.get b) → (flatB v = false → ∀ p : Nat → Prop, (∀ b, p b → b < k'.size ∧ (b < s0 ∨ k.size ≤ b)) → Fr p k' m) →
      Al h R (evalDM P call ops s0 l (j + 1) (a.put d v) m (keepS j k.size k'.size kept) false Ka)) :
    Al h R (KDT P call ops bits bits' s0 j l kept Ka d a k op t r) := by
  obtain ⟨v, k', rfl, h1, h2, h3⟩ := x
  have key := KD2_fresh (P := P) (call := call) (ops := ops) (d := d) (a := a) (l := l) (Al h R) h1 (hv v k' h1 h3) hb fun m m1 m2 m3 m4 => H v k' m h1 h3 m1 m2 m3 m4
  have hs : k.size ≤ k'.size := by have := h1.size; rwa [view_size] at this
  have hvv : vokB (allow s0 (keepR j k.size k'.size kept) bits') v = true := vin_p (hv v k' h1 h3) fun b hb' => by
    rcases hb' with hb' | hb'
    · exact allow_old hb'
    · exact allow_own hb'.1 hb'.2 hb
  rw [KD2_some, if_pos hs, if_pos hvv] at key
  rw [KDT_some, if_pos hs, if_pos hvv]
  exact key
theorem view_keepS {bits j lo hi b : Nat} {kept : List (Nat × Nat × Nat)} (hb : b < lo) : (h.view bits (keepS j lo hi kept)).get b = (h.view bits kept).get b := by
  unfold keepS keepR
  split
  · rfl
  · rw [view_cons, if_pos (by simp; left; right; omega)]
theorem view_keepS' {bits j lo hi b : Nat} {kept : List (Nat × Nat × Nat)} (hb : bits.testBit j = true) : (h.view bits (keepS j lo hi kept)).get b = (h.view bits kept).get b := by
  unfold keepS keepR
  split
  · rfl
  · rw [view_cons, if_pos (by simp [hb])]
theorem keeps_view_keepS {bits j lo hi : Nat} {kept : List (Nat × Nat × Nat)} (hk : Keeps h (k.view bits kept)) (hl : h.size ≤ lo) : Keeps h (k.view bits (keepS j lo hi kept)) = True :=
  eq_true ⟨by have := hk.size; rw [view_size] at this ⊢; exact this, fun b hb => by rw [view_keepS (by omega)]; exact hk.get b hb⟩
theorem allow_keepS {s0 j lo hi bits id : Nat} {kept : List (Nat × Nat × Nat)} (h1 : allow s0 kept bits id = true) : allow s0 (keepS j lo hi kept) bits id = true := allow_keep h1
theorem keeps_view {h0 k : Hp} {bits : Nat} {kept : List (Nat × Nat × Nat)} (hk : Keeps h0 k) (hl : ∀ x ∈ kept, h0.size ≤ x.2.1) : Keeps h0 (k.view bits kept) := view_keeps hk hl
theorem keepS_mem {j lo hi : Nat} {kept : List (Nat × Nat × Nat)} {x : Nat × Nat × Nat} (hx : x ∈ keepS j lo hi kept) : x = (j, lo, hi) ∨ x ∈ kept := keepR_mem hx
/-- Hidden or not: what is seen is so. -/
theorem keepS_keepR {j lo hi j' lo' hi' : Nat} {kept : List (Nat × Nat × Nat)} : keepR j lo hi (keepS j' lo' hi' kept) = keepS j lo hi (keepS j' lo' hi' kept) := nd rfl
/-- Old blocks are seen by all. -/
theorem keeps_of {m : Hp} (hk : Keeps h k) (hs : k.size ≤ m.size) (hg : ∀ b, b < k.size → m.get b = k.get b) : Keeps h m := hk.trans ⟨hs, hg⟩
end
end Go.Abs
namespace Go.Abs
theorem vin_agg {p : Nat → Prop} {ds : List Value} (h : ∀ c ∈ ds, vin p c) : vin p (.agg ds.toArray) := by
  unfold vin at h ⊢
  rw [vb_agg, Array.all_eq_true_iff_forall_mem]
  exact fun c hc => h c (by simpa using hc)
end Go.Abs
namespace Go.Abs
theorem view_keepS2 {h : Hp} {bits j lo hi b : Nat} {kept : List (Nat × Nat × Nat)} (hb : hi ≤ b) : (h.view bits (keepS j lo hi kept)).get b = (h.view bits kept).get b := by
  unfold keepS keepR
  split
  · rfl
  · rw [view_cons, if_pos (by simp; omega)]
end Go.Abs
/- Short names for the rules of rewriting. -/
namespace Go.Abs
set_option linter.all false
def z00 := @evalC_scope
def z01 := @Kscope_normal
def z02 := @Kscope_ret
def z03 := @Kscope_exit
def z04 := @evalC_skip
def z05 := @evalC_ret
def z06 := @evalC_exit
def z07 := @evalC_label
def z08 := @evalC_region
def z09 := @evalC_seq
def z0a := @evalC_cond
def z0b := @pickC_true
def z0c := @pickC_false
def z0d := @Kreg_ap
def z0e := @Kseq_normal
def z0f := @Kseq_ret
def z0g := @Kseq_exit
def z0h := @Kblock_normal
def z0i := @Kblock_ret
def z0j := @Kblock_exit
def z0k := @Kloop_normal
def z0l := @Kloop_ret
def z0m := @Kloop_exit
def z0n := @Kret_normal
def z0o := @Kret_ret
def z0p := @evalOps_nil
def z0q := @evalOps_cons
def z0r := @evalOps_guard
def z0s := @Kops_some
def z0t := @put_some
def z0u := @put_none
def z0v := @eval_tmp
def z0w := @eval_const
def z0x := @eval_func
def z0y := @eval_global
def z0z := @liftP_some
def z10 := @op_move
def z11 := @op_assign
def z12 := @op_pick
def z13 := @op_bin
def z14 := @op_un
def z15 := @op_convert
def z16 := @op_fieldAddr
def z17 := @op_field
def z18 := @op_indexAddr
def z19 := @op_index
def z1a := @op_extract
def z1b := @op_build
def z1c := @op_nilCheck
def z1d := @op_makeFunc
def z1e := @op_load
def z1f := @op_store
def z1g := @op_alloc
def z1h := @op_box
def z1i := @op_buildSlice
def z1j := @op_makeSlice
def z1k := @op_slice
def z1l := @op_call
def z1m := @op_append
def z1n := @op_copy
def z1o := @op_clear
def z1p := @op_lenS
def z1q := @op_lenT
def z1r := @lenS_slice
def z1s := @lenT_string
def z1t := @op_max
def z1u := @op_min
def z1v := @loadV_ptr
def z1w := @storeV_ptr
def z1x := @putU_some
def z1y := @pickV_bool
def z1z := @idxA_int
def z20 := @idxV_int
def z21 := @nilV_ptr
def z22 := @nilV_func
def z23 := @nilV_yield
def z24 := @bin_add
def z25 := @bin_sub
def z26 := @bin_mul
def z27 := @bin_and
def z28 := @bin_or
def z29 := @bin_xor
def z2a := @bin_andNot
def z2b := @bin_eql
def z2c := @bin_neq
def z2d := @bin_lss
def z2e := @bin_leq
def z2f := @bin_gtr
def z2g := @bin_geq
def z2h := @un_not
def z2i := @un_neg
def z2j := @max2_val
def z2k := @max3_val
def z2l := @min2_val
def z2m := @cells_int
def z2n := @cells_bool
def z2o := @cells_agg
def z2p := @cells_pointer
def z2q := @cells_slice
def z2r := @cells_string
def z2s := @field_val
def z2t := @extract_val
def z2u := @indexAt_slice
def z2v := @indexAt_arr
def z2w := @fieldAt_val
def z2x := @loadVar_val
def z2y := @storeVar_val
def z2z := @alloc_val
def z30 := @pickPart_agg
def z31 := @pickPart_one
def z32 := @get_push_self
def z33 := @get_set_self
def z34 := @Hp.get_push
def z35 := @Hp.get_setB
def z36 := @Nat.add_left_cancel_iff
def z37 := @Nat.add_eq_left
def z38 := @Nat.left_eq_add
def z39 := @Nat.one_ne_zero
def z3a := @Nat.add_assoc
def z3b := @getD_lit
def z3c := @finR_one
def z3d := @finR_two
def z3e := @finR_zero
def z3f := @aResult_tmp
def z3g := @aResult_cell
def z3h := @target_val
def z3i := @target_yield
def z3j := @gtt
def z3k := @gtf
def z3l := @gft
def z3m := @gff
def z3n := @gnt
def z3o := @gnf
def z3p := @oneC_int
def z3q := @oneC_bool
def z3r := @oneC_ptr
def z3s := @oneC_slice
def z3t := @oneC_string
def z3u := @oneC_func
def z3v := @splice_nil
def z3w := @splice_cons
def z3x := @List.extract_toArray
def z3y := @List.extract_eq_take_drop
def z3z := @List.drop_zero
def z40 := @List.drop_succ_cons
def z41 := @List.take_succ_cons
def z42 := @List.take_zero
def z43 := @List.take_nil
def z44 := @List.all_cons
def z45 := @List.all_nil
def z46 := @Nat.le_refl
def z47 := @true_and
def z48 := @and_true
def z49 := @and_self
def z4a := @Hp.size_push
def z4b := @Hp.size_setB
def z4c := @Hp.ro_push
def z4d := @Hp.ro_setB
def z4e := @List.getD_cons_zero
def z4f := @List.getD_cons_succ
def z4g := @List.setIfInBounds_toArray
def z4h := @List.set_cons_zero
def z4i := @List.set_cons_succ
def z4j := @List.map_toArray
def z4k := @List.map_cons
def z4l := @List.map_nil
def z4m := @List.getElem?_toArray
def z4n := @List.getElem?_cons_zero
def z4o := @List.getElem?_cons_succ
def z4p := @List.size_toArray
def z4q := @List.length_cons
def z4r := @List.length_nil
def z4s := @List.append_toArray
def z4t := @List.cons_append
def z4u := @List.nil_append
def z4v := @List.append_nil
def z4w := @List.replicate_succ
def z4x := @List.replicate_zero
def z4y := @replicate_arr
def z4z := @Option.map_some
def z50 := @Option.isSome_some
def z51 := @Option.getD_some
def z52 := @Option.bind_some
def z53 := @Nat.zero_add
def z54 := @Nat.add_zero
def z55 := @if_true
def z56 := @if_false
def z57 := @ite_true
def z58 := @ite_false
def z59 := @Bool.false_eq_true
def z5a := @decide_true
def z5b := @decide_false
def z5c := @Bool.not_true
def z5d := @Bool.not_false
def z5e := @beq_self_eq_true
def z5f := @Bool.and_true
def z5g := @Bool.true_and
def z5h := @Bool.and_false
def z5i := @Bool.false_and
def z5j := @KD0_some
def z5k := @KD1_some
def z5l := @KD2_some
def z5m := @KDT_none
def z5n := @KDT_some
def z5o := @putU_none
def z5p := @liftP_none
def z5q := @le_self_f
def z5r := @false_and
def z5s := @and_false
def z5t := @evalDM_nil
def z5u := @evalDM_0
def z5v := @evalDM_1
def z5w := @evalDM_t
def z5x := @evalDM_2
def z5y := @evalDM_g0
def z5z := @evalDM_g1
def z60 := @evalDM_gt
def z61 := @evalDM_g2
def z62 := @vb_int
def z63 := @vb_bool
def z64 := @vb_string
def z65 := @vb_nil
def z66 := @vb_undef
def z67 := @vb_nilSlice
def z68 := @vb_nilMap
def z69 := @vb_map
def z6a := @vb_ptr
def z6b := @vb_slice
def z6c := @vb_func
def z6d := @vb_agg
def z6e := @vb_tuple
def z6f := @all_lit
def z6g := @all_litn
def z6h := @allow_nil
def z6i := @allow_cons
def z6j := @flatB_int
def z6k := @flatB_bool
def z6l := @flatB_string
def z6m := @flatB_nil
def z6n := @flatB_undef
def z6o := @flatB_ptr
def z6p := @flatB_slice
def z6q := @flatB_nilSlice
def z6r := @flatB_map
def z6s := @flatB_func
def z6t := @view_size
def z6u := @view_ro
def z6v := @view_nil
def z6w := @view_cons
def z6x := @more_view
def z6y := @more_push
def z6z := @keepBlk_cells
def z70 := @zip_cons
def z71 := @zip_nil
def z72 := @toList_lit
def z73 := @Nat.add_sub_cancel_left
def z74 := @tb
def z75 := @Bool.or_true
def z76 := @Bool.true_or
def z77 := @Bool.or_false
def z78 := @Bool.false_or
def z79 := @Nat.add_lt_add_iff_left
def z7a := @Nat.add_le_add_iff_left
def z7b := @Nat.le_add_right
def z7c := @Nat.lt_add_right_iff_pos
def z7d := @Nat.zero_lt_succ
def z7e := @Nat.lt_irrefl
def z7f := @decide_not
def z7g := @bin_eqb
def z7h := @bin_neb
def z7i := @bin_eqnp
def z7j := @bin_nenp
def z7k := @bin_eqns
def z7l := @bin_nens
def z7m := @Option.isNone_some
def z7n := @Option.isNone_none
def z7o := @nc0
def z7p := @nc1
def z7q := @nc2
def z7r := @nc3
def z7s := @nc4
def z7t := @evalC_drawn
def z7u := @eq_self
def z7v := @keeps_refl
def z7w := @keeps_push
def z7x := @keeps_set
def z7y := @keeps_view_nil
def z7z := @conv_int
def z80 := @build_val
def z81 := @fillT_nil
def z82 := @fillT_cons
def z83 := @fillK_some
def z84 := @lap_cons
def z85 := @lap_nil
def z86 := @build_nil_r
def z87 := @Option.map_none
def z88 := @build_one_r
def z89 := @view_keepS
def z8a := @keeps_view_keepS
def z8b := @allow_keepS
def z8c := @evalDM_3
def z8d := @evalDM_4
def z8e := @evalDM_5
def z8f := @evalDM_g3
def z8g := @evalDM_g4
def z8h := @evalDM_g5
def z8i := @KDL_some
def z8j := @KDH_some
def z8k := @hidB_nil
def z8l := @hidB_cons
def z8m := @hidK_some
def z8n := @blkO_ptr
def z8o := @decT_succ
def z8p := @KHid_cons
def z8q := @hideL_nil
def z8r := @hideL_cons
def z8s := @backL_nil
def z8t := @backL_cons
end Go.Abs
/- Appending in a region that draws its order. -/
namespace Go.Abs
set_option linter.all false
section
variable {P : Program} {α : Type} {e : Rp α} {lo : Nat} {k : Hp} {v : Value} {xs : List α} {x : α}
theorem slice_nil_inv {o : Bool} {p : Nat → Prop} {n c : Nat} (r : (Rp.slice e).r o p k [.slice none n c] xs) : xs = [] ∧ n = 0 := by
  obtain ⟨a, c', e', _, _, h⟩ := r
  simp only [List.cons.injEq, Value.slice.injEq, and_true] at e'
  obtain ⟨rfl, rfl, rfl⟩ := e'
  rcases h with ⟨rfl, _⟩ | ⟨b, _, _, _, h, _⟩
  · exact ⟨rfl, rfl⟩
  · cases h
theorem lit_news {t : TypeId} {s : Nat} {g : Hp} {cs : Array Value} {lit : Nat} (hx : rowOrText (P.underlying t) = true) (hl : cs.size = s) (hs : 0 < s) (hg : g.get lit = some (.cells cs true)) :
    aNews P t s (.slice (some ⟨lit, 0, none⟩) 1 1) g = some (1, cs) := by
  unfold aNews
  rw [if_pos hx]
  simp only [aLen, aFirst]
  rw [if_neg (by omega)]
  simp only [Hp.row, hg]
  rw [if_pos (by omega)]
  simp only [Nat.zero_add, Nat.one_mul, ← hl, Option.map_some]
  congr 2
  simp
theorem Acc.append_kdt {call : CallF} {h : Hp} {R : Hp → Value → Prop} {ops : Array Oper} {bits bits' s0 j : Nat} {l : List (Oper × Nat × Nat × Nat)} {kept : List (Nat × Nat × Nat)} {Ka : Act → Hp → Option (Value × Hp)} {d : Option Tmp} {a : Act} {op : Op} {ty : TypeId}
    {t tx : TypeId} {s by' : Nat} {z : Array Value} (hT : tRow P t = some (s, by', z)) (hx : rowOrText (P.underlying tx) = true) (hse : s = e.len) (hs : 0 < s) (acc : Acc e lo k v xs) (hro : k.ro ≤ lo) (hlo : lo ≤ k.size) {q : Nat → Prop} {cs : Array Value} {lit : Nat}
    (hr : e.r true q k cs.toList x) (hg : k.get lit = some (.cells cs true)) (hlit : lo ≤ lit ∧ lit < k.size ∧ blkOf v ≠ some lit) (hq : ∀ c, q c → lo ≤ c ∧ c < k.size ∧ blkOf v ≠ some c) (hb : (xs.length + 1) * by' ≤ 2 ^ 47) (hb2 : xs.length + 1 < capOpen)
    (hvis : (k.view bits kept).get lit = some (.cells cs true)) (hcs : ∀ a b, ∀ c ∈ cs, vokB (allow s0 (keepR j a b kept) bits') c = true) (hj : bits'.testBit j = true)
    (hop : opVal P call (bare op ty) a k = aAppend P #[t, tx] #[v, .slice (some ⟨lit, 0, none⟩) 1 1] k)
    (H : ∀ v' k' kept' wr', (∀ bits : Nat, bits.testBit j = true → vokB (allow s0 kept' bits) v' = true) → Acc e lo k' v' (xs ++ [x]) → k.size ≤ k'.size → k'.ro = k.ro → (∀ c, c < k.size → blkOf v ≠ some c → k'.get c = k.get c) → (∀ c, blkOf v' = some c → k.size ≤ c) →
      Al h R (evalDM P call ops s0 l (j + 1) (a.put d v') k' kept' wr' Ka)) :
    Al h R (KDT P call ops bits bits' s0 j l kept Ka d a k op ty (aAppend P #[t, tx] #[v, .slice (some ⟨lit, 0, none⟩) 1 1] (k.view bits kept))) := by
  have hl := e.rlen hr
  have hcl : cs.size = s := by rw [hse]; simpa using hl
  have hT0 := hT
  unfold tRow at hT
  cases hu : P.underlying t with
  | none => rw [hu] at hT; cases hT
  | some u =>
    rw [hu] at hT
    cases u <;> simp only [] at hT <;> first | (cases hT; done) | skip
    rename_i el
    cases hi : P.info? el with
    | none => rw [hi] at hT; cases hT
    | some i =>
      rw [hi] at hT
      simp only [] at hT
      cases hz : i.zero with
      | none => rw [hz] at hT; cases hT
      | some zz =>
        rw [hz] at hT
        simp only [Option.some.injEq, Prod.mk.injEq] at hT
        obtain ⟨hsz, rfl, rfl⟩ := hT
        have hn := lit_news (P := P) (t := tx) (s := i.size) (g := k.view bits kept) hx (by omega) (by omega) hvis
        have acc0 := acc
        obtain ⟨b?, h1, h2, h3⟩ := acc
        have hbk := h1.blk
        have guard : ∀ n, n = xs.length → ¬ (i.size = 0 ∨ cs.size ≠ 1 * i.size ∨ capOpen ≤ n + 1 ∨ 2 ^ 47 < (n + 1) * i.bytes) := fun n hn => by subst hn; omega
        rcases h1 with ⟨rfl, rfl, rfl⟩ | ⟨b, c, cells, rfl, rfl, hc, hcap, hbl, hpb, hgb, hrows⟩
        · have he : aAppend P #[t, tx] #[.slice none 0 0, .slice (some ⟨lit, 0, none⟩) 1 1] (k.view bits kept) = some (.slice (some ⟨k.size, 0, none⟩) 1 (capOpen + s), (k.view bits kept).push (some (.cells cs true))) := by
            simp only [aAppend, hu, hi, hn, hz]
            rw [if_neg (guard 0 rfl)]
            simp only [and_self, if_true, aGrow, view_size, hsz]
            rfl
          rw [he, KDT_some, if_pos (by simp [view_size]), if_pos (by
            rw [vb_slice]
            exact allow_own (Nat.le_refl _) (by simp [view_size]) hj)]
          have hfl : flatB (.slice (some ⟨k.size, 0, none⟩) 1 (capOpen + s)) = false := flatB_slice
          rw [hfl, more_push]
          have hkb : ∀ a b, keepBlk (allow s0 (keepR j a b kept) bits') (some (.cells cs true)) = some (.cells cs true) := fun a b => by
            simp only [keepBlk]
            rw [if_pos]
            rw [Array.all_eq_true_iff_forall_mem]
            exact hcs a b
          rw [hkb]
          refine H _ _ _ _ (fun bits hb => by rw [vb_slice]; exact allow_own (Nat.le_refl _) (by simp [view_size]) hb) ⟨some k.size, .inr ⟨k.size, capOpen + s, cs, rfl, rfl, .inr (by rw [hse]), by simp [capOpen], by simp, fun h => h.2.2 rfl, get_push_self, ?_⟩, fun b hb => by cases hb; exact hlo, fun o n c h => by cases h; rw [hse]⟩ (by simp) rfl (fun c hc _ => get_push_ne (by omega)) (fun c hc => by cases hc; exact Nat.le_refl _)
          exact rows.one_row (e.mono hr (fun c hc => ⟨(hq c hc).1, by have := (hq c hc).2.1; simp; omega, by have := (hq c hc).2.1; intro h; cases h; omega⟩) id (Fr.of fun c hc => get_push_ne (by have := (hq c hc).2.1; omega)))
        · have hcc := h3 _ _ _ rfl
          subst hcc
          have hne : aAppend P #[t, tx] #[.slice (some ⟨b, 0, none⟩) xs.length (capOpen + e.len), .slice (some ⟨lit, 0, none⟩) 1 1] (k.view bits kept) = none := by
            simp only [aAppend, hu, hi, hn, hz]
            rw [if_neg (guard _ rfl), if_neg (by omega), if_neg (by omega)]
            have hkn : ¬ xs.length + 1 ≤ (k.view bits kept).known ⟨b, 0, none⟩ i.size := by
              simp only [Hp.known]
              cases hv : (k.view bits kept).get b with
              | none => simp
              | some y =>
                have := view_old hv
                rw [hgb] at this
                cases this
                simp only [Nat.zero_le, if_true, Nat.sub_zero]
                have hlen := hrows.len
                have : cells.size = xs.length * i.size := by simp at hlen; rw [hlen, hsz, hse]
                rw [this, Nat.mul_div_cancel _ (by omega)]
                omega
            rw [if_neg hkn]
            split
            · rw [if_neg]
              rw [view_ro]
              intro h; omega
            · rfl
          rw [hne, KDT_none, hop]
          obtain ⟨v', k', e1, e2, e3, e4, e5, e6⟩ := Acc.append1 (P := P) (e := e) hT0 hx hse hs acc0 hro hr hg hlit hq hb hb2
          have hvb : ∀ bits : Nat, bits.testBit j = true → vokB (allow s0 (keepR j k.size k'.size kept) bits) v' = true := by
            intro bits hj
            obtain ⟨o, c, rfl⟩ := e2.form
            cases o with
            | none => exact vb_nilSlice
            | some o =>
              obtain ⟨b', o', sp⟩ := o
              obtain ⟨b?', g1, g2, _⟩ := e2
              have hbv := g1.blk
              have hlt : b' < k'.size := by
                cases hbb : b?' with
                | none => rw [hbb] at hbv; cases hbv
                | some c' => rw [hbb] at hbv; cases hbv; subst hbb; exact g1.lt
              rw [vokB_slice]
              exact allow_own (e6 b' rfl) hlt hj
          rw [e1, KD1_some, if_pos e3, if_pos (hvb _ hj)]
          exact H _ _ _ _ hvb e2 e3 e4 e5 e6
end
end Go.Abs
namespace Go.Abs
/-- A cut, wherever: the slice that comes of it. -/
theorem cut_any {P : Program} {α : Type} {e : Rp α} {o : Bool} {p : Nat → Prop} {h : Hp} {v : Value} {xs : List α} {t : TypeId} {l hh : Nat} {lov hiv : Option Value} (r : (Rp.slice e).r o p h [v] xs) (ht : tElem P t = some e.len) (he : 0 < e.len) (hl : bndOk lov 0 l) (hhi : bndOk hiv xs.length hh) (h1 : l ≤ hh) (h2 : hh ≤ xs.length) :
    ∃ v' h', aSlice P t v lov hiv none h = some (v', h') ∧ Keeps h h' ∧ h'.ro = h.ro ∧ (h' = h ∨ h' = h.push none) ∧ (Rp.slice e).r o (fun b => p b ∨ h.size ≤ b ∧ b < h'.size) h' [v'] ((xs.take hh).drop l) := by
  obtain ⟨v', ⟨e1, r1⟩ | ⟨e1, hz, rfl⟩⟩ := slice_rp_any r ht he hl hhi h1 h2
  · exact ⟨v', h, e1, Keeps.refl _, rfl, .inl rfl, (Rp.slice e).mono r1 (fun _ h => .inl h) id (Fr.refl _)⟩
  · refine ⟨_, h.push none, e1, (Keeps.refl h).push _, rfl, .inr rfl, _, _, by rw [hz]; rfl, ⟨by rw [hz]; simp, .inr rfl⟩, by rw [hz]; simp [capOpen], .inl ⟨hz, .inr ⟨_, _, rfl⟩, ?_⟩⟩
    exact vin_slice.2 (.inr ⟨Nat.le_refl _, by simp⟩)
end Go.Abs
namespace Go.Abs
theorem cut_ex {P : Program} {α : Type} {e : Rp α} {o : Bool} {p : Nat → Prop} {h : Hp} {v : Value} {xs : List α} {t : TypeId} {l hh : Nat} {lov hiv : Option Value} (r : (Rp.slice e).r o p h [v] xs) (ht : tElem P t = some e.len) (he : 0 < e.len) (hl : bndOk lov 0 l) (hhi : bndOk hiv xs.length hh) (h1 : l ≤ hh) (h2 : hh ≤ xs.length) :
    Ex (fun v' h' => Keeps h h' ∧ h'.ro = h.ro ∧ (h' = h ∨ h' = h.push none) ∧ (Rp.slice e).r o (fun b => p b ∨ h.size ≤ b ∧ b < h'.size) h' [v'] ((xs.take hh).drop l)) (aSlice P t v lov hiv none h) := by
  obtain ⟨v', h', e1, e2, e3, e4, e5⟩ := cut_any r ht he hl hhi h1 h2
  exact ⟨v', h', e1, e2, e3, e4, e5⟩
end Go.Abs
namespace Go.Abs
theorem i64_succ {i : Nat} (h : i < 4611686018427387904) : IntKind.i64.wrap ((i : Int) + 1) = ((i + 1 : Nat) : Int) := by rw [i64_in] <;> omega
end Go.Abs
namespace Go.Abs
theorem dec_meas {m n i : Nat} (h : i < n) (hm : m = n - i) : m - 1 < m ∧ m - 1 = n - (i + 1) ∧ i + 1 ≤ n := by omega
theorem lt_cast {i n : Nat} (h : i < n) : (i : Int) < (n : Int) := by omega
theorem nlt_cast {i n : Nat} (h : ¬ i < n) : ¬ (i : Int) < (n : Int) := by omega
end Go.Abs
