/- An evaluator for the model, and that it is sound (part AbsF): no statement of a law stands here. -/
import Derived.Test.YtjimckjdkgbojaaGreatDoorAbsE
import Derived.Below
set_option linter.all false
/- Rows in a block of one's own: an element read, an element written; what a piece of a run may have turned. -/
namespace Go.Abs
set_option linter.all false
section
variable {α : Type} {e : Rp α} {o : Bool} {p : Nat → Prop} {h : Hp} {cells : Array Value} {xs : List α} {x : α} {i s : Nat}
theorem rows.elem (r : rows e o p h cells.toList xs) (hx : xs[i]? = some x) (hs : e.len = s) :
    ∃ part : List Value, part.length = s ∧ e.r o p h part x ∧ i * s + s ≤ cells.size ∧ cells.extract (i * s) (i * s + s) = part.toArray ∧ ∀ k, k < s → cells[i * s + k]? = part[k]? := by
  subst hs
  have hi := (List.getElem?_eq_some_iff.1 hx).1
  have hl : cells.size = xs.length * e.len := by rw [← r.len]; simp
  have hle : i * e.len + e.len ≤ cells.size := by
    have : (i + 1) * e.len ≤ xs.length * e.len := Nat.mul_le_mul_right _ hi
    rw [Nat.add_mul, Nat.one_mul] at this; omega
  refine ⟨_, ?_, r.get hx, hle, ?_, fun k hk => ?_⟩
  · rw [List.length_take, List.length_drop]; simp; omega
  · apply Array.ext_getElem?
    intro j
    have e1 : (List.take e.len (List.drop (i * e.len) cells.toList)).toArray[j]? = if j < e.len then cells[i * e.len + j]? else none := by
      rw [List.getElem?_toArray, List.getElem?_take]; split <;> simp
    rw [Array.getElem?_extract, e1]
    by_cases hj : j < e.len
    · rw [if_pos (by omega), if_pos hj]
    · rw [if_neg (by omega), if_neg hj]
  · rw [List.getElem?_take, if_pos hk, List.getElem?_drop, Array.getElem?_toList]
theorem splice_list {cs : Array Value} {j : Nat} {d : List Value} (hj : j + d.length ≤ cs.size) : (splice cs j d).toList = cs.toList.take j ++ (d ++ cs.toList.drop (j + d.length)) := by
  apply List.ext_getElem?
  intro n
  have hcs : cs.toList.length = cs.size := Array.length_toList
  rw [Array.getElem?_toList, splice_get _ _ _ _ hj, List.getElem?_append, List.length_take, hcs]
  by_cases h1 : n < j
  · rw [if_neg (by omega), if_pos (by omega), List.getElem?_take, if_pos h1, Array.getElem?_toList]
  · rw [if_neg (show ¬ n < min j cs.size by omega), List.getElem?_append, show min j cs.size = j by omega]
    by_cases h2 : n < j + d.length
    · rw [if_pos (by omega), if_pos (by omega)]
    · rw [if_neg (by omega), if_neg (by omega), List.getElem?_drop, Array.getElem?_toList]
      congr 1; omega
theorem rows.set (r : rows e o p h cells.toList xs) (hi : i < xs.length) {d : List Value} (hd : e.r o p h d x) : rows e o p h (splice cells (i * e.len) d).toList (xs.set i x) := by
  have hl : cells.size = xs.length * e.len := by rw [← r.len]; simp
  have hle : i * e.len + e.len ≤ cells.size := by
    have : (i + 1) * e.len ≤ xs.length * e.len := Nat.mul_le_mul_right _ hi
    rw [Nat.add_mul, Nat.one_mul] at this; omega
  have hdl := e.rlen hd
  rw [splice_list (by omega), List.set_eq_take_append_cons_drop, if_pos hi, hdl]
  refine rows.append (r.take (by omega)) ⟨d, _, rfl, hd, ?_⟩
  have := r.drop (n := i + 1) (by omega)
  rwa [Nat.add_mul, Nat.one_mul] at this
/-- A part of an element is written. -/
theorem rows.setIn (r : rows e o p h cells.toList xs) (hi : xs[i]? = some x) (hs : e.len = s) {y : α} {j : Nat} {d : List Value} (hj : j + d.length ≤ s)
    (hd : ∀ part : List Value, part.length = s → e.r o p h part x → e.r o p h (part.take j ++ (d ++ part.drop (j + d.length))) y) : rows e o p h (splice cells (i * s + j) d).toList (xs.set i y) := by
  obtain ⟨part, h1, h2, h3, h4, h5⟩ := r.elem hi hs
  have := r.set (List.getElem?_eq_some_iff.1 hi).1 (hd part h1 h2)
  rw [hs] at this
  have e1 : splice cells (i * s) (part.take j ++ (d ++ part.drop (j + d.length))) = splice cells (i * s + j) d := by
    have hlen : (part.take j ++ (d ++ part.drop (j + d.length))).length = s := by simp; omega
    apply Array.ext_getElem?
    intro n
    rw [splice_get _ _ _ _ (by omega), splice_get _ _ _ _ (by omega), hlen]
    by_cases a1 : i * s ≤ n ∧ n < i * s + s
    · rw [if_pos a1, List.getElem?_append, List.length_take, show min j part.length = j by omega]
      obtain ⟨m, rfl⟩ : ∃ m, n = i * s + m := ⟨n - i * s, by omega⟩
      have hm : i * s + m - i * s = m := by omega
      rw [hm]
      by_cases a2 : m < j
      · rw [if_pos a2, if_neg (by omega), List.getElem?_take, if_pos a2, h5 m (by omega)]
      · rw [if_neg a2, List.getElem?_append]
        by_cases a3 : m < j + d.length
        · rw [if_pos (by omega), if_pos (by omega)]; congr 1; omega
        · rw [if_neg (by omega), if_neg (by omega), List.getElem?_drop, h5 m (by omega)]; congr 1; omega
    · rw [if_neg a1, if_neg (by omega)]
  rw [e1] at this
  exact this
end
/-- What a piece of a run has turned: of the old blocks only those of S. -/
def Chg (S : Nat → Prop) (h k : Hp) : Prop := h.size ≤ k.size ∧ k.ro = h.ro ∧ ∀ c, c < h.size → ¬ S c → k.get c = h.get c
section
variable {S T : Nat → Prop} {h k l : Hp}
theorem Chg.refl (h : Hp) : Chg S h h := ⟨Nat.le_refl _, rfl, fun _ _ _ => rfl⟩
theorem Chg.push (c : Chg S h k) (x : Option Blk) : Chg S h (k.push x) := ⟨by have := c.1; simp only [Hp.size_push]; omega, c.2.1, fun b hb hs => by rw [get_push_ne (by have := c.1; omega)]; exact c.2.2 b hb hs⟩
theorem Chg.set (c : Chg S h k) {b : Nat} (hb : S b ∨ h.size ≤ b) (x : Option Blk) : Chg S h (k.setB b x) := ⟨c.1, c.2.1, fun d hd hs => by
  rw [get_set_ne (by rcases hb with h | h
                     · intro e; subst e; exact hs h
                     · omega)]
  exact c.2.2 d hd hs⟩
theorem Chg.trans (a : Chg S h k) (b : Chg S k l) : Chg S h l := ⟨Nat.le_trans a.1 b.1, b.2.1.trans a.2.1, fun c hc hs => (b.2.2 c (by have := a.1; omega) hs).trans (a.2.2 c hc hs)⟩
theorem Chg.trans' (a : Chg S h k) (b : Chg T k l) (hT : ∀ c, T c → S c ∨ h.size ≤ c) : Chg S h l := ⟨Nat.le_trans a.1 b.1, b.2.1.trans a.2.1, fun c hc hs => (b.2.2 c (by have := a.1; omega) (fun h => (hT c h).elim hs (by omega))).trans (a.2.2 c hc hs)⟩
theorem Chg.mono (a : Chg S h k) (hT : ∀ c, S c → T c ∨ h.size ≤ c) : Chg T h k := ⟨a.1, a.2.1, fun c hc hs => a.2.2 c hc (fun h => (hT c h).elim hs (by omega))⟩
theorem Chg.of (a : Keeps h k) (r : k.ro = h.ro) : Chg S h k := ⟨a.size, r, fun c hc _ => a.get c hc⟩
theorem Chg.keeps (a : Chg S h k) (hS : ∀ c, S c → h.size ≤ c) : Keeps h k := ⟨a.1, fun c hc => a.2.2 c hc (fun h => by have := hS c h; omega)⟩
theorem Chg.fr (a : Chg S h k) {p : Nat → Prop} (hp : ∀ b, p b → b < h.size ∧ ¬ S b) : Fr p h k := Fr.of fun b hb => a.2.2 b (hp b hb).1 (hp b hb).2
end
section
variable {P : Program} {call : CallF} {h k : Hp} {R : Type} {S : Value → Hp → Prop} {r : Option (Value × Hp)}
/-- Behind a call: whatever is claimed of the rest. -/
theorem ex_any {ops : Array Oper} {l : List Oper} {Ka : Act → Hp → Option R} {d : Option Tmp} {a : Act} {top : Bool} {op : Op} {hh : Hp} (Q : Option R → Prop) (x : Ex S r) (H : ∀ v k', S v k' → Q (Kops P call top ops l Ka d op a hh (some (v, k')))) : Q (Kops P call top ops l Ka d op a hh r) := by
  obtain ⟨v, k', rfl, h1⟩ := x
  exact H v k' h1
theorem Al.ex {h : Hp} {R : Hp → Value → Prop} (x : Al h R r) : Ex (fun v k => Keeps h k ∧ k.ro = h.ro ∧ R k v) r := by
  obtain ⟨v, k, e, h1⟩ := x
  exact ⟨v, k, e, h1⟩
theorem Ex.mono {S' : Value → Hp → Prop} (x : Ex S r) (H : ∀ v k, S v k → S' v k) : Ex S' r := by
  obtain ⟨v, k, e, h1⟩ := x
  exact ⟨v, k, e, H v k h1⟩
theorem ex_kd1 {ops : Array Oper} {bits bits' s0 j : Nat} {l : List (Oper × Nat × Nat × Nat)} {kept : List (Nat × Nat × Nat)} {Ka : Act → Hp → Option R} {d : Option Tmp} {a : Act} (Q : Option R → Prop) (x : Ex S r) (hk : ∀ v k', S v k' → k.size ≤ k'.size) (hv : ∀ v k', S v k' → vin (fun b => b < s0 ∨ k.size ≤ b ∧ b < k'.size) v) (hb : bits'.testBit j = true)
    (H : ∀ v k', S v k' → Q (evalDM P call ops s0 l (j + 1) (a.put d v) k' (keepS j k.size k'.size kept) true Ka)) : Q (KD1 P call ops bits bits' s0 j l kept Ka d a k r) := by
  obtain ⟨v, k', rfl, h1⟩ := x
  rw [KD1_some, if_pos (hk v k' h1), if_pos]
  · exact H v k' h1
  · refine vin_p (hv v k' h1) fun b hb' => ?_
    rcases hb' with h | h
    · exact allow_old h
    · exact allow_own h.1 h.2 hb
end
end Go.Abs
namespace Go.Abs
theorem splice_full {cs : Array Value} {vs : List Value} (h : cs.size = vs.length) : splice cs 0 vs = vs.toArray := by
  apply Array.ext_getElem?
  intro j
  rw [splice_get _ _ _ _ (by omega)]
  by_cases hj : j < vs.length
  · rw [if_pos (by omega)]; simp
  · rw [if_neg (by omega), Array.getElem?_eq_none (by omega)]; simp; omega
theorem nle_f {n b : Nat} (h : b < n) : (n ≤ b) = False := by simp [h]
theorem nle_fj {n b j : Nat} (h : b < n) : (n + j ≤ b) = False := by simp; omega
theorem flat_all1 {K : List Sc} {cs : List Value} (h : flatOk K cs) : cs.all oneC = true := by
  rw [List.all_eq_true]; exact fun c hc => (h.mem c hc).2
end Go.Abs
namespace Go.Abs
/-- Behind a call, whose heap gets a name. -/
theorem ex_ev {P : Program} {I : Intr} {N : Nat} {t : Tgt} {args : Array Value} {k0 : Hp} {R : Type} {S : Value → Hp → Prop} {call : CallF} {ops : Array Oper} {l : List Oper} {Ka : Act → Hp → Option R} {d : Option Tmp} {a : Act} {top : Bool} {op : Op} {hh : Hp} (Q : Option R → Prop)
    (x : ∀ k1, k1 = k0 → Ex S (evalV P I N t args k1)) (H : ∀ v k', S v k' → Q (Kops P call top ops l Ka d op a hh (some (v, k')))) : Q (Kops P call top ops l Ka d op a hh (evalV P I N t args k0)) := ex_any Q (x k0 rfl) H
end Go.Abs
namespace Go.Abs
section
variable {P : Program} {call : CallF} {h k : Hp} {R : Type} {S : Value → Hp → Prop} {r : Option (Value × Hp)}
theorem ex_kdh {ops : Array Oper} {bits' s0 j : Nat} {l : List (Oper × Nat × Nat × Nat)} {kept : List (Nat × Nat × Nat)} {Ka : Act → Hp → Option R} {d : Option Tmp} {a : Act} {hid : List Nat} (Q : Option R → Prop) (x : Ex S r) (hk : ∀ v k', S v k' → k.size ≤ k'.size) (hv : ∀ v k', S v k' → vin (fun b => b < s0 ∨ k.size ≤ b ∧ b < k'.size) v) (hb : bits'.testBit j = true)
    (H : ∀ v k', S v k' → Q (evalDM P call ops s0 l (j + 1) (a.put d v) (Hp.backL k k' hid) (keepS j k.size k'.size kept) true Ka)) : Q (KDH P call ops bits' s0 j l kept Ka d a k hid r) := by
  obtain ⟨v, k', rfl, h1⟩ := x
  rw [KDH_some, if_pos (hk v k' h1), if_pos]
  · exact H v k' h1
  · refine vin_p (hv v k' h1) fun b hb' => ?_
    rcases hb' with h | h
    · exact allow_old h
    · exact allow_own h.1 h.2 hb
end
end Go.Abs
/- Slices of one's own whose block may go on behind the last element. -/
namespace Go.Abs
set_option linter.all false
section
variable {P : Program} {α : Type} {e : Rp α} {k k' : Hp} {v : Value} {xs : List α} {x : α} {b? : Option Nat}
abbrev nopB : Nat → Prop := fun _ => False
/-- A slice whose elements bear no address, in a block of its own; behind them the block may go on. -/
def OwnC (e : Rp α) (k : Hp) (v : Value) (b? : Option Nat) (xs : List α) : Prop :=
  (v = .slice none 0 0 ∧ b? = none ∧ xs = []) ∨ ∃ b c cells, v = .slice (some ⟨b, 0, none⟩) xs.length c ∧ b? = some b ∧ (c = capOpen + e.len ∨ (c < capOpen ∧ c * e.len ≤ cells.size)) ∧ xs.length ≤ c ∧ xs.length < capOpen ∧ b < k.size ∧
    k.get b = some (.cells cells true) ∧ (∀ w ∈ cells, flatB w = true) ∧ xs.length * e.len ≤ cells.size ∧ rows e true nopB k (cells.toList.take (xs.length * e.len)) xs
theorem frNop {h h' : Hp} : Fr nopB h h' := Fr.of fun b hb => hb.elim
theorem OwnC.nil : OwnC e k (.slice none 0 0) none [] := .inl ⟨rfl, rfl, rfl⟩
theorem OwnC.lt {b : Nat} (r : OwnC e k v (some b) xs) : b < k.size := by
  rcases r with ⟨_, h, _⟩ | ⟨b', c, cells, _, h, _, _, _, hb, _⟩
  · cases h
  · cases h; exact hb
theorem OwnC.mono (r : OwnC e k v b? xs) (hs : k.size ≤ k'.size) (hb : ∀ b, b? = some b → k'.get b = k.get b) : OwnC e k' v b? xs := by
  rcases r with h | ⟨b, c, cells, h1, h2, h3, h4, h5, h6, h7, h8, h9, h10⟩
  · exact .inl h
  · exact .inr ⟨b, c, cells, h1, h2, h3, h4, h5, by omega, by rw [hb b h2]; exact h7, h8, h9, h10.mono (fun _ h => h) id frNop⟩
theorem OwnC.form (r : OwnC e k v b? xs) : ∃ a c, v = .slice a xs.length c := by
  rcases r with ⟨h, _, rfl⟩ | ⟨b, c, cells, h, _⟩
  · exact ⟨none, 0, h⟩
  · exact ⟨_, c, h⟩
theorem OwnC.rp (r : OwnC e k v b? xs) : (Rp.slice e).r true (fun c => b? = some c) k [v] xs := by
  rcases r with ⟨rfl, _, rfl⟩ | ⟨b, c, cells, rfl, rfl, h3, h4, h5, h6, h7, h8, h9, h10⟩
  · exact ⟨none, 0, rfl, ⟨Nat.le_refl _, .inl (by simp [capOpen])⟩, by simp [capOpen], .inl ⟨rfl, .inl rfl, by simp⟩⟩
  · refine ⟨some ⟨b, 0, none⟩, c, rfl, ⟨h4, ?_⟩, h5, .inr ⟨b, 0, cells, true, rfl, rfl, h7, fun _ => rfl, fun w hw => vin_flat (h8 w hw), by omega, ?_⟩⟩
    · rcases h3 with h | h
      · exact .inr h
      · exact .inl h.1
    · rw [List.drop_zero]; exact h10.mono (fun _ h => h.elim) id frNop
/-- One element behind the others. -/
theorem OwnC.append1 {t tx : TypeId} {s by' : Nat} {z : Array Value} (hT : tRow P t = some (s, by', z)) (hse : s = e.len) (hs : 0 < s) (a : OwnC e k v b? xs) (hro : ∀ b, b? = some b → k.ro ≤ b)
    {cs : Array Value} {w : Value} (hnew : aNews P tx s w k = some (1, cs)) (hr : e.r true nopB k cs.toList x) (hfl : ∀ c ∈ cs, flatB c = true) (hb : (xs.length + 1) * by' ≤ 2 ^ 47) (hb2 : xs.length + 1 < capOpen) :
    ∃ v' k' b', aAppend P #[t, tx] #[v, w] k = some (v', k') ∧ OwnC e k' v' (some b') (xs ++ [x]) ∧ (b? = some b' ∧ k'.size = k.size ∨ b' = k.size ∧ k'.size = k.size + 1) ∧ k'.ro = k.ro ∧ ∀ c, c < k.size → b? ≠ some c → k'.get c = k.get c := by
  have hcs : cs.size = s := by have := e.rlen hr; simp at this; omega
  have hone : cs.toList.all oneC = true := list_all_one (e.rone hr)
  unfold tRow at hT
  cases hu : P.underlying t with
  | none => rw [hu] at hT; cases hT
  | some u =>
    rw [hu] at hT
    cases u <;> simp only [] at hT <;> first | (cases hT; done) | skip
    rename_i el
    cases hi : P.info? el with
    | none => rw [hi] at hT; cases hT
    | some i =>
      rw [hi] at hT
      simp only [] at hT
      cases hz : i.zero with
      | none => rw [hz] at hT; cases hT
      | some zz =>
        rw [hz] at hT
        simp only [Option.some.injEq, Prod.mk.injEq] at hT
        obtain ⟨hsz, rfl, rfl⟩ := hT
        subst hsz
        have guard : ∀ n, n = xs.length → ¬ (i.size = 0 ∨ cs.size ≠ 1 * i.size ∨ capOpen ≤ n + 1 ∨ 2 ^ 47 < (n + 1) * i.bytes) := fun n hn => by subst hn; omega
        rcases a with ⟨rfl, rfl, rfl⟩ | ⟨b, c, cells, rfl, rfl, h3, h4, h5, h6, h7, h8, h9, h10⟩
        · refine ⟨.slice (some ⟨k.size, 0, none⟩) 1 (capOpen + i.size), k.push (some (.cells cs true)), k.size, ?_, .inr ⟨k.size, capOpen + i.size, cs, by simp, rfl, .inl (by rw [hse]), by simp only [List.nil_append, List.length_cons, List.length_nil]; omega, by simpa using hb2, by simp, get_push_self, hfl, by simp; omega, ?_⟩, .inr ⟨rfl, by simp⟩, rfl, fun c hc _ => get_push_ne (by omega)⟩
          · simp only [aAppend, hu, hi, hnew, hz]
            rw [if_neg (guard 0 rfl)]
            simp [aGrow]
          · rw [List.nil_append, List.length_cons, List.length_nil, Nat.zero_add, Nat.one_mul, List.take_of_length_le (by simp; omega)]
            exact rows.one_row (e.mono hr (fun _ h => h) id frNop)
        · have hro' := hro b rfl
          have hrow : k.row ⟨b, 0, none⟩ (xs.length * i.size) = some (cells.extract 0 (xs.length * i.size)) := by
            simp only [Hp.row, h7]
            rw [if_pos (by rw [hse]; omega), Nat.zero_add]
          have hpart : (cells.extract 0 (xs.length * i.size)).toList = cells.toList.take (xs.length * e.len) := by
            rw [← hse]; simp
          have hflp : ∀ w ∈ cells.extract 0 (xs.length * i.size) ++ cs, flatB w = true := fun w hw => by
            rcases Array.mem_append.1 hw with hw | hw
            · exact h8 w (mem_extract hw)
            · exact hfl w hw
          have hsz : (cells.extract 0 (xs.length * i.size) ++ cs).size = (xs.length + 1) * e.len := by
            have := congrArg List.length hpart
            simp only [Array.length_toList, List.length_take] at this
            rw [Array.size_append, this, Nat.add_mul, Nat.one_mul]
            have hq : cells.toList.length = cells.size := Array.length_toList
            omega
          -- written where it lies
          have into : (xs.length + 1) * i.size ≤ cells.size → ∀ c', (c' = capOpen + e.len ∨ (c' < capOpen ∧ c' * e.len ≤ cells.size)) → xs.length + 1 ≤ c' → ∃ v' k' b', aInto ⟨b, 0, none⟩ xs.length i.size (xs.length + 1) c' cs k = some (v', k') ∧ OwnC e k' v' (some b') (xs ++ [x]) ∧ (some b = some b' ∧ k'.size = k.size ∨ b' = k.size ∧ k'.size = k.size + 1) ∧ k'.ro = k.ro ∧ ∀ c, c < k.size → some b ≠ some c → k'.get c = k.get c := by
            intro hfit c' hc' hcc
            rw [Nat.add_mul, Nat.one_mul] at hfit
            refine ⟨.slice (some ⟨b, 0, none⟩) (xs.length + 1) c', k.setB b (some (.cells (splice cells (xs.length * i.size) cs.toList) true)), b, ?_, .inr ⟨b, c', splice cells (xs.length * i.size) cs.toList, by simp, rfl, by rw [splice_size]; exact hc', by simpa using hcc, by simpa using hb2, by simpa using h6, get_set_self, fun w hw => ?_, ?_, ?_⟩, .inl ⟨rfl, rfl⟩, rfl, fun c hc hne => get_set_ne (fun e => hne (by rw [e]))⟩
            · unfold aInto
              rw [if_neg (by omega)]
              have hadd : (⟨b, 0, none⟩ : Addr).add (xs.length * i.size) = ⟨b, xs.length * i.size, none⟩ := by
                unfold Addr.add
                split
                · rename_i h0; rw [h0]
                · simp
              rw [hadd]
              simp only [Hp.wr, h7]
              rw [if_pos ⟨hro', by simp; omega, hone⟩]
              rfl
            · obtain ⟨j, hj⟩ := mem_get (Array.mem_toList_iff.2 hw)
              rw [Array.getElem?_toList, splice_get _ _ _ _ (by simp; omega)] at hj
              split at hj
              · exact hfl w (by have := List.mem_of_getElem? hj; simpa using this)
              · exact h8 w (Array.mem_of_getElem? hj)
            · rw [splice_size, List.length_append, List.length_cons, List.length_nil, ← hse, Nat.add_mul, Nat.zero_add, Nat.one_mul]; exact hfit
            · have e1 : (splice cells (xs.length * i.size) cs.toList).toList.take ((xs ++ [x]).length * e.len) = cells.toList.take (xs.length * e.len) ++ cs.toList := by
                rw [splice_list (by simp; omega), List.length_append, List.length_cons, List.length_nil, Nat.zero_add, ← hse, Nat.add_mul, Nat.one_mul]
                have hl1 : (cells.toList.take (xs.length * i.size)).length = xs.length * i.size := by simp; omega
                have hl2 : cs.toList.length = i.size := by simpa using hcs
                rw [← List.append_assoc, List.take_append, List.length_append, hl1, hl2, Nat.sub_self, List.take_zero, List.append_nil, List.take_of_length_le (by rw [List.length_append]; omega)]
              rw [e1]
              exact rows.append (h10.mono (fun _ h => h) id frNop) (rows.one_row (e.mono hr (fun _ h => h) id frNop))
          have fresh : ∀ k1 : Hp, k1.size = k.size → k1.ro = k.ro → (∀ c, c < k.size → b ≠ c → k1.get c = k.get c) → OwnC e (k1.push (some (.cells (cells.extract 0 (xs.length * i.size) ++ cs) true))) (.slice (some ⟨k.size, 0, none⟩) (xs.length + 1) (capOpen + e.len)) (some k.size) (xs ++ [x]) ∧ (some b = some k.size ∧ (k1.push (some (.cells (cells.extract 0 (xs.length * i.size) ++ cs) true))).size = k.size ∨ k.size = k.size ∧ (k1.push (some (.cells (cells.extract 0 (xs.length * i.size) ++ cs) true))).size = k.size + 1) ∧
              (k1.push (some (.cells (cells.extract 0 (xs.length * i.size) ++ cs) true))).ro = k.ro ∧ ∀ c, c < k.size → some b ≠ some c → (k1.push (some (.cells (cells.extract 0 (xs.length * i.size) ++ cs) true))).get c = k.get c := by
            intro k1 hk1 hr1 hg1
            refine ⟨.inr ⟨k.size, capOpen + e.len, _, by simp, rfl, .inl rfl, by simp; omega, by simpa using hb2, by simp; omega, by rw [← hk1, get_push_self], hflp, by rw [hsz]; simp, ?_⟩, .inr ⟨rfl, by simp; omega⟩, by simpa using hr1, fun c hc hne => ?_⟩
            · rw [List.take_of_length_le (by rw [Array.length_toList, hsz]; simp), Array.toList_append, hpart]
              exact rows.append (h10.mono (fun _ h => h) id frNop) (rows.one_row (e.mono hr (fun _ h => h) id frNop))
            · rw [get_push_ne (by omega)]
              exact hg1 c hc (fun e => hne (by rw [e]))
          simp only [aAppend, hu, hi, hnew, hz]
          rw [if_neg (guard _ rfl)]
          by_cases hc : c < capOpen
          · rw [if_pos hc]
            have hcl : c * e.len ≤ cells.size := by
              rcases h3 with h3 | h3
              · omega
              · exact h3.2
            by_cases hn : xs.length + 1 ≤ c
            · rw [if_pos hn]
              refine into ?_ c (.inr ⟨hc, hcl⟩) hn
              rw [hse]; exact Nat.le_trans (Nat.mul_le_mul_right _ hn) hcl
            · rw [if_neg hn, hrow]
              obtain ⟨f1, f2, f3, f4⟩ := fresh k rfl rfl fun _ _ _ => rfl
              exact ⟨_, _, k.size, by simp only [aGrow, Option.map_some]; rw [hse], f1, f2, f3, f4⟩
          · rw [if_neg hc]
            have hc' : c = capOpen + e.len := by
              rcases h3 with h3 | h3
              · exact h3
              · omega
            subst hc'
            rw [if_neg (by omega)]
            have hkn : k.known ⟨b, 0, none⟩ i.size = cells.size / i.size := by
              simp only [Hp.known, h7, Nat.zero_le, if_true, Nat.sub_zero]
            rw [hkn]
            by_cases hn : xs.length + 1 ≤ cells.size / i.size
            · rw [if_pos hn]
              exact into ((Nat.le_div_iff_mul_le (by omega)).1 hn) _ (.inl rfl) (by omega)
            · rw [if_neg hn, h7, hrow]
              simp only []
              rw [if_pos ⟨hro', hone⟩]
              obtain ⟨f1, f2, f3, f4⟩ := fresh (k.setB b none) rfl rfl fun c _ hne => get_set_ne hne.symm
              exact ⟨_, _, k.size, rfl, f1, f2, f3, f4⟩
end
end Go.Abs
/- Cuts, appends and clearing where a slice lies, by its numbers. -/
namespace Go.Abs
set_option linter.all false
section
variable {P : Program} {k : Hp} {t : TypeId} {s b off n c l hh m : Nat} {lov hiv : Option Value}
theorem addr_add {b off j : Nat} : (⟨b, off, none⟩ : Addr).add j = ⟨b, off + j, none⟩ := by
  unfold Addr.add
  split
  · rename_i h; rw [h]; rfl
  · rfl
theorem aSlice_own (ht : tElem P t = some s) (hs : 0 < s) (hl : bndOk lov 0 l) (hhi : bndOk hiv n hh) (hc : (c < capOpen ∧ hh ≤ c) ∨ (c = capOpen + s ∧ hh ≤ k.known ⟨b, off, none⟩ s ∧ (l = 0 ∨ l < k.known ⟨b, off, none⟩ s))) (h1 : l ≤ hh) (hlc : l < c) :
    aSlice P t (.slice (some ⟨b, off, none⟩) n c) lov hiv none k = some (.slice (some ⟨b, off + l * s, none⟩) (hh - l) (if c < capOpen then c - l else c), k) := by
  simp only [aSlice]
  by_cases hcc : c < capOpen
  · rw [if_pos hcc, if_pos hcc, sliceAt_val ht hl hhi h1 (by omega), if_neg (by omega)]
    simp [addr_add]
  · rw [if_neg hcc, if_neg hcc]
    obtain ⟨rfl, h2, h3⟩ : c = capOpen + s ∧ _ := by
      rcases hc with h | h
      · omega
      · exact h
    have ht' := ht
    unfold tElem at ht
    cases hu : P.underlying t with
    | none => rw [hu] at ht; cases ht
    | some u =>
      rw [hu] at ht
      cases u <;> simp only [] at ht <;> first | (cases ht; done) | skip
      rename_i e
      have hsz : pureP P (sizeOf e) = some s := by rw [pureP_sizeOf]; exact ht
      simp only [hsz]
      rw [if_neg (by simp; omega), bnd_natOr hl, bnd_natOr hhi]
      simp only []
      rw [if_pos ⟨h1, h2⟩]
      by_cases h0 : l = 0
      · subst h0; simp
      · rw [if_neg h0, if_pos (by omega), addr_add]
theorem bounds3_val {k1 k2 k3 : IntKind} (h1 : l ≤ hh) (h2 : hh ≤ m) (h3 : m ≤ c) : pureP P (Instr.sliceBounds true n c (some (.int k1 (l : Int))) (some (.int k2 (hh : Int))) (some (.int k3 (m : Int)))) = some (l, hh, m) := by
  unfold Instr.sliceBounds
  simp only [pureP_bind, pureP_pure, Option.bind_some]
  rw [sliceBound_val (by omega) (by omega)]
  simp only [Int.toNat_natCast, Option.bind_some]
  rw [sliceBound_val (by omega) (by omega)]
  simp only [Int.toNat_natCast, Option.bind_some]
  rw [sliceBound_val (by omega) (by omega)]
  simp
theorem aSlice3_own {k1 k2 k3 : IntKind} (ht : tElem P t = some s) (hs : 0 < s) (hc : (c < capOpen ∧ m ≤ c) ∨ (c = capOpen + s ∧ m ≤ k.known ⟨b, off, none⟩ s ∧ m < capOpen)) (h1 : l ≤ hh) (h2 : hh ≤ m) (hlm : l < m) :
    aSlice P t (.slice (some ⟨b, off, none⟩) n c) (some (.int k1 (l : Int))) (some (.int k2 (hh : Int))) (some (.int k3 (m : Int))) k = some (.slice (some ⟨b, off + l * s, none⟩) (hh - l) (m - l), k) := by
  have ht' := ht
  unfold tElem at ht
  cases hu : P.underlying t with
  | none => rw [hu] at ht; cases ht
  | some u =>
    rw [hu] at ht
    cases u <;> simp only [] at ht <;> first | (cases ht; done) | skip
    rename_i e
    have hsz : pureP P (sizeOf e) = some s := by rw [pureP_sizeOf]; exact ht
    simp only [aSlice]
    by_cases hcc : c < capOpen
    · rw [if_pos hcc]
      unfold Instr.sliceAt
      simp only [pureP_bind, pureP_underlying, hu, Option.bind_some]
      unfold Instr.slice
      simp only [pureP_bind, pureP_underlying, hu, Option.bind_some]
      rw [bounds3_val h1 h2 (by omega)]
      simp only [Option.bind_some, hsz, pureP_pure, Option.map_some]
      rw [if_neg (by omega)]
      simp [addr_add]
    · rw [if_neg hcc]
      obtain ⟨rfl, h3, h4⟩ : c = capOpen + s ∧ _ := by
        rcases hc with h | h
        · omega
        · exact h
      simp only [hu, hsz]
      rw [if_neg (by simp; omega)]
      simp only [natOr, natOf, Int.natCast_nonneg, if_true, Int.toNat_natCast]
      rw [if_pos ⟨h1, h2, h3, h4⟩, if_neg (by omega), addr_add]
/-- Appended where there is room. -/
theorem append_into {tx : TypeId} {by' : Nat} {z : Array Value} {w : Value} {new cells : Array Value} (hT : tRow P t = some (s, by', z)) (hs : 0 < s) (hnew : aNews P tx s w k = some (m, new)) (hm : 0 < m) (hsz : new.size = m * s) (hg : k.get b = some (.cells cells true)) (hro : k.ro ≤ b)
    (hc : (c < capOpen ∧ n + m ≤ c) ∨ (c = capOpen + s ∧ n + m ≤ k.known ⟨b, off, none⟩ s)) (hfit : off + n * s + new.size ≤ cells.size) (hone : new.toList.all oneC = true) (hb : (n + m) * by' ≤ 2 ^ 47) (hb2 : n + m < capOpen) :
    aAppend P #[t, tx] #[.slice (some ⟨b, off, none⟩) n c, w] k = some (.slice (some ⟨b, off, none⟩) (n + m) c, k.setB b (some (.cells (splice cells (off + n * s) new.toList) true))) := by
  unfold tRow at hT
  cases hu : P.underlying t with
  | none => rw [hu] at hT; cases hT
  | some u =>
    rw [hu] at hT
    cases u <;> simp only [] at hT <;> first | (cases hT; done) | skip
    rename_i el
    cases hi : P.info? el with
    | none => rw [hi] at hT; cases hT
    | some i =>
      rw [hi] at hT
      simp only [] at hT
      cases hz : i.zero with
      | none => rw [hz] at hT; cases hT
      | some zz =>
        rw [hz] at hT
        simp only [Option.some.injEq, Prod.mk.injEq] at hT
        obtain ⟨rfl, rfl, rfl⟩ := hT
        have into : aInto ⟨b, off, none⟩ n i.size (n + m) c new k = some (.slice (some ⟨b, off, none⟩) (n + m) c, k.setB b (some (.cells (splice cells (off + n * i.size) new.toList) true))) := by
          have hms : 0 < m * i.size := Nat.mul_pos hm hs
          unfold aInto
          rw [if_neg (by omega), addr_add]
          simp only [Hp.wr, hg]
          rw [if_pos ⟨hro, by simpa using hfit, hone⟩]
          rfl
        simp only [aAppend, hu, hi, hnew, hz]
        rw [if_neg (by omega)]
        by_cases hcc : c < capOpen
        · rw [if_pos hcc, if_pos (by omega)]; exact into
        · rw [if_neg hcc, if_neg (by omega), if_pos (by omega)]; exact into
theorem aClear_own {by' : Nat} {z cells : Array Value} (hT : tRow P t = some (s, by', z)) (hn : 0 < n) (hg : k.get b = some (.cells cells true)) (hro : k.ro ≤ b) (hfit : off + (Builtin.zeroCells z n).toList.length ≤ cells.size) (hone : (Builtin.zeroCells z n).toList.all oneC = true) :
    aClear P #[t] #[.slice (some ⟨b, off, none⟩) n c] k = some (.tuple #[], k.setB b (some (.cells (splice cells off (Builtin.zeroCells z n).toList) true))) := by
  unfold tRow at hT
  cases hu : P.underlying t with
  | none => rw [hu] at hT; cases hT
  | some u =>
    rw [hu] at hT
    cases u <;> simp only [] at hT <;> first | (cases hT; done) | skip
    rename_i el
    cases hi : P.info? el with
    | none => rw [hi] at hT; cases hT
    | some i =>
      rw [hi] at hT
      simp only [] at hT
      cases hz : i.zero with
      | none => rw [hz] at hT; cases hT
      | some zz =>
        rw [hz] at hT
        simp only [Option.some.injEq, Prod.mk.injEq] at hT
        obtain ⟨rfl, rfl, rfl⟩ := hT
        have e : pureP P (zeroValue el) = some zz := by rw [pureP_zeroValue, hi]; exact hz
        unfold aClear
        simp only [List.getElem?_toArray, List.getElem?_cons_zero, hu]
        rw [if_neg (by omega), e]
        simp only [Hp.wr, hg]
        rw [if_pos ⟨hro, hfit, hone⟩]
        rfl
end
end Go.Abs
namespace Go.Abs
section
variable {P : Program} {α : Type} {e : Rp α} {k k' : Hp} {v : Value} {xs : List α} {x y : α} {q i j s : Nat}
theorem splice_take {cells : Array Value} {m j : Nat} {d : List Value} (hj : j + d.length ≤ m) (hm : m ≤ cells.size) : (splice cells j d).toList.take m = (splice (cells.extract 0 m) j d).toList := by
  have hl : (cells.extract 0 m).size = m := by simp; omega
  apply List.ext_getElem?
  intro n
  rw [List.getElem?_take, Array.getElem?_toList, Array.getElem?_toList, splice_get _ _ _ _ (by omega), splice_get _ _ _ _ (by omega), Array.getElem?_extract]
  by_cases h1 : n < m
  · rw [if_pos h1]
    by_cases h2 : j ≤ n ∧ n < j + d.length
    · rw [if_pos h2, if_pos h2]
    · rw [if_neg h2, if_neg h2, if_pos (by omega), Nat.zero_add]
  · rw [if_neg h1, if_neg (by omega), if_neg (by omega)]
/-- An element of a slice of one's own, as it lies; a part of it written. -/
theorem OwnC.setIn (a : OwnC e k v (some q) xs) (hi : xs[i]? = some x) (hs : e.len = s) {d : List Value} (hj : j + d.length ≤ s) (hfl : ∀ c ∈ d, flatB c = true)
    (hd : ∀ part : List Value, part.length = s → e.r true nopB k part x → e.r true nopB k (part.take j ++ (d ++ part.drop (j + d.length))) y) :
    ∃ c cells, v = .slice (some ⟨q, 0, none⟩) xs.length c ∧ k.get q = some (.cells cells true) ∧ i * s + s ≤ cells.size ∧ ∀ k' : Hp, k.size ≤ k'.size → k'.get q = some (.cells (splice cells (i * s + j) d) true) → OwnC e k' v (some q) (xs.set i y) := by
  rcases a with ⟨_, h, _⟩ | ⟨b, c, cells, rfl, hq, h3, h4, h5, h6, h7, h8, h9, h10⟩
  · cases h
  cases hq
  have hil := (List.getElem?_eq_some_iff.1 hi).1
  have hle : i * s + s ≤ xs.length * s := by
    have := Nat.mul_le_mul_right s hil
    rw [Nat.succ_mul] at this; exact this
  rw [hs] at h9 h10
  refine ⟨c, cells, rfl, h7, by omega, fun k' hk hg => .inr ⟨q, c, _, by simp, rfl, by rw [splice_size]; exact h3, by simpa using h4, by simpa using h5, by omega, hg, fun w hw => ?_, by rw [splice_size, List.length_set, hs]; exact h9, ?_⟩⟩
  · obtain ⟨n, hn⟩ := mem_get (Array.mem_toList_iff.2 hw)
    rw [Array.getElem?_toList, splice_get _ _ _ _ (by omega)] at hn
    split at hn
    · exact hfl w (List.mem_of_getElem? hn)
    · exact h8 w (Array.mem_of_getElem? hn)
  · rw [List.length_set, hs, splice_take (by omega) h9]
    have e0 : cells.toList.take (xs.length * s) = (cells.extract 0 (xs.length * s)).toList := by simp
    rw [e0] at h10
    exact (h10.setIn hi hs hj hd).mono (fun _ h => h) id frNop
theorem evalDraw_heap {R : Type} {call : CallF} {ops : Array Oper} {a : Act} {k0 : Hp} {K : Act → Hp → Option R} (Q : Option R → Prop) (x : ∀ k3, k3 = k0 → Q (evalDraw P call ops a k3 K)) : Q (evalDraw P call ops a k0 K) := x k0 rfl
/-- One literal element, appended: as a call's outcome. -/
theorem OwnC.append_ex {t tx : TypeId} {s by' : Nat} {z : Array Value} {b? : Option Nat} (hT : tRow P t = some (s, by', z)) (hx : rowOrText (P.underlying tx) = true) (hse : s = e.len) (hs : 0 < s) (a : OwnC e k v b? xs) (hro : ∀ b, b? = some b → k.ro ≤ b)
    {cs : Array Value} {lit : Nat} (hg : k.get lit = some (.cells cs true)) (hr : e.r true nopB k cs.toList x) (hfl : ∀ c ∈ cs, flatB c = true) (hb : (xs.length + 1) * by' ≤ 2 ^ 47) (hb2 : xs.length + 1 < capOpen) :
    Ex (fun v' k' => ∃ b', OwnC e k' v' (some b') (xs ++ [x]) ∧ (b? = some b' ∧ k'.size = k.size ∨ b' = k.size ∧ k'.size = k.size + 1) ∧ k'.ro = k.ro ∧ ∀ c, c < k.size → b? ≠ some c → k'.get c = k.get c) (aAppend P #[t, tx] #[v, .slice (some ⟨lit, 0, none⟩) 1 1] k) := by
  have hcs : cs.size = s := by have := e.rlen hr; simp at this; omega
  obtain ⟨v', k', b', h1, h2⟩ := a.append1 hT hse hs hro (lit_news hx hcs hs hg) hr hfl hb hb2
  exact ⟨v', k', h1, b', h2⟩
end
end Go.Abs
namespace Go.Abs
theorem vin_unit {p : Nat → Prop} : vin p (.tuple #[]) := vin_flat (by simp)
end Go.Abs
namespace Go.Abs
theorem OwnC.form_some {α : Type} {e : Rp α} {k : Hp} {v : Value} {xs : List α} {q : Nat} (r : OwnC e k v (some q) xs) : ∃ c, v = .slice (some ⟨q, 0, none⟩) xs.length c := by
  rcases r with ⟨_, h, _⟩ | ⟨b, c, cells, h, h2, _⟩
  · cases h
  · cases h2; exact ⟨c, h⟩
end Go.Abs
namespace Go.Abs
theorem splice_tail {a : Value} {l d : List Value} (h : l.length = d.length) : splice (a :: l).toArray 1 d = (a :: d).toArray := by
  apply Array.ext'
  rw [splice_list (by simp [h]; omega)]
  simp [h]
  omega
end Go.Abs
namespace Go.Abs
/-- A range over a function: what its rounds run in gets names. -/
theorem range_rule3 {P : Program} {R : Type} {call : CallF} {draw : Array Oper → Act → Hp → (Act → Hp → Option R) → Option R} {lf : Nat} {K : Exit → Act → Hp → Option R} {f : Operand} {a : Act} {ps : Array Tmp} {asg body : Code} {h : Hp} (Q : Option R → Prop)
    (H : ∀ asg' body' tm hb, asg' = asg → body' = body → tm = a.tmps → hb = h → ∃ g args v h2 e h3, aTarget P (a.eval f) #[.func (.yield (hb.size + 1)) #[] #[]] = some (.fn g, args) ∧ call (.fn g) args (enterH hb tm ps asg' body') = some (v, h2) ∧ leaveL (hb.size + 1) h2 = some (e, h3) ∧
    Q (K e { a with defers := { target := .collected hb.size, args := #[] } :: a.defers } h3)) : Q (evalC P call draw none lf (.rangeFunc f ps asg body) a h K) :=
  range_rule Q fun asg' body' e1 e2 => H asg' body' _ _ e1 e2 rfl rfl
theorem zip_pair {a b : Tmp} {v w : Value} {tm : Array Value} : ((#[a, b] : Array Tmp).zip #[v, w]).foldl (fun tmps x => tmps.setIfInBounds x.1 x.2) tm = (tm.setIfInBounds a v).setIfInBounds b w := by simp [Array.zip]
theorem ex_hide {r : Option (Value × Hp)} {S : Value → Hp → Prop} (H : ∀ S', S' = S → Ex S' r) : Ex S r := H S rfl
end Go.Abs
namespace Go.Abs
theorem cells_func {f : Fn} {x y : Array Value} : (Value.func f x y).cells = #[Value.func f x y] := nd rfl
theorem cells_nilFunc : (Value.nilFunc).cells = #[Value.nilFunc] := nd rfl
end Go.Abs
namespace Go.Abs
theorem Kasg_heap {P : Program} {I : Intr} {n l : Nat} {body : Code} {a : Act} {h0 : Hp} {e : Exit} (Q : Option (Value × Hp) → Prop) (x : ∀ h1, h1 = h0 → Q (Kasg P I n l body e a h1)) : Q (Kasg P I n l body e a h0) := x h0 rfl
end Go.Abs
/- Slices that are made of zeros. -/
namespace Go.Abs
set_option linter.all false
section
variable {P : Program} {h : Hp} {t : TypeId} {s by' : Nat} {z : Array Value}
theorem zeroCells_toList (n : Nat) : (Builtin.zeroCells z n).toList = (List.replicate n z.toList).flatten := by
  unfold Builtin.zeroCells
  apply List.ext_getElem?
  intro j
  simp only [Array.toList_map, List.getElem?_map, Array.toList_range]
  by_cases hz : z.size = 0
  · rw [hz, Nat.mul_zero]
    have : z.toList = [] := by apply List.eq_nil_of_length_eq_zero; simpa using hz
    rw [this]
    have e : ∀ n : Nat, (List.replicate n ([] : List Value)).flatten = [] := fun n => by induction n with
      | zero => rfl
      | succ n ih => rw [List.replicate_succ, List.flatten_cons, ih]; rfl
    rw [e]; simp
  · have hl : ∀ p ∈ List.replicate n z.toList, p.length = z.size := fun p hp => by rw [List.eq_of_mem_replicate hp]; simp
    have hk := Nat.mod_lt j (by omega : 0 < z.size)
    have hj : j = j / z.size * z.size + j % z.size := by rw [Nat.mul_comm]; exact (Nat.div_add_mod j z.size).symm
    have := flatten_get z.size (List.replicate n z.toList) hl (j / z.size) (j % z.size) hk
    rw [← hj] at this
    rw [this, List.getElem?_replicate]
    by_cases hjn : j < n * z.size
    · rw [List.getElem?_range hjn, if_pos ((Nat.div_lt_iff_lt_mul (by omega)).2 hjn)]
      simp [hk]
    · rw [List.getElem?_eq_none (by simpa using hjn), if_neg (fun h => hjn ((Nat.div_lt_iff_lt_mul (by omega)).1 h))]
      rfl
theorem rows_zero {α : Type} {e : Rp α} {o : Bool} {p : Nat → Prop} {k : Hp} {x : α} (hx : e.r o p k z.toList x) : ∀ n : Nat, rows e o p k (Builtin.zeroCells z n).toList (List.replicate n x) := by
  intro n
  rw [zeroCells_toList]
  induction n with
  | zero => exact rfl
  | succ n ih => rw [List.replicate_succ, List.flatten_cons, List.replicate_succ]; exact ⟨_, _, rfl, hx, ih⟩
theorem makeSlice_val (hT : tRow P t = some (s, by', z)) (hz : z.size = s) {n : Nat} {k1 k2 : IntKind} (h1 : n ≤ 2 ^ 47) (h2 : by' * n ≤ 2 ^ 48) :
    aMakeSlice P t (.int k1 (n : Int)) (.int k2 (n : Int)) h = some (.slice (some ⟨h.size, 0, none⟩) n n, h.push (some (.cells (Builtin.zeroCells z n) true))) := by
  unfold tRow at hT
  cases hu : P.underlying t with
  | none => rw [hu] at hT; cases hT
  | some u =>
    rw [hu] at hT
    cases u <;> simp only [] at hT <;> first | (cases hT; done) | skip
    rename_i el
    cases hi : P.info? el with
    | none => rw [hi] at hT; cases hT
    | some i =>
      rw [hi] at hT
      simp only [] at hT
      cases hzz : i.zero with
      | none => rw [hzz] at hT; cases hT
      | some zz =>
        rw [hzz] at hT
        simp only [Option.some.injEq, Prod.mk.injEq] at hT
        obtain ⟨rfl, rfl, rfl⟩ := hT
        have e : pureP P (zeroValue el) = some zz := by rw [pureP_zeroValue, hi]; exact hzz
        unfold aMakeSlice
        simp only [hu, hi, e]
        rw [if_pos ⟨by omega, by omega, by omega, by exact_mod_cast h2⟩]
        simp only [Int.toNat_natCast]
        congr 5
        unfold Builtin.zeroCells
        split
        · rename_i h0
          rw [← hz] at h0
          rw [h0]; simp
        · rw [hz]
end
end Go.Abs
namespace Go.Abs
section
variable {P : Program} {α : Type} {e : Rp α} {k : Hp} {v : Value} {xs : List α} {b : Nat}
def FlatE (e : Rp α) : Prop := ∀ {o p h c x}, e.r o p h c x → ∀ v ∈ c, flatB v = true
theorem flatE_flat {K : List Sc} : FlatE (Rp.flat K) := fun h v hv => by
  obtain ⟨rfl, h⟩ := h
  exact (h.mem v hv).1
theorem flatE_int {k : IntKind} : FlatE (Rp.int k) := fun h v hv => by
  obtain ⟨rfl, _⟩ := h
  simp at hv; subst hv; exact flatB_int
theorem flatE_bool : FlatE Rp.bool := fun h v hv => by
  obtain rfl : _ = _ := h
  simp at hv; subst hv; exact flatB_bool
theorem flatE_pair {β : Type} {f : Rp β} (he : FlatE e) (hf : FlatE f) : FlatE (Rp.pair e f) := fun h v hv => by
  obtain ⟨c, d, rfl, h1, h2⟩ := h
  rcases List.mem_append.1 hv with hv | hv
  · exact he h1 v hv
  · exact hf h2 v hv
theorem rows.flatE (he : FlatE e) {o : Bool} {p : Nat → Prop} {h : Hp} : ∀ {cs : List Value} {xs : List α}, rows e o p h cs xs → ∀ c ∈ cs, flatB c = true
  | cs, [], r => by simp [show cs = [] from r]
  | cs, x :: xs, r => by
    obtain ⟨c, d, rfl, h1, h2⟩ := r
    intro v hv
    rcases List.mem_append.1 hv with hv | hv
    · exact he h1 v hv
    · exact rows.flatE he h2 v hv
theorem OwnS.ownC (he : FlatE e) {o : Bool} {p : Nat → Prop} {b? : Option Nat} (r : OwnS e o p k v b? xs) : OwnC e k v b? xs := by
  rcases r with h | ⟨b, c, cells, h1, h2, h3, h4, h5, h6, h7, h8⟩
  · exact .inl h
  · have hl : cells.size = xs.length * e.len := by rw [← h8.len]; simp
    have hf : ∀ c ∈ cells, flatB c = true := fun c hc => rows.flatE he h8 c (Array.mem_toList_iff.2 hc)
    refine .inr ⟨b, c, cells, h1, h2, ?_, ?_, h4, h5, h7, hf, by omega, ?_⟩
    · rcases h3 with h | h
      · exact .inr ⟨by omega, by rw [h]; omega⟩
      · exact .inl h
    · rcases h3 with h | h <;> omega
    · rw [List.take_of_length_le (by simp; omega)]
      exact h8.rflat (fun c hc => hf c (Array.mem_toList_iff.1 hc))
/-- A copy: what is appended to a literal without elements. -/
theorem copy_c {o : Bool} {q : Nat → Prop} {w : Value} {ys : List α} {t tx : TypeId} {s by' : Nat} {z : Array Value} (he : FlatE e) (hT : tRow P t = some (s, by', z)) (hx : rowOrText (P.underlying tx) = true) (hse : s = e.len) (hs : 0 < s) (hw : (Rp.slice e).r o q k [w] ys) (hb : b < k.size) (hg : k.get b = some (.cells #[] true)) (hro : k.ro ≤ b) (hq : ∀ c, q c → c < k.size) (hqb : ¬ q b)
    (hby : ys.length * by' ≤ 2 ^ 47) (hl : ys.length < capOpen) : Al k (fun k' v => ∃ b', (b' = b ∨ b' = k.size) ∧ b' < k'.size ∧ OwnC e k' v (some b') ys) (aAppend P #[t, tx] #[.slice (some ⟨b, 0, none⟩) 0 0, w] k) := by
  obtain ⟨v, k', h1, h2, h3, b', h4, h5, h6⟩ := copy_al hT hx hse hs hw hb hg hro hq hqb hby hl
  exact ⟨v, k', h1, h2, h3, b', h4, h5, h6.ownC he⟩
end
end Go.Abs
namespace Go.Abs
theorem vb_keepS {s0 j lo hi : Nat} {kept : List (Nat × Nat × Nat)} {v : Value} (h : vin (fun b => b < s0 ∨ lo ≤ b ∧ b < hi) v) (bits : Nat) (hb : bits.testBit j = true) : vokB (allow s0 (keepS j lo hi kept) bits) v = true :=
  vin_p h fun b hb' => by
    rcases hb' with h | h
    · exact allow_old h
    · exact allow_own h.1 h.2 hb
end Go.Abs
namespace Go.Abs
theorem finR_three {P : Program} {dc : DCall} {x y z : ResultVar} {ts : Array Value} {h : Hp} : finR P dc #[x, y, z] { tmps := ts, defers := [] } h = (aResult P ts h x).bind fun v => (aResult P ts h y).bind fun u => (aResult P ts h z).map fun w => (.tuple #[v, u, w], h) := by
  simp only [finR, takeMarks, aResultsL]
  cases aResult P ts h x with
  | none => rfl
  | some v => cases aResult P ts h y with
    | none => rfl
    | some u => cases aResult P ts h z <;> rfl
end Go.Abs
/- A variable that is a row of truth values, as the text lays it. -/
namespace Go.Abs
set_option linter.all false
section
variable {P : Program} {CK : Code → Prop} {β : Bm} {h : Hp} {w : World}
/-- What is known of a block of the machine's is written down. -/
theorem RO.put {g : Nat} {cs C : Array Value} {e : TypeId} {fz : Nat × Nat} (r : RO P CK β h w) (hg : g < h.size) (ho : w.heap[(β g).B]? = some (.cells C e fz)) (hC : ∀ (i : Nat) v, cs[i]? = some v → C[(β g).O + i]? = some (ren β v) ∧ vok h.size v) (hav : cs.size ≤ (β g).av) : RO P CK β (h.setB g (some (.cells cs false))) w := by
  have hget : ∀ b z, (h.setB g (some (.cells cs false))).get b = some z → b = g ∧ z = .cells cs false ∨ b ≠ g ∧ h.get b = some z := by
    intro b z hb
    rw [Hp.get_setB] at hb
    split at hb
    · cases hb; exact .inl ⟨by assumption, rfl⟩
    · exact .inr ⟨by assumption, hb⟩
  have hno : ∀ c, ¬ (h.setB g (some (.cells cs false))).own c := by
    rintro c ⟨z, hz, hz2⟩
    rcases hget c z hz with ⟨_, rfl⟩ | ⟨_, hz⟩
    · cases hz2
    · exact r.no c ⟨z, hz, hz2⟩
  refine ⟨⟨r.rel.glob, by rw [Hp.size_setB]; exact r.rel.gsize, fun b y hy => ?_, fun b b' ho' => absurd ho' (hno b), fun b hb => ?_, by rw [Hp.size_setB, Hp.ro_setB]; exact r.rel.roLe⟩, hno⟩
  · rw [Hp.size_setB]
    rcases hget b y hy with ⟨rfl, rfl⟩ | ⟨_, hy⟩
    · exact ⟨_, ho, C, e, fz, rfl, hC, hav, fun h => by cases h⟩
    · exact r.rel.blk b y hy
  · rw [Hp.size_setB]
    obtain ⟨z, hz⟩ := Option.ne_none_iff_exists'.1 hb
    rcases hget b z hz with ⟨rfl, _⟩ | ⟨_, hz⟩
    · exact hg
    · exact r.rel.lt b (by rw [hz]; simp)
/-- How such a variable lies. -/
def BoolsAt (h : Hp) (g : Nat) (bs : List Bool) : Prop := ∃ b, h.get g = some (.cells #[.slice (some ⟨b, 0, none⟩) bs.length bs.length] false) ∧ h.get b = some (.cells (bs.map Value.bool).toArray false) ∧ g < h.size ∧ b < h.size
theorem BoolsAt.mono {g : Nat} {bs : List Bool} {h' : Hp} (x : BoolsAt h g bs) (hs : h.size ≤ h'.size) (hg : ∀ b, b < h.size → h'.get b = h.get b) : BoolsAt h' g bs := by
  obtain ⟨b, h1, h2, h3, h4⟩ := x
  exact ⟨b, by rw [hg g h3]; exact h1, by rw [hg b h4]; exact h2, by omega, by omega⟩
theorem laid_bools {H : Type} {enc : TypeId × Value → H} {held : Bool} {name : String} {g : Nat} {t e : TypeId} {cs : Array Value} {bs : List Bool} {fuel : Nat} {p : List MemPlace} (hg : P.globalNamed name = some g) (hgs : g < P.globals.size) (hv : w.var? P name = some cs)
    (hu : P.underlying t = some (.slice e)) (hue : P.underlying e = some .bool) (hce : P.cellsOf e = 1) (hn0 : bs ≠ []) (hn : bs.length < 1000)
    (hd : DataW.trod enc P w 0 (fun _ => true) held fuel t cs.toList = some (.slice (bs.map fun b => .lit (.bool b)) [], p)) : ∃ β h, RO P CK β h w ∧ BoolsAt h g bs := by
  have hbl : 0 < bs.length := List.length_pos_iff.2 hn0
  have ho : ∃ e fz, w.heap[g]? = some (.cells cs e fz) := by
    simp only [World.var?, hg, Option.bind_some] at hv
    split at hv
    · rename_i cs e fz hh
      cases hv
      exact ⟨e, fz, hh⟩
    · cases hv
  obtain ⟨eg, fzg, ho⟩ := ho
  rcases DataW.trod_slice hu hd with ⟨_, h1⟩ | ⟨a, len, cap, elems, rest, n, rfl, hcs, hx, -, hlc, hcm, hel, hE, hR, -⟩
  · simp at h1
  simp only [Prod.mk.injEq, DataW.slice.injEq] at hx
  obtain ⟨⟨hx1, hx2⟩, -⟩ := hx
  obtain ⟨hR, -⟩ := hR rfl
  have hr0 : rest.length = 0 := by
    have := congrArg List.length hx2
    simpa using this.symm
  have hlen : elems.length = bs.length := by
    have := congrArg List.length hx1
    simpa using this.symm
  obtain rfl : cap = len := by omega
  have hcap : cap = bs.length := by omega
  have hat0 : ∀ i, i < cap → ∃ b, bs[i]? = some b ∧ w.cell? ((a.add (i * 1)).add 0) = some (.bool b) := by
    intro i hi
    have h1 := hE i hi
    obtain ⟨y, hy⟩ : ∃ y, elems[i]? = some y := ⟨_, List.getElem?_eq_getElem (by omega)⟩
    rw [hy, hce] at h1
    obtain ⟨l, hl1, hl2⟩ := Option.bind_eq_some_iff.1 h1
    obtain ⟨b, rfl, hyb⟩ := DataW.trod_bool hue hl2
    have h2 := (cells_get hl1).2 0 (by omega)
    have e3 : bs[i]? = some b := by
      have h3 := congrArg (·[i]?) hx1
      simp only [List.getElem?_map, hy, Option.map_some] at h3
      rw [hyb] at h3
      cases hb : bs[i]? with
      | none => rw [hb] at h3; simp at h3
      | some b' => rw [hb] at h3; simp at h3; rw [h3]
    exact ⟨b, e3, h2⟩
  have hs0 : a.spot = none := by
    obtain ⟨b, _, h2⟩ := hat0 0 (by omega)
    obtain ⟨q1, _⟩ := cell_cells h2
    rwa [show (a.add (0 * 1)).add 0 = a by simp [Addr.add]] at q1
  have hat : ∀ i, i < cap → ∃ C e fz, a.spot = none ∧ w.heap[a.block]? = some (.cells C e fz) ∧ C[a.off + i]? = (bs.map Value.bool)[i]? := by
    intro i hi
    obtain ⟨b, e3, h2⟩ := hat0 i hi
    obtain ⟨ab, ao, as⟩ := a
    simp only at hs0
    subst hs0
    rw [add_none, add_none] at h2
    obtain ⟨q1, C, e', fz, q2, q3⟩ := cell_cells h2
    refine ⟨C, e', fz, rfl, q2, ?_⟩
    rw [List.getElem?_map, e3]
    simpa using q3
  obtain ⟨C, e1, fz1, hs, hC, -⟩ := hat 0 (by omega)
  have hcell : ∀ i, i < cap → C[a.off + i]? = (bs.map Value.bool)[i]? := by
    intro i hi
    obtain ⟨C', e', fz', _, hC', h3⟩ := hat i hi
    rw [hC] at hC'
    cases hC'
    exact h3
  let β0 : Bm := laidBm g 1
  have r0 : RO P CK β0 (bareHp P) w := ⟨bare_rel fun b _ => by
    show (laidBm g 1 b).B = b ∧ (laidBm g 1 b).O = 0
    unfold laidBm; split <;> exact ⟨rfl, rfl⟩, fun c ⟨x, hx, _⟩ => by cases hx⟩
  obtain ⟨r1, x1⟩ := r0.push ⟨a.block, a.off, bs.length⟩ (some (.cells (bs.map Value.bool).toArray false)) (fun z hz => by
    cases hz
    refine ⟨rfl, _, hC, C, e1, fz1, rfl, fun i v hi => ?_, by simp, fun h => by cases h⟩
    simp only [List.getElem?_toArray] at hi
    have hil := (List.getElem?_eq_some_iff.1 hi).1
    simp only [List.length_map] at hil
    rw [hcell i (by omega), hi]
    rw [List.getElem?_map, Option.map_eq_some_iff] at hi
    obtain ⟨b, -, rfl⟩ := hi
    simp)
  have hgb : g < (bareHp P).size := hgs
  have eB : upd β0 (bareHp P).size ⟨a.block, a.off, bs.length⟩ g = ⟨g, 0, 1⟩ := by
    rw [upd_lt hgb]
    show laidBm g 1 g = _
    unfold laidBm; rw [if_pos rfl]
  have s1 : g < ((bareHp P).push (some (.cells (bs.map Value.bool).toArray false))).size := by simp; omega
  refine ⟨_, _, r1.put (g := g) (cs := #[.slice (some ⟨(bareHp P).size, 0, none⟩) bs.length bs.length]) (C := cs) (e := eg) (fz := fzg) s1 (by rw [eB]; exact ho) (fun i v hi => ?_) (by rw [eB]; simp), (bareHp P).size, ?_, ?_, ?_, ?_⟩
  · have hi0 : i = 0 := by
      have := (Array.getElem?_eq_some_iff.1 hi).1
      simp at this; omega
    subst hi0
    simp at hi
    subst hi
    rw [eB]
    refine ⟨?_, by simp⟩
    have h3 : cs[0]? = some (.slice (some a) bs.length bs.length) := by
      have : cs.toList[0]? = some (.slice (some a) cap cap) := by rw [hcs]; rfl
      rw [Array.getElem?_toList] at this
      rw [this, hcap]
    have ea : a = ⟨a.block, a.off, none⟩ := by
      obtain ⟨ab, ao, as⟩ := a
      simp only at hs
      subst hs; rfl
    simp only [Nat.zero_add]
    rw [h3, ren_slice]
    have : renCap (upd β0 (bareHp P).size ⟨a.block, a.off, bs.length⟩) ⟨(bareHp P).size, 0, none⟩ bs.length = bs.length := by
      unfold renCap capOpen; rw [if_neg (by omega)]
    rw [this]
    unfold renA
    simp only [upd_self, Nat.add_zero]
    rw [← ea]
  · rw [Hp.get_setB, if_pos rfl]
  · rw [Hp.get_setB, if_neg (by omega), Hp.get_push, if_pos rfl]
  · rw [Hp.size_setB]; exact s1
  · rw [Hp.size_setB]; simp
/-- A cut of a row that begins at its begin does not hang on the heap. -/
theorem slice_front {α : Type} {e : Rp α} {o : Bool} {p : Nat → Prop} {v : Value} {xs : List α} {t : TypeId} {hh : Nat} {hiv : Option Value} (r : (Rp.slice e).r o p h [v] xs) (ht : tElem P t = some e.len) (he : 0 < e.len) (hhi : bndOk hiv xs.length hh) (h2 : hh ≤ xs.length) :
    ∃ v', ∀ h', Fr p h h' → aSlice P t v none hiv none h' = some (v', h') ∧ (Rp.slice e).r o p h' [v'] (xs.take hh) := by
  obtain ⟨v', q1, r1⟩ := slice_rp (lov := none) r ht he rfl hhi (Nat.zero_le _) h2 (.inl rfl)
  refine ⟨v', fun h' f => ?_⟩
  obtain ⟨v2, q2, r2⟩ := slice_rp (lov := none) ((Rp.slice e).mono r (fun _ h => h) id f) ht he rfl hhi (Nat.zero_le _) h2 (.inl rfl)
  have : v2 = v' := by
    obtain ⟨a, c, rfl, -, -⟩ := slice_form r
    cases a with
    | none =>
      simp only [aSlice] at q1 q2
      split at q1
      · rename_i hc
        rw [if_pos hc, Option.map_eq_some_iff] at q2
        rw [Option.map_eq_some_iff] at q1
        obtain ⟨w1, a1, b1⟩ := q1
        obtain ⟨w2, a2, b2⟩ := q2
        rw [a1] at a2
        cases a2; cases b1; cases b2; rfl
      · cases q1
    | some a =>
      simp only [aSlice] at q1 q2
      split at q1
      · rename_i hc
        rw [if_pos hc, Option.map_eq_some_iff] at q2
        rw [Option.map_eq_some_iff] at q1
        obtain ⟨w1, a1, b1⟩ := q1
        obtain ⟨w2, a2, b2⟩ := q2
        rw [a1] at a2
        cases a2; cases b1; cases b2; rfl
      · rename_i hc
        rw [if_neg hc] at q2
        split at q1
        · rename_i el hu
          simp only [hu] at q2
          split at q1
          · rename_i s hs
            simp only [hs] at q2
            split at q1
            · cases q1
            · rename_i hz
              rw [if_neg hz] at q2
              simp only [natOr] at q1 q2
              split at q1
              · rename_i l hh' e1 e2 _
                cases e1
                rw [e2] at q2
                simp only [] at q2
                split at q1
                · split at q2
                  · simp only [if_true] at q1 q2
                    cases q1; cases q2; rfl
                  · cases q2
                · cases q1
              · rename_i e3; cases e3
              · cases q1
          · cases q1
        · cases q1
  subst this
  rw [List.drop_zero] at r2
  exact ⟨q2, r2⟩
end
end Go.Abs
/- Maps of numbers: rewriting; what stands in them. -/
namespace Go.Abs
set_option linter.all false
section
variable {P : Program} {call : CallF} {h : Hp} {a : Act} {ty : TypeId}
theorem op_makeMap {t : TypeId} : opVal P call (bare (.makeMap t none) ty) a h = some (.map (some h.size), h.push (some (.map #[] 0))) := nd rfl
theorem op_lookup {t : TypeId} {x ix : Operand} {ok : Bool} : opVal P call (bare (.lookup t x ix ok) ty) a h = liftP (aLookup P t (a.eval x) (a.eval ix) ok h) h := by
  unfold opVal
  have h1 : aPure P a.eval (bare (.lookup t x ix ok) ty) = none := rfl
  rw [h1]
  simp only [aHeap]
  cases aLookup P t (a.eval x) (a.eval ix) ok h <;> rfl
theorem op_mapUpdate {t : TypeId} {m k x : Operand} : opVal P call (bare (.mapUpdate t m k x) ty) a h = putU (aUpdate P t (a.eval m) (a.eval k) (a.eval x) h) := by
  unfold opVal
  have h1 : aPure P a.eval (bare (.mapUpdate t m k x) ty) = none := rfl
  rw [h1]
  simp only [aHeap]
  cases aUpdate P t (a.eval m) (a.eval k) (a.eval x) h <;> rfl

/-- The entries of a map that was written key by key, each key once. -/
def mEs : List (Int × Value) → Nat → List MapEntry
  | [], _ => []
  | x :: l, n => { key := .int .i64 x.1, val := x.2, born := n } :: mEs l (n + 1)
theorem mEs_append (x : Int) (v : Value) : ∀ (l : List (Int × Value)) (n : Nat), mEs (l ++ [(x, v)]) n = mEs l n ++ [{ key := .int .i64 x, val := v, born := n + l.length }]
  | [], n => rfl
  | y :: l, n => by
    rw [List.cons_append, mEs, mEs_append x v l (n + 1), mEs, List.cons_append]
    congr 4
    simp only [List.length_cons]; omega
def mBlk (l : List (Int × Value)) : Blk := .map (mEs l 0).toArray l.length
theorem mBlk_nil : mBlk [] = .map #[] 0 := rfl
theorem find_none {j : IntKind} {x : Int} : ∀ (l : List (Int × Value)) (n i : Nat), (∀ p ∈ l, p.1 ≠ x) → Instr.findNow (.int j) (.int .i64 x) (mEs l n) i = some none
  | [], n, i, _ => rfl
  | y :: l, n, i, h => by
    simp only [mEs, Instr.findNow, Instr.sameNow, if_true]
    have : (x == y.1) = false := by
      have := h y List.mem_cons_self
      simp; omega
    rw [this]
    exact find_none l (n + 1) (i + 1) fun p hp => h p (List.mem_cons_of_mem _ hp)
theorem find_some {j : IntKind} {x : Int} {v : Value} : ∀ (l : List (Int × Value)) (n i q : Nat), l[q]? = some (x, v) → (∀ q' y, q' < q → l[q']? = some y → y.1 ≠ x) → Instr.findNow (.int j) (.int .i64 x) (mEs l n) i = some (some (i + q, v))
  | [], n, i, q, h, _ => by simp at h
  | y :: l, n, i, 0, h, _ => by
    simp only [List.getElem?_cons_zero, Option.some.injEq] at h
    subst h
    simp [mEs, Instr.findNow, Instr.sameNow]
  | y :: l, n, i, q + 1, h, g => by
    simp only [List.getElem?_cons_succ] at h
    simp only [mEs, Instr.findNow, Instr.sameNow, if_true]
    have : (x == y.1) = false := by
      have := g 0 y (by omega) rfl
      simp; omega
    rw [this, show i + (q + 1) = (i + 1) + q by omega]
    exact find_some l (n + 1) (i + 1) q h fun q' z hq hz => g (q' + 1) z (by omega) (by simpa using hz)
variable {t kt el : TypeId} {j : IntKind} {r : Nat} {l : List (Int × Value)}
theorem update_new {x : Int} {v : Value} (hu : P.underlying t = some (.map kt el)) (hk : P.underlying kt = some (.int j)) (hg : h.get r = some (mBlk l)) (hro : h.ro ≤ r) (hx : ∀ p ∈ l, p.1 ≠ x) :
    aUpdate P t (.map (some r)) (.int .i64 x) v h = some (h.setB r (some (mBlk (l ++ [(x, v)])))) := by
  unfold aUpdate aFind
  rw [hu]
  unfold mBlk at hg
  simp only [hg, hk, hro, if_true]
  rw [find_none l 0 0 hx]
  simp only [mBlk, mEs_append, Nat.zero_add, List.length_append, List.length_cons, List.length_nil, List.push_toArray]
theorem lookup_none {x : Int} {ok : Bool} {z : Value} (hu : P.underlying t = some (.map kt el)) (hk : P.underlying kt = some (.int j)) (hz : pureP P (zeroValue el) = some z) (hg : h.get r = some (mBlk l)) (hx : ∀ p ∈ l, p.1 ≠ x) :
    aLookup P t (.map (some r)) (.int .i64 x) ok h = some (if ok then .tuple #[z, .bool false] else z) := by
  unfold aLookup aEntries aFind
  rw [hu]
  unfold mBlk at hg
  simp only [hg, hk]
  rw [find_none l 0 0 hx]
  simp only [hz]
theorem lookup_some {x : Int} {ok : Bool} {v : Value} {q : Nat} (hu : P.underlying t = some (.map kt el)) (hk : P.underlying kt = some (.int j)) (hg : h.get r = some (mBlk l)) (hq : l[q]? = some (x, v)) (hx : ∀ q' y, q' < q → l[q']? = some y → y.1 ≠ x) :
    aLookup P t (.map (some r)) (.int .i64 x) ok h = some (if ok then .tuple #[v, .bool true] else v) := by
  unfold aLookup aEntries aFind
  rw [hu]
  unfold mBlk at hg
  simp only [hg, hk]
  rw [find_some l 0 0 q hq hx]
end
end Go.Abs
/- Rows that are made with room: slices.Grow, slices.Concat. -/
namespace Go.Abs
set_option linter.all false
/-- Zeros appended to nothing. -/
theorem append_zeros_nil {P : Program} {t tx : TypeId} {j : IntKind} {s by' n : Nat} {z : Array Value} {k : Hp} (hT : tRow P t = some (s, by', z)) (hk : P.underlying tx = some (.int j)) (hs : 0 < s) (hn : 0 < n) (hn2 : n < 1000000) (hb : n * by' ≤ 2 ^ 47) :
    aAppend P #[t, tx] #[.slice none 0 0, .int .i64 (n : Int)] k = some (.slice (some ⟨k.size, 0, none⟩) n (capOpen + s), k.push (some (.cells (Builtin.zeroCells z n) true))) := by
  obtain ⟨e, i, zz, hu, hi, hz, rfl, rfl, rfl⟩ := tRow_some hT
  have hnw : aNews P tx i.size (.int .i64 (n : Int)) k = none := by
    unfold aNews
    rw [hk, if_neg (by simp [rowOrText])]
  have hw : IntKind.i64.wrap (n : Int) = (n : Int) := by
    rw [wrapI64]; split <;> omega
  simp only [aAppend, hu, hi, hnw, hz, hk, hw, Int.toNat_natCast]
  rw [if_pos ⟨trivial, trivial, by omega, by omega, by unfold capOpen; omega, hb⟩, if_neg (by omega)]
  rfl
/-- The builtin cap. -/
def capV (P : Program) (t : TypeId) (x : Value) : Option Value := match tLen P t, x with
  | some false, .slice _ _ c => if c < capOpen then some (goInt c) else none
  | _, _ => none
theorem capV_nil {P : Program} {t : TypeId} (ht : tLen P t = some false) : capV P t (.slice none 0 0) = some (.int .i64 0) := by
  unfold capV; rw [ht]; rfl
theorem op_cap {P : Program} {call : CallF} {a : Act} {h : Hp} {ty : TypeId} {t : TypeId} {x : Operand} (ht : tLen P t = some false) : opVal P call (bare (.call { callee := .builtin .cap, args := #[x], argTypes := #[t] }) ty) a h = liftP (capV P t (a.eval x)) h := by
  have hu : ∃ e, P.underlying t = some (.slice e) := by
    unfold tLen at ht
    cases hu : P.underlying t with
    | none => simp [hu] at ht
    | some d => cases d <;> simp_all
  obtain ⟨e, hu⟩ := hu
  have h1 : aPure P a.eval (bare (.call { callee := .builtin .cap, args := #[x], argTypes := #[t] }) ty) = capV P t (a.eval x) := by
    simp only [aPure, aPureCall, List.map_toArray, List.map_cons, List.map_nil, capV, ht]
    cases a.eval x <;> simp only [hu]
  unfold opVal
  rw [h1]
  cases capV P t (a.eval x) <;> rfl
theorem aSlice_nil0 {P : Program} {t : TypeId} {s : Nat} {h : Hp} (ht : tElem P t = some s) : aSlice P t (.slice none 0 0) none (some (.int .i64 0)) none h = some (.slice none 0 0, h) := by
  have key := sliceAt_val (P := P) (a := none) (s := s) (n := 0) (c := 0) (l := 0) (hh := 0) (lov := none) (hiv := some (.int .i64 0)) ht rfl ⟨.i64, rfl⟩ (Nat.le_refl _) (Nat.le_refl _)
  simp only [aSlice]
  rw [if_pos (by simp [capOpen]), key]
  simp
theorem aSlice_zero {P : Program} {t : TypeId} {s by' n b : Nat} {z : Array Value} {h : Hp} (hT : tRow P t = some (s, by', z)) (hs : 0 < s) : aSlice P t (.slice (some ⟨b, 0, none⟩) n (capOpen + s)) none (some (.int .i64 0)) none h = some (.slice (some ⟨b, 0, none⟩) 0 (capOpen + s), h) := by
  obtain ⟨e, i, zz, hu, hi, hz, rfl, rfl, rfl⟩ := tRow_some hT
  have hsz : pureP P (sizeOf e) = some i.size := by rw [pureP_sizeOf, hi]; rfl
  simp only [aSlice, hu, hsz]
  rw [if_neg (by omega), if_neg (by simp; omega)]
  simp [natOr, natOf]
section
variable {α : Type} {e : Rp α}
/-- A row of one's own with room for n. -/
def Gw (e : Rp α) (p : Nat → Prop) (k : Hp) (v : Value) (b n : Nat) (xs : List α) : Prop := v = .slice (some ⟨b, 0, none⟩) xs.length (capOpen + e.len) ∧ xs.length ≤ n ∧ n < capOpen ∧ b < k.size ∧ k.ro ≤ b ∧ ¬ p b ∧
  ∃ cells, k.get b = some (.cells cells true) ∧ cells.size = n * e.len ∧ rows e false p k (cells.toList.take (xs.length * e.len)) xs ∧ ∀ v ∈ cells, vin p v
theorem Gw.start {k : Hp} {n : Nat} {z : Array Value} {p : Nat → Prop} (hz : z.size = e.len) (hf : ∀ v ∈ z, flatB v = true) (hn : n < capOpen) (hro : k.ro ≤ k.size) (hp : ¬ p k.size) : Gw e p (k.push (some (.cells (Builtin.zeroCells z n) true))) (.slice (some ⟨k.size, 0, none⟩) 0 (capOpen + e.len)) k.size n [] :=
  ⟨rfl, by simp, hn, by simp, by simpa using hro, hp, _, get_push_self, by rw [zeroCells_size, hz], by simp [rows], fun v hv => vin_flat (zeroCells_flat hf v hv)⟩
theorem Gw.rp {k : Hp} {p : Nat → Prop} {v : Value} {b n : Nat} {xs : List α} (g : Gw e p k v b n xs) : (Rp.slice e).r false (fun c => p c ∨ c = b) k [v] xs := by
  obtain ⟨rfl, h1, h2, h3, h4, h5, cells, h6, h7, h8, h9⟩ := g
  have hle : xs.length * e.len ≤ n * e.len := Nat.mul_le_mul_right _ h1
  refine ⟨_, _, rfl, ⟨by unfold capOpen at *; omega, .inr rfl⟩, by omega, .inr ⟨b, 0, cells, true, rfl, .inr rfl, h6, fun h => rfl, fun v hv => vin_mono (fun c hc => .inl hc) (h9 v hv), by omega, ?_⟩⟩
  rw [List.drop_zero]
  exact h8.mono (fun c hc => .inl hc) id (Fr.refl _)
theorem Gw.append {P : Program} {t tx : TypeId} {s by' : Nat} {z : Array Value} {k : Hp} {p q : Nat → Prop} {v w : Value} {b n : Nat} {xs ys : List α} {o : Bool} (g : Gw e p k v b n xs) (hT : tRow P t = some (s, by', z)) (hx : rowOrText (P.underlying tx) = true) (hse : s = e.len) (hs : 0 < s)
    (hw : (Rp.slice e).r o q k [w] ys) (hle : xs.length + ys.length ≤ n) (hqb : ¬ q b) (hb : n * by' ≤ 2 ^ 47) :
    ∃ k', aAppend P #[t, tx] #[v, w] k = some (.slice (some ⟨b, 0, none⟩) (xs.length + ys.length) (capOpen + e.len), k') ∧ Gw e (fun c => p c ∨ q c) k' (.slice (some ⟨b, 0, none⟩) (xs.length + ys.length) (capOpen + e.len)) b n (xs ++ ys) ∧ k'.size = k.size ∧ k'.ro = k.ro ∧ ∀ c, c ≠ b → k'.get c = k.get c := by
  obtain ⟨rfl, h1, h2, h3, h4, h5, cells, h6, h7, h8, h9⟩ := g
  have hnb : (xs.length + ys.length) * by' ≤ 2 ^ 47 := Nat.le_trans (Nat.mul_le_mul_right _ hle) hb
  obtain ⟨new, hn, hnew, hrow⟩ := news_rp (P := P) (t := tx) (s := s) hw hx hse hs
  have hkn : k.known ⟨b, 0, none⟩ s = n := by
    simp only [Hp.known, h6, Nat.zero_le, if_true, Nat.sub_zero, h7, hse]
    exact Nat.mul_div_cancel _ (by omega)
  have hfit : (xs.length + ys.length) * e.len ≤ n * e.len := Nat.mul_le_mul_right _ hle
  have hvn : ∀ v ∈ new, vin q v := fun v hv => hrow.vin v (by simpa using hv)
  by_cases h0 : ys = []
  · subst h0
    have hn0 : new.size = 0 := by simpa using hnew
    obtain ⟨e', i, zz, hu, hi, hz, hs', hb', rfl⟩ := tRow_some hT
    subst hs' hb'
    refine ⟨k, ?_, ⟨by simp, by simpa using h1, h2, h3, h4, fun h => by rcases h with h | h; exact h5 h; exact hqb h, cells, h6, h7, ?_, fun v hv => vin_mono (fun c hc => .inl hc) (h9 v hv)⟩, rfl, rfl, fun _ _ => rfl⟩
    · simp only [aAppend, hu, hi, hn, hz]
      rw [if_neg (by simp only [List.length_nil, Nat.zero_mul] at hnew ⊢; simp only [List.length_nil, Nat.add_zero] at hnb ⊢; omega)]
      rw [← hse]
      simp only [show ¬ capOpen + i.size < capOpen by omega, if_false, Nat.add_sub_cancel_left, ne_eq, not_true_eq_false, List.length_nil, Nat.add_zero, hkn, h1, if_true, aInto, hn0]
    · rw [List.append_nil]; exact h8.mono (fun c hc => .inl hc) id (Fr.refl _)
  · have hyl : 0 < ys.length := List.length_pos_iff.2 h0
    have hone : new.toList.all oneC = true := list_all_one hrow.one
    have hns : new.size = ys.length * e.len := by rw [hnew, hse]
    have hadd : (xs.length + ys.length) * e.len = xs.length * e.len + ys.length * e.len := Nat.add_mul _ _ _
    have key := append_into (P := P) (t := t) (tx := tx) (off := 0) (n := xs.length) (c := capOpen + s) (b := b) hT hs hn hyl hnew h6 h4 (.inr ⟨rfl, by rw [hkn]; exact hle⟩) (by rw [hse]; omega) hone hnb (by omega)
    rw [Nat.zero_add, hse] at key
    have hsz : (splice cells (xs.length * e.len) new.toList).size = n * e.len := by rw [splice_size]; exact h7
    have hl : (splice cells (xs.length * e.len) new.toList).toList.take ((xs ++ ys).length * e.len) = cells.toList.take (xs.length * e.len) ++ new.toList := by
      rw [splice_list (by simp; omega), List.length_append, hadd, ← List.append_assoc]
      rw [List.take_append_of_le_length (by simp; omega), List.take_of_length_le (by simp; omega)]
    have hfr : ∀ r : Nat → Prop, ¬ r b → Fr r k (k.setB b (some (.cells (splice cells (xs.length * e.len) new.toList) true))) := fun r hr => Fr.of fun c hc => get_set_ne (fun e => hr (e ▸ hc))
    refine ⟨_, key, ⟨by rw [List.length_append], by simpa using hle, h2, by simpa using h3, by simpa using h4, fun h => by rcases h with h | h; exact h5 h; exact hqb h, _, get_set_self, hsz, ?_, fun v hv => ?_⟩, rfl, rfl, fun c hc => get_set_ne hc⟩
    · rw [hl]
      exact rows.append (h8.mono (fun c hc => .inl hc) id (hfr p h5)) (hrow.mono (fun c hc => .inr hc) (by simp) (hfr q hqb))
    · have hv' : v ∈ (splice cells (xs.length * e.len) new.toList).toList := by simpa using hv
      rw [splice_list (by simp; omega)] at hv'
      rcases List.mem_append.1 hv' with h | h
      · exact vin_mono (fun c hc => .inl hc) (h9 v (by simpa using List.mem_of_mem_take h))
      · rcases List.mem_append.1 h with h | h
        · exact vin_mono (fun c hc => .inr hc) (hvn v (by simpa using h))
        · exact vin_mono (fun c hc => .inl hc) (h9 v (by simpa using List.mem_of_mem_drop h))
end
end Go.Abs
/- What is asked of a program, as a check in parts. -/
namespace Go.Abs
def okFn (P : Program) (i : Nat) : Bool := match P.funcs[i]? with
  | some fn => match fn.body with
    | some c => !(fn.name == "runtime.NumGoroutine") && codeOk P drawOk c
    | none => true
  | none => true
def okFns (P : Program) : Nat → Nat → Bool
  | _, 0 => true
  | lo, n + 1 => okFn P lo && okFns P (lo + 1) n
theorem okFns_at {P : Program} : ∀ {n lo : Nat}, okFns P lo n = true → ∀ i, lo ≤ i → i < lo + n → okFn P i = true
  | 0, lo, _, i, h1, h2 => absurd h2 (by omega)
  | n + 1, lo, h, i, h1, h2 => by
    simp only [okFns, Bool.and_eq_true] at h
    by_cases e : i = lo
    · rw [e]; exact h.1
    · exact okFns_at h.2 i (by omega) (by omega)
def typesOk (P : Program) : Bool := P.types.all fun i => match i.zero with
    | some v => flatB v && v.cells.size == i.size
    | none => true
theorem base_parts {P : Program} (h1 : typesOk P = true) (h3 : P.follows .mixedOrders = true) (h2 : ∀ i, i < P.funcs.size → okFn P i = true) : Base P := by
  refine base_of ?_
  unfold baseB
  simp only [Bool.and_eq_true]
  refine ⟨⟨h1, ?_⟩, h3⟩
  rw [Array.all_eq_true]
  intro i hi
  have := h2 i hi
  unfold okFn at this
  rw [Array.getElem?_eq_getElem hi] at this
  exact this
end Go.Abs
/- A quicker evaluator for closed runs: the temporaries in a tree. -/
namespace Go.Abs
set_option linter.all false
/-- A place in a tree. -/
inductive Ps where
  | H
  | L (p : Ps)
  | R (p : Ps)
  deriving DecidableEq
def psF : Nat → Nat → Ps
  | 0, _ => .H
  | _ + 1, 0 => .H
  | f + 1, n + 1 => match n % 2 with
    | 0 => .L (psF f (n / 2))
    | _ => .R (psF f (n / 2))
def ps (n : Nat) : Ps := psF (n + 1) n
theorem psF_inj : ∀ (f g n m : Nat), n < f → m < g → psF f n = psF g m → n = m := by
  intro f
  induction f with
  | zero => intro g n m h; omega
  | succ f ih =>
    intro g n m hn hm h
    cases g with
    | zero => omega
    | succ g =>
      cases n with
      | zero =>
        cases m with
        | zero => rfl
        | succ m => simp only [psF] at h; split at h <;> cases h
      | succ n =>
        cases m with
        | zero => simp only [psF] at h; split at h <;> cases h
        | succ m =>
          simp only [psF] at h
          rcases Nat.mod_two_eq_zero_or_one n with e | e <;> rcases Nat.mod_two_eq_zero_or_one m with e' | e' <;> rw [e, e'] at h <;> simp only [] at h
          · have h := Ps.L.inj h; have := ih g (n / 2) (m / 2) (by omega) (by omega) h; omega
          · cases h
          · cases h
          · have h := Ps.R.inj h; have := ih g (n / 2) (m / 2) (by omega) (by omega) h; omega
theorem ps_inj {n m : Nat} (h : ps n = ps m) : n = m := psF_inj _ _ _ _ (by omega) (by omega) h

inductive PT where
  | E
  | N (l : PT) (v : Value) (r : PT)
noncomputable def PT.l (t : PT) : PT := PT.rec .E (fun l _ _ _ _ => l) t
noncomputable def PT.r (t : PT) : PT := PT.rec .E (fun _ _ r _ _ => r) t
noncomputable def PT.v (t : PT) : Value := PT.rec undef (fun _ v _ _ _ => v) t
noncomputable def PT.get (p : Ps) : PT → Value := Ps.rec (motive := fun _ => PT → Value) PT.v (fun _ ih t => ih t.l) (fun _ ih t => ih t.r) p
noncomputable def PT.put (p : Ps) : Value → PT → PT := Ps.rec (motive := fun _ => Value → PT → PT)
  (fun v t => PT.rec (motive := fun _ => PT) (.N .E v .E) (fun l _ r _ _ => .N l v r) t)
  (fun _ ih v t => PT.rec (motive := fun _ => PT) (.N (ih v .E) undef .E) (fun l x r _ _ => .N (ih v l) x r) t)
  (fun _ ih v t => PT.rec (motive := fun _ => PT) (.N .E undef (ih v .E)) (fun l x r _ _ => .N l x (ih v r)) t) p
theorem PT.get_E (p : Ps) : PT.get p .E = undef := by
  induction p with
  | H => rfl
  | L p ih => exact ih
  | R p ih => exact ih
theorem PT.get_put (v : Value) : ∀ (p q : Ps) (t : PT), PT.get q (PT.put p v t) = if q = p then v else PT.get q t := by
  intro p
  induction p with
  | H =>
    intro q t
    cases q with
    | H => cases t <;> rfl
    | L q => cases t <;> simp <;> rfl
    | R q => cases t <;> simp <;> rfl
  | L p ih =>
    intro q t
    cases q with
    | H => cases t <;> simp <;> rfl
    | L q =>
      cases t with
      | E => have := ih q .E; simp only [Ps.L.injEq]; exact this
      | N l x r => have := ih q l; simp only [Ps.L.injEq]; exact this
    | R q => cases t <;> simp <;> rfl
  | R p ih =>
    intro q t
    cases q with
    | H => cases t <;> simp <;> rfl
    | R q =>
      cases t with
      | E => have := ih q .E; simp only [Ps.R.injEq]; exact this
      | N l x r => have := ih q r; simp only [Ps.R.injEq]; exact this
    | L q => cases t <;> simp <;> rfl

/-- The tree says what the temporaries say. -/
structure Sm (n : Nat) (e : PT) (tm : Array Value) : Prop where
  sz : tm.size = n
  eq : ∀ t, PT.get (ps t) e = tm.getD t undef

noncomputable def PT.evl (e : PT) (x : Operand) : Value := Operand.rec (motive := fun _ => Value) (fun t => PT.get (ps t) e) (fun v => v) (fun g => Act.eval { tmps := #[], defers := [] } (.global g)) (fun f => Act.eval { tmps := #[], defers := [] } (.func f)) x
theorem Sm.eval {n : Nat} {e : PT} {tm : Array Value} {ds : List Deferred} (s : Sm n e tm) : e.evl = Act.eval { tmps := tm, defers := ds } := by
  funext x
  cases x with
  | tmp t => exact s.eq t
  | const v => rfl
  | global g => rfl
  | func f => rfl
noncomputable def PT.putD (n : Nat) (d : Option Tmp) (v : Value) (e : PT) : PT := Option.rec (motive := fun _ => PT) e (fun t => Bool.rec e (PT.put (ps t) v e) (Nat.blt t n)) d
theorem Sm.put {n : Nat} {e : PT} {tm : Array Value} {ds : List Deferred} (s : Sm n e tm) (d : Option Tmp) (v : Value) : Sm n (e.putD n d v) (Act.put { tmps := tm, defers := ds } d v).tmps := by
  cases d with
  | none => exact s
  | some t =>
    refine ⟨by simp [Act.put, s.sz], fun u => ?_⟩
    show PT.get (ps u) (Bool.rec e (PT.put (ps t) v e) (Nat.blt t n)) = (tm.setIfInBounds t v).getD u undef
    rw [Array.getD_eq_getD_getElem?, Array.getElem?_setIfInBounds]
    have hb : Nat.blt t n = decide (t < n) := by
      by_cases h : t < n
      · rw [decide_eq_true h]; exact Nat.ble_eq_true_of_le h
      · rw [decide_eq_false h]
        cases hh : Nat.blt t n with
        | false => rfl
        | true => exact absurd (Nat.le_of_ble_eq_true hh) h
    rw [hb, s.sz]
    by_cases h : t < n
    · simp only [h, decide_true, if_true]
      rw [PT.get_put]
      by_cases e' : u = t
      · subst e'; simp [h]
      · rw [if_neg (fun h => e' (ps_inj h)), if_neg (fun h => e' h.symm), s.eq, Array.getD_eq_getD_getElem?]
    · simp only [h, decide_false, if_false]
      rw [s.eq, Array.getD_eq_getD_getElem?]
      by_cases e' : t = u
      · subst e'; simp [h, s.sz]
      · rw [if_neg e']
theorem put_defers {a : Act} {d : Option Tmp} {v : Value} : (a.put d v).defers = a.defers := by cases d <;> rfl

/-- A row of values as a tree, from a place on. -/
noncomputable def PT.ofL : List Value → Nat → PT → PT := fun l => List.rec (motive := fun _ => Nat → PT → PT) (fun _ e => e) (fun v _ ih i e => ih (i + 1) (PT.put (ps i) v e)) l
theorem PT.get_ofL : ∀ (l : List Value) (i : Nat) (e : PT) (t : Nat), PT.get (ps t) (PT.ofL l i e) = if i ≤ t ∧ t < i + l.length then l.getD (t - i) undef else PT.get (ps t) e
  | [], i, e, t => by rw [if_neg (by simp <;> omega)]; rfl
  | v :: l, i, e, t => by
    show PT.get (ps t) (PT.ofL l (i + 1) (PT.put (ps i) v e)) = _
    rw [PT.get_ofL l (i + 1), PT.get_put]
    simp only [List.length_cons]
    by_cases h : i + 1 ≤ t ∧ t < i + 1 + l.length
    · rw [if_pos h, if_pos (by omega), show t - i = t - (i + 1) + 1 by omega]; rfl
    · rw [if_neg h]
      by_cases e' : t = i
      · subst e'; rw [if_pos rfl, if_pos (by omega)]; simp
      · rw [if_neg (fun h => e' (ps_inj h)), if_neg (by omega)]
/-- Back to a row. -/
noncomputable def PT.toL (e : PT) : Nat → Nat → List Value := fun n => Nat.rec (motive := fun _ => Nat → List Value) (fun _ => []) (fun _ ih i => PT.get (ps i) e :: ih (i + 1)) n
theorem PT.toL_get (e : PT) : ∀ (n i t : Nat), (e.toL n i)[t]? = if t < n then some (PT.get (ps (i + t)) e) else none
  | 0, i, t => by show ([] : List Value)[t]? = _; simp
  | n + 1, i, t => by
    show (PT.get (ps i) e :: e.toL n (i + 1))[t]? = _
    cases t with
    | zero => simp
    | succ t =>
      rw [List.getElem?_cons_succ, PT.toL_get e n (i + 1) t]
      by_cases h : t < n
      · rw [if_pos h, if_pos (by omega), show i + 1 + t = i + (t + 1) by omega]
      · rw [if_neg h, if_neg (by omega)]
theorem Sm.toA {n : Nat} {e : PT} {tm : Array Value} (s : Sm n e tm) : (e.toL n 0).toArray = tm := by
  apply Array.ext_getElem?
  intro t
  rw [List.getElem?_toArray, PT.toL_get]
  by_cases h : t < n
  · rw [if_pos h, Nat.zero_add, s.eq, Array.getD_eq_getD_getElem?, Array.getElem?_eq_getElem (by rw [s.sz]; exact h)]; rfl
  · rw [if_neg h, Array.getElem?_eq_none (by rw [s.sz]; omega)]
theorem Sm.ofA (tm : Array Value) : Sm tm.size (PT.ofL tm.toList 0 .E) tm := by
  refine ⟨rfl, fun t => ?_⟩
  rw [PT.get_ofL]
  by_cases h : t < tm.size
  · rw [if_pos (by simp; exact h)]; simp [Array.getD_eq_getD_getElem?, List.getD_eq_getElem?_getD]
  · rw [if_neg (by simp; omega), PT.get_E, Array.getD_eq_getD_getElem?, Array.getElem?_eq_none (by omega)]; rfl
end Go.Abs
/- A quicker evaluator for closed runs: the same answers. -/
namespace Go.Abs
set_option linter.all false
/-- A number, reckoned before one goes on. -/
noncomputable def natS {R : Type} (n : Nat) (k : Nat → R) : R := Nat.rec (motive := fun _ => R) (k 0) (fun m _ => k (m + 1)) n
theorem natS_eq {R : Type} (n : Nat) (k : Nat → R) : natS n k = k n := by cases n <;> rfl
/-- A heap, reckoned before one goes on. -/
noncomputable def strictH {R : Type} (h : Hp) (K : Hp → R) : R :=
  Hp.rec (motive := fun _ => R) (fun tr size ro => natS size fun s => natS ro fun r => Tr.rec (motive := fun _ => R) (K ⟨.nil, s, r⟩) (fun a v b _ _ => K ⟨.node a v b, s, r⟩) tr) h
theorem strictH_eq {R : Type} (h : Hp) (K : Hp → R) : strictH h K = K h := by
  obtain ⟨tr, size, ro⟩ := h
  unfold strictH
  simp only [natS_eq]
  cases tr <;> rfl
noncomputable def strictI {R : Type} (n : Int) (K : Int → R) : R := Int.rec (motive := fun _ => R) (fun m => natS m fun m => K (.ofNat m)) (fun m => natS m fun m => K (.negSucc m)) n
theorem strictI_eq {R : Type} (n : Int) (K : Int → R) : strictI n K = K n := by
  unfold strictI
  cases n <;> simp only [natS_eq]
noncomputable def strictV {R : Type} (v : Value) (K : Value → R) : R :=
  match v with
  | .int k n => strictI n fun n => K (.int k n)
  | v => K v
theorem strictV_eq {R : Type} (v : Value) (K : Value → R) : strictV v K = K v := by
  unfold strictV
  split
  · rw [strictI_eq]
  · rfl
def vokB1 (p : Nat → Bool) (v : Value) : Bool :=
  match v with
  | .int _ _ => true
  | .bool _ => true
  | .pointer (some a) => p a.block
  | .slice (some a) _ _ => p a.block
  | v => vokB p v
theorem vokB1_eq (p : Nat → Bool) (v : Value) : vokB1 p v = vokB p v := by
  unfold vokB1
  split <;> simp [vokB]
def vokBK (p : Nat → Bool) (v : Value) : Bool :=
  match v with
  | .int _ _ => true
  | .bool _ => true
  | .pointer (some a) => p a.block
  | .slice (some a) _ _ => p a.block
  | .agg cs => cs.toList.all (vokB1 p)
  | .tuple cs => cs.toList.all (vokB1 p)
  | v => vokB p v
theorem vokBK_eq (p : Nat → Bool) (v : Value) : vokBK p v = vokB p v := by
  have e : vokB1 p = vokB p := funext (vokB1_eq p)
  unfold vokBK
  split <;> simp [vokB, e, Array.all_toList]
abbrev CallK := Tgt → List Value → Hp → Option (Value × Hp)
section
variable {R : Type} (P : Program) (call : CallK)
noncomputable def tgtK (f : Value) (args : List Value) : Option (Tgt × List Value) :=
  match f with
  | .func (.func g) first cap =>
    match P.funcs[g]? with
    | some fn => if fn.body.isSome then some (.fn g, first.toList ++ (args ++ cap.toList)) else none
    | none => none
  | .func (.yield l) first _ => some (.yield l, first.toList ++ args)
  | _ => none
/-- Cells that are all alike. -/
theorem repl_cells (z : Value) (n : Nat) : (if n * 1 = 0 then #[] else (Array.range (n * 1)).map (fun i => (#[z] : Array Value)[i % (#[z] : Array Value).size]!)) = (List.replicate n z).toArray := by
  rw [Nat.mul_one]
  split
  · rename_i h; subst h; rfl
  · apply Array.ext'
    simp only [Array.toList_map, Array.toList_range]
    apply List.ext_getElem?
    intro i
    simp only [List.getElem?_map, List.getElem?_range', List.getElem?_replicate]
    by_cases hi : i < n
    · simp [hi, List.getElem?_range]
      have : i % 1 = 0 := Nat.mod_one i
      simp [this]
    · simp [hi, List.getElem?_range]
noncomputable def aMakeSliceK (t : TypeId) (len cap : Value) (h : Hp) : Option (Value × Hp) :=
  match P.underlying t, len, cap with
  | some (.slice e), .int _ l, .int _ c =>
    match P.info? e, pureP P (zeroValue e) with
    | some i, some z =>
      if 0 ≤ l ∧ l ≤ c ∧ c ≤ 2 ^ 47 ∧ i.bytes * c ≤ 2 ^ 48 then
        match i.size, z.cells.toList with
        | 1, [y] => some (.slice (some ⟨h.size, 0, none⟩) l.toNat c.toNat, h.push (some (.cells (List.replicate c.toNat y).toArray true)))
        | _, _ => aMakeSlice P t len cap h
      else aMakeSlice P t len cap h
    | _, _ => aMakeSlice P t len cap h
  | _, _, _ => aMakeSlice P t len cap h
theorem aMakeSliceK_eq (t : TypeId) (len cap : Value) (h : Hp) : aMakeSliceK P t len cap h = aMakeSlice P t len cap h := by
  unfold aMakeSliceK
  split
  · rename_i e k1 l k2 c hu
    split
    · rename_i i z hi hz
      split
      · rename_i hc
        split
        · rename_i y h1 h2
          have hzc : z.cells = #[y] := by apply Array.ext'; rw [h2]
          unfold aMakeSlice
          rw [hu]
          simp only [hi, hz]
          rw [if_pos hc, h1, hzc, repl_cells]
        · rfl
      · rfl
    · rfl
  · rfl
def kEq : IntKind → IntKind → Bool
  | .i64, .i64 => true
  | .u32, .u32 => true
  | .u8, .u8 => true
  | .u64, .u64 => true
  | _, _ => false
theorem kEq_is {k k' : IntKind} (h : kEq k k' = true) : k' = k := by cases k <;> cases k' <;> first | rfl | cases h
def wrapK (k : IntKind) (x : Int) : Int :=
  match x with
  | .ofNat m =>
    match k with
    | .i64 => match Nat.blt m 9223372036854775808 with | true => .ofNat m | false => k.wrap (.ofNat m)
    | .u32 => match Nat.blt m 4294967296 with | true => .ofNat m | false => k.wrap (.ofNat m)
    | .u64 => match Nat.blt m 18446744073709551616 with | true => .ofNat m | false => k.wrap (.ofNat m)
    | k => k.wrap (.ofNat m)
  | x => k.wrap x
theorem wrapK_eq (k : IntKind) (x : Int) : wrapK k x = k.wrap x := by
  unfold wrapK
  split
  · rename_i m
    split
    · split
      · rename_i hb
        have := Nat.le_of_ble_eq_true hb
        symm
        exact i64_in (x := (m : Int)) (by omega) (by omega)
      · rfl
    · split
      · rename_i hb
        have := Nat.le_of_ble_eq_true hb
        symm
        show IntKind.u32.wrap (m : Int) = (m : Int)
        simp [IntKind.wrap, IntKind.bits, IntKind.signed]
        omega
      · rfl
    · split
      · rename_i hb
        have := Nat.le_of_ble_eq_true hb
        symm
        exact u64_in (x := (m : Int)) (by omega) (by omega)
      · rfl
    · rfl
  · rfl
def aBinK (op : BinOp) (x y : Value) : Option Value :=
  match x with
  | .int k a =>
    match y with
    | .int k' b =>
      match kEq k k' with
      | true =>
        match op with
        | .eql => some (.bool (decide (a = b)))
        | .neq => some (.bool (!decide (a = b)))
        | .lss => some (.bool (decide (a < b)))
        | .leq => some (.bool (decide (a ≤ b)))
        | .gtr => some (.bool (decide (b < a)))
        | .geq => some (.bool (decide (b ≤ a)))
        | .add => some (.int k (wrapK k (a + b)))
        | .sub => some (.int k (wrapK k (a - b)))
        | _ => none
      | false => none
    | _ => none
  | _ => none
theorem aBinK_is {P : Program} {op : BinOp} {t : TypeId} {x y v : Value} (h : aBinK op x y = some v) : aBin P op t x y = some v := by
  unfold aBinK at h
  split at h
  · split at h
    · split at h
      · rename_i hk
        obtain rfl := kEq_is hk
        split at h <;> cases h
        · exact bin_eql
        · exact bin_neq
        · exact bin_lss
        · exact bin_leq
        · exact bin_gtr
        · exact bin_geq
        · rw [wrapK_eq]; exact bin_add
        · rw [wrapK_eq]; exact bin_sub
      · cases h
    · cases h
  · cases h
/-- What is reckoned on the short way. -/
noncomputable def fastK (ρ : Operand → Value) (op : Op) : Option Value :=
  match op with
  | .move x => some (ρ x)
  | .assign x => some (ρ x)
  | .binOp op _ x y _ => aBinK op (ρ x) (ρ y)
  | .convert s d x =>
    match ρ x with
    | .int _ n => match tInt P s d with
      | some k => some (.int k (wrapK k n))
      | none => none
    | _ => none
  | .fieldAddr s x f =>
    match ρ x with
    | .pointer (some ⟨b, o, none⟩) => match tFieldA P s f with
      | some off => some (.pointer (some ⟨b, o + off, none⟩))
      | none => none
    | _ => none
  | .indexAddr t x i =>
    match ρ i with
    | .int _ (.ofNat n) =>
      match ρ x with
      | .slice (some ⟨b, o, none⟩) len _ =>
        match tElem P t with
        | some s => match Nat.blt n len with
          | true => some (.pointer (some ⟨b, o + n * s, none⟩))
          | false => none
        | none => none
      | _ => none
    | _ => none
  | _ => none
theorem fastK_is {ρ : Operand → Value} {o : Oper} {v : Value} (h : fastK P ρ o.op = some v) : aPure P ρ o = some v := by
  unfold fastK at h
  unfold aPure
  split at h
  · rename_i x hop; rw [hop]; exact h
  · rename_i x hop; rw [hop]; exact h
  · rename_i op t x y u hop; rw [hop]; exact aBinK_is h
  · rename_i s d x hop
    rw [hop]
    split at h
    · rename_i k n hx
      split at h
      · rename_i k' hk
        cases h
        simp only [hx]
        have := conv_int (P := P) (k := k) (x := n) (s := s) (d := d) (by rw [hk]; rfl)
        rw [hk] at this
        rw [wrapK_eq]
        exact this
      · cases h
    · cases h
  · rename_i s x f hop
    rw [hop]
    split at h
    · rename_i b o' hx
      split at h
      · rename_i off hf
        cases h
        simp only [hx]
        have := fieldAt_val (P := P) s f b o' (by rw [hf]; rfl)
        rw [hf] at this
        exact this
      · cases h
    · cases h
  · rename_i t x i hop
    rw [hop]
    split at h
    · rename_i k n hi
      split at h
      · rename_i b o' len c hx
        split at h
        · rename_i s hs
          split at h
          · rename_i hb
            cases h
            simp only [hi, hx]
            have hlt := Nat.le_of_ble_eq_true hb
            have := indexAt_slice (P := P) t b o' len c k (n : Int) (by rw [hs]; rfl) (by omega) (by omega)
            rw [hs, Int.toNat_natCast] at this
            exact this
          · cases h
        · cases h
      · cases h
    · cases h
  · cases h
noncomputable def opValK (o : Oper) (e : PT) (h : Hp) : Option (Value × Hp) :=
  match o.op with
  | .call ⟨.value f, args, _⟩ =>
    match tgtK P (e.evl f) (args.toList.map e.evl) with
    | some (t, as) => call t as h
    | none => none
  | .makeSlice t l c => aMakeSliceK P t (e.evl l) (e.evl c) h
  | op =>
    match fastK P e.evl op with
    | some v => some (v, h)
    | none =>
      match aPure P e.evl o with
      | some v => some (v, h)
      | none =>
        match aHeap P e.evl o h with
        | some (.val v, h') => some (v, h')
        | some (.skip, h') => some (undef, h')
        | none => none
noncomputable def wantedK (n : Nat) (ops : Array Oper) (o : Oper) (e : PT) : Bool :=
  match o.guard with
  | none => true
  | some (j, want) =>
    (match (ops[j]?).bind (·.dst) with
    | some d => if d < n then (match PT.get (ps d) e with
      | .bool b => some b
      | _ => none) else none
    | none => none) == some want
noncomputable def evalOpsK (n : Nat) (top : Bool) (ops : Array Oper) : List Oper → PT → List Deferred → Hp → (PT → List Deferred → Hp → Option R) → Option R
  | [], e, ds, h, K => K e ds h
  | o :: l, e, ds, h, K =>
    match wantedK n ops o e with
    | true =>
      match opValK P call o e h with
      | some (v, h') => strictV v fun v => strictH h' fun h' => evalOpsK n top ops l (e.putD n o.dst v) ds h' K
      | none =>
        if top then
          match o.op with
          | .defer c =>
            match aDefer P e.evl c with
            | some d => evalOpsK n top ops l (e.putD n o.dst undef) (d :: ds) h K
            | none => none
          | _ => none
        else none
    | false => evalOpsK n top ops l (e.putD n o.dst undef) ds h K
noncomputable def hidBK (e : PT) (l : List Tmp) : List Nat := l.filterMap fun t => blkO (PT.get (ps t) e)
noncomputable def oldPK (s0 : Nat) (o : Oper) (e : PT) : Bool :=
  match ldPtr o with
  | some u => match blkO (PT.get (ps u) e) with
    | some b => decide (b < s0)
    | none => false
  | none => false
noncomputable def dmLookK (m : Nat × Nat × Nat) (s0 j : Nat) (o : Oper) (a : PT) (h : Hp) (kept : List (Nat × Nat × Nat)) (wr : Bool) : Option DS :=
  if wr then none else match opValK P call o a (h.view m.2.1 kept) with
    | some (v, h1) => if h.size ≤ h1.size then (if vokBK (allow s0 (keepR j h.size h1.size kept) (m.2.2)) v then
        some ⟨v, h.more h1 (allow s0 (keepR j h.size h1.size kept) (m.2.2)) (flatB v), keepR j h.size h1.size kept, false⟩ else none) else none
    | none => none
noncomputable def dmWriteK (m : Nat × Nat × Nat) (s0 j : Nat) (o : Oper) (a : PT) (h : Hp) (kept : List (Nat × Nat × Nat)) (hid : List Nat) : Option DS :=
  match opValK P call o a (h.hideL hid) with
  | some (v, h') => if h.size ≤ h'.size then (if vokBK (allow s0 (keepR j h.size h'.size kept) (m.2.2)) v then some ⟨v, Hp.backL h h' hid, keepR j h.size h'.size kept, true⟩ else none) else none
  | none => none
noncomputable def dmStepK (m : Nat × Nat × Nat) (s0 j : Nat) (o : Oper) (a : PT) (h : Hp) (kept : List (Nat × Nat × Nat)) (wr : Bool) : Option DS :=
  match m.1 with
  | 0 => match opValK P call o a h with
    | some (v, _) => if vokBK (allow s0 kept m.2.1) v then some ⟨v, h, kept, wr⟩ else none
    | none => none
  | 1 => match dmLookK P call m s0 j o a h kept wr with
    | some d => some d
    | none => dmWriteK P call m s0 j o a h kept []
  | 3 => match opValK P call o a h with
    | some (v, _) => if vokBK (allow s0 [] 0) v then some ⟨v, h, kept, wr⟩ else none
    | none => none
  | 4 => dmWriteK P call m s0 j o a h kept []
  | 5 => dmWriteK P call m s0 j o a h kept (hidBK a (decT 8 m.2.1))
  | 6 => match opValK P call o a h with
    | some (v, _) => if vokBK (allow s0 [] 0) v && oldPK s0 o a then some ⟨v, h, kept, wr⟩ else none
    | none => none
  | 7 => match dmLookK P call (7, m.2.1 % 2 ^ 128, m.2.2) s0 j o a h kept wr with
    | some d => some d
    | none => dmWriteK P call m s0 j o a h kept (hidBK a (decT 8 (m.2.1 / 2 ^ 128)))
  | _ => dmLookK P call m s0 j o a h kept wr
noncomputable def evalDMK (n : Nat) (ops : Array Oper) (s0 : Nat) : List (Oper × Nat × Nat × Nat) → Nat → PT → Hp → List (Nat × Nat × Nat) → Bool → (PT → Hp → Option R) → Option R
  | [], _, a, h, _, _, K => K a h
  | (o, m) :: l, j, a, h, kept, wr, K =>
    match wantedK n ops o a with
    | true =>
      match dmStepK P call m s0 j o a h kept wr with
      | some d => strictV d.v fun v => strictH d.h fun h => evalDMK n ops s0 l (j + 1) (a.putD n o.dst v) h d.kept d.wr K
      | none => none
    | false => evalDMK n ops s0 l (j + 1) (a.putD n o.dst undef) h kept wr K
noncomputable def evalLoopK (body : PT → List Deferred → Hp → (Exit → PT → List Deferred → Hp → Option R) → Option R) : Nat → PT → List Deferred → Hp → (Exit → PT → List Deferred → Hp → Option R) → Option R
  | 0, _, _, _, _ => none
  | m + 1, e, ds, h, K => body e ds h fun x e ds h => match x with
    | .normal => evalLoopK body m e ds h K
    | x => K x e ds h
noncomputable def evalCK (n : Nat) (ctx : Option Nat) (lf : Nat) : Code → PT → List Deferred → Hp → (Exit → PT → List Deferred → Hp → Option R) → Option R
  | .skip, e, ds, h, K => K .normal e ds h
  | .region _ ops false, e, ds, h, K => evalOpsK P call n ctx.isNone ops ops.toList e ds h fun e ds h => K .normal e ds h
  | .region _ ops true, e, ds, h, K => match newOp ops with
    | none => evalDMK P call n ops h.size (ops.toList.zip (modes0 ops)) 0 e h [] false fun e h => K .normal e ds h
    | some i => evalDMK P call n (ops.setIfInBounds i nopO) (h.size + 1) ((ops.setIfInBounds i nopO).toList.zip (modes0 (ops.setIfInBounds i nopO))) 0 (e.putD n ((ops[i]?).bind (·.dst)) (.map (some h.size))) (h.push (some (.map #[] 0))) [] false fun e h => K .normal e ds h
  | .seq x y, e, ds, h, K => evalCK n ctx lf x e ds h fun z e ds h => match z with
    | .normal => evalCK n ctx lf y e ds h K
    | z => K z e ds h
  | .cond c x y, e, ds, h, K =>
    match e.evl c with
    | .bool true => evalCK n ctx lf x e ds h K
    | .bool false => evalCK n ctx lf y e ds h K
    | _ => none
  | .block id c, e, ds, h, K => evalCK n ctx lf c e ds h fun z e ds h => match z with
    | .exit id' => if id' = id then K .normal e ds h else K (.exit id') e ds h
    | z => K z e ds h
  | .loop c, e, ds, h, K => evalLoopK (evalCK n ctx lf c) lf e ds h K
  | .rangeFunc f ps asg body, e, ds, h, K =>
    match enterL ctx { tmps := (e.toL n 0).toArray, defers := ds } ps asg body h with
    | some (l, mark, h1) =>
      match tgtK P (e.evl f) [.func (.yield l) #[] #[]] with
      | some (.fn g, args) =>
        match call (.fn g) args h1 with
        | some (_, h2) =>
          match leaveL l h2 with
          | some (z, h3) => K z e (mark ++ ds) h3
          | none => none
        | none => none
      | _ => none
    | none => none
  | .exit id, e, ds, h, K => K (.exit id) e ds h
  | .scope c, e, ds, h, K => evalCK n ctx lf c e ds h fun z e ds h => match z with
    | .goto _ => none
    | z => K z e ds h
  | .label _, e, ds, h, K => K .normal e ds h
  | .goto _, _, _, _, _ => none
  | .ret, e, ds, h, K => K .ret e ds h
  | .refuse _, _, _, _, _ => none
noncomputable def finK (m : Nat) (n : Nat) (fn : Func) (e : PT) (ds : List Deferred) (h : Hp) : Option (Value × Hp) :=
  finish P (evalDef P (fun t args h => call t args.toList h) m) fn { tmps := (e.toL n 0).toArray, defers := ds } h
end
noncomputable def evalVK (P : Program) (intr : Intr) : Nat → CallK
  | 0, _, _, _ => none
  | n + 1, .fn f, args, h =>
    match intr f with
    | some g => g args.toArray h
    | none =>
      match P.funcs[f]? with
      | some fn =>
        match fn.body with
        | some c =>
          evalCK P (evalVK P intr n) (args.length + (fn.ntmps - args.length)) none n c (PT.ofL args 0 .E) [] h fun z e ds h => match z with
            | .normal => finK P (evalVK P intr n) n (args.length + (fn.ntmps - args.length)) fn e ds h
            | .ret => finK P (evalVK P intr n) n (args.length + (fn.ntmps - args.length)) fn e ds h
            | _ => none
        | none => none
      | none => none
  | n + 1, .yield l, args, h =>
    match h.get l with
    | some (.loop _ _ tm ps asg body _) =>
      if args.length ≠ ps.size then none else
      evalCK P (evalVK P intr n) tm.size (some l) n asg ((ps.toList.zip args).foldl (fun e x => e.putD tm.size (some x.1) x.2) (PT.ofL tm.toList 0 .E)) [] h fun z e ds h => match z with
        | .normal =>
          match beginR l h with
          | some h =>
            evalCK P (evalVK P intr n) tm.size (some l) n body e ds h fun z _ _ h => match z with
              | .normal => endR l none h
              | .ret => endR l (some .ret) h
              | .exit id => endR l (some (.exit id)) h
              | _ => none
          | none => none
        | _ => none
    | _ => none
end Go.Abs
/- The quicker evaluator gives the same answers. -/
namespace Go.Abs
set_option linter.all false
section
variable {R : Type} {P : Program} {callK : CallK} {call : CallF}

theorem tgtK_eq (f : Value) (args : List Value) : (tgtK P f args).map (fun x => (x.1, x.2.toArray)) = aTarget P f args.toArray := by
  unfold tgtK aTarget
  cases f <;> try rfl
  rename_i fv first cap
  cases fv <;> try rfl
  · rename_i g
    simp only []
    cases P.funcs[g]? with
    | none => rfl
    | some fn =>
      simp only []
      by_cases hb : fn.body.isSome = true
      · rw [if_pos hb, if_pos hb]; simp
      · rw [if_neg hb, if_neg hb]; rfl
  · simp
theorem opValK_eq (hc : ∀ t args h, callK t args h = call t args.toArray h) {n : Nat} {e : PT} {tm : Array Value} {ds : List Deferred} (s : Sm n e tm) (o : Oper) (h : Hp) :
    opValK P callK o e h = opVal P call o { tmps := tm, defers := ds } h := by
  have he := s.eval (ds := ds)
  unfold opValK opVal
  rw [he]
  split
  · rename_i f args ats hop
    have h1 : aPure P (Act.eval { tmps := tm, defers := ds }) o = none := by unfold aPure; rw [hop]; rfl
    have h2 : aHeap P (Act.eval { tmps := tm, defers := ds }) o h = none := by unfold aHeap; rw [hop]; rfl
    rw [h1, h2, hop]
    simp only [aCallee]
    have := tgtK_eq (P := P) (Act.eval { tmps := tm, defers := ds } f) (args.toList.map (Act.eval { tmps := tm, defers := ds }))
    have e2 : (args.toList.map (Act.eval { tmps := tm, defers := ds })).toArray = args.map (Act.eval { tmps := tm, defers := ds }) := by rw [← Array.toList_map, Array.toArray_toList]
    rw [e2] at this
    rw [← this]
    cases tgtK P (Act.eval { tmps := tm, defers := ds } f) (args.toList.map (Act.eval { tmps := tm, defers := ds })) with
    | none => rfl
    | some x => exact hc _ _ _
  · rename_i t l c hop
    have h1 : aPure P (Act.eval { tmps := tm, defers := ds }) o = none := by unfold aPure; rw [hop]
    have h2 : aHeap P (Act.eval { tmps := tm, defers := ds }) o h = (aMakeSlice P t (Act.eval { tmps := tm, defers := ds } l) (Act.eval { tmps := tm, defers := ds } c) h).map fun x => (.val x.1, x.2) := by unfold aHeap; rw [hop]
    rw [h1, h2, aMakeSliceK_eq]
    cases aMakeSlice P t (Act.eval { tmps := tm, defers := ds } l) (Act.eval { tmps := tm, defers := ds } c) h with
    | none => rw [hop]; rfl
    | some x => rfl
  · rename_i hno hno2
    cases hf : fastK P (Act.eval { tmps := tm, defers := ds }) o.op with
    | some v =>
      rw [fastK_is P hf]
    | none =>
    simp only []
    cases hp : aPure P (Act.eval { tmps := tm, defers := ds }) o with
    | some v => rfl
    | none =>
      simp only []
      cases hh : aHeap P (Act.eval { tmps := tm, defers := ds }) o h with
      | some x => obtain ⟨y, h'⟩ := x; cases y <;> rfl
      | none =>
        simp only []
        split
        · rename_i c hop
          have : aCallee P (Act.eval { tmps := tm, defers := ds }) c = none := by
            unfold aCallee
            obtain ⟨cal, args, ats⟩ := c
            cases cal with
            | value f => exact absurd hop (hno f args ats)
            | _ => rfl
          rw [this]
        · rfl
theorem wantedK_eq {n : Nat} {e : PT} {tm : Array Value} (s : Sm n e tm) (ops : Array Oper) (o : Oper) : wantedK n ops o e = Region.wanted o (yielded ops tm) := by
  unfold wantedK Region.wanted
  cases o.guard with
  | none => rfl
  | some g =>
    obtain ⟨j, want⟩ := g
    simp only []
    congr 1
    unfold yielded
    cases (ops[j]?).bind (·.dst) with
    | none => rfl
    | some d =>
      simp only [Option.bind_some]
      by_cases h : d < n
      · rw [if_pos h, s.eq, Array.getD_eq_getD_getElem?]
        cases tm[d]? with
        | none => rfl
        | some v => cases v <;> rfl
      · have h2 : tm.size ≤ d := by rw [s.sz]; exact Nat.le_of_not_lt h
        rw [if_neg h, Array.getElem?_eq_none h2]
def KEq (n : Nat) (KK : PT → List Deferred → Hp → Option R) (K : Act → Hp → Option R) : Prop := ∀ e tm ds h, Sm n e tm → KK e ds h = K { tmps := tm, defers := ds } h
def KEqX (n : Nat) (KK : Exit → PT → List Deferred → Hp → Option R) (K : Exit → Act → Hp → Option R) : Prop := ∀ x, KEq n (KK x) (K x)
theorem act_put {tm : Array Value} {ds : List Deferred} {d : Option Tmp} {v : Value} : Act.put { tmps := tm, defers := ds } d v = { tmps := (Act.put { tmps := tm, defers := ds } d v).tmps, defers := ds } := by cases d <;> rfl
theorem act_put' {tm : Array Value} {ds ds' : List Deferred} {d : Option Tmp} {v : Value} : (Act.put { tmps := tm, defers := ds } d v).tmps = (Act.put { tmps := tm, defers := ds' } d v).tmps := by cases d <;> rfl
theorem evalOpsK_eq (hc : ∀ t args h, callK t args h = call t args.toArray h) {n : Nat} {top : Bool} {ops : Array Oper} {KK : PT → List Deferred → Hp → Option R} {K : Act → Hp → Option R} (hK : KEq n KK K) :
    ∀ (l : List Oper) (e : PT) (tm : Array Value) (ds : List Deferred) (h : Hp), Sm n e tm → evalOpsK P callK n top ops l e ds h KK = evalOps P call top ops l { tmps := tm, defers := ds } h K
  | [], e, tm, ds, h, s => hK e tm ds h s
  | o :: l, e, tm, ds, h, s => by
    simp only [evalOpsK, evalOps]
    rw [wantedK_eq s]
    cases hw : Region.wanted o (yielded ops tm) with
    | false =>
      simp only [Bool.false_eq_true, if_false]
      rw [act_put, evalOpsK_eq hc hK l _ _ ds h (s.put o.dst undef)]
    | true =>
      simp only [if_true, evalOp]
      rw [opValK_eq hc (ds := ds) s]
      cases hv : opVal P call o { tmps := tm, defers := ds } h with
      | some x =>
        obtain ⟨v, h'⟩ := x
        simp only []
        rw [strictV_eq, strictH_eq, act_put, evalOpsK_eq hc hK l _ _ ds h' (s.put o.dst v)]
      | none =>
        simp only []
        cases top with
        | false => rfl
        | true =>
          simp only [if_true]
          cases hop : o.op <;> try rfl
          rename_i c
          simp only []
          rw [s.eval (ds := ds)]
          cases aDefer P (Act.eval { tmps := tm, defers := ds }) c with
          | none => rfl
          | some d =>
            simp only []
            rw [act_put, evalOpsK_eq hc hK l _ _ (d :: ds) h (s.put o.dst undef)]
theorem evalLoopK_eq {n : Nat} {bK : PT → List Deferred → Hp → (Exit → PT → List Deferred → Hp → Option R) → Option R} {b : Act → Hp → (Exit → Act → Hp → Option R) → Option R}
    (hb : ∀ KK K, KEqX n KK K → ∀ e tm ds h, Sm n e tm → bK e ds h KK = b { tmps := tm, defers := ds } h K) {KK : Exit → PT → List Deferred → Hp → Option R} {K : Exit → Act → Hp → Option R} (hK : KEqX n KK K) :
    ∀ (m : Nat) (e : PT) (tm : Array Value) (ds : List Deferred) (h : Hp), Sm n e tm → evalLoopK bK m e ds h KK = evalLoop b m { tmps := tm, defers := ds } h K
  | 0, e, tm, ds, h, s => rfl
  | m + 1, e, tm, ds, h, s => by
    simp only [evalLoopK, evalLoop]
    refine hb _ _ (fun x e tm ds h s => ?_) e tm ds h s
    cases x <;> first | exact hK _ e tm ds h s | exact evalLoopK_eq hb hK m e tm ds h s
theorem call_back (hc : ∀ t args h, callK t args h = call t args.toArray h) : (fun t (args : Array Value) h => callK t args.toList h) = call := by
  funext t args h
  rw [hc]
theorem evalDrawL_size {ops : Array Oper} {K K' : Act → Hp → Option R} {bf : Array Nat} {hs : List (Nat × Bool)} {s0 m : Nat} (hK : ∀ a' h', a'.tmps.size = m → K a' h' = K' a' h') : ∀ (l : List Oper) (j : Nat) (a : Act) (h : Hp) (kept : List (Nat × Nat × Nat)) (wr : Bool), a.tmps.size = m →
    evalDrawL P call ops bf hs s0 l j a h kept wr K = evalDrawL P call ops bf hs s0 l j a h kept wr K'
  | [], j, a, h, kept, wr, hz => hK a h hz
  | o :: l, j, a, h, kept, wr, hz => by
    simp only [evalDrawL]
    cases drawStep P call ops bf hs s0 j o a h kept wr with
    | none => rfl
    | some d => exact evalDrawL_size hK l _ _ _ _ _ (by rw [← hz]; cases o.dst <;> simp [Act.put])
theorem evalDraw_size {ops : Array Oper} {K K' : Act → Hp → Option R} {a : Act} {h : Hp} (hK : ∀ a' h', a'.tmps.size = a.tmps.size → K a' h' = K' a' h') : evalDraw P call ops a h K = evalDraw P call ops a h K' := by
  unfold evalDraw
  split
  · exact evalDrawL_size hK _ _ _ _ _ _ rfl
  · refine evalDrawL_size hK _ _ _ _ _ _ ?_
    rename_i i hi
    cases (ops[i]?).bind (fun x => x.dst) <;> simp [Act.put]
theorem dmStepK_eq (hc : ∀ t args h, callK t args h = call t args.toArray h) {n : Nat} {e : PT} {tm : Array Value} {ds : List Deferred} (s : Sm n e tm) (m : Nat × Nat × Nat) (s0 j : Nat) (o : Oper) (h : Hp) (kept : List (Nat × Nat × Nat)) (wr : Bool) :
    dmStepK P callK m s0 j o e h kept wr = dmStep P call m s0 j o { tmps := tm, defers := ds } h kept wr := by
  have e1 : ∀ hh, opValK P callK o e hh = opVal P call o { tmps := tm, defers := ds } hh := fun hh => opValK_eq hc s o hh
  have e2 : ∀ m, dmLookK P callK m s0 j o e h kept wr = dmLook P call m s0 j o { tmps := tm, defers := ds } h kept wr := fun m => by
    unfold dmLookK dmLook
    simp only [e1, vokBK_eq]
    rfl
  have e3 : ∀ hid, dmWriteK P callK m s0 j o e h kept hid = dmWrite P call m s0 j o { tmps := tm, defers := ds } h kept hid := fun hid => by
    unfold dmWriteK dmWrite
    simp only [e1, vokBK_eq]
    rfl
  have e4 : ∀ l, hidBK e l = hidB { tmps := tm, defers := ds } l := fun l => by
    unfold hidBK hidB
    congr 1
    funext t
    rw [s.eq]
  have e5 : oldPK s0 o e = oldP s0 o { tmps := tm, defers := ds } := by
    unfold oldPK oldP
    cases ldPtr o with
    | none => rfl
    | some u => simp only [s.eq]; rfl
  unfold dmStepK dmStep
  simp only [e1, e2, e3, e4, e5, vokBK_eq]
  rfl
theorem evalDMK_eq (hc : ∀ t args h, callK t args h = call t args.toArray h) {n : Nat} {ops : Array Oper} {s0 : Nat} {ds : List Deferred} {KK : PT → Hp → Option R} {K : Act → Hp → Option R} (hK : ∀ e tm h, Sm n e tm → KK e h = K { tmps := tm, defers := ds } h) :
    ∀ (l : List (Oper × Nat × Nat × Nat)) (j : Nat) (e : PT) (tm : Array Value) (h : Hp) (kept : List (Nat × Nat × Nat)) (wr : Bool), Sm n e tm → evalDMK P callK n ops s0 l j e h kept wr KK = evalDM P call ops s0 l j { tmps := tm, defers := ds } h kept wr K
  | [], j, e, tm, h, kept, wr, s => hK e tm h s
  | (o, m) :: l, j, e, tm, h, kept, wr, s => by
    simp only [evalDMK, evalDM]
    rw [wantedK_eq s]
    cases hw : Region.wanted o (yielded ops tm) with
    | false =>
      simp only [Bool.false_eq_true, if_false]
      rw [act_put, evalDMK_eq hc hK l _ _ _ _ _ _ (s.put o.dst undef)]
    | true =>
      simp only [if_true]
      rw [dmStepK_eq hc (ds := ds) s]
      cases dmStep P call m s0 j o { tmps := tm, defers := ds } h kept wr with
      | none => rfl
      | some d =>
        simp only []
        rw [strictV_eq, strictH_eq, act_put, evalDMK_eq hc hK l _ _ _ _ _ _ (s.put o.dst d.v)]
theorem evalCK_eq (hc : ∀ t args h, callK t args h = call t args.toArray h) {n : Nat} {ctx : Option Nat} {lf : Nat} :
    ∀ (c : Code) (KK : Exit → PT → List Deferred → Hp → Option R) (K : Exit → Act → Hp → Option R), KEqX n KK K → ∀ (e : PT) (tm : Array Value) (ds : List Deferred) (h : Hp), Sm n e tm →
      evalCK P callK n ctx lf c e ds h KK = evalC P call (evalDraw P call) ctx lf c { tmps := tm, defers := ds } h K := by
  intro c
  induction c with
  | skip => intro KK K hK e tm ds h s; exact hK _ e tm ds h s
  | label l => intro KK K hK e tm ds h s; exact hK _ e tm ds h s
  | exit id => intro KK K hK e tm ds h s; exact hK _ e tm ds h s
  | ret => intro KK K hK e tm ds h s; exact hK _ e tm ds h s
  | goto l => intros; rfl
  | refuse r => intros; rfl
  | region id ops d =>
    intro KK K hK e tm ds h s
    cases d with
    | false => exact evalOpsK_eq hc (fun e tm ds h s => hK .normal e tm ds h s) ops.toList e tm ds h s
    | true =>
      simp only [evalCK, evalC]
      unfold evalDraw
      cases hno : newOp ops with
      | none =>
        simp only []
        rw [evalDraw0_modes P call (modes0 ops) rfl]
        exact evalDMK_eq hc (fun e tm h s => hK .normal e tm ds h s) _ _ _ _ _ _ _ s
      | some i =>
        simp only []
        rw [evalDraw0_modes P call (modes0 _) rfl, act_put, Hp.size_push]
        exact evalDMK_eq hc (fun e tm h s => hK .normal e tm ds h s) _ _ _ _ _ _ _ (s.put _ _)
  | seq x y ihx ihy =>
    intro KK K hK e tm ds h s
    simp only [evalCK, evalC]
    refine ihx _ _ (fun z e tm ds h s => ?_) e tm ds h s
    cases z <;> first | exact hK _ e tm ds h s | exact ihy KK K hK e tm ds h s
  | cond c x y ihx ihy =>
    intro KK K hK e tm ds h s
    simp only [evalCK, evalC]
    rw [s.eval (ds := ds)]
    generalize Act.eval { tmps := tm, defers := ds } c = v
    cases v <;> try rfl
    rename_i b
    cases b
    · exact ihy KK K hK e tm ds h s
    · exact ihx KK K hK e tm ds h s
  | block id c ih =>
    intro KK K hK e tm ds h s
    simp only [evalCK, evalC]
    refine ih _ _ (fun z e tm ds h s => ?_) e tm ds h s
    cases z <;> first | exact hK _ e tm ds h s | skip
    rename_i id'
    simp only []
    split
    · exact hK _ e tm ds h s
    · exact hK _ e tm ds h s
  | loop c ih =>
    intro KK K hK e tm ds h s
    simp only [evalCK, evalC]
    exact evalLoopK_eq (fun KK K hK e tm ds h s => ih KK K hK e tm ds h s) hK lf e tm ds h s
  | scope c ih =>
    intro KK K hK e tm ds h s
    simp only [evalCK, evalC]
    refine ih _ _ (fun z e tm ds h s => ?_) e tm ds h s
    cases z <;> first | exact hK _ e tm ds h s | rfl
  | rangeFunc f ps asg body iha ihb =>
    intro KK K hK e tm ds h s
    simp only [evalCK, evalC]
    rw [s.toA]
    cases enterL ctx { tmps := tm, defers := ds } ps asg body h with
    | none => rfl
    | some x =>
      obtain ⟨l, mark, h1⟩ := x
      simp only []
      rw [s.eval (ds := ds)]
      have := tgtK_eq (P := P) (Act.eval { tmps := tm, defers := ds } f) [.func (.yield l) #[] #[]]
      rw [← this]
      cases tgtK P (Act.eval { tmps := tm, defers := ds } f) [.func (.yield l) #[] #[]] with
      | none => rfl
      | some x =>
        obtain ⟨t, args⟩ := x
        cases t with
        | yield l => rfl
        | fn g =>
          simp only [Option.map_some]
          rw [hc]
          cases call (.fn g) args.toArray h1 with
          | none => rfl
          | some x =>
            obtain ⟨v, h2⟩ := x
            simp only []
            cases leaveL l h2 with
            | none => rfl
            | some x =>
              obtain ⟨z, h3⟩ := x
              exact hK z e tm (mark ++ ds) h3 s
end
theorem fold_Sm {n : Nat} : ∀ (l : List (Tmp × Value)) (e : PT) (tm : Array Value), Sm n e tm → Sm n (l.foldl (fun e x => e.putD n (some x.1) x.2) e) (l.foldl (fun tmps x => tmps.setIfInBounds x.1 x.2) tm)
  | [], e, tm, s => s
  | x :: l, e, tm, s => fold_Sm l _ _ (s.put (ds := []) (some x.1) x.2)
theorem evalVK_eq {P : Program} {intr : Intr} : ∀ (n : Nat) (t : Tgt) (args : List Value) (h : Hp), evalVK P intr n t args h = evalV P intr n t args.toArray h
  | 0, t, args, h => by cases t <;> rfl
  | n + 1, .fn f, args, h => by
    have hc := evalVK_eq (P := P) (intr := intr) n
    simp only [evalVK, evalV]
    cases intr f with
    | some g => rfl
    | none =>
      simp only []
      cases P.funcs[f]? with
      | none => rfl
      | some fn =>
        simp only []
        cases fn.body with
        | none => rfl
        | some c =>
          simp only []
          have s0 : Sm (args.length + (fn.ntmps - args.length)) (PT.ofL args 0 .E) (args.toArray ++ Array.replicate (fn.ntmps - args.toArray.size) undef) := by
            refine ⟨by simp, fun t => ?_⟩
            rw [PT.get_ofL]
            by_cases h : t < args.length
            · rw [if_pos (by omega), Array.getD_eq_getD_getElem?, Array.getElem?_append_left (by simpa using h)]
              simp [List.getD_eq_getElem?_getD]
            · rw [if_neg (by omega), PT.get_E, Array.getD_eq_getD_getElem?, Array.getElem?_append_right (by simpa using h), Array.getElem?_replicate]
              split <;> rfl
          refine evalCK_eq hc c _ _ (fun x e tm ds h s => ?_) _ _ _ _ s0
          cases x <;> first | rfl | skip
          all_goals
            simp only [finK]
            rw [call_back hc, s.toA]
  | n + 1, .yield l, args, h => by
    have hc := evalVK_eq (P := P) (intr := intr) n
    simp only [evalVK, evalV]
    cases h.get l with
    | none => rfl
    | some b =>
      cases b <;> try rfl
      rename_i st pd tm ps asg body d
      simp only [List.size_toArray]
      split
      · rfl
      · have s0 : Sm tm.size ((ps.toList.zip args).foldl (fun e x => e.putD tm.size (some x.1) x.2) (PT.ofL tm.toList 0 .E)) ((ps.zip args.toArray).foldl (fun tmps x => tmps.setIfInBounds x.1 x.2) tm) := by
          have := fold_Sm (ps.toList.zip args) _ _ (Sm.ofA tm)
          have e1 : (ps.zip args.toArray).foldl (fun tmps x => tmps.setIfInBounds x.1 x.2) tm = (ps.toList.zip args).foldl (fun tmps x => tmps.setIfInBounds x.1 x.2) tm := by
            rw [← Array.foldl_toList, Array.toList_zip]
          rw [e1]; exact this
        refine evalCK_eq hc asg _ _ (fun x e tm1 ds h s => ?_) _ _ _ _ s0
        cases x <;> first | rfl | skip
        simp only []
        cases beginR l h with
        | none => rfl
        | some h1 =>
          simp only []
          refine evalCK_eq hc body _ _ (fun x e tm1 ds h s => ?_) _ _ _ _ ?_
          · cases x <;> rfl
          · exact s
end Go.Abs
/- A closed run from a heap in which some variables are laid. -/
namespace Go.Abs
set_option linter.all false
section
variable {P : Program} {intr : Intr}
/-- A heap in which nothing but globals of plain values lies. -/
structure Plain0 (P : Program) (h0 : Hp) : Prop where
  size : h0.size = P.globals.size
  ro : h0.ro = P.globals.size
  cells : ∀ b y, h0.get b = some y → b < P.globals.size ∧ ∃ cs, y = .cells cs false ∧ ∀ v ∈ cs, flatB v = true
/-- What lies in the one lies in the other. -/
def SubH (h0 h : Hp) : Prop := ∀ b y, h0.get b = some y → h.get b = some y
theorem Plain0.noOwn {h0 : Hp} (l : Plain0 P h0) (b : Nat) : ¬ h0.own b := by
  rintro ⟨x, hx, hx'⟩
  obtain ⟨_, cs, rfl, _⟩ := l.cells b x hx
  cases hx'
theorem Plain0.rel {CK : Code → Prop} {β : Bm} {h0 h : Hp} {w : World} (l : Plain0 P h0) (s : SubH h0 h) (r : Rel P CK β h w) : Rel P CK β h0 w where
  glob := r.glob
  gsize := by rw [l.size]; exact Nat.le_refl _
  blk := fun b y hy => by
    obtain ⟨o, ho, hok⟩ := r.blk b y (s b y hy)
    obtain ⟨hb, cs, rfl, hf⟩ := l.cells b y hy
    obtain ⟨C, e, fz, h1, h2, h3, h4⟩ := hok
    exact ⟨o, ho, C, e, fz, h1, fun i v hi => ⟨(h2 i v hi).1, flat_vok _ (hf v (Array.mem_of_getElem? hi))⟩, h3, h4⟩
  inj := fun b b' ho => absurd ho (l.noOwn b)
  lt := fun b hb => by
    cases hg : h0.get b with
    | none => exact absurd hg hb
    | some y => rw [l.size]; exact (l.cells b y hg).1
  roLe := by rw [l.size, l.ro]; exact Nat.le_refl _
open Classical in
noncomputable def gS (h0 : Hp) (A : Array Value) (v : Value) : Array Value → Hp → Option (Value × Hp) := fun args h => if args = A ∧ SubH h0 h then some (v, h) else none
theorem gS_at {h0 h : Hp} {A : Array Value} {v : Value} (s : SubH h0 h) : gS h0 A v A h = some (v, h) := by
  unfold gS; rw [if_pos ⟨rfl, s⟩]
/-- A call, run once from such a heap. -/
theorem Con.closedS (B : Base P) (hi : IntrOk P (CKb P) intr) {h0 : Hp} (l : Plain0 P h0) {f : FuncId} {A : Array Value} {v : Value} (n : Nat) (hA : ∀ a ∈ A, flatB a = true) (hv : flatB v = true) (he : (evalVK P intr n (.fn f) A.toList h0).map Prod.fst = some v) :
    Con P (CKb P) f (gS h0 A v) := by
  intro args h u h' hg β w r ha
  unfold gS at hg
  split at hg
  · rename_i hc
    obtain ⟨rfl, hs⟩ := hc
    obtain ⟨rfl, rfl⟩ := Prod.mk.inj (Option.some.inj hg)
    rw [Option.map_eq_some_iff] at he
    obtain ⟨⟨v', h1⟩, he, rfl⟩ := he
    rw [evalVK_eq] at he
    have hmap : args.map (ren β) = args := map_flat hA
    refine (eval_calls B hi he (l.rel hs r) (fun a h => flat_vok _ (hA a (by simpa using h)))).mono fun e w' hp => ?_
    obtain ⟨β', rfl, h2, s⟩ := hp
    have hkeep : ∀ k, k < w.heap.size → w'.heap[k]? = w.heap[k]? := fun k hk => s.frame k hk fun b _ ho => absurd ho (l.noOwn b)
    refine ⟨β, by rw [flat_ren _ hv, flat_ren _ hv], flat_vok _ hv, ⟨⟨r.glob, r.gsize, fun b y hy => ?_, r.inj, r.lt, r.roLe⟩, fun _ _ => rfl, Nat.le_refl _, s.wsize, rfl, fun _ _ _ => rfl, fun _ _ o => o, fun _ _ o => o, fun b hb ho => ?_, fun k hk _ => hkeep k hk, s.os, s.tape, s.output⟩⟩
    · obtain ⟨o, ho, hok⟩ := r.blk b y hy
      exact ⟨o, by rw [hkeep _ (r.wlt hy)]; exact ho, hok⟩
    · have := r.lt b ho; omega
  · cases hg
end
end Go.Abs
namespace Go.Abs
section
variable {P : Program} {intr : Intr}
open Classical in
noncomputable def gT (h0 : Hp) (T : Array Value → Prop) (v : Value) : Array Value → Hp → Option (Value × Hp) := fun args h => if T args ∧ SubH h0 h then some (v, h) else none
theorem gT_at {h0 h : Hp} {T : Array Value → Prop} {A : Array Value} {v : Value} (t : T A) (s : SubH h0 h) : gT h0 T v A h = some (v, h) := by
  unfold gT; rw [if_pos ⟨t, s⟩]
/-- The same, for many rows of arguments. -/
theorem Con.closedT (B : Base P) (hi : IntrOk P (CKb P) intr) {h0 : Hp} (l : Plain0 P h0) {f : FuncId} {T : Array Value → Prop} {v : Value} (hv : flatB v = true)
    (hT : ∀ A, T A → (∀ a ∈ A, flatB a = true) ∧ ∃ n, (evalVK P intr n (.fn f) A.toList h0).map Prod.fst = some v) : Con P (CKb P) f (gT h0 T v) := by
  intro args h u h' hg β w r ha
  unfold gT at hg
  split at hg
  · rename_i hc
    obtain ⟨h1, n, h2⟩ := hT args hc.1
    refine Con.closedS B hi l n h1 hv h2 args h u h' ?_ β w r ha
    unfold gS
    rw [if_pos ⟨rfl, hc.2⟩]
    exact hg
  · cases hg
end
end Go.Abs
namespace Go.Abs
section
variable {P : Program}
def plainBm (h0 : Hp) : Bm := fun b => ⟨b, 0, match h0.get b with | some (.cells cs _) => cs.size | _ => 0⟩
theorem plain_ro {CK : Code → Prop} {h0 : Hp} {w : World} (l : Plain0 P h0) (ho : ∀ b cs, h0.get b = some (.cells cs false) → ∃ e fz, w.heap[b]? = some (.cells cs e fz)) : RO P CK (plainBm h0) h0 w :=
  ⟨{ glob := fun g _ => ⟨rfl, rfl⟩
     gsize := by rw [l.size]; exact Nat.le_refl _
     blk := fun b y hy => by
       obtain ⟨hb, cs, rfl, hf⟩ := l.cells b y hy
       obtain ⟨e, fz, hw⟩ := ho b cs hy
       have e1 : plainBm h0 b = ⟨b, 0, cs.size⟩ := by unfold plainBm; rw [hy]
       rw [e1]
       refine ⟨_, hw, cs, e, fz, rfl, fun i v hv => ?_, Nat.le_refl _, fun h => by cases h⟩
       have := hf v (Array.mem_of_getElem? hv)
       refine ⟨?_, flat_vok _ this⟩
       rw [flat_ren _ this, Nat.zero_add]; exact hv
     inj := fun b b' hb => absurd hb (l.noOwn b)
     lt := fun b hb => by
       cases hg : h0.get b with
       | none => exact absurd hg hb
       | some y => rw [l.size]; exact (l.cells b y hg).1
     roLe := by rw [l.size, l.ro]; exact Nat.le_refl _ }, l.noOwn⟩
/-- A laid array of numbers has just the cells that the text says. -/
theorem arr_cells {k : IntKind} {cs : Array Value} {vals : List Int} {lits : List (DataW Unit)} (hl : lits = vals.map fun x => .lit (.int k x)) (hz : cs.size = vals.length)
    (hc : ∀ i, i < vals.length → ∃ n, cs[i]? = some (.int k n) ∧ lits[i]? = some (.lit (.int k n))) : cs = (vals.map (Value.int k)).toArray := by
  apply Array.ext_getElem?
  intro i
  by_cases hi : i < vals.length
  · obtain ⟨n, h1, h2⟩ := hc i hi
    rw [hl, List.getElem?_map, List.getElem?_eq_getElem hi] at h2
    simp only [Option.map_some, Option.some.injEq, DataW.lit.injEq, Lit.int.injEq, true_and] at h2
    rw [h1, List.getElem?_toArray, List.getElem?_map, List.getElem?_eq_getElem hi, Option.map_some, h2]
  · rw [Array.getElem?_eq_none (by omega), List.getElem?_toArray, List.getElem?_eq_none (by simp; omega)]
end
end Go.Abs
/- A piece of code run by the evaluator in the middle of a walk; one block that a call has made is kept. -/
namespace Go.Abs
set_option linter.all false
/-- The loop's run, out of the kit's walk. -/
theorem hybrid_loop {P : Program} (B : Base P) {I : Intr} (hI : IntrOk P (CKb P) I) {n lf id : Nat} {c : Code} (hok : codeOk P drawOk c = true) {β : Bm} {h : Hp} {w : World} (r : Rel P (CKb P) β h w) {a : Act} (ha : aok h.size a) {Φ : Act → Hp → Prop}
    (he : ∃ aa hh, evalC P (evalV P I n) (evalDraw P (evalV P I n)) none lf c a h (fun e a h => match e with | .exit i => if i = id then some (a, h) else none | _ => none) = some (aa, hh) ∧ Φ aa hh) {Q : Exit → Act → World → Prop}
    (hQ : ∀ aa hh β' w', Φ aa hh → aok hh.size aa → St P (CKb P) β h w β' hh w' → Q (.exit id) (renAct β' aa) w') : c.wp P Q (renAct β a) w := by
  obtain ⟨aa, hh, he, hΦ⟩ := he
  have hs := evalC_sound B.pk (evalV_sound B.pk B.code (fun call hc => evalDraw_ok B.pk hc) hI n) (evalDraw_ok B.pk (evalV_sound B.pk B.code (fun call hc => evalDraw_ok B.pk hc) hI n)) none lf c hok β h w a _ _ r ha (fun l hl => by cases hl) he
  refine wpIn_wide.1 (wpIn_mono (F := FW (ctxB β none)) hs ?_)
  rintro e a' w' ⟨aa', hh', β', h1, rfl, h3, h4⟩
  cases e <;> simp only [] at h1 <;> first | (cases h1; done) | skip
  rename_i i
  split at h1
  · rename_i hi
    subst hi
    cases h1
    exact hQ _ _ _ _ hΦ h3 h4
  · cases h1
/-- Old blocks are as they were. -/
theorem St.below {P : Program} {CK : Code → Prop} {β : Bm} {h : Hp} {w w' : World} (r : Rel P CK β h w) (b : Go.RowKit.Below w.heap.size w w') : St P CK β h w β h w' := by
  refine ⟨⟨r.glob, r.gsize, fun c z hc => ?_, r.inj, r.lt, r.roLe⟩, fun _ _ => rfl, Nat.le_refl _, b.size, rfl, fun _ _ _ => rfl, fun _ _ o => o, fun _ _ o => o, fun c hc ho => absurd (r.lt c ho) (by omega), fun k hk _ => b.block k hk, b.os, b.tape, b.output⟩
  obtain ⟨o, ho, hok⟩ := r.blk c z hc
  exact ⟨o, by rw [b.block _ (r.wlt hc)]; exact ho, hok⟩
/-- A block of the machine's that is new gets a number. -/
theorem St.adopt {P : Program} {CK : Code → Prop} {β : Bm} {h : Hp} {w w' : World} (r : Rel P CK β h w) (f : St P CK β h w β h w') {im : Im} {cs : Array Value} {C : Array Value} {e : TypeId} (hfr : w.heap.size ≤ im.B)
    (ho : w'.heap[im.B]? = some (.cells C e (0, 0))) (hc : ∀ (i : Nat) v, cs[i]? = some v → C[im.O + i]? = some (ren β v) ∧ vok h.size v) (h3 : cs.size ≤ im.av) (h4 : im.O + im.av ≤ C.size) :
    St P CK β h w (upd β h.size im) (h.push (some (.cells cs true))) w' := by
  have hBn : ∀ c, h.get c ≠ none → (β c).B ≠ im.B := by
    intro c hc
    obtain ⟨z, hz⟩ := Option.ne_none_iff_exists'.1 hc
    have := r.wlt hz
    omega
  have hget : ∀ c, (h.push (some (.cells cs true))).get c = if c = h.size then some (.cells cs true) else h.get c := h.get_push _
  have hold : ∀ c z, c ≠ h.size → (h.push (some (.cells cs true))).get c = some z → c < h.size ∧ h.get c = some z := by
    intro c z hne hc'
    rw [hget, if_neg hne] at hc'
    exact ⟨r.lt c (by rw [hc']; simp), hc'⟩
  refine ⟨⟨fun g hg => ?_, ?_, fun c z hcz => ?_, fun c c' hc1 hc2 hne => ?_, fun c hcn => ?_, by have := r.roLe; simp; omega⟩, fun c hc => upd_lt hc, by simp, f.wsize, rfl, fun c _ hc => ?_, fun c hc hoc => ?_, fun c hc hoc => ?_, fun c hc hoc => ?_, f.frame, f.os, f.tape, f.output⟩
  · rw [upd_lt (by have := r.gsize; omega)]; exact r.glob g hg
  · have := r.gsize; simp; omega
  · by_cases hcn : c = h.size
    · subst hcn
      rw [hget, if_pos rfl] at hcz
      cases hcz
      rw [upd_self]
      refine ⟨_, ho, C, e, (0, 0), rfl, fun i v hi => ?_, h3, fun _ => ⟨rfl, h4⟩⟩
      obtain ⟨q1, q2⟩ := hc i v hi
      exact ⟨by rw [ren_upd q2]; exact q1, vok_mono (by simp) _ q2⟩
    · obtain ⟨h5, h6⟩ := hold c z hcn hcz
      obtain ⟨o, ho', hok⟩ := f.rel.blk c z h6
      rw [upd_lt h5]
      exact ⟨o, ho', hok.congr (fun b hb => upd_lt hb) (by simp)⟩
  · obtain ⟨z, hz, hzo⟩ := hc1
    obtain ⟨z', hz'⟩ := Option.ne_none_iff_exists'.1 hc2
    by_cases h1 : c = h.size
    · subst h1
      obtain ⟨h5, h6⟩ := hold c' z' (fun e => hne e.symm) hz'
      rw [upd_self, upd_lt h5]
      exact fun e => hBn c' (by rw [h6]; simp) e.symm
    · obtain ⟨h5, h6⟩ := hold c z h1 hz
      by_cases h2 : c' = h.size
      · subst h2
        rw [upd_self, upd_lt h5]
        exact hBn c (by rw [h6]; simp)
      · obtain ⟨h7, h8⟩ := hold c' z' h2 hz'
        rw [upd_lt h5, upd_lt h7]
        exact r.inj c c' ⟨z, h6, hzo⟩ (by rw [h8]; simp) hne
  · obtain ⟨z, hz⟩ := Option.ne_none_iff_exists'.1 hcn
    by_cases h1 : c = h.size
    · subst h1; simp
    · have := (hold c z h1 hz).1; simp; omega
  · rw [hget, if_neg (by omega)]
  · obtain ⟨z, hz, hzo⟩ := hoc
    exact ⟨z, (hold c z (by omega) hz).2, hzo⟩
  · obtain ⟨z, hz⟩ := Option.ne_none_iff_exists'.1 hoc
    rw [(hold c z (by omega) hz).2]; simp
  · by_cases h1 : c = h.size
    · subst h1
      left; rw [upd_self]; exact hfr
    · obtain ⟨z, hz⟩ := Option.ne_none_iff_exists'.1 hoc
      have := (hold c z h1 hz).1; omega
/-- Of all that a call has made one block is kept, under the next number. -/
theorem St.pick {P : Program} {CK : Code → Prop} {β β' : Bm} {h hh : Hp} {w w' : World} (r : Rel P CK β h w) (s : St P CK β h w β' hh w') (hk : Keeps h hh) {b : Nat} (hb : h.size ≤ b) {im : Im} {cs : Array Value} {C : Array Value} {e : TypeId} (hg : ∃ x, hh.get b = some x ∧ x.own = true)
    (hB : im.B = (β' b).B) (ho : w'.heap[im.B]? = some (.cells C e (0, 0))) (hc : ∀ (i : Nat) v, cs[i]? = some v → C[im.O + i]? = some (ren β v) ∧ vok h.size v) (h3 : cs.size ≤ im.av) (h4 : im.O + im.av ≤ C.size) :
    St P CK β h w (upd β h.size im) (h.push (some (.cells cs true))) w' := by
  obtain ⟨x, hgx, hxo⟩ := hg
  have hob : hh.own b := ⟨x, hgx, hxo⟩
  refine St.adopt r (St.forget r s (fun c hc => hk.get c hc)) ?_ ho hc h3 h4
  rcases s.fresh b hb (by rw [hgx]; simp) with h1 | ⟨c, h1, h2, h3, h4⟩
  · rw [hB]; exact h1
  · have hne := s.rel.inj b c hob (by rw [hk.get c h1]; exact h3.pres) (by omega)
    rw [s.ext c h1] at hne
    exact absurd h4.symm hne
/-- A call that makes one block of cells and hands back what lies over it. -/
theorem Con.made {P : Program} {intr : Intr} (B : Base P) (hi : IntrOk P (CKb P) intr) {f : FuncId} {F : Array Value → Hp → Option (Value × Array Value)}
    (hF : ∀ args h v cs, F args h = some (v, cs) → h.ro ≤ h.size → (∀ a ∈ args, vok h.size a) → (∀ c ∈ cs, vok h.size c) ∧ vok (h.size + 1) v ∧
      ∃ n v' h' b, evalV P intr n (.fn f) args h = some (v', h') ∧ Keeps h h' ∧ h.size ≤ b ∧ h'.get b = some (.cells cs true) ∧ (∀ β : Bm, ren β v' = ren (upd β h.size (β b)) v)) :
    Con P (CKb P) f (fun args h => (F args h).map fun x => (x.1, h.push (some (.cells x.2 true)))) := by
  intro args h v h' hg β w r ha
  rw [Option.map_eq_some_iff] at hg
  obtain ⟨⟨u, cs⟩, hu, e⟩ := hg
  obtain ⟨rfl, rfl⟩ := Prod.mk.inj e
  obtain ⟨hcs, hvk, n, v', h', b, he, hk, hb, hgb, hren⟩ := hF args h u cs hu r.roLe ha
  refine (eval_calls B hi he r ha).mono fun e w' hp => ?_
  obtain ⟨β', rfl, h2, h3⟩ := hp
  obtain ⟨o, ho, C, ee, fz, rfl, q1, q2, q3⟩ := h3.rel.blk b _ hgb
  obtain ⟨rfl, q4⟩ := q3 rfl
  have hst := St.pick r h3 hk hb (im := β' b) (cs := cs) ⟨_, hgb, rfl⟩ rfl ho (fun i v hi => ⟨by rw [(q1 i v hi).1, ren_congr h3.ext v (hcs v (Array.mem_of_getElem? hi))], hcs v (Array.mem_of_getElem? hi)⟩) q2 q4
  refine ⟨_, ?_, by simpa using hvk, hst⟩
  rw [hren β']
  congr 1
  refine ren_congr (n := h.size + 1) (fun c hc => ?_) u hvk
  by_cases h1 : c = h.size
  · subst h1; rw [upd_self, upd_self]
  · rw [upd_lt (by omega), upd_lt (by omega)]; exact h3.ext c (by omega)
end Go.Abs
/- A call that writes one block of those that were there, and hands a number on. -/
namespace Go.Abs
set_option linter.all false
theorem St.redo {P : Program} {CK : Code → Prop} {β β' : Bm} {h hh : Hp} {w w' : World} (r : Rel P CK β h w) (s : St P CK β h w β' hh w') {rb : Nat} {cs1 cs2 cs' : Array Value} {im : Im} (hrb : h.get rb = some (.cells cs1 true)) (hro : h.ro ≤ rb) (hk : ∀ c, c < h.size → c ≠ rb → hh.get c = h.get c) (hg : hh.get rb = some (.cells cs2 true))
    (hc : ∀ (i : Nat) v, cs'[i]? = some v → vok (h.size + 1) v ∧ ∃ u, cs2[i]? = some u ∧ ren β' u = ren (upd β h.size im) v) (hsz : cs'.size = cs2.size) :
    St P CK β h w (upd β h.size im) ((h.push none).setB rb (some (.cells cs' true))) w' := by
  have hrl := r.lt rb (by rw [hrb]; simp)
  have hget : ∀ c, ((h.push none).setB rb (some (.cells cs' true))).get c = if c = rb then some (.cells cs' true) else if c = h.size then none else h.get c := by
    intro c; rw [Hp.get_setB, Hp.get_push]
  have hold : ∀ c z, c ≠ rb → ((h.push none).setB rb (some (.cells cs' true))).get c = some z → c < h.size ∧ h.get c = some z := by
    intro c z hne hc'
    rw [hget, if_neg hne] at hc'
    split at hc'
    · cases hc'
    · exact ⟨r.lt c (by rw [hc']; simp), hc'⟩
  have hpres : ∀ c, ((h.push none).setB rb (some (.cells cs' true))).get c ≠ none → h.get c ≠ none := by
    intro c hcn
    by_cases h1 : c = rb
    · subst h1; rw [hrb]; simp
    · obtain ⟨z, hz⟩ := Option.ne_none_iff_exists'.1 hcn
      rw [(hold c z h1 hz).2]; simp
  have hown : ∀ c, ((h.push none).setB rb (some (.cells cs' true))).own c → h.own c := by
    rintro c ⟨z, hz, hzo⟩
    by_cases h1 : c = rb
    · subst h1; exact ⟨_, hrb, rfl⟩
    · exact ⟨z, (hold c z h1 hz).2, hzo⟩
  refine ⟨⟨fun g hg' => ?_, ?_, fun c z hcz => ?_, fun c c' hc1 hc2 hne => ?_, fun c hcn => ?_, by have := r.roLe; simp; omega⟩, fun c hc => upd_lt hc, by simp, s.wsize, rfl, fun c hc1 hc2 => ?_, fun c _ hoc => hown c hoc, fun c _ hoc => hpres c hoc, fun c hc1 hc2 => ?_, s.frame, s.os, s.tape, s.output⟩
  · rw [upd_lt (by have := r.gsize; omega)]; exact r.glob g hg'
  · have := r.gsize; simp; omega
  · by_cases h1 : c = rb
    · subst h1
      rw [hget, if_pos rfl] at hcz
      cases hcz
      obtain ⟨o, ho, C, e, fz, rfl, q1, q2, q3⟩ := s.rel.blk _ _ hg
      rw [s.ext _ hrl] at ho q1 q2 q3
      rw [upd_lt hrl]
      refine ⟨_, ho, C, e, fz, rfl, fun i v hi => ?_, by rw [hsz]; exact q2, q3⟩
      obtain ⟨g1, u, g2, g3⟩ := hc i v hi
      exact ⟨by rw [(q1 i u g2).1, g3], by simpa using g1⟩
    · obtain ⟨h5, h6⟩ := hold c z h1 hcz
      obtain ⟨o, ho, hok⟩ := s.rel.blk c z (by rw [hk c h5 h1]; exact h6)
      obtain ⟨o0, ho0, hok0⟩ := r.blk c z h6
      rw [s.ext c h5] at ho hok
      rw [upd_lt h5]
      refine ⟨o, ho, ?_⟩
      have hext : ∀ b, b < h.size → upd β h.size im b = β b := fun b hb => upd_lt hb
      cases z with
      | cells cs own =>
        obtain ⟨C, e, fz, k1, k2, k3, k4⟩ := hok
        obtain ⟨C0, e0, fz0, j1, j2, j3, j4⟩ := hok0
        refine ⟨C, e, fz, k1, fun i v hi => ?_, k3, k4⟩
        have hv := (j2 i v hi).2
        exact ⟨by rw [(k2 i v hi).1, ren_congr s.ext v hv, ren_congr hext v hv], vok_mono (by simp) _ hv⟩
      | loop st pd tm ps asg body d =>
        obtain ⟨k1, k2, k3, k4, k5, fn, k6⟩ := hok
        obtain ⟨j1, j2, _⟩ := hok0
        refine ⟨by simp; omega, fun v hv => vok_mono (by simp) _ (j2 v hv), k3, k4, k5, fn, ?_⟩
        rw [k6, s.ext d j1, hext d j1]
        congr 2
        exact Array.map_congr_left fun v hv => by rw [ren_congr s.ext v (j2 v hv), ren_congr hext v (j2 v hv)]
      | defd t => exact hok
      | map es cl =>
        obtain ⟨k1, k2⟩ := hok
        obtain ⟨j1, j2⟩ := hok0
        refine ⟨fun e he => ⟨vok_mono (by simp) _ (j1 e he).1, vok_mono (by simp) _ (j1 e he).2⟩, ?_⟩
        rw [k2]
        congr 1
        exact Array.map_congr_left fun e he => by rw [ren_congr s.ext _ (j1 e he).1, ren_congr s.ext _ (j1 e he).2, ren_congr hext _ (j1 e he).1, ren_congr hext _ (j1 e he).2]
  · obtain ⟨z', hz'⟩ := Option.ne_none_iff_exists'.1 (hpres c' hc2)
    have l1 := r.lt c (hown c hc1).pres
    have l2 := r.lt c' (hpres c' hc2)
    rw [upd_lt l1, upd_lt l2]
    exact r.inj c c' (hown c hc1) (hpres c' hc2) hne
  · have := r.lt c (hpres c hcn); simp; omega
  · rw [hget, if_neg (by omega), if_neg (by omega)]
  · have := r.lt c (hpres c hc2); omega
end Go.Abs
