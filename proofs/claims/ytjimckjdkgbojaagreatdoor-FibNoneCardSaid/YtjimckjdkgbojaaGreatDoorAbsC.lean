/- An evaluator for the model, and that it is sound (part AbsC): no statement of a law stands here. -/
import Derived.Test.YtjimckjdkgbojaaGreatDoorAbsB
set_option linter.all false
/- The evaluator is sound: code, whole. -/
namespace Go.Abs
section
variable {P : Program} {dk : Array Oper → Bool} {β : Bm} {h : Hp} {w : World} {R : Type} {call : CallF}

/-- Behind a range over a function. -/
theorem leave_run {CK : Code → Prop} (r : Rel P CK β h w) {l : Nat} {e : Exit} {h' : Hp} (he : leaveL l h = some (e, h')) :
    ∃ jump w', (Instr.endLoop (β l).B).run P w = .ok jump w' ∧ St P CK β h w β h' w' ∧
      (match jump with | none => e = .normal | some .ret => e = .ret | some (.exit id) => e = .exit id | _ => False) := by
  unfold leaveL at he
  split at he
  · rename_i st pd tm ps asg body d hg
    split at he
    · cases he
    · rename_i hcond
      obtain ⟨o, ho, q1, q2, q3, q4, q5, fn', rfl⟩ := r.blk _ _ hg
      have hst : st ≠ .busy := fun e => hcond (.inl e)
      have hro : h.ro ≤ l := by
        rcases Nat.lt_or_ge l h.ro with hlt | hge
        · exact absurd (.inr (by omega)) hcond
        · exact hge
      have s := St.set r hg rfl hro (.loop .exhausted pd tm ps asg body d)
        (.loop { state := .exhausted, pending := pd, fn := fn', tmps := tm.map (ren β), params := ps, assign := asg, body := body, defers := (β d).B }) ⟨q1, q2, q3, q4, q5, fn', rfl⟩
      have run : (Instr.endLoop (β l).B).run P w = .ok pd { w with heap := w.heap.setIfInBounds (β l).B (.loop { state := .exhausted, pending := pd, fn := fn', tmps := tm.map (ren β), params := ps, assign := asg, body := body, defers := (β d).B }) } := by
        unfold Instr.endLoop
        rw [run_then (getLoop_run ho)]
        simp only []
        rw [if_neg (by simpa using hst), run_then (setObj_run ho (fun _ _ _ e => by cases e)), run_ret]
      refine ⟨pd, _, run, ?_, ?_⟩
      · split at he
        · cases he; exact s
        · cases he; exact s
        · cases he; exact s
        · cases he
      · split at he
        · cases he; rfl
        · cases he; rfl
        · cases he; rfl
        · cases he
  · cases he

theorem least_exists (p : Nat → Prop) (hx : ∃ n, p n) : ∃ n, p n ∧ ∀ m, p m → n ≤ m := by
  obtain ⟨n, hn⟩ := hx
  induction n using Nat.strongRecOn with
  | _ n ih =>
    by_cases hm : ∃ m, m < n ∧ p m
    · obtain ⟨m, hlt, hp⟩ := hm; exact ih m hlt hp
    · exact ⟨n, hn, fun m hp => Nat.le_of_not_lt fun hlt => hm ⟨m, hlt, hp⟩⟩

open Classical in
/-- The least number of rounds with which something holds. -/
noncomputable def leastR (J : Nat → Act → World → Prop) (a : Act) (w : World) : Nat := if hx : ∃ n, J n a w then (least_exists (fun n => J n a w) hx).choose else 0

theorem leastR_spec {J : Nat → Act → World → Prop} {a : Act} {w : World} (hx : ∃ n, J n a w) : J (leastR J a w) a w := by
  unfold leastR; rw [dif_pos hx]; exact (least_exists (fun n => J n a w) hx).choose_spec.1
theorem leastR_le {J : Nat → Act → World → Prop} {a : Act} {w : World} {n : Nat} (hx : J n a w) : leastR J a w ≤ n := by
  unfold leastR; rw [dif_pos ⟨n, hx⟩]; exact (least_exists (fun n => J n a w) ⟨n, hx⟩).choose_spec.2 n hx

theorem endsC_of {CK : Code → Prop} {K : Exit → Act → Hp → Option R} {res : R} {e : Exit} {a : Act} (ha : aok h.size a) (r : Rel P CK β h w) (hk : K e a h = some res) : EndsC P CK β h w K res e (renAct β a) w :=
  ⟨a, h, β, hk, rfl, ha, St.refl r⟩

theorem stepR_scope {P : Program} {b : Frame} {a : Act} {k : List Item} {cs : List Frame} {w : World} {c : Code} : step P (lone (b.atR a (.code (.scope c) :: k)) cs w) = .next (lone (b.atR a (.code c :: .inScope c :: k)) cs w) :=
  step_lone_go (by simp [stepG, stepG.exec, Frame.atR])
theorem stepR_inScope {P : Program} {b : Frame} {a : Act} {k : List Item} {cs : List Frame} {w : World} {c : Code} : step P (lone (b.atR a (.inScope c :: k)) cs w) = .next (lone (b.atR a k) cs w) :=
  step_lone_go (by simp [stepG, stepG.exec, Frame.atR])
theorem wpIn_scope {F : Fence} {n : Nat} {P : Program} {a : Act} {w : World} {c : Code} {Q Q' : Exit → Act → World → Prop} (h : c.wpIn F n P Q' a w) (hQ : ∀ e a w, Q' e a w → (match e with
    | .goto _ => False
    | e => Q e a w)) : (Code.scope c).wpIn F n P Q a w := by
  intro b k cs hro hb hr
  have h0 : (lone (b.atR a (.code (.scope c) :: k)) cs w).fenced P F := fenced_calm hb hr rfl
  obtain ⟨e, a₁, w₁, hq, harr⟩ := h b (.inScope c :: k) cs hro hb hr
  have hq := hQ _ _ _ hq
  cases e with
  | normal => exact ⟨.normal, a₁, w₁, hq, .head h0 stepR_scope (StepsIn.trans harr (.one (fenced_calm hb hr rfl) stepR_inScope))⟩
  | exit id' =>
    have hx : exitTo id' (.inScope c :: k) = exitTo id' k := by simp [exitTo]
    exact ⟨.exit id', a₁, w₁, hq, fun k' hk => .head h0 stepR_scope (harr.1 k' (by rw [hx]; exact hk)),
      fun hr' hk => let ⟨k₁, h1, h2⟩ := harr.2 hr' (by rw [hx]; exact hk); ⟨k₁, h1, .head h0 stepR_scope h2⟩⟩
  | goto l => exact hq.elim
  | ret => exact ⟨_, a₁, w₁, hq, .of_steps (.one h0 stepR_scope) harr⟩
  | panic ch => exact ⟨_, a₁, w₁, hq, .of_steps (.one h0 stepR_scope) harr⟩
  | outgrown => exact ⟨_, a₁, w₁, hq, .of_steps (.one h0 stepR_scope) harr⟩

theorem evalC_sound (pk : ProgOk P) (hcall : CallOk P (CKd P dk) call) {draw : Array Oper → Act → Hp → (Act → Hp → Option R) → Option R} (hdraw : DrawOk P (CKd P dk) dk draw) (ctx : Option Nat) (lf : Nat) :
    ∀ (c : Code), codeOk P dk c = true → ∀ (β : Bm) (h : Hp) (w : World) (a : Act) (K : Exit → Act → Hp → Option R) (res : R), Rel P (CKd P dk) β h w → aok h.size a → ctxIn ctx h.size →
      evalC P call draw ctx lf c a h K = some res → c.wpIn (FW (ctxB β ctx)) 0 P (EndsC P (CKd P dk) β h w K res) (renAct β a) w := by
  intro c
  induction c with
  | skip => intro _ β h w a K res r ha hc he; exact wpIn_skip (endsC_of ha r he)
  | label l => intro _ β h w a K res r ha hc he; exact wpIn_label (endsC_of ha r he)
  | exit id => intro _ β h w a K res r ha hc he; exact wpIn_exit (endsC_of ha r he)
  | ret => intro _ β h w a K res r ha hc he; exact wpIn_ret (endsC_of ha r he)
  | goto l => intro _ β h w a K res r ha hc he; simp [evalC] at he
  | refuse s => intro _ β h w a K res r ha hc he; simp [evalC] at he
  | scope c ih =>
    intro hok β h w a K res r ha hc he
    simp only [codeOk] at hok
    simp only [evalC] at he
    refine wpIn_scope (ih hok β h w a _ res r ha hc he) ?_
    intro e a' w' hends
    cases e with
    | goto l =>
      obtain ⟨aa, hh, β', hk, _⟩ := hends
      cases hk
    | normal => exact hends
    | exit id => exact hends
    | ret => exact hends
    | panic ch => exact hends
    | outgrown => exact hends
  | region id ops d =>
    intro hok β h w a K res r ha hc he
    simp only [codeOk, Bool.and_eq_true] at hok
    cases d with
    | false =>
      simp only [evalC] at he
      have := evalOps_sound (rd := ctxB β ctx) pk hcall hok.1 (EndsC P (CKd P dk) β h w K res) (top := ctx.isNone) (fun ht => by cases ctx with | none => rfl | some l => cases ht) ops.toList 0 β h w a _ res (by simp) r ha he (fun _ _ h => h)
      refine wpIn_region ?_
      rw [List.range_eq_range']
      simpa using this
    | true =>
      simp only [evalC] at he
      have hd2 : ops.all (operOk P) = true ∧ dk ops = true := by simpa using hok.2
      exact hdraw ops hd2.1 hd2.2 _ id β h w a _ res r ha he _ (fun _ _ h => h)
  | seq x y ihx ihy =>
    intro hok β h w a K res r ha hc he
    simp only [codeOk, Bool.and_eq_true] at hok
    simp only [evalC] at he
    refine wpIn_seq (wpIn_mono (ihx hok.1 β h w a _ res r ha hc he) ?_)
    intro e a' w' hends
    cases e with
    | normal =>
      obtain ⟨aa, hh, β', h1, rfl, h3, h4⟩ := hends
      obtain ⟨e1, e2⟩ := ctxB_step h4 hc
      have := ihy hok.2 β' hh w' aa K res h4.rel h3 e2 h1
      rw [e1] at this
      exact wpIn_mono this fun e a w he => Ends.step h4 he
    | exit id => exact hends
    | goto l => exact hends
    | ret => exact hends
    | panic ch => exact hends
    | outgrown => exact hends
  | cond c x y ihx ihy =>
    intro hok β h w a K res r ha hc he
    simp only [codeOk, Bool.and_eq_true] at hok
    simp only [evalC] at he
    have hcv := (eval_ren r ha hok.1.1).2
    split at he
    · rename_i hb
      exact wpIn_cond_true (by rw [hcv, hb, ren_bool]) (ihx hok.1.2 β h w a K res r ha hc he)
    · rename_i hb
      exact wpIn_cond_false (by rw [hcv, hb, ren_bool]) (ihy hok.2 β h w a K res r ha hc he)
    · cases he
  | block id c ih =>
    intro hok β h w a K res r ha hc he
    simp only [codeOk] at hok
    simp only [evalC] at he
    refine wpIn_block (wpIn_mono (ih hok β h w a _ res r ha hc he) ?_)
    intro e a' w' hends
    cases e with
    | exit id' =>
      obtain ⟨aa, hh, β', h1, h2, h3, h4⟩ := hends
      simp only [] at h1
      simp only [Exit.inBlock]
      split at h1
      · rename_i hid; rw [if_pos hid]; exact ⟨aa, hh, β', h1, h2, h3, h4⟩
      · rename_i hid; rw [if_neg hid]; exact ⟨aa, hh, β', h1, h2, h3, h4⟩
    | normal => exact hends
    | goto l => exact hends
    | ret => exact hends
    | panic ch => exact hends
    | outgrown => exact hends
  | loop c ih =>
    intro hok β h w a K res r ha hc he
    simp only [codeOk] at hok
    simp only [evalC] at he
    let J : Nat → Act → World → Prop := fun n a' w' => ∃ aa hh β', evalLoop (evalC P call draw ctx lf c) n aa hh K = some res ∧ a' = renAct β' aa ∧ aok hh.size aa ∧ St P (CKd P dk) β h w β' hh w'
    refine wpIn_loop (fun a' w' => ∃ n, J n a' w') (leastR J) ⟨lf, a, h, β, he, rfl, ha, St.refl r⟩ ?_
    intro a' w' hJ
    have hmin := leastR_spec hJ
    generalize hn : leastR J a' w' = n at hmin
    obtain ⟨aa, hh, β', h1, rfl, h3, h4⟩ := hmin
    cases n with
    | zero => simp [evalLoop] at h1
    | succ n =>
      simp only [evalLoop] at h1
      obtain ⟨e1, e2⟩ := ctxB_step h4 hc
      have := ih hok β' hh w' aa _ res h4.rel h3 e2 h1
      rw [e1] at this
      refine wpIn_mono this ?_
      intro e a'' w'' hends
      cases e with
      | normal =>
        obtain ⟨ab, hb, γ, g1, g2, g3, g4⟩ := hends
        have hJ' : J n a'' w'' := ⟨ab, hb, γ, g1, g2, g3, h4.trans g4⟩
        exact ⟨⟨n, hJ'⟩, by have := leastR_le hJ'; omega⟩
      | exit id => exact Ends.step h4 hends
      | goto l => exact Ends.step h4 hends
      | ret => exact Ends.step h4 hends
      | panic ch => exact Ends.step h4 hends
      | outgrown => exact Ends.step h4 hends
  | rangeFunc f ps asg body iha ihb =>
    intro hok β h w a K res r ha hc he
    simp only [codeOk, Bool.and_eq_true] at hok
    simp only [evalC] at he
    split at he
    · rename_i l mark h1 hent
      split at he
      · rename_i g args ht
        split at he
        · rename_i v h2 hcl
          split at he
          · rename_i e h3 hlv
            refine wpIn_rangeFunc fun fn _ => ?_
            obtain ⟨β1, w1, hrun, s1, hl, ha1⟩ := enter_run r hc ha hok.1.2 hok.2 hent fn
            have hfv := eval_ren r ha hok.1.1
            have hfv1 : vok h1.size (a.eval f) := vok_mono s1.size _ hfv.1
            obtain ⟨g1, _, d, g3, g4⟩ := target_run (β := β1) pk hfv1 (args := #[.func (.yield l) #[] #[]]) (by simp [fnok, hl]) ht
            have hcc := hcall (.fn g) args h1 v h2 hcl β1 w1 s1.rel g1 trivial
            have hra : renAct β1 a = renAct β a := renAct_congr s1.ext ha
            refine ⟨(β1 l).B, mark.map (renD β1), w1, d, w1, g, args.map (ren β1), w1, ?_, ?_, fun _ _ => trivial, g4 w1, fun hd => by simp [FW, Fence.wide] at hd, ?_⟩
            · exact hrun
            · have := g3 w1
              unfold resolve
              have e1 : (renAct β a).eval f = ren β1 (a.eval f) := by rw [hfv.2]; exact (ren_congr s1.ext _ hfv.1).symm
              simp only []
              rw [e1]
              simpa [Act.eval, renFn] using this
            · refine CallsIn.mono hcc ?_
              rintro e' w2 ⟨β2, rfl, q2, q3⟩
              simp only [rangePost]
              obtain ⟨jump, w3, hend, s3, hj⟩ := leave_run q3.rel hlv
              have el : (β1 l).B = (β2 l).B := by rw [q3.ext l hl]
              rw [el]
              refine ⟨jump, w3, hend, ?_⟩
              have s13 := (s1.trans q3).trans s3
              have fin : EndsC P (CKd P dk) β h w K res e { renAct β a with defers := mark.map (renD β1) ++ (renAct β a).defers } w3 := by
                refine ⟨_, h3, β2, he, ?_, aok_mono (by have := q3.size; have := s3.size; omega) ha1, s13⟩
                have hrr := renAct_congr (a := { a with defers := mark ++ a.defers }) (γ := β2) (β := β1) (n := h1.size) q3.ext ha1
                rw [hrr]
                have h4 : (renAct β a).tmps = (renAct β1 a).tmps := by rw [hra]
                have h5 : (renAct β a).defers = (renAct β1 a).defers := by rw [hra]
                show ({ tmps := (renAct β a).tmps, defers := mark.map (renD β1) ++ (renAct β a).defers } : Act) = _
                rw [h4, h5]
                simp [renAct]
              cases jump with
              | none => simp only [] at hj; subst hj; exact fin
              | some c =>
                cases c <;> simp only [] at hj <;> first | exact hj.elim | skip
                · subst hj; exact wpIn_exit fin
                · subst hj; exact wpIn_ret fin
          · cases he
        · cases he
      · cases he
    · cases he

end
end Go.Abs
/- The making of an empty map may be taken first in a region that draws its order. -/
namespace Go.Abs
set_option linter.all false
section
variable {P : Program}
/-- The world behind the making of an empty map. -/
def psh (w : World) : World := { w with heap := w.heap.push (.map #[] 0) }
/-- What s yields behind the making of an empty map, it yields ahead of it. -/
def Loc (P : Program) {α : Type} (s : Sem α) : Prop := ∀ w a w1, s.run P (psh w) = .ok a w1 → ∃ w', s.run P w = .ok a w' ∧ w1 = psh w' ∧ w'.heap.size = w.heap.size
theorem psh_at (w : World) {b : Nat} (h : b = w.heap.size) : (psh w).heap[b]? = some (.map #[] 0) ∧ w.heap[b]? = none := by
  subst h
  exact ⟨by unfold psh; rw [Array.getElem?_push, if_pos rfl], Array.getElem?_eq_none (Nat.le_refl _)⟩
theorem psh_ne (w : World) {b : Nat} (h : b ≠ w.heap.size) : (psh w).heap[b]? = w.heap[b]? := by
  unfold psh
  rw [Array.getElem?_push, if_neg h]
theorem psh_cell (w : World) (a : Addr) : (psh w).cell? a = w.cell? a := by
  unfold World.cell?
  by_cases h : a.block = w.heap.size
  · rw [(psh_at w h).1, (psh_at w h).2]
  · rw [psh_ne w h]
theorem psh_shape (w : World) (a : Nat) : (psh w).shape? a = w.shape? a := by
  unfold World.shape?
  by_cases h : a = w.heap.size
  · rw [(psh_at w h).1, (psh_at w h).2]
  · rw [psh_ne w h]
theorem psh_frozen (w : World) (a : Addr) : (psh w).frozen? a = w.frozen? a := by
  unfold World.frozen?
  by_cases h : a.block = w.heap.size
  · rw [(psh_at w h).1, (psh_at w h).2]
  · rw [psh_ne w h]
theorem psh_set (w : World) (a : Addr) (v : Value) : (psh w).setCell a v = psh (w.setCell a v) := by
  unfold psh World.setCell
  congr 1
  apply Array.ext_getElem?
  intro i
  rw [Array.getElem?_modify, Array.getElem?_push, Array.getElem?_push, Array.getElem?_modify, Array.size_modify]
  by_cases h : i = w.heap.size
  · subst h
    simp only [if_true]
    split <;> rfl
  · simp only [h, if_false]
theorem Loc.pure {α : Type} (a : α) : Loc P (pure a : Sem α) := fun w b w1 h => by
  cases h; exact ⟨w, rfl, rfl, rfl⟩
theorem Loc.bind {α γ : Type} {s : Sem α} {f : α → Sem γ} (h1 : Loc P s) (h2 : ∀ a, Loc P (f a)) : Loc P (s >>= f) := fun w b w1 h => by
  rw [Sem.run_bind] at h
  cases hs : s.run P (psh w) with
  | ok a w2 =>
    rw [hs] at h
    obtain ⟨w3, e1, rfl, z1⟩ := h1 w a w2 hs
    obtain ⟨w4, e2, rfl, z2⟩ := h2 a w3 b w1 h
    exact ⟨w4, by rw [Sem.run_bind, e1]; exact e2, rfl, z2.trans z1⟩
  | halt x w2 => rw [hs] at h; cases h
theorem Loc.halt {α : Type} (x : Halt) : Loc P (.halt x : Sem α) := fun w b w1 h => by cases h
theorem Loc.stuck {α : Type} (x : String) : Loc P (stuck x : Sem α) := Loc.halt _
theorem Loc.prog : Loc P program := fun w b w1 h => by
  cases h; exact ⟨w, rfl, rfl, rfl⟩
theorem Loc.shape (r : Nat) : Loc P (shape r) := fun w b w1 h => by
  unfold Go.shape at h ⊢
  simp only [Sem.run, psh_shape] at h ⊢
  cases h; exact ⟨w, rfl, rfl, rfl⟩
theorem seen_psh (w : World) (at_ : Addr) (u : TypeId) (k : Addr) (at' : Bool) : (psh w).seen P at_ u k at' = w.seen P at_ u k at' := by
  unfold World.seen
  by_cases h : at_.block = w.heap.size
  · rw [(psh_at w h).1, (psh_at w h).2]
  · rw [psh_ne w h]
theorem seen_at (w : World) (at_ : Addr) (u : TypeId) (k : Addr) (at' : Bool) {r} (h : at_.block = w.heap.size) : w.seen P at_ u k at' ≠ .ok r := by
  unfold World.seen
  rw [(psh_at w h).2]
  intro e
  simp only [bind, Except.bind] at e
  repeat' split at e
  all_goals cases e
theorem Loc.load (a : Addr) : Loc P (load a) := fun w b w1 h => by
  unfold Go.load at h ⊢
  simp only [Sem.run, psh_cell] at h ⊢
  cases hc : w.cell? a with
  | some v => rw [hc] at h; cases h; exact ⟨w, rfl, rfl, rfl⟩
  | none =>
    rw [hc] at h
    simp only [World.farLoad, World.viewLoad, seen_psh] at h ⊢
    by_cases hb : a.block = w.heap.size
    · rw [(psh_at w hb).1] at h
      simp at h
    · rw [psh_ne w hb] at h
      cases hg : w.heap[a.block]? with
      | none => rw [hg] at h; simp at h
      | some o =>
        rw [hg] at h
        cases o <;> simp only [] at h ⊢ <;> first | (cases h; done) | skip
        generalize hE : (w.seen P _ _ a _ >>= _) = E at h ⊢
        cases E with
        | error x => simp at h
        | ok r => obtain ⟨r1, r2⟩ := r; simp only [] at h ⊢; cases h; exact ⟨w, rfl, rfl, rfl⟩
theorem viewStore_psh {w w1 : World} {at_ : Addr} {u : TypeId} {k : Addr} {v : Value} {m : Bool} {l : List Addr} (h : (psh w).viewStore P at_ u k v m = .ok (w1, l)) :
    ∃ w', w.viewStore P at_ u k v m = .ok (w', l) ∧ w1 = psh w' ∧ w'.heap.size = w.heap.size := by
  unfold World.viewStore at h ⊢
  rw [seen_psh] at h
  cases hs : w.seen P at_ u k m with
  | error x =>
    rw [hs] at h
    simp only [bind, Except.bind] at h
    repeat' split at h
    all_goals cases h
  | ok r =>
    have hne : at_.block ≠ w.heap.size := fun e => seen_at w at_ u k m e hs
    have e0 : ∀ o : Obj, (psh w).heap.setIfInBounds at_.block o = (w.heap.setIfInBounds at_.block o).push (.map #[] 0) := fun o => by
      unfold psh
      apply Array.ext_getElem?
      intro i
      rw [Array.getElem?_setIfInBounds, Array.getElem?_push, Array.getElem?_push, Array.getElem?_setIfInBounds, Array.size_setIfInBounds, Array.size_push]
      by_cases h1 : at_.block = i
      · subst h1
        rw [if_pos rfl, if_neg hne, if_pos rfl]
        by_cases h2 : at_.block < w.heap.size
        · rw [if_pos h2, if_pos (by omega)]
        · rw [if_neg h2, if_neg (by omega)]
      · rw [if_neg h1, if_neg h1]
    rw [hs] at h
    simp only [bind, Except.bind, pure, Except.pure, e0, MonadExcept.throw, throwThe, MonadExceptOf.throw] at h ⊢
    repeat' split at h
    all_goals first | (cases h; done) | skip
    all_goals
      rename_i vv hq
      simp only [*] at *
      cases h
      exact ⟨{ w with heap := w.heap.setIfInBounds at_.block (.cells vv r.2.fst r.2.2.fst) }, by (repeat' split) <;> first | rfl | contradiction | (simp_all; done), rfl, by simp⟩
theorem Loc.store (a : Addr) (v : Value) : Loc P (store a v) := fun w b w1 h => by
  have key : (match (psh w).cell? a with
      | some _ => if (psh w).frozen? a then (.halt (.unsupported (.unsafePointer "a write to bytes that a string shares")) (psh w) : Result Unit) else .ok () ((psh w).setCell a v)
      | none => match (psh w).farStore P a v false with
        | .ok (w, _) => .ok () w
        | .error h => .halt h (psh w)) = .ok b w1 → ∃ w', (match w.cell? a with
      | some _ => if w.frozen? a then (.halt (.unsupported (.unsafePointer "a write to bytes that a string shares")) w : Result Unit) else .ok () (w.setCell a v)
      | none => match w.farStore P a v false with
        | .ok (w, _) => .ok () w
        | .error h => .halt h w) = .ok b w' ∧ w1 = psh w' ∧ w'.heap.size = w.heap.size := by
    intro h
    rw [psh_cell, psh_frozen, psh_set] at h
    cases hc : w.cell? a with
    | some u =>
      rw [hc] at h
      simp only [] at h ⊢
      split at h
      · cases h
      · rename_i hf
        rw [if_neg hf]
        cases h
        exact ⟨_, rfl, rfl, by unfold World.setCell; simp⟩
    | none =>
      rw [hc] at h
      simp only [World.farStore] at h ⊢
      by_cases hb : a.block = w.heap.size
      · rw [(psh_at w hb).1] at h
        simp at h
      · rw [psh_ne w hb] at h
        cases hg : w.heap[a.block]? with
        | none => rw [hg] at h; simp at h
        | some o =>
          rw [hg] at h
          cases o <;> simp only [] at h ⊢ <;> first | (cases h; done) | skip
          rename_i at_ u
          cases hE : (psh w).viewStore P at_ u a v false with
          | error x => rw [hE] at h; simp at h
          | ok r =>
            obtain ⟨r1, r2⟩ := r
            rw [hE] at h
            obtain ⟨w', g1, g2, g3⟩ := viewStore_psh hE
            rw [g1]
            simp only [] at h ⊢
            cases h
            exact ⟨w', rfl, g2, g3⟩
  unfold Go.store at h ⊢
  cases v <;> simp only [Sem.run] at h ⊢ <;> first | (cases h; done) | exact key h
theorem Loc.typeInfo (t : TypeId) : Loc P (typeInfo t) := by
  unfold Go.typeInfo
  refine Loc.prog.bind fun p => ?_
  split
  · exact .pure _
  · exact .stuck _
theorem Loc.underlying (t : TypeId) : Loc P (underlying t) := by
  unfold Go.underlying
  refine Loc.prog.bind fun p => ?_
  split
  · exact .pure _
  · exact .stuck _
theorem Loc.sizeOf (t : TypeId) : Loc P (Go.sizeOf t) := (Loc.typeInfo t).bind fun _ => .pure _
theorem Loc.isAgg (t : TypeId) : Loc P (Go.isAgg t) := by
  unfold Go.isAgg
  refine (Loc.underlying t).bind fun p => ?_
  split <;> exact .pure _
theorem Loc.loadCellsFrom (a : Addr) : ∀ (n i : Nat) (acc : Array Value), Loc P (Go.loadCellsFrom a i n acc)
  | 0, _, _ => .pure _
  | n + 1, i, acc => by
    unfold Go.loadCellsFrom
    exact (Loc.load _).bind fun v => Loc.loadCellsFrom a n (i + 1) _
theorem Loc.loadVar (t : TypeId) (a : Addr) : Loc P (Go.loadVar t a) := by
  unfold Go.loadVar
  refine (Loc.isAgg t).bind fun b => ?_
  split
  · exact (Loc.sizeOf t).bind fun n => (Loc.loadCellsFrom a n 0 _).bind fun _ => .pure _
  · exact Loc.load a
theorem Loc.storeCells (a : Addr) : ∀ (l : List Value) (i : Nat), Loc P (Go.storeCells a l i)
  | [], _ => .pure _
  | v :: l, i => by
    unfold Go.storeCells
    exact (Loc.store _ v).bind fun _ => Loc.storeCells a l (i + 1)
theorem Loc.storeVar (t : TypeId) (a : Addr) (v : Value) : Loc P (Go.storeVar t a v) := by
  unfold Go.storeVar
  refine (Loc.sizeOf t).bind fun n => ?_
  split
  · exact (Loc.stuck _).bind fun _ => Loc.storeCells a _ 0
  · exact Loc.storeCells a _ 0
theorem Loc.sureAddr (v : Value) : Loc P (Instr.sureAddr v) := by
  unfold Instr.sureAddr
  split
  · exact .pure _
  · exact .stuck _
theorem Loc.loadAt (t : TypeId) (v : Value) : Loc P (Instr.loadAt t v) := (Loc.sureAddr v).bind fun a => Loc.loadVar t a
theorem Loc.storeAt (t : TypeId) (v x : Value) : Loc P (Instr.storeAt t v x) := (Loc.sureAddr v).bind fun a => Loc.storeVar t a x
theorem noView_run {a : Addr} {w : World} : (Go.noView a).run P w = (if (w.shape? a.block).isSome then .ok () w else (Go.noView a).run P w) := by
  split
  · rename_i h
    unfold Go.noView Go.viewAt
    simp only [bind, Sem.bind, Go.shape, pure, Sem.run, h, if_true]
    rfl
  · rfl
theorem Loc.byteOf (a : Addr) : Loc P (Go.byteOf a) := by
  unfold Go.byteOf
  cases hs : a.spot with
  | some s => exact .pure _
  | none =>
    simp only []
    refine Loc.prog.bind fun p => ?_
    have rest : Loc P (do
        let some (e, _) ← Go.shape a.block | Go.stuck "byteOf: no such block"
        let s := p.cellsOf e
        if s = 0 then return 0
        let some b := byteOfCell p p.depth e (a.off % s) | Go.stuck "byteOf: no such cell"
        Pure.pure (a.off / s * p.bytesOf e + b)) := by
      refine (Loc.shape _).bind fun x => ?_
      split
      · simp only []
        split
        · exact .pure _
        · split
          · exact .pure _
          · exact .stuck _
      · exact .stuck _
    intro w b w1 h
    rw [Sem.run_bind] at h ⊢
    by_cases hz : (w.shape? a.block).isSome
    · rw [noView_run, psh_shape, if_pos hz] at h
      obtain ⟨w', g1, g2, g3⟩ := rest w b w1 h
      refine ⟨w', ?_, g2, g3⟩
      rw [noView_run, if_pos hz]
      exact g1
    · exfalso
      have hz' : w.shape? a.block = none := by simpa using hz
      have hb : (Sem.shape a.block Sem.pure : Sem (Option (TypeId × Nat))).run P (psh w) = .ok none (psh w) := by simp only [Sem.run, psh_shape, hz']
      unfold Go.noView Go.viewAt at h
      simp only [bind, Sem.bind, Go.shape, Pure.pure, Sem.run, psh_shape, hz', Option.isSome_none, Bool.false_eq_true, if_false, Go.getObj, Result.andThen, Sem.run_bind, hb] at h
      cases hg : (psh w).heap[a.block]? with
      | none => simp [hg, Result.andThen] at h
      | some o =>
        cases o <;> simp [hg, Go.unsupported, Go.stuck, Sem.run, psh_shape, hz', Result.andThen, hb] at h
theorem Loc.fieldAt (t : TypeId) (v : Value) (f : Nat) : Loc P (Instr.fieldAt t v f) := by
  unfold Instr.fieldAt
  refine (Loc.underlying t).bind fun u => ?_
  split
  · split
    · refine (Loc.sureAddr v).bind fun a => Loc.bind ?_ fun _ => .pure _
      unfold Go.fieldPlace
      refine (Loc.sizeOf _).bind fun n => ?_
      split
      · unfold Go.partAt
        exact (Loc.byteOf a).bind fun b => (Loc.byteOf _).bind fun c => .pure _
      · exact .pure _
    · exact .stuck _
  · exact .stuck _
theorem Loc.part (t : TypeId) (cs : Array Value) (n : Nat) : Loc P (Go.part t cs n) := by
  unfold Go.part
  refine (Loc.isAgg t).bind fun b => ?_
  split
  · exact (Loc.sizeOf t).bind fun n => .pure _
  · split
    · exact .pure _
    · exact .stuck _
theorem Loc.followBlind : ∀ (l : List FieldStep) (t : TypeId) (x : Option Value), Loc P (Go.followBlind l t x)
  | [], t, x => .pure _
  | s :: l, t, x => by
    unfold Go.followBlind
    refine (Loc.underlying _).bind fun u => ?_
    split
    · split
      · split
        · exact .pure _
        · exact Loc.followBlind l _ _
        · exact .stuck _
        · exact .pure _
        · exact (Loc.part _ _ _).bind fun v => Loc.followBlind l _ _
        · exact .stuck _
        · exact Loc.followBlind l _ _
      · exact .stuck _
    · exact .stuck _
theorem Loc.nilAhead : ∀ (n : Nat) (t : TypeId) (v : Value) (s : String), Loc P (Go.nilAhead n t v s)
  | 0, _, _, _ => .pure _
  | n + 1, t, v, s => by
    unfold Go.nilAhead
    refine (Loc.typeInfo t).bind fun i => ?_
    split
    · refine (Loc.followBlind _ _ _).bind fun r => ?_
      split
      · exact .pure _
      · split
        · exact Loc.nilAhead n _ _ _
        · exact .pure _
        · exact .stuck _
        · exact .pure _
        · exact .pure _
        · refine (Loc.underlying _).bind fun u => ?_
          split <;> exact .pure _
    · exact .stuck _
theorem Loc.runtimePanic {α : Type} : Loc P (Go.runtimePanic .nilDeref : Sem α) := by
  unfold Go.runtimePanic
  exact Loc.prog.bind fun p => .halt _
def easyOp (o : Oper) : Bool :=
  match o.op with
  | .move _ | .assign _ | .nilCheck _ | .fieldAddr _ _ _ | .load _ _ | .store _ _ _ => true
  | _ => false
def Plain1 (x : Next) : Prop := (∃ v, x = .value v) ∨ x = .skip
/-- What it yields is a value, or nothing. -/
def Yl (P : Program) (s : Sem Next) : Prop := ∀ w x w1, s.run P w = .ok x w1 → Plain1 x
theorem Yl.val {s : Sem Value} : Yl P (do pure (.value (← s))) := fun w x w1 h => by
  rw [Sem.run_bind] at h
  cases hs : s.run P w with
  | ok a w2 => rw [hs] at h; cases h; exact .inl ⟨_, rfl⟩
  | halt y z => rw [hs] at h; cases h
theorem Yl.pure (v : Value) : Yl P (Pure.pure (.value v)) := fun w x w1 h => by cases h; exact .inl ⟨_, rfl⟩
theorem Yl.skip {s : Sem Unit} : Yl P (do s; Pure.pure .skip) := fun w x w1 h => by
  rw [Sem.run_bind] at h
  cases hs : s.run P w with
  | ok a w2 => rw [hs] at h; cases h; exact .inr rfl
  | halt y z => rw [hs] at h; cases h
theorem Yl.bind {α : Type} {s : Sem α} {f : α → Sem Next} (h1 : ∀ a, Yl P (f a)) : Yl P (s >>= f) := fun w x w1 h => by
  rw [Sem.run_bind] at h
  cases hs : s.run P w with
  | ok a w2 => rw [hs] at h; exact h1 _ _ _ _ h
  | halt y z => rw [hs] at h; cases h
theorem Yl.panic : Yl P (Go.runtimePanic .nilDeref) := fun w x w1 h => by cases h
theorem easy_loc {o : Oper} (h : easyOp o = true) (ρ : Operand → Value) : Loc P (execOp ρ o) ∧ Yl P (execOp ρ o) := by
  unfold easyOp at h
  unfold execOp
  split at h
  · rename_i x ho; rw [ho]; exact ⟨.pure _, .pure _⟩
  · rename_i x ho; rw [ho]; exact ⟨.pure _, .pure _⟩
  · rename_i x ho
    rw [ho]
    simp only []
    split
    · exact ⟨.runtimePanic, .panic⟩
    · exact ⟨.runtimePanic, .panic⟩
    · exact ⟨.runtimePanic, .panic⟩
    · split
      · exact ⟨.runtimePanic, .panic⟩
      · exact ⟨Loc.prog.bind fun p => (Loc.nilAhead _ _ _ _).bind fun b => by
            split
            · exact (Loc.halt _).bind fun _ => .pure _
            · exact .pure _, Yl.bind fun p => Yl.bind fun b => by
            split
            · exact Yl.bind fun _ => .pure _
            · exact .pure _⟩
      · exact ⟨.pure _, .pure _⟩
    · exact ⟨.pure _, .pure _⟩
  · rename_i x y z ho; rw [ho]; exact ⟨(Loc.fieldAt _ _ _).bind fun _ => .pure _, Yl.val⟩
  · rename_i x y ho; rw [ho]; exact ⟨(Loc.loadAt _ _).bind fun _ => .pure _, Yl.val⟩
  · rename_i x y z ho; rw [ho]; exact ⟨(Loc.storeAt _ _ _).bind fun _ => .pure _, Yl.skip⟩
  · cases h
end
section
variable {F : Fence} {n : Nat} {P : Program} {ops : Array Oper} {Q : Exit → Act → World → Prop} {md : Region.Mode}
theorem easy_about {o : Oper} (h : easyOp o = true) (w : World) (ρ : Operand → Value) : o.about P w ρ = none := by
  unfold Oper.about
  unfold easyOp at h
  split at h <;> first | (rename_i ho; rw [ho]) | (rename_i x ho; rw [ho]) | (rename_i x y ho; rw [ho]) | (rename_i x y z ho; rw [ho]) | cases h
theorem easy_nd {o : Oper} (h : easyOp o = true) : (∀ c, o.op ≠ .defer c) ∧ ∀ cs b, o.op ≠ .select cs b := by
  unfold easyOp at h
  constructor
  · intro c e; rw [e] at h; cases h
  · intro c b e; rw [e] at h; cases h
/-- One easy operation, apart from the making of the map: whether that is made already makes no difference. -/
theorem wpOpIn_psh {j : Nat} {oi oj : Oper} (hj : ops[j]? = some oj) (he : easyOp oj = true) (hap : oi.apart ops oj = true) (hQ : ∀ c a w, ¬ Q (.panic c) a w) {K : Act → World → Prop} {a : Act} {w : World}
    (h : wpOpIn F n P ops Q j K (a.put oi.dst (.map (some w.heap.size))) (psh w)) :
    wpOpIn F n P ops Q j (fun a' w' => K (a'.put oi.dst (.map (some w'.heap.size))) (psh w')) a w := by
  obtain ⟨h1, h2, h3⟩ := Oper.apart_spec hap
  obtain ⟨n1, n2⟩ := easy_nd he
  unfold wpOpIn at *
  simp only [hj] at *
  rw [wanted_put oj a oi.dst _ h1] at h
  split
  · rename_i hw
    simp only [hw, if_true] at h
    refine ⟨fun f hf => (by rw [easy_about he] at hf; cases hf), ?_⟩
    have h' := h.2
    rw [Oper.semAt_eq _ _ _ n1] at h' ⊢
    rw [execOp_put oj n2 a oi.dst _ h1] at h'
    cases hr : (execOp a.eval oj).run P (psh w) with
    | halt x w' =>
      rw [hr] at h'
      cases x <;> simp only [Oper.uponIn] at h'
      exact absurd h' (hQ _ _ _)
    | ok x w1 =>
      rw [hr] at h'
      obtain ⟨w', e1, rfl, e2⟩ := (easy_loc he a.eval).1 _ _ _ hr
      rw [e1]
      rcases (easy_loc he a.eval).2 _ _ _ hr with ⟨u, rfl⟩ | rfl
      · simp only [Oper.uponIn] at h' ⊢
        rw [e2, ← Act.put_comm a _ u h2]
        exact h'
      · simp only [Oper.uponIn] at h' ⊢
        rw [e2, ← Act.put_comm a _ undef h2]
        exact h'
  · rename_i hw
    simp only [hw] at h
    refine ⟨fun f hf => (by rw [easy_about he] at hf; cases hf), ?_⟩
    rw [← Act.put_comm a _ undef h2]
    exact h.2
/-- The making of an empty map may be taken first. -/
theorem wpAnyIn_new {i : Nat} {oi : Oper} {t : TypeId} (hi : ops[i]? = some oi) (hop : oi.op = .makeMap t none) (hg : oi.guard = none) (hQ : ∀ c a w, ¬ Q (.panic c) a w) :
    ∀ (fuel : Nat) (listed : Array Bool) (a : Act) (w : World),
      (∀ j oj, ops[j]? = some oj → j ≠ i → listed.getD j true = false → (∀ e ∈ oj.after, Region.binds md e = true → e.on ≠ i) → oi.apart ops oj = true ∧ easyOp oj = true) →
      i ∈ Region.ready md ops listed →
      wpAnyIn F n P md ops Q fuel (listed.setIfInBounds i true) (a.put oi.dst (.map (some w.heap.size))) (psh w) → wpAnyIn F n P md ops Q (fuel + 1) listed a w := by
  have first : ∀ {K : Act → World → Prop} {a : Act} {w : World}, K (a.put oi.dst (.map (some w.heap.size))) (psh w) → wpOpIn F n P ops Q i K a w := by
    intro K a w h
    unfold wpOpIn
    simp only [hi]
    rw [if_pos (by unfold Region.wanted; rw [hg])]
    refine ⟨fun f hf => (by unfold Oper.about at hf; rw [hop] at hf; cases hf), ?_⟩
    rw [Oper.semAt_eq _ _ _ (by intro c e; rw [hop] at e; cases e)]
    unfold execOp
    rw [hop]
    exact h
  intro fuel
  induction fuel with
  | zero =>
    intro listed a w _ hr H
    refine ⟨fun h => (by rw [h] at hr; cases hr), fun j hj => ?_⟩
    by_cases hji : j = i
    · subst hji; exact first H
    · have := ready_mono hj hji
      rw [H.1] at this
      cases this
  | succ fuel ih =>
    intro listed a w hfree hr H
    refine ⟨fun h => (by rw [h] at hr; cases hr), fun j hj => ?_⟩
    by_cases hji : j = i
    · subst hji; exact first H
    · have h1 := H.2 j (ready_mono hj hji)
      obtain ⟨hjun, oj, hoj, hall⟩ := mem_ready.1 hj
      have hnot : ∀ e ∈ oj.after, Region.binds md e = true → e.on ≠ i := fun e he hb heq => by
        have h1 := hall e he hb
        have h0 := (mem_ready.1 hr).1
        rw [heq] at h1
        rcases Nat.lt_or_ge i listed.size with h' | h'
        · simp [h'] at h0 h1; rw [h0] at h1; cases h1
        · simp [Array.getElem?_eq_none h'] at h1
      obtain ⟨f1, f2⟩ := hfree j oj hoj hji hjun hnot
      have h2 := wpOpIn_psh hoj f2 f1 hQ h1
      have hfree' : ∀ k ok, ops[k]? = some ok → k ≠ i → (listed.setIfInBounds j true).getD k true = false →
          (∀ e ∈ ok.after, Region.binds md e = true → e.on ≠ i) → oi.apart ops ok = true ∧ easyOp ok = true := fun k ok hk hki hun hno => by
        refine hfree k ok hk hki ?_ hno
        by_cases hjk : j = k
        · subst hjk; exact hjun
        · rw [getD_set_ne true hjk] at hun; exact hun
      refine wpOpIn_mono (fun a' w' h3 => ih (listed.setIfInBounds j true) a' w' hfree' (ready_mono hr (Ne.symm hji)) ?_) h2
      rw [Array.setIfInBounds_comm _ _ hji]
      exact h3
/-- Stands in the place of an operation that has been taken first. -/
def nopO : Oper := { dst := none, op := .assign (.const (.bool false)), type := 0, pos := "", after := #[], guard := none }
theorem set_ne {i j : Nat} (h : j ≠ i) : (ops.setIfInBounds i nopO)[j]? = ops[j]? := by
  rw [Array.getElem?_setIfInBounds, if_neg (Ne.symm h)]
theorem wanted_nop {i : Nat} {o : Oper} (hg : ∀ (g : Nat) (b : Bool), o.guard = some (g, b) → g ≠ i) (t : Array Value) : Region.wanted o (yielded (ops.setIfInBounds i nopO) t) = Region.wanted o (yielded ops t) := by
  unfold Region.wanted
  cases h : o.guard with
  | none => rfl
  | some x =>
    obtain ⟨g, b⟩ := x
    simp only []
    unfold yielded
    rw [set_ne (hg g b h)]
theorem ready_nop {i : Nat} {listed : Array Bool} (hl : listed.getD i true = true) (j : Nat) : j ∈ Region.ready md (ops.setIfInBounds i nopO) listed ↔ j ∈ Region.ready md ops listed := by
  rw [mem_ready, mem_ready]
  by_cases h : j = i
  · subst h
    rw [hl]; simp
  · rw [set_ne h]
theorem wpAnyIn_unnop {i : Nat} (hgd : ∀ (j : Nat) (o : Oper), ops[j]? = some o → ∀ (g : Nat) (b : Bool), o.guard = some (g, b) → g ≠ i) :
    ∀ (fuel : Nat) (listed : Array Bool) (a : Act) (w : World), listed.getD i true = true → wpAnyIn F n P md (ops.setIfInBounds i nopO) Q fuel listed a w → wpAnyIn F n P md ops Q fuel listed a w := by
  have nil : ∀ {listed : Array Bool}, listed.getD i true = true → (Region.ready md (ops.setIfInBounds i nopO) listed = [] ↔ Region.ready md ops listed = []) := fun hl => by
    simp only [List.eq_nil_iff_forall_not_mem, ready_nop hl]
  intro fuel
  induction fuel with
  | zero => intro listed a w hl H; exact ⟨(nil hl).1 H.1, H.2⟩
  | succ fuel ih =>
    intro listed a w hl H
    refine ⟨fun h => H.1 ((nil hl).2 h), fun j hj => ?_⟩
    have hji : j ≠ i := by
      intro e; subst e
      have := (mem_ready.1 hj).1
      rw [hl] at this; cases this
    have h1 := H.2 j ((ready_nop hl j).2 hj)
    refine wpOpIn_mono (fun a' w' h => ih _ a' w' (by rw [getD_set_ne true hji]; exact hl) h) ?_
    unfold wpOpIn at h1 ⊢
    rw [set_ne hji] at h1
    cases ho : ops[j]? with
    | none => rw [ho] at h1; exact h1
    | some o =>
      rw [ho] at h1
      simp only [] at h1 ⊢
      rw [wanted_nop (hgd j o ho)] at h1
      exact h1
theorem wpAnyIn_nop {i fuel : Nat} {a : Act} {w : World} (hi : i < ops.size) (hgd : ∀ (j : Nat) (o : Oper), ops[j]? = some o → ∀ (g : Nat) (b : Bool), o.guard = some (g, b) → g ≠ i)
    (H : wpAnyIn F n P md (ops.setIfInBounds i nopO) Q (fuel + 1) (Array.replicate ops.size false) a w) : wpAnyIn F n P md ops Q fuel ((Array.replicate ops.size false).setIfInBounds i true) a w := by
  have hr : i ∈ Region.ready md (ops.setIfInBounds i nopO) (Array.replicate ops.size false) := mem_ready.2 ⟨by simp [hi], nopO, by simp [hi], by simp [nopO]⟩
  have h1 := H.2 i hr
  unfold wpOpIn at h1
  have e : (ops.setIfInBounds i nopO)[i]? = some nopO := by simp [hi]
  rw [e] at h1
  simp only [] at h1
  rw [if_pos (by rfl)] at h1
  have h2 : wpAnyIn F n P md (ops.setIfInBounds i nopO) Q fuel ((Array.replicate ops.size false).setIfInBounds i true) a w := by
    have h3 := h1.2
    rw [Oper.semAt_eq _ _ _ (by intro c e; cases e)] at h3
    exact h3
  exact wpAnyIn_unnop hgd fuel _ a w (by simp [hi]) h2
end
end Go.Abs
/- Regions that draw their order; functions; rounds. -/
namespace Go.Abs

/-- Does an operation look at the heap, or turn it? -/
def heapOp (o : Oper) : Bool :=
  match o.op with
  | .load _ _ | .store _ _ _ | .alloc _ | .box _ _ | .buildSlice _ _ _ | .makeSlice _ _ _ | .slice _ _ _ _ _ | .makeMap _ _ | .lookup _ _ _ _ | .mapUpdate _ _ _ _ => true
  | .call c => match c.callee with
    | .builtin .len | .builtin .min | .builtin .max => false
    | _ => true
  | _ => false

/-- Do operations i and j come up in either order? -/
def unord (bf : Array Nat) (i j : Nat) : Bool := !(bf.getD j 0).testBit i && !(bf.getD i 0).testBit j
/-- May an operation turn a block that was there? -/
def mayWrite (o : Oper) : Bool :=
  match o.op with
  | .store _ _ _ | .mapUpdate _ _ _ _ | .makeMap _ _ => true
  | .call c => match c.callee with
    | .builtin .len | .builtin .min | .builtin .max => false
    | _ => true
  | _ => false
/-- The temporary that leads to the block to which a temporary leads that was given ahead of operation b: itself, if no operation of the region turns it; or, field by field, the one of which it is a field. -/
def ldChain (ops : Array Oper) : Nat → Tmp → Nat → Option Tmp
  | 0, _, _ => none
  | f + 1, u, b =>
    if ops.all fun x => !(x.dst == some u) then some u else
    match ops.toList.zipIdx.filter fun x => x.1.dst == some u with
    | [x] => match x.1.op with
      | .fieldAddr _ (.tmp t) _ => if x.2 < b then ldChain ops f t x.2 else none
      | _ => none
    | _ => none
def ldBase (ops : Array Oper) (u : Tmp) : Option Tmp :=
  if ops.all fun x => !(x.dst == some u) then some u else
  match ops.toList.zipIdx.filter fun x => x.1.dst == some u with
  | [x] => match x.1.op with
    | .fieldAddr _ (.tmp t) _ => if ops.toList.zipIdx.all fun y => (match y.1.op with
        | .load _ (.tmp u') => u' != u
        | _ => true) || decide (x.2 < y.2) then ldChain ops 4 t x.2 else none
    | _ => none
  | _ => none
/-- The temporary that leads to the block out of which an operation loads. -/
def ldTmp (ops : Array Oper) (o : Oper) : Option Tmp :=
  match o.op with
  | .load _ (.tmp u) => ldBase ops u
  | _ => none
/-- Does an operation load by a temporary that no operation of the region turns? -/
def ldOwn (ops : Array Oper) (o : Oper) : Bool :=
  match o.op with
  | .load _ (.tmp u) => ops.all fun x => !(x.dst == some u)
  | _ => false
def isStore (o : Oper) : Bool :=
  match o.op with
  | .store _ _ _ => true
  | _ => false
/-- Is operation i a load out of a block that was there ahead of the region, in either order with one that may write? -/
def isLd0 (ops : Array Oper) (bf : Array Nat) (i : Nat) (o : Oper) : Bool :=
  (ldTmp ops o).isSome && ops.toList.zipIdx.any fun x => x.2 != i && unord bf i x.2 && mayWrite x.1 && (ldOwn ops o || isStore x.1)
def ldPtr (o : Oper) : Option Tmp :=
  match o.op with
  | .load _ (.tmp u) => some u
  | _ => none
def isApp (o : Oper) : Bool :=
  match o.op with
  | .call c => match c.callee with
    | .builtin .append => true
    | _ => false
  | _ => false
def isLoad (o : Oper) : Bool :=
  match o.op with
  | .load _ _ => true
  | _ => false
def isCallF (o : Oper) : Bool :=
  match o.op with
  | .call c => match c.callee with
    | .value _ => true
    | _ => false
  | _ => false
/-- Does a temporary lead to a block that was there ahead of the region? (by the text alone) -/
def oldT (ops : Array Oper) : Nat → Tmp → Bool
  | 0, _ => false
  | f + 1, u =>
    if ops.all fun x => !(x.dst == some u) then true else
    match ops.toList.zipIdx.filter fun x => x.1.dst == some u with
    | [x] => match x.1.op with
      | .fieldAddr _ (.tmp t) _ => oldT ops f t
      | .nilCheck (.tmp t) => oldT ops f t
      | .move (.tmp t) => oldT ops f t
      | _ => false
    | _ => false
/-- Is operation i a load that stands ahead of all that may write and come up in either order with it, by a temporary that is not turned from it on? -/
def isLate (ops : Array Oper) (bf : Array Nat) (i : Nat) (o : Oper) : Bool :=
  !isLd0 ops bf i o && (match ldPtr o with
  | some u => (ops.toList.zipIdx.any fun x => x.2 != i && unord bf i x.2 && (isStore x.1 || isApp x.1 || (isCallF x.1 && oldT ops 6 u))) &&
      (ops.toList.zipIdx.all fun x => (!unord bf i x.2 || decide (i < x.2) || !heapOp x.1 || isLoad x.1) && (decide (x.2 < i) || !(x.1.dst == some u)))
  | none => false)
def isLd (ops : Array Oper) (bf : Array Nat) (i : Nat) (o : Oper) : Bool := isLd0 ops bf i o || isLate ops bf i o
def hidT (ops : Array Oper) (bf : Array Nat) (i : Nat) (o : Oper) : Option Tmp := if isLate ops bf i o then ldPtr o else ldTmp ops o
/-- The temporaries of such loads that come up in either order with operation j. -/
def hidOf (ops : Array Oper) (bf : Array Nat) (j : Nat) : List Tmp :=
  ops.toList.zipIdx.filterMap fun x => if isLd ops bf x.2 x.1 && unord bf x.2 j then hidT ops bf x.2 x.1 else none
def encT : List Tmp → Nat
  | [] => 0
  | t :: l => t + 1 + 65536 * encT l
def decT : Nat → Nat → List Tmp
  | 0, _ => []
  | f + 1, n => if n = 0 then [] else (n % 65536 - 1) :: decT f (n / 65536)
def blkO : Value → Option Nat
  | .pointer (some a) => some a.block
  | _ => none
/-- Does an operation load out of an old block? -/
def oldP (s0 : Nat) (o : Oper) (a : Act) : Bool :=
  match ldPtr o with
  | some u => match blkO (a.tmps.getD u undef) with
    | some b => decide (b < s0)
    | none => false
  | none => false
/-- The blocks that these lead to. -/
def hidB (a : Act) (l : List Tmp) : List Nat := l.filterMap fun t => blkO (a.tmps.getD t undef)
def Hp.hideL (h : Hp) : List Nat → Hp
  | [] => h
  | b :: l => (h.hideL l).setB b none
/-- A heap, with some blocks as they were. -/
def Hp.backL (h0 h : Hp) : List Nat → Hp
  | [] => h
  | b :: l => (Hp.backL h0 h l).setB b (h0.get b)
/-- May operation j write: is it ordered against each other one that looks at the heap? -/
def ordered (bf : Array Nat) (hs : List (Nat × Bool)) (j : Nat) : Bool :=
  hs.all fun (i, hp) => !hp || i == j || (if i < j then (bf.getD j 0).testBit i else (bf.getD i 0).testBit j)

/-- All addresses in a value are of blocks that p lets by. -/
def vokB (p : Nat → Bool) : Value → Bool
  | .pointer (some a) => p a.block
  | .slice (some a) _ _ => p a.block
  | .map (some r) => p r
  | .chan (some _) => false
  | .func f x y => (match f with | .yield l => p l | _ => true) && (x.attach.all fun ⟨v, _⟩ => vokB p v) && (y.attach.all fun ⟨v, _⟩ => vokB p v)
  | .iface _ v => vokB p v
  | .agg cs => cs.attach.all fun ⟨v, _⟩ => vokB p v
  | .tuple vs => vs.attach.all fun ⟨v, _⟩ => vokB p v
  | _ => true
termination_by v => SizeOf.sizeOf v
decreasing_by
  all_goals simp_wf
  all_goals first
    | omega
    | (rename_i h; have := Array.sizeOf_lt_of_mem h; omega)

def Hp.hideR (h : Hp) (lo : Nat) : Nat → Hp
  | 0 => h
  | n + 1 => (h.hideR lo n).setB (lo + n) none
/-- The ranges of numbers that operations have given away: those of operations outside of 'bits' are hidden. -/
def Hp.hideAll (h : Hp) (bits : Nat) : List (Nat × Nat × Nat) → Hp
  | [] => h
  | x :: l => if bits.testBit x.1 then h.hideAll bits l else (h.hideAll bits l).hideR x.2.1 (x.2.2 - x.2.1)
/-- What an operation that does not write sees: the old blocks, and those that operations ahead of it have made. -/
def Hp.view (h : Hp) (bits : Nat) (kept : List (Nat × Nat × Nat)) : Hp := { h.hideAll bits kept with ro := h.size }
/-- The blocks of cells from lo on, out of another heap, as far as their addresses are let by. -/
def keepBlk (p : Nat → Bool) : Option Blk → Option Blk
  | some (.cells cs own) => if cs.all (vokB p) then some (.cells cs own) else none
  | _ => none
def Hp.takeR (h g : Hp) (p : Nat → Bool) (lo : Nat) : Nat → Hp
  | 0 => h
  | n + 1 => (h.takeR g p lo n).setB (lo + n) (keepBlk p (g.get (lo + n)))
def Hp.more (h g : Hp) (p : Nat → Bool) (flat : Bool) : Hp :=
  if flat then { h with size := g.size } else { h.takeR g p h.size (g.size - h.size) with size := g.size }

/-- Which numbers may stand in what an operation gives: the old ones, its own, and those of operations ahead of it. -/
def allow (s0 : Nat) (kept : List (Nat × Nat × Nat)) (bits : Nat) (id : Nat) : Bool :=
  decide (id < s0) || kept.any fun x => bits.testBit x.1 && (decide (x.2.1 ≤ id) && decide (id < x.2.2))

/-- All that look at the heap behind operation j are ordered. -/
def straight (bf : Array Nat) (hs : List (Nat × Bool)) (j : Nat) : Bool := hs.all fun x => !x.2 || decide (x.1 ≤ j) || ordered bf hs x.1
/-- A load beside which a load comes up in either order. -/
def ldBeside (ops : Array Oper) (bf : Array Nat) (j : Nat) (o : Oper) : Bool := (match o.op with | .load _ _ => true | _ => false) && !(hidOf ops bf j).isEmpty && (ops.toList.take j).any mayWrite
/-- Operation j writes at once. -/
def direct (ops : Array Oper) (bf : Array Nat) (hs : List (Nat × Bool)) (j : Nat) (o : Oper) : Bool :=
  (mayWrite o || ldBeside ops bf j o) && ordered bf hs j && straight bf hs j && (decT 8 (encT (hidOf ops bf j)) == hidOf ops bf j)

/-- A call beside such loads: it may only look; else it writes, their blocks hidden. -/
def encL (bf : Array Nat) (hid : List Tmp) (j : Nat) : Nat := bf.getD j 0 + 2 ^ 128 * encT hid
def look1 (ops : Array Oper) (bf : Array Nat) (j : Nat) (o : Oper) : Bool :=
  isCallF o && !(hidOf ops bf j).isEmpty && (encL bf (hidOf ops bf j) j % 2 ^ 128 == bf.getD j 0 && encL bf (hidOf ops bf j) j / 2 ^ 128 == encT (hidOf ops bf j))

/-- What is asked of the text of a region that draws its order: the order that the edges lay lets no two operations that touch a temporary come up in either order. -/
def drawOk (ops : Array Oper) : Bool :=
  let bf := Region.before ops
  (List.range ops.size).all fun j => match ops[j]? with
    | some o =>
      (o.after.all fun e => !Region.binds .any e || decide (e.on < j)) &&
      ((List.range ops.size).all fun k => !(bf.getD j 0).testBit k || o.after.any fun e => Region.binds .any e && (e.on == k || (bf.getD e.on 0).testBit k)) &&
      ((List.range j).all fun i => (bf.getD j 0).testBit i || match ops[i]? with | some x => x.apart ops o | none => true)
    | none => true

def isMk (o : Oper) : Bool :=
  match o.op with
  | .makeMap _ none => true
  | _ => false
/-- May operation i, the making of an empty map, be taken first; and does a store come up in either order with it? -/
def newAt (ops : Array Oper) (i : Nat) : Bool :=
  match ops[i]? with
  | some oi => isMk oi && oi.guard.isNone && oi.after.isEmpty &&
      ((List.range ops.size).all fun j => j == i || match ops[j]? with
        | some o => (match o.guard with | some (g, _) => g != i | none => true) && ((o.after.any fun e => Region.binds .any e && e.on == i) || (easyOp o && oi.apart ops o))
        | none => true) &&
      ((List.range ops.size).any fun j => unord (Region.before ops) i j && match ops[j]? with | some o => isStore o | none => false) &&
      drawOk (ops.setIfInBounds i nopO)
  | none => false
def newOp (ops : Array Oper) : Option Nat := if ops.any isMk then (List.range ops.size).find? (newAt ops) else none

section
variable {R : Type} (P : Program) (call : CallF)

structure DS where
  v : Value
  h : Hp
  kept : List (Nat × Nat × Nat)
  wr : Bool

/-- An operation that does not write. -/
def drawLook (bf : Array Nat) (s0 : Nat) (j : Nat) (o : Oper) (a : Act) (h : Hp) (kept : List (Nat × Nat × Nat)) (wr : Bool) : Option DS :=
  if wr then none else
  match opVal P call o a (h.view (bf.getD j 0) kept) with
  | some (v, h1) =>
    let p := allow s0 ((j, h.size, h1.size) :: kept) (bf.getD j 0 ||| 2 ^ j)
    if decide (h.size ≤ h1.size) && vokB p v then some ⟨v, h.more h1 p (flatB v), (j, h.size, h1.size) :: kept, false⟩ else none
  | none => none

def drawWrite (bf : Array Nat) (s0 : Nat) (j : Nat) (o : Oper) (a : Act) (h : Hp) (kept : List (Nat × Nat × Nat)) (hid : List Nat) : Option DS :=
  match opVal P call o a (h.hideL hid) with
  | some (v, h') => if decide (h.size ≤ h'.size) && vokB (allow s0 ((j, h.size, h'.size) :: kept) (bf.getD j 0 ||| 2 ^ j)) v then some ⟨v, Hp.backL h h' hid, (j, h.size, h'.size) :: kept, true⟩ else none
  | none => none
def drawStep (ops : Array Oper) (bf : Array Nat) (hs : List (Nat × Bool)) (s0 : Nat) (j : Nat) (o : Oper) (a : Act) (h : Hp) (kept : List (Nat × Nat × Nat)) (wr : Bool) : Option DS :=
  if Region.wanted o (yielded ops a.tmps) then
    if heapOp o then
      if isLd ops bf j o then
        match opVal P call o a h with
        | some (v, _) => if vokB (allow s0 [] 0) v && (!isLate ops bf j o || oldP s0 o a) then some ⟨v, h, kept, wr⟩ else none
        | none => none
      else if direct ops bf hs j o then
        match (if look1 ops bf j o then drawLook P call bf s0 j o a h kept wr else none) with
        | some d => some d
        | none => drawWrite P call bf s0 j o a h kept (hidB a (decT 8 (encT (hidOf ops bf j))))
      else
      match drawLook P call bf s0 j o a h kept wr with
      | some d => some d
      | none => if ordered bf hs j && (hidOf ops bf j).isEmpty then drawWrite P call bf s0 j o a h kept [] else none
    else
      match aPure P a.eval o with
      | some v => if vokB (allow s0 kept (bf.getD j 0)) v then some ⟨v, h, kept, wr⟩ else none
      | none => none
  else some ⟨undef, h, kept, wr⟩
def evalDrawL (ops : Array Oper) (bf : Array Nat) (hs : List (Nat × Bool)) (s0 : Nat) : List Oper → Nat → Act → Hp → List (Nat × Nat × Nat) → Bool → (Act → Hp → Option R) → Option R
  | [], _, a, h, _, _, K => K a h
  | o :: l, j, a, h, kept, wr, K =>
    match drawStep P call ops bf hs s0 j o a h kept wr with
    | some d => evalDrawL ops bf hs s0 l (j + 1) (a.put o.dst d.v) d.h d.kept d.wr K
    | none => none

def heapOps (ops : Array Oper) (bf : Array Nat) : List (Nat × Bool) := ops.toList.zipIdx.map fun x => (x.2, heapOp x.1 && !isLd ops bf x.2 x.1)

def evalDraw0 (ops : Array Oper) (a : Act) (h : Hp) (K : Act → Hp → Option R) : Option R :=
  evalDrawL P call ops (Region.before ops) (heapOps ops (Region.before ops)) h.size ops.toList 0 a h [] false K
/-- The making of an empty map with which stores come up in either order is taken first. -/
def evalDraw (ops : Array Oper) (a : Act) (h : Hp) (K : Act → Hp → Option R) : Option R :=
  match newOp ops with
  | none => evalDraw0 P call ops a h K
  | some i => evalDraw0 P call (ops.setIfInBounds i nopO) (a.put ((ops[i]?).bind (·.dst)) (.map (some h.size))) (h.push (some (.map #[] 0))) K

abbrev Intr := FuncId → Option (Array Value → Hp → Option (Value × Hp))

/-- A deferred call's run. -/
def evalDef (n : Nat) : DCall := fun g args h =>
  match P.funcs[g]? with
  | some fn =>
    match fn.body with
    | some c =>
      evalC P call (evalDraw P call) none n c { tmps := args ++ Array.replicate (fn.ntmps - args.size) undef, defers := [] } h fun e a h => match e with
        | .normal => if a.defers.isEmpty then (aResults P fn a.tmps h).map fun v => (v, h) else none
        | .ret => if a.defers.isEmpty then (aResults P fn a.tmps h).map fun v => (v, h) else none
        | _ => none
    | none => none
  | none => none

def evalV (intr : Intr) : Nat → CallF
  | 0, _, _, _ => none
  | n + 1, .fn f, args, h =>
    match intr f with
    | some g => g args h
    | none =>
      match P.funcs[f]? with
      | some fn =>
        match fn.body with
        | some c =>
          evalC P (evalV intr n) (evalDraw P (evalV intr n)) none n c { tmps := args ++ Array.replicate (fn.ntmps - args.size) undef, defers := [] } h fun e a h => match e with
            | .normal => finish P (evalDef P (evalV intr n) n) fn a h
            | .ret => finish P (evalDef P (evalV intr n) n) fn a h
            | _ => none
        | none => none
      | none => none
  | n + 1, .yield l, args, h =>
    match h.get l with
    | some (.loop _ _ tm ps asg body _) =>
      if args.size ≠ ps.size then none else
      evalC P (evalV intr n) (evalDraw P (evalV intr n)) (some l) n asg { tmps := (ps.zip args).foldl (fun tmps x => tmps.setIfInBounds x.1 x.2) tm, defers := [] } h fun e a h => match e with
        | .normal =>
          match beginR l h with
          | some h =>
            evalC P (evalV intr n) (evalDraw P (evalV intr n)) (some l) n body a h fun e _ h => match e with
              | .normal => endR l none h
              | .ret => endR l (some .ret) h
              | .exit id => endR l (some (.exit id)) h
              | _ => none
          | none => none
        | _ => none
    | _ => none

end

section
variable {P : Program} {CK : Code → Prop} {β : Bm} {h : Hp} {w : World}

def IntrOk (P : Program) (CK : Code → Prop) (intr : Intr) : Prop :=
  ∀ f g, intr f = some g → ∀ args h v h', g args h = some (v, h') → ∀ β w, Rel P CK β h w → (∀ a ∈ args, vok h.size a) → CallsIn (FW none) 0 P f (args.map (ren β)) w (Post P CK β h w v h')

/-- What is claimed of deferred calls. -/
def DCOk (P : Program) (CK : Code → Prop) (dc : DCall) : Prop :=
  ∀ g args h v h', dc g args h = some (v, h') → ∀ β w u, Rel P CK β h w → (∀ a ∈ args, vok h.size a) → (∀ w, (callFunc g (args.map (ren β))).run P w = .ok (.enter g (args.map (ren β))) w) ∧
    CallsDIn (FW none) (0 - 1) P g (args.map (ren β)) u w fun e u' w' => u' = u ∧ ∃ β', (∃ v, e = .returned v) ∧ St P CK β h w β' h' w'

/-- The marks and the deferred calls, on the way out. -/
theorem marks_run {dc : DCall} (hdc : DCOk P CK dc) {fn : Func} {tmps : Array Value} {R : Ending → World → Prop} : ∀ (ds : List Deferred) (β : Bm) (h : Hp) (w : World) (h' : Hp), Rel P CK β h w → (∀ d ∈ ds, dok h.size d) →
    takeMarks dc ds h = some h' → (∀ β' w', St P CK β h w β' h' w' → LeavesIn (FW none) 0 P fn tmps R [] .returning w') → LeavesInM (FW none) 0 P fn tmps R (ds.map (renD β)) .returning w
  | [], β, h, w, h', r, _, ht, hq => by cases ht; exact hq β w (St.refl r)
  | d :: ds, β, h, w, h', r, hd, ht, hq => by
    rcases hd d (List.mem_cons_self) with ⟨q, rfl, hlt⟩ | ⟨g, cap, args, rfl, hcap, hargs⟩
    · simp only [takeMarks] at ht
      split at ht
      · rename_i hg
        split at ht
        · rename_i hro
          obtain ⟨o, ho, hok⟩ := r.blk _ _ hg
          simp only [BlkOk] at hok
          subst hok
          have s := St.set r hg rfl hro (.defd true) (.deferred none) rfl
          refine ⟨by simp, .inl ⟨(β q).B, _, rfl, ?_, marks_run hdc ds β _ _ h' s.rel (fun d hd' => ?_) ht fun β' w' s' => hq β' w' (s.trans s')⟩⟩
          · unfold Instr.takeDeferred
            have hgo : (getObj (β q).B).run P w = .ok (.deferred (some [])) w := by
              simp only [Bool.false_eq_true, if_false] at ho
              simp [getObj, Sem.run, ho]
            rw [run_then hgo]
            simp only []
            simp only [Bool.false_eq_true, if_false] at ho
            rw [run_then (setObj_run ho (fun _ _ _ e => by cases e)), run_ret]
          · exact dok_mono s.size (hd d (List.mem_cons_of_mem _ hd'))
        · cases ht
      · cases ht
    · simp only [takeMarks] at ht
      split at ht
      · rename_i v1 h1 he
        have hall : ∀ a ∈ args ++ cap, vok h.size a := fun a ha => by
          rcases Array.mem_append.1 ha with ha | ha
          · exact hargs a ha
          · exact hcap a ha
        obtain ⟨hin, hc⟩ := hdc g (args ++ cap) h v1 h1 he β w .returning r hall
        refine ⟨by simp, .inr ⟨fun hh => by simp [FW, Fence.wide] at hh, .func g, cap.map (ren β), g, (args ++ cap).map (ren β), rfl, ?_, fun _ _ => trivial, ?_⟩⟩
        · have := hin w
          rw [Array.map_append] at this ⊢
          exact this
        · refine CallsDIn.mono hc ?_
          rintro e u' w' ⟨rfl, β', ⟨v, rfl⟩, s⟩
          have e1 : ds.map (renD β) = ds.map (renD β') := List.map_congr_left fun d hd' => (renD_congr s.ext (hd d (List.mem_cons_of_mem _ hd'))).symm
          rw [e1]
          exact marks_run hdc ds β' h1 w' h' s.rel (fun d hd' => dok_mono s.size (hd d (List.mem_cons_of_mem _ hd'))) ht fun β'' w'' s' => hq β'' w'' (s.trans s')
      · cases ht

def resOf (tmps : Array Value) : ResultVar → Sem Value
  | .tmp t => pure (tmps.getD t undef)
  | .cell a t => do loadVar t (← asAddr (tmps.getD a undef))
theorem results_eq (fn : Func) (tmps : Array Value) : results fn tmps = (do
    let vs ← fn.results.mapM (resOf tmps)
    pure (if h : vs.size = 1 then vs[0] else .tuple vs)) := rfl

theorem result_run (r : Rel P CK β h w) {tmps : Array Value} (ht : ∀ v ∈ tmps, vok h.size v) {x : ResultVar} {v : Value} (hr : aResult P tmps h x = some v) :
    vok h.size v ∧ (resOf (tmps.map (ren β)) x).run P w = .ok (ren β v) w := by
  have hget : ∀ t, vok h.size (tmps.getD t undef) ∧ (tmps.map (ren β)).getD t undef = ren β (tmps.getD t undef) := by
    intro t
    simp only [Array.getD_eq_getD_getElem?, Array.getElem?_map]
    cases h' : tmps[t]? with
    | none => simp
    | some v => simp; exact ht v (Array.mem_of_getElem? h')
  cases x with
  | tmp t =>
    simp only [aResult, Option.some.injEq] at hr
    subst hr
    exact ⟨(hget t).1, by simp only [resOf]; rw [(hget t).2]; rfl⟩
  | cell a t =>
    simp only [aResult] at hr
    split at hr
    · rename_i b hb
      obtain ⟨h1, h2⟩ := loadVar_run r hr
      refine ⟨h2, ?_⟩
      simp only [resOf]
      rw [(hget a).2, hb, ren_pointer]
      exact h1
    · cases hr

theorem resultsL_run (r : Rel P CK β h w) {tmps : Array Value} (ht : ∀ v ∈ tmps, vok h.size v) : ∀ (l : List ResultVar) (vs : List Value), aResultsL P tmps h l = some vs →
    (∀ v ∈ vs, vok h.size v) ∧ (l.mapM (resOf (tmps.map (ren β)))).run P w = .ok (vs.map (ren β)) w
  | [], vs, h => by cases h; exact ⟨by simp, rfl⟩
  | x :: l, vs, h => by
    simp only [aResultsL] at h
    split at h
    · rename_i v hv
      rw [Option.map_eq_some_iff] at h
      obtain ⟨vs', hvs, rfl⟩ := h
      obtain ⟨h1, h2⟩ := result_run (β := β) r ht hv
      obtain ⟨h3, h4⟩ := resultsL_run r ht l vs' hvs
      refine ⟨fun u hu => ?_, ?_⟩
      · rcases List.mem_cons.1 hu with rfl | hu
        · exact h1
        · exact h3 u hu
      · rw [List.mapM_cons, run_then h2, run_then h4, run_ret, List.map_cons]
    · cases h

theorem results_run (r : Rel P CK β h w) {fn : Func} {tmps : Array Value} (ht : ∀ v ∈ tmps, vok h.size v) {v : Value} (hr : aResults P fn tmps h = some v) :
    vok h.size v ∧ (results fn (tmps.map (ren β))).run P w = .ok (ren β v) w := by
  unfold aResults at hr
  rw [results_eq, Array.mapM_eq_mapM_toList]
  split at hr
  · rename_i u hu
    cases hr
    obtain ⟨h1, h2⟩ := resultsL_run (β := β) r ht _ _ hu
    refine ⟨h1 v (by simp), ?_⟩
    have : (List.toArray <$> (fn.results.toList.mapM (resOf (tmps.map (ren β))))).run P w = .ok #[ren β v] w := by
      rw [Sem.run_map, h2]; rfl
    rw [run_then this, run_ret]; rfl
  · rename_i vs hne hu
    cases hr
    obtain ⟨h1, h2⟩ := resultsL_run (β := β) r ht _ _ hu
    refine ⟨by simpa using h1, ?_⟩
    have : (List.toArray <$> (fn.results.toList.mapM (resOf (tmps.map (ren β))))).run P w = .ok (vs.map (ren β)).toArray w := by
      rw [Sem.run_map, h2]; rfl
    rw [run_then this]
    have hsz : ¬ ((vs.map (ren β)).toArray.size = 1) := by
      intro e
      match vs, hne with
      | [], _ => simp at e
      | [x], hne => exact hne x rfl
      | x :: y :: l, _ => simp at e
    rw [dif_neg hsz, run_ret]
    simp
  · cases hr

theorem finish_sound {dc : DCall} (hdc : DCOk P CK dc) {fn : Func} (r : Rel P CK β h w) {a : Act} (ha : aok h.size a) {v : Value} {h' : Hp} (hf : finish P dc fn a h = some (v, h')) {R : Ending → World → Prop}
    (hR : ∀ β' w', St P CK β h w β' h' w' → vok h'.size v → R (.returned (ren β' v)) w') : LeavesInM (FW none) 0 P fn (renAct β a).tmps R (renAct β a).defers .returning w := by
  unfold finish at hf
  split at hf
  · rename_i h1 ht
    rw [Option.map_eq_some_iff] at hf
    obtain ⟨u, hu, e⟩ := hf
    obtain ⟨rfl, rfl⟩ := Prod.mk.inj e
    refine marks_run hdc a.defers β h w _ r ha.2 ht fun β' w' s => ?_
    obtain ⟨h2, h3⟩ := results_run s.rel (fun v hv => vok_mono s.size v (ha.1 v hv)) hu
    have e1 : (renAct β a).tmps = a.tmps.map (ren β') := (Array.map_congr_left fun v hv => (ren_congr s.ext v (ha.1 v hv)).symm)
    rw [e1]
    exact ⟨ren β' _, h3, hR β' w' s h2⟩
  · cases hf

end
end Go.Abs
/- The evaluator is sound: functions and rounds. -/
namespace Go.Abs
section
variable {P : Program} {dk : Array Oper → Bool} {β : Bm} {h : Hp} {w : World}

theorem begin_run {CK : Code → Prop} (r : Rel P CK β h w) {l : Nat} {h' : Hp} (hb : beginR l h = some h') :
    ∃ w', (Instr.beginRound (β l).B).run P w = .ok () w' ∧ St P CK β h w β h' w' := by
  unfold beginR at hb
  split at hb
  · rename_i pd tm ps asg body d hg
    split at hb
    · rename_i hro
      cases hb
      obtain ⟨o, ho, q1, q2, q3, q4, q5, fn', rfl⟩ := r.blk _ _ hg
      have s := St.set r hg rfl hro (.loop .busy pd tm ps asg body d)
        (.loop { state := .busy, pending := pd, fn := fn', tmps := tm.map (ren β), params := ps, assign := asg, body := body, defers := (β d).B }) ⟨q1, q2, q3, q4, q5, fn', rfl⟩
      refine ⟨_, ?_, s⟩
      unfold Instr.beginRound
      rw [run_then (getLoop_run ho), run_then (setObj_run ho (fun _ _ _ e => by cases e))]
      rfl
    · cases hb
  · cases hb

theorem end_run {CK : Code → Prop} (r : Rel P CK β h w) {l : Nat} {jump : Option Code} (hj : jump = none ∨ jump = some .ret ∨ ∃ id, jump = some (.exit id)) {v : Value} {h' : Hp} (he : endR l jump h = some (v, h')) :
    ∃ w', (Instr.endRound (β l).B jump).run P w = .ok (ren β v) w' ∧ vok h'.size v ∧ St P CK β h w β h' w' := by
  unfold endR at he
  split at he
  · rename_i st pd tm ps asg body d hg
    split at he
    · rename_i hro
      cases he
      obtain ⟨o, ho, q1, q2, q3, q4, q5, fn', rfl⟩ := r.blk _ _ hg
      have s := St.set r hg rfl hro (.loop (if jump.isNone then .ready else .done) jump tm ps asg body d)
        (.loop { state := if jump.isNone then .ready else .done, pending := jump, fn := fn', tmps := tm.map (ren β), params := ps, assign := asg, body := body, defers := (β d).B }) ⟨q1, q2, q3, q4, hj, fn', rfl⟩
      refine ⟨_, ?_, by simp, s⟩
      unfold Instr.endRound
      rw [run_then (getLoop_run ho), run_then (setObj_run ho (fun _ _ _ e => by cases e)), run_ret]
      simp
    · cases he
  · cases he

theorem fold_set (l : List (Tmp × Value)) : ∀ (tm : Array Value), (l.foldl (fun tmps x => tmps.setIfInBounds x.1 x.2) tm).map (ren β) = (l.map fun x => (x.1, ren β x.2)).foldl (fun tmps x => tmps.setIfInBounds x.1 x.2) (tm.map (ren β)) := by
  induction l with
  | nil => intro tm; rfl
  | cons x l ih => intro tm; rw [List.foldl_cons, ih, setC_map]; rfl

theorem fold_vok {n : Nat} (l : List (Tmp × Value)) : ∀ (tm : Array Value), (∀ v ∈ tm, vok n v) → (∀ x ∈ l, vok n x.2) → ∀ v ∈ l.foldl (fun tmps x => tmps.setIfInBounds x.1 x.2) tm, vok n v := by
  induction l with
  | nil => intro tm h _; exact h
  | cons x l ih =>
    intro tm h hl
    rw [List.foldl_cons]
    refine ih _ (fun v hv => ?_) fun y hy => hl y (List.mem_cons_of_mem _ hy)
    rcases mem_setC hv with rfl | hv
    · exact hl x List.mem_cons_self
    · exact h v hv

/-- Deferred calls are sound. -/
theorem evalDef_sound (pk : ProgOk P) (hcode : ∀ (f : FuncId) (fn : Func) (c : Code), P.funcs[f]? = some fn → fn.body = some c → codeOk P dk c = true)
    (hd : ∀ call, CallOk P (CKd P dk) call → DrawOk (R := Value × Hp) P (CKd P dk) dk (evalDraw P call)) {call : CallF} (ih : CallOk P (CKd P dk) call) (n : Nat) : DCOk P (CKd P dk) (evalDef P call n) := by
  intro f args h v h' he β w u r hargs
  unfold evalDef at he
  split at he
  · rename_i fn hfn
    split at he
    · rename_i c hc
      refine ⟨fun w => ?_, ?_⟩
      · have hn := pk.name f fn hfn (by rw [hc]; rfl)
        simp only [callFunc]
        rw [run_pureP (pureP_program (P := P))]
        simp only [hfn]
        rw [if_neg (by simpa using hn), if_neg (by simp [hc])]
        rw [run_ret]
      · have ha : aok h.size { tmps := args ++ Array.replicate (fn.ntmps - args.size) undef, defers := [] } := by
          refine ⟨fun v hv => ?_, fun d hd => by cases hd⟩
          rcases Array.mem_append.1 hv with hv | hv
          · exact hargs v hv
          · rw [(Array.mem_replicate.1 hv).2]; simp
        have hs := evalC_sound pk ih (hd _ ih) none n c (hcode f fn c hfn hc) β h w _ _ _ r ha (fun l hl => by cases hl) he
        have e1 : renAct β { tmps := args ++ Array.replicate (fn.ntmps - args.size) undef, defers := [] } = { tmps := args.map (ren β) ++ Array.replicate (fn.ntmps - (args.map (ren β)).size) undef, defers := [] } := by
          simp [renAct]
        rw [e1] at hs
        have fin : ∀ (e : Exit) (aa : Act) (hh : Hp) (β' : Bm) (w' : World), (if aa.defers.isEmpty then (aResults P fn aa.tmps hh).map fun v => (v, hh) else none) = some (v, h') → aok hh.size aa → St P (CKd P dk) β h w β' hh w' →
            (renAct β' aa).defers = [] ∧ ∃ u, (results fn (renAct β' aa).tmps).run P w' = .ok u w' ∧ ∃ β', (∃ v, Ending.returned u = .returned v) ∧ St P (CKd P dk) β h w β' h' w' := by
          intro e aa hh β' w' h1 h3 h4
          split at h1
          · rename_i hem
            rw [Option.map_eq_some_iff] at h1
            obtain ⟨x, hx, e⟩ := h1
            obtain ⟨rfl, rfl⟩ := Prod.mk.inj e
            obtain ⟨g1, g2⟩ := results_run h4.rel h3.1 hx
            refine ⟨?_, _, g2, β', ⟨_, rfl⟩, h4⟩
            simp only [renAct]
            rw [List.isEmpty_iff.1 hem]; rfl
          · cases h1
        refine callsDIn_of_wp hfn hc trivial (wpIn_mono (F := FW (ctxB β none)) hs ?_) rfl
        intro e a' w' hends
        obtain ⟨aa, hh, β', h1, rfl, h3, h4⟩ := hends
        cases e <;> simp only [] at h1 <;> first | (cases h1; done) | skip
        · exact fin .normal aa hh β' w' h1 h3 h4
        · exact fin .ret aa hh β' w' h1 h3 h4
    · cases he
  · cases he

theorem evalV_sound (pk : ProgOk P) (hcode : ∀ (f : FuncId) (fn : Func) (c : Code), P.funcs[f]? = some fn → fn.body = some c → codeOk P dk c = true)
    (hd : ∀ call, CallOk P (CKd P dk) call → DrawOk (R := Value × Hp) P (CKd P dk) dk (evalDraw P call)) {intr : Intr} (hi : IntrOk P (CKd P dk) intr) :
    ∀ n, CallOk P (CKd P dk) (evalV P intr n) := by
  intro n
  induction n with
  | zero => intro t args h v h' he; simp [evalV] at he
  | succ n ih =>
    intro t args h v h' he β w r hargs htin
    cases t with
    | fn f =>
      simp only [evalV] at he
      split at he
      · rename_i g hg
        exact hi f g hg args h v h' he β w r hargs
      · split at he
        · rename_i fn hfn
          split at he
          · rename_i c hc
            have ha : aok h.size { tmps := args ++ Array.replicate (fn.ntmps - args.size) undef, defers := [] } := by
              refine ⟨fun v hv => ?_, fun d hd => by cases hd⟩
              rcases Array.mem_append.1 hv with hv | hv
              · exact hargs v hv
              · rw [(Array.mem_replicate.1 hv).2]; simp
            have hs := evalC_sound pk ih (hd _ ih) none n c (hcode f fn c hfn hc) β h w _ _ _ r ha (fun l hl => by cases hl) he
            have e1 : renAct β { tmps := args ++ Array.replicate (fn.ntmps - args.size) undef, defers := [] } = { tmps := args.map (ren β) ++ Array.replicate (fn.ntmps - (args.map (ren β)).size) undef, defers := [] } := by
              simp [renAct]
            rw [e1] at hs
            refine callsIn_of_wp_marks hfn hc trivial (wpIn_mono (F := FW (ctxB β none)) hs ?_) rfl
            · intro e a' w' hends
              obtain ⟨aa, hh, β', h1, rfl, h3, h4⟩ := hends
              cases e <;> simp only [] at h1 <;> first | (cases h1; done) | skip
              · exact finish_sound (evalDef_sound pk hcode hd ih n) h4.rel h3 h1 fun β'' w'' s hv => ⟨β'', rfl, hv, h4.trans s⟩
              · exact finish_sound (evalDef_sound pk hcode hd ih n) h4.rel h3 h1 fun β'' w'' s hv => ⟨β'', rfl, hv, h4.trans s⟩
          · cases he
        · cases he
    | yield l =>
      simp only [evalV] at he
      split at he
      · rename_i st pd tm ps asg body d hg
        split at he
        · cases he
        · rename_i hsz
          obtain ⟨o, ho, q1, q2, q3, q4, q5, fn', rfl⟩ := r.blk _ _ hg
          have ha : aok h.size { tmps := (ps.zip args).foldl (fun tmps x => tmps.setIfInBounds x.1 x.2) tm, defers := [] } := by
            refine ⟨?_, fun d hd => by cases hd⟩
            rw [← Array.foldl_toList]
            refine fold_vok _ _ q2 fun x hx => ?_
            have : x.2 ∈ args := by
              have := Array.mem_toList_iff.1 hx
              exact (Array.of_mem_zip this).2
            exact hargs _ this
          have hctx : ctxIn (some l) h.size := fun l' hl => by cases hl; exact htin
          have hs := evalC_sound pk ih (hd _ ih) (some l) n asg q3 β h w _ _ _ r ha hctx he
          have etm : (renAct β { tmps := (ps.zip args).foldl (fun tmps x => tmps.setIfInBounds x.1 x.2) tm, defers := [] }) =
              { tmps := (ps.zip (args.map (ren β))).foldl (fun tmps x => tmps.setIfInBounds x.1 x.2) (tm.map (ren β)), defers := [] } := by
            simp only [renAct, List.map_nil]
            congr 1
            rw [← Array.foldl_toList, fold_set, ← Array.foldl_toList]
            congr 1
            rw [Array.toList_zip, Array.toList_zip, Array.toList_map, List.zip_map_right]
            rfl
          refine ⟨fn', (ps.zip (args.map (ren β))).foldl (fun tmps x => tmps.setIfInBounds x.1 x.2) (tm.map (ren β)), asg, body, ?_, ?_⟩
          · unfold Instr.yield
            rw [run_then (getLoop_run ho)]
            simp only []
            rw [if_neg (by simpa using hsz), run_ret]
          · refine roundIn_of_wpIn trivial ?_
            rw [etm] at hs
            refine wpIn_mono (F := FW (ctxB β (some l))) hs ?_
            intro e a' w' hends
            obtain ⟨aa, hh, β', h1, rfl, h3, h4⟩ := hends
            cases e <;> simp only [] at h1 <;> first | (cases h1; done) | skip
            split at h1
            · rename_i h2 hbg
              obtain ⟨w2, hbr, s2⟩ := begin_run h4.rel hbg
              have el : (β' l).B = (β l).B := by rw [h4.ext l htin]
              rw [el] at hbr
              refine ⟨w2, hbr, ?_⟩
              have s42 := h4.trans s2
              obtain ⟨e1, e2⟩ := ctxB_step s42 hctx
              have hs2 := evalC_sound pk ih (hd _ ih) (some l) n body q4 β' h2 w2 aa _ _ s2.rel (aok_mono s2.size h3) e2 h1
              rw [e1] at hs2
              refine wpIn_mono (F := FW (ctxB β (some l))) hs2 ?_
              intro e a'' w3 hends2
              obtain ⟨ab, hb, γ, g1, rfl, g3, g4⟩ := hends2
              have el2 : (γ l).B = (β l).B := by rw [(s42.trans g4).ext l htin]
              cases e <;> simp only [] at g1 <;> first | (cases g1; done) | skip
              · obtain ⟨w4, k1, k2, k3⟩ := end_run g4.rel (.inl rfl) g1
                rw [el2] at k1
                exact ⟨_, w4, k1, γ, rfl, k2, (s42.trans g4).trans k3⟩
              · obtain ⟨w4, k1, k2, k3⟩ := end_run g4.rel (.inr (.inr ⟨_, rfl⟩)) g1
                rw [el2] at k1
                exact ⟨_, w4, k1, γ, rfl, k2, (s42.trans g4).trans k3⟩
              · obtain ⟨w4, k1, k2, k3⟩ := end_run g4.rel (.inr (.inl rfl)) g1
                rw [el2] at k1
                exact ⟨_, w4, k1, γ, rfl, k2, (s42.trans g4).trans k3⟩
            · cases h1
      · cases he

end
end Go.Abs
/- What vokB says; static demands on a region that draws its order. -/
namespace Go.Abs
section
variable {p q : Nat → Bool}
@[simp] theorem vokB_pointer (a : Addr) : vokB p (.pointer (some a)) = p a.block := by rw [vokB]
@[simp] theorem vokB_slice (a : Addr) (n c : Nat) : vokB p (.slice (some a) n c) = p a.block := by rw [vokB]
@[simp] theorem vokB_map (r : Nat) : vokB p (.map (some r)) = p r := by rw [vokB]
@[simp] theorem vokB_iface (t : TypeId) (v : Value) : vokB p (.iface t v) = vokB p v := by rw [vokB]

theorem all_attach (cs : Array Value) (f : Value → Bool) : (cs.attach.all fun ⟨v, _⟩ => f v) = cs.all f := by
  rw [Bool.eq_iff_iff]
  simp only [Array.all_eq_true_iff_forall_mem]
  constructor
  · intro h v hv; exact h ⟨v, hv⟩ (Array.mem_attach _ _)
  · rintro h ⟨v, hv⟩ _; exact h v hv
@[simp] theorem vokB_agg (cs : Array Value) : vokB p (.agg cs) = cs.all (vokB p) := by rw [vokB]; exact all_attach cs (vokB p)
@[simp] theorem vokB_tuple (cs : Array Value) : vokB p (.tuple cs) = cs.all (vokB p) := by rw [vokB]; exact all_attach cs (vokB p)
@[simp] theorem vokB_func (f : Fn) (x y : Array Value) : vokB p (.func f x y) = ((match f with | .yield l => p l | _ => true) && x.all (vokB p) && y.all (vokB p)) := by
  cases f <;> (rw [vokB]; first | rw [all_attach x (vokB p), all_attach y (vokB p)] | skip) <;> first | rfl | (intro l h; cases h) | skip

theorem vok_of_vokB {n : Nat} (h : ∀ b, p b = true → b < n) : ∀ v : Value, vokB p v = true → vok n v
  | .pointer none, _ => by simp
  | .pointer (some a), hv => by simp at hv ⊢; exact h _ hv
  | .slice none _ _, _ => by simp
  | .slice (some a) _ _, hv => by simp at hv ⊢; exact h _ hv
  | .map none, _ => by simp
  | .map (some r), hv => by simp at hv ⊢; exact h _ hv
  | .chan none, _ => by simp [vok]
  | .chan (some r), hv => by simp [vokB] at hv
  | .func f x y, hv => by
    simp only [vokB_func, Bool.and_eq_true, Array.all_eq_true_iff_forall_mem] at hv
    simp only [vok_func]
    refine ⟨?_, fun v hm => vok_of_vokB h v (hv.1.2 v hm), fun v hm => vok_of_vokB h v (hv.2 v hm)⟩
    have := hv.1.1
    cases f <;> simp_all [fnok]
  | .iface t v, hv => by simp only [vokB_iface] at hv; simp only [vok_iface]; exact vok_of_vokB h v hv
  | .agg cs, hv => by simp only [vokB_agg, Array.all_eq_true_iff_forall_mem] at hv; simp only [vok_agg]; exact fun v hm => vok_of_vokB h v (hv v hm)
  | .tuple cs, hv => by simp only [vokB_tuple, Array.all_eq_true_iff_forall_mem] at hv; simp only [vok_tuple]; exact fun v hm => vok_of_vokB h v (hv v hm)
  | .bool _, _ => by simp
  | .int _ _, _ => by simp
  | .float _ _, _ => by simp
  | .complex _ _ _, _ => by simp [vok]
  | .string _, _ => by simp
  | .nilFunc, _ => by simp
  | .nilIface, _ => by simp
termination_by v => SizeOf.sizeOf v
decreasing_by
  all_goals simp_wf
  all_goals first
    | omega
    | (have := Array.sizeOf_lt_of_mem hm; omega)

theorem vokB_of_vok {n : Nat} (h : ∀ b, b < n → p b = true) : ∀ v : Value, vok n v → vokB p v = true
  | .pointer none, _ => by simp [vokB]
  | .pointer (some a), hv => by simp at hv ⊢; exact h _ hv
  | .slice none _ _, _ => by simp [vokB]
  | .slice (some a) _ _, hv => by simp at hv ⊢; exact h _ hv
  | .map none, _ => by simp [vokB]
  | .map (some r), hv => by simp at hv ⊢; exact h _ hv
  | .chan none, _ => by simp [vokB]
  | .chan (some r), hv => by simp [vok] at hv
  | .func f x y, hv => by
    simp only [vokB_func, Bool.and_eq_true, Array.all_eq_true_iff_forall_mem]
    simp only [vok_func] at hv
    refine ⟨⟨?_, fun v hm => vokB_of_vok h v (hv.2.1 v hm)⟩, fun v hm => vokB_of_vok h v (hv.2.2 v hm)⟩
    have := hv.1
    cases f <;> simp_all [fnok]
  | .iface t v, hv => by simp only [vok_iface] at hv; simp only [vokB_iface]; exact vokB_of_vok h v hv
  | .agg cs, hv => by simp only [vokB_agg, Array.all_eq_true_iff_forall_mem]; simp only [vok_agg] at hv; exact fun v hm => vokB_of_vok h v (hv v hm)
  | .tuple cs, hv => by simp only [vokB_tuple, Array.all_eq_true_iff_forall_mem]; simp only [vok_tuple] at hv; exact fun v hm => vokB_of_vok h v (hv v hm)
  | .bool _, _ => by simp [vokB]
  | .int _ _, _ => by simp [vokB]
  | .float _ _, _ => by simp [vokB]
  | .complex _ _ _, _ => by simp [vokB]
  | .string _, _ => by simp [vokB]
  | .nilFunc, _ => by simp [vokB]
  | .nilIface, _ => by simp [vokB]
termination_by v => SizeOf.sizeOf v
decreasing_by
  all_goals simp_wf
  all_goals first
    | omega
    | (have := Array.sizeOf_lt_of_mem hm; omega)

theorem vokB_mono (h : ∀ b, p b = true → q b = true) : ∀ v : Value, vokB p v = true → vokB q v = true
  | .pointer none, _ => by simp [vokB]
  | .pointer (some a), hv => by simp at hv ⊢; exact h _ hv
  | .slice none _ _, _ => by simp [vokB]
  | .slice (some a) _ _, hv => by simp at hv ⊢; exact h _ hv
  | .map none, _ => by simp [vokB]
  | .map (some r), hv => by simp at hv ⊢; exact h _ hv
  | .chan none, _ => by simp [vokB]
  | .chan (some r), hv => by simp [vokB] at hv
  | .func f x y, hv => by
    simp only [vokB_func, Bool.and_eq_true, Array.all_eq_true_iff_forall_mem] at hv ⊢
    refine ⟨⟨?_, fun v hm => vokB_mono h v (hv.1.2 v hm)⟩, fun v hm => vokB_mono h v (hv.2 v hm)⟩
    have := hv.1.1
    cases f <;> simp_all
  | .iface t v, hv => by simp only [vokB_iface] at hv ⊢; exact vokB_mono h v hv
  | .agg cs, hv => by simp only [vokB_agg, Array.all_eq_true_iff_forall_mem] at hv ⊢; exact fun v hm => vokB_mono h v (hv v hm)
  | .tuple cs, hv => by simp only [vokB_tuple, Array.all_eq_true_iff_forall_mem] at hv ⊢; exact fun v hm => vokB_mono h v (hv v hm)
  | .bool _, _ => by simp [vokB]
  | .int _ _, _ => by simp [vokB]
  | .float _ _, _ => by simp [vokB]
  | .complex _ _ _, _ => by simp [vokB]
  | .string _, _ => by simp [vokB]
  | .nilFunc, _ => by simp [vokB]
  | .nilIface, _ => by simp [vokB]
termination_by v => SizeOf.sizeOf v
decreasing_by
  all_goals simp_wf
  all_goals first
    | omega
    | (have := Array.sizeOf_lt_of_mem hm; omega)

theorem ren_congrB {β γ : Bm} (h : ∀ b, p b = true → γ b = β b) : ∀ v : Value, vokB p v = true → ren γ v = ren β v
  | .pointer none, _ => by simp
  | .pointer (some a), hv => by simp at hv; simp [renA, h _ hv]
  | .slice none _ _, _ => by simp
  | .slice (some a) _ _, hv => by simp at hv; simp [renA, renCap, h _ hv]
  | .map none, _ => by simp
  | .map (some r), hv => by simp at hv; simp [h _ hv]
  | .chan none, _ => by simp [ren]
  | .chan (some r), hv => by simp [vokB] at hv
  | .func f x y, hv => by
    simp only [vokB_func, Bool.and_eq_true, Array.all_eq_true_iff_forall_mem] at hv
    simp only [ren_func]
    congr 1
    · have := hv.1.1
      cases f <;> simp_all [renFn]
    · exact Array.map_congr_left fun v hm => ren_congrB h v (hv.1.2 v hm)
    · exact Array.map_congr_left fun v hm => ren_congrB h v (hv.2 v hm)
  | .iface t v, hv => by simp only [vokB_iface] at hv; simp only [ren_iface]; rw [ren_congrB h v hv]
  | .agg cs, hv => by simp only [vokB_agg, Array.all_eq_true_iff_forall_mem] at hv; simp only [ren_agg]; congr 1; exact Array.map_congr_left fun v hm => ren_congrB h v (hv v hm)
  | .tuple cs, hv => by simp only [vokB_tuple, Array.all_eq_true_iff_forall_mem] at hv; simp only [ren_tuple]; congr 1; exact Array.map_congr_left fun v hm => ren_congrB h v (hv v hm)
  | .bool _, _ => by simp
  | .int _ _, _ => by simp
  | .float _ _, _ => by simp
  | .complex _ _ _, _ => by simp [ren]
  | .string _, _ => by simp
  | .nilFunc, _ => by simp
  | .nilIface, _ => by simp
termination_by v => SizeOf.sizeOf v
decreasing_by
  all_goals simp_wf
  all_goals first
    | omega
    | (have := Array.sizeOf_lt_of_mem hm; omega)
@[simp] theorem vokB_undef : vokB p undef = true := by simp [undef, vokB]
end

structure DrawFacts (ops : Array Oper) (bf : Array Nat) : Prop where
  lt : ∀ j o, ops[j]? = some o → ∀ e ∈ o.after, Region.binds .any e = true → e.on < j
  edge : ∀ j o, ops[j]? = some o → ∀ k, k < ops.size → (bf.getD j 0).testBit k = true → ∃ e ∈ o.after, Region.binds .any e = true ∧ (e.on = k ∨ (bf.getD e.on 0).testBit k = true)
  apart : ∀ i j x o, i < j → ops[i]? = some x → ops[j]? = some o → (bf.getD j 0).testBit i = true ∨ x.apart ops o = true

theorem drawOk_facts {ops : Array Oper} (h : drawOk ops = true) : DrawFacts ops (Region.before ops) := by
  unfold drawOk at h
  simp only [List.all_eq_true, List.mem_range] at h
  have hj : ∀ j o, ops[j]? = some o → j < ops.size := fun j o ho => (Array.getElem?_eq_some_iff.1 ho).1
  refine ⟨fun j o ho e he hb => ?_, fun j o ho k hk hbit => ?_, fun i j x o hij hx ho => ?_⟩
  · have := h j (hj j o ho)
    rw [ho] at this
    simp only [Bool.and_eq_true, Array.all_eq_true_iff_forall_mem] at this
    have h1 := this.1.1 e he
    rw [hb] at h1
    simpa using h1
  · have := h j (hj j o ho)
    rw [ho] at this
    simp only [Bool.and_eq_true, List.all_eq_true, List.mem_range] at this
    have h1 := this.1.2 k hk
    rw [hbit] at h1
    simp only [Bool.not_true, Bool.false_or, Array.any_eq_true] at h1
    obtain ⟨i, hi, h2⟩ := h1
    refine ⟨_, Array.getElem_mem hi, ?_⟩
    simpa using h2
  · have := h j (hj j o ho)
    rw [ho] at this
    simp only [Bool.and_eq_true, List.all_eq_true, List.mem_range] at this
    have h1 := this.2 i hij
    rw [hx] at h1
    simpa using h1

theorem mem_heapOps {ops : Array Oper} {bf : Array Nat} {i : Nat} {o : Oper} (ho : ops[i]? = some o) : (i, heapOp o && !isLd ops bf i o) ∈ heapOps ops bf := by
  unfold heapOps
  rw [List.mem_map]
  refine ⟨(o, i), ?_, rfl⟩
  rw [List.mem_zipIdx_iff_getElem?]
  simpa using ho

theorem ordered_spec {ops : Array Oper} {bf : Array Nat} {j : Nat} (h : ordered bf (heapOps ops bf) j = true) {i : Nat} {o : Oper} (ho : ops[i]? = some o) (hp : heapOp o = true) (hl : isLd ops bf i o = false) (hij : i ≠ j) :
    (i < j → (bf.getD j 0).testBit i = true) ∧ (j < i → (bf.getD i 0).testBit j = true) := by
  unfold ordered at h
  rw [List.all_eq_true] at h
  have := h _ (mem_heapOps ho)
  simp only [hp, hl, Bool.not_false, Bool.and_true, Bool.not_true, Bool.false_or, Bool.or_eq_true, beq_iff_eq, hij, false_or] at this
  split at this
  · rename_i hlt; exact ⟨fun _ => this, fun _ => by omega⟩
  · rename_i hlt; exact ⟨fun _ => by omega, fun _ => this⟩

/-! ### Blocks that are hidden -/
section
variable {P : Program} {CK : Code → Prop} {β β' : Bm} {h h' : Hp} {w w' : World}
theorem hideL_get (h : Hp) (b : Nat) : ∀ l : List Nat, (h.hideL l).get b = if b ∈ l then none else h.get b
  | [] => by simp [Hp.hideL]
  | c :: l => by
    simp only [Hp.hideL, Hp.get_setB, hideL_get h b l, List.mem_cons]
    by_cases h1 : b = c <;> by_cases h2 : b ∈ l <;> simp [h1, h2]
theorem hideL_size (h : Hp) : ∀ l : List Nat, (h.hideL l).size = h.size ∧ (h.hideL l).ro = h.ro
  | [] => ⟨rfl, rfl⟩
  | c :: l => by simp only [Hp.hideL, Hp.size_setB, Hp.ro_setB]; exact hideL_size h l
theorem backL_get (h0 h : Hp) (b : Nat) : ∀ l : List Nat, (Hp.backL h0 h l).get b = if b ∈ l then h0.get b else h.get b
  | [] => by simp [Hp.backL]
  | c :: l => by
    simp only [Hp.backL, Hp.get_setB, backL_get h0 h b l, List.mem_cons]
    by_cases h1 : b = c
    · subst h1; simp
    · by_cases h2 : b ∈ l <;> simp [h1, h2]
theorem backL_size (h0 h : Hp) : ∀ l : List Nat, (Hp.backL h0 h l).size = h.size ∧ (Hp.backL h0 h l).ro = h.ro
  | [] => ⟨rfl, rfl⟩
  | c :: l => by simp only [Hp.backL, Hp.size_setB, Hp.ro_setB]; exact backL_size h0 h l
theorem hideL_sub {l : List Nat} {b : Nat} {y : Blk} (hy : (h.hideL l).get b = some y) : h.get b = some y ∧ b ∉ l := by
  rw [hideL_get] at hy
  split at hy
  · cases hy
  · rename_i hb; exact ⟨hy, hb⟩
theorem hideL_own {l : List Nat} {b : Nat} (ho : (h.hideL l).own b) : h.own b ∧ b ∉ l := by
  obtain ⟨x, hx, hxo⟩ := ho
  exact ⟨⟨x, (hideL_sub hx).1, hxo⟩, (hideL_sub hx).2⟩
theorem Rel.hideL (r : Rel P CK β h w) (l : List Nat) : Rel P CK β (h.hideL l) w := by
  obtain ⟨s1, s2⟩ := hideL_size h l
  refine ⟨r.glob, by rw [s1]; exact r.gsize, fun b y hy => ?_, fun b b' hb hb' hne => ?_, fun b hb => ?_, by rw [s1, s2]; exact r.roLe⟩
  · rw [s1]; exact r.blk b y (hideL_sub hy).1
  · obtain ⟨y, hy⟩ := Option.ne_none_iff_exists'.1 hb'
    exact r.inj b b' (hideL_own hb).1 (by rw [(hideL_sub hy).1]; simp) hne
  · obtain ⟨y, hy⟩ := Option.ne_none_iff_exists'.1 hb
    rw [s1]; exact r.lt b (by rw [(hideL_sub hy).1]; simp)
/-- What was hidden stands as it stood. -/
theorem St.unhide (r : Rel P CK β h w) {l : List Nat} (s : St P CK β (h.hideL l) w β' h' w') : St P CK β h w β' (Hp.backL h h' l) w' := by
  obtain ⟨s1, s2⟩ := hideL_size h l
  obtain ⟨t1, t2⟩ := backL_size h h' l
  have hsz : h.size ≤ h'.size := by rw [← s1]; exact s.size
  have ext : ∀ b, b < h.size → β' b = β b := fun b hb => s.ext b (by rw [s1]; exact hb)
  -- the blocks behind
  have hblk : ∀ b y, (Hp.backL h h' l).get b = some y → (b ∈ l ∧ h.get b = some y ∧ b < h.size) ∨ (b ∉ l ∧ h'.get b = some y) := by
    intro b y hy
    rw [backL_get] at hy
    split at hy
    · rename_i hb; exact .inl ⟨hb, hy, r.lt b (by rw [hy]; simp)⟩
    · rename_i hb; exact .inr ⟨hb, hy⟩
  -- a hidden block's place is no place of one that may be written
  have apart : ∀ b, b ∈ l → h.get b ≠ none → ∀ c, h'.get c ≠ none → c ∉ l → (∃ x, h'.get c = some x ∧ (x.own = true ∨ ∃ z, h.get b = some z ∧ z.own = true)) → (β' c).B ≠ (β' b).B := by
    intro b hb hbn c hc hcl ⟨x, hx, hor⟩
    have hlt := r.lt b hbn
    rw [ext b hlt]
    by_cases hcs : c < h.size
    · rw [ext c hcs]
      have hcp := s.pres c (by rw [s1]; exact hcs) hc
      obtain ⟨y, hy⟩ := Option.ne_none_iff_exists'.1 hcp
      have hy := hideL_sub hy
      rcases hor with ho | ⟨z, hz, hzo⟩
      · have := s.ownOld c (by rw [s1]; exact hcs) ⟨x, hx, ho⟩
        exact r.inj c b (hideL_own this).1 hbn (by intro e; subst e; exact hcl hb)
      · exact (r.inj b c ⟨z, hz, hzo⟩ (by rw [hy.1]; simp) (by intro e; subst e; exact hcl hb)).symm
    · obtain ⟨z, hz⟩ := Option.ne_none_iff_exists'.1 hbn
      have hwl := r.wlt hz
      rcases s.fresh c (by rw [s1]; omega) hc with h1 | ⟨d, d1, d2, d3, d4⟩
      · omega
      · rw [← d4]
        obtain ⟨d5, d6⟩ := hideL_own d3
        exact r.inj d b d5 hbn (by intro e; subst e; exact d6 hb)
  refine ⟨⟨s.rel.glob, by rw [t1]; exact s.rel.gsize, fun b y hy => ?_, fun b b' hb hb' hne => ?_, fun b hb => ?_, by rw [t1, t2]; exact s.rel.roLe⟩, ext, by rw [t1]; exact hsz, s.wsize, by rw [t2, s.ro, s2], fun b hb hlt => ?_, fun b hb ho => ?_, fun b hb hp => ?_, fun b hb hp => ?_, fun k hk hf => ?_, s.os, s.tape, s.output⟩
  · rw [t1]
    rcases hblk b y hy with ⟨h1, h2, h3⟩ | ⟨h1, h2⟩
    · obtain ⟨o, ho, hok⟩ := r.blk b y h2
      refine ⟨o, ?_, ?_⟩
      · rw [ext b h3, s.frame _ (r.wlt h2) fun c hc1 hc2 => ?_]
        · exact ho
        · obtain ⟨d5, d6⟩ := hideL_own hc2
          exact r.inj c b d5 (by rw [h2]; simp) (by intro e; subst e; exact d6 h1)
      · rw [ext b h3]; exact hok.congr ext hsz
    · exact s.rel.blk b y h2
  · obtain ⟨y, hy, hyo⟩ := hb
    obtain ⟨y', hy'⟩ := Option.ne_none_iff_exists'.1 hb'
    rcases hblk b y hy with ⟨h1, h2, h3⟩ | ⟨h1, h2⟩
    · rcases hblk b' y' hy' with ⟨g1, g2, g3⟩ | ⟨g1, g2⟩
      · rw [ext b h3, ext b' g3]; exact r.inj b b' ⟨y, h2, hyo⟩ (by rw [g2]; simp) hne
      · exact (apart b h1 (by rw [h2]; simp) b' (by rw [g2]; simp) g1 ⟨y', g2, .inr ⟨y, h2, hyo⟩⟩).symm
    · rcases hblk b' y' hy' with ⟨g1, g2, g3⟩ | ⟨g1, g2⟩
      · exact apart b' g1 (by rw [g2]; simp) b (by rw [h2]; simp) h1 ⟨y, h2, .inl hyo⟩
      · exact s.rel.inj b b' ⟨y, h2, hyo⟩ (by rw [g2]; simp) hne
  · rw [t1]
    obtain ⟨y, hy⟩ := Option.ne_none_iff_exists'.1 hb
    rcases hblk b y hy with ⟨h1, h2, h3⟩ | ⟨h1, h2⟩
    · omega
    · exact s.rel.lt b (by rw [h2]; simp)
  · rw [backL_get]
    split
    · rfl
    · rename_i hbl
      rw [s.keep b (by rw [s2]; exact hb) (by rw [s1]; exact hlt), hideL_get, if_neg hbl]
  · obtain ⟨y, hy, hyo⟩ := ho
    rcases hblk b y hy with ⟨h1, h2, h3⟩ | ⟨h1, h2⟩
    · exact ⟨y, h2, hyo⟩
    · exact (hideL_own (s.ownOld b (by rw [s1]; exact hb) ⟨y, h2, hyo⟩)).1
  · obtain ⟨y, hy⟩ := Option.ne_none_iff_exists'.1 hp
    rcases hblk b y hy with ⟨h1, h2, h3⟩ | ⟨h1, h2⟩
    · rw [h2]; simp
    · obtain ⟨z, hz⟩ := Option.ne_none_iff_exists'.1 (s.pres b (by rw [s1]; exact hb) (by rw [h2]; simp))
      rw [(hideL_sub hz).1]; simp
  · obtain ⟨y, hy⟩ := Option.ne_none_iff_exists'.1 hp
    rcases hblk b y hy with ⟨h1, h2, h3⟩ | ⟨h1, h2⟩
    · omega
    · rcases s.fresh b (by rw [s1]; exact hb) (by rw [h2]; simp) with h3 | ⟨c, c1, c2, c3, c4⟩
      · exact .inl h3
      · exact .inr ⟨c, by rw [← s1]; exact c1, by rw [← s2]; exact c2, (hideL_own c3).1, c4⟩
  · exact s.frame k hk fun b hb ho => hf b (by rw [← s2]; exact hb) (hideL_own ho).1
end

end Go.Abs
/- A region that draws its order: the run in the order of the text, as sequences. -/
namespace Go.Abs
section
variable {R : Type} {P : Program} {call : CallF} {ops : Array Oper} {bf : Array Nat} {hs : List (Nat × Bool)} {s0 : Nat}

structure Sq (P : Program) (call : CallF) (ops : Array Oper) (bf : Array Nat) (hs : List (Nat × Bool)) (s0 from_ : Nat) where
  A : Nat → Act
  H : Nat → Hp
  K : Nat → List (Nat × Nat × Nat)
  W : Nat → Bool
  V : Nat → Value
  step : ∀ j o, from_ ≤ j → ops[j]? = some o → drawStep P call ops bf hs s0 j o (A j) (H j) (K j) (W j) = some ⟨V j, H (j + 1), K (j + 1), W (j + 1)⟩ ∧ A (j + 1) = (A j).put o.dst (V j)

theorem evalDrawL_seq : ∀ (l : List Oper) (j : Nat) (a : Act) (h : Hp) (kept : List (Nat × Nat × Nat)) (wr : Bool) (K : Act → Hp → Option R) (res : R), l = ops.toList.drop j → j ≤ ops.size →
    evalDrawL P call ops bf hs s0 l j a h kept wr K = some res → ∃ q : Sq P call ops bf hs s0 j, q.A j = a ∧ q.H j = h ∧ q.K j = kept ∧ q.W j = wr ∧ K (q.A ops.size) (q.H ops.size) = some res
  | [], j, a, h, kept, wr, K, res, hl, hj, he => by
    refine ⟨⟨fun _ => a, fun _ => h, fun _ => kept, fun _ => wr, fun _ => undef, fun i o hi ho => ?_⟩, rfl, rfl, rfl, rfl, he⟩
    have : i < ops.size := (Array.getElem?_eq_some_iff.1 ho).1
    have : (ops.toList.drop j).length = 0 := by rw [← hl]; rfl
    simp at this
    omega
  | o :: l, j, a, h, kept, wr, K, res, hl, hj, he => by
    have hk : ops[j]? = some o := by
      have : (ops.toList.drop j)[0]? = some o := by rw [← hl]; rfl
      rw [List.getElem?_drop] at this
      simpa using this
    have hlt : j < ops.size := (Array.getElem?_eq_some_iff.1 hk).1
    have hl' : l = ops.toList.drop (j + 1) := by
      have : (o :: l).tail = (ops.toList.drop j).tail := by rw [hl]
      simpa using this
    simp only [evalDrawL] at he
    split at he
    · rename_i d hd
      obtain ⟨q, h1, h2, h3, h4, h5⟩ := evalDrawL_seq l (j + 1) _ _ _ _ K res hl' hlt he
      refine ⟨⟨fun i => if i = j then a else q.A i, fun i => if i = j then h else q.H i, fun i => if i = j then kept else q.K i, fun i => if i = j then wr else q.W i, fun i => if i = j then d.v else q.V i, fun i x hi hx => ?_⟩,
        by simp, by simp, by simp, by simp, ?_⟩
      · by_cases hij : i = j
        · subst hij
          rw [hk] at hx
          cases hx
          simp only [if_true, show i + 1 ≠ i from by omega, if_false, h1, h2, h3, h4, hd]
          exact ⟨trivial, trivial⟩
        · have := q.step i x (by omega) hx
          simp only [hij, show i + 1 ≠ j from by omega, if_false]
          exact this
      · simp only [show ops.size ≠ j from by omega, if_false]
        exact h5
    · cases he

/-- The run in the order of the text. -/
structure SqF (P : Program) (call : CallF) (ops : Array Oper) (bf : Array Nat) (a0 : Act) (h0 : Hp) where
  q : Sq P call ops bf (heapOps ops bf) h0.size 0
  A0 : q.A 0 = a0
  H0 : q.H 0 = h0
  K0 : q.K 0 = []
  W0 : q.W 0 = false

theorem field_def {ops : Array Oper} {u t : Tmp} {s : TypeId} {f : Nat} {x : Oper × Nat} (hf : (ops.toList.zipIdx.filter fun x => x.1.dst == some u) = [x]) (hx : x.1.op = .fieldAddr s (.tmp t) f) :
    ops[x.2]? = some x.1 ∧ x.1.dst = some u ∧ ∀ (k : Nat) (y : Oper), ops[k]? = some y → y.dst = some u → k = x.2 := by
  have hxm : x ∈ ops.toList.zipIdx.filter fun x => x.1.dst == some u := by rw [hf]; simp
  rw [List.mem_filter] at hxm
  refine ⟨?_, by simpa using hxm.2, fun k y hk hd => ?_⟩
  · have := List.mem_zipIdx_iff_getElem?.1 (show (x.1, x.2) ∈ _ from hxm.1)
    simpa using this
  · have : (y, k) ∈ ops.toList.zipIdx.filter fun x => x.1.dst == some u := List.mem_filter.2 ⟨by rw [List.mem_zipIdx_iff_getElem?]; simpa using hk, by simp [hd]⟩
    rw [hf] at this
    simp at this
    rw [← this]
theorem ldChain_all {ops : Array Oper} : ∀ (n : Nat) (u : Tmp) (b : Nat) (t : Tmp), ldChain ops n u b = some t → ops.all (fun x => !(x.dst == some t)) = true
  | 0, _, _, _, h => by cases h
  | n + 1, u, b, t, h => by
    unfold ldChain at h
    split at h
    · rename_i hc; obtain rfl := Option.some.inj h; exact hc
    · split at h
      · split at h
        · split at h
          · exact ldChain_all n _ _ t h
          · cases h
        · cases h
      · cases h
theorem ldTmp_spec {ops : Array Oper} {o : Oper} {t : Tmp} (h : ldTmp ops o = some t) : ∃ ty u, o.op = .load ty (.tmp u) ∧ ops.all (fun x => !(x.dst == some t)) = true ∧
    (u = t ∨ ∃ (x : Oper × Nat) (s : TypeId) (f : Nat) (v : Tmp), (ops.toList.zipIdx.filter fun x => x.1.dst == some u) = [x] ∧ x.1.op = .fieldAddr s (.tmp v) f ∧ ldChain ops 4 v x.2 = some t ∧ ∀ (k : Nat) (y : Oper) (ty' : TypeId), ops[k]? = some y → y.op = .load ty' (.tmp u) → x.2 < k) := by
  unfold ldTmp at h
  split at h
  · rename_i ty u ho
    unfold ldBase at h
    split at h
    · rename_i hc
      obtain rfl := Option.some.inj h
      exact ⟨ty, _, ho, hc, .inl rfl⟩
    · split at h
      · rename_i x hf
        split at h
        · rename_i s v f hx
          split at h
          · rename_i hc
            refine ⟨ty, u, ho, ldChain_all _ _ _ _ h, .inr ⟨x, s, f, v, hf, hx, h, fun k y ty' hk hy => ?_⟩⟩
            have := List.all_eq_true.1 hc (y, k) (by rw [List.mem_zipIdx_iff_getElem?]; simpa using hk)
            simp only [hy] at this
            simpa using this
          · cases h
        · cases h
      · cases h
  · cases h
theorem fieldAt_block {P : Program} {s : TypeId} {v : Value} {f : Nat} {p : Addr} (h : pureP P (Instr.fieldAt s v f) = some (.pointer (some p))) : ∃ p0, v = .pointer (some p0) ∧ p0.block = p.block := by
  unfold Instr.fieldAt at h
  rw [pureP_bind] at h
  cases hu : pureP P (underlying s) with
  | none => rw [hu] at h; simp at h
  | some u =>
    rw [hu] at h
    rw [Option.bind_some] at h
    cases u <;> simp only [] at h <;> first | (simp at h; done) | skip
    rename_i fs
    split at h
    · rename_i g hg
      rw [pureP_bind] at h
      cases v <;> simp only [Instr.sureAddr, pureP_stuck, Option.bind_none] at h <;> first | (cases h; done) | skip
      rename_i a
      cases a with
      | none => simp at h
      | some a =>
        simp only [Instr.sureAddr, pureP_pure, Option.bind_some, pureP_bind, fieldPlace] at h
        cases hs : pureP P (sizeOf g.type) with
        | none => rw [hs] at h; simp at h
        | some s =>
          rw [hs] at h
          simp only [Option.bind_some] at h
          by_cases e : s = 0
          · rw [if_pos e] at h
            rcases hsp : a.spot with _ | sp <;>
              simp [partAt, byteOf, bind, hsp, pureP, noView, viewAt, shape, Sem.bind, program, pure] at h
          · rw [if_neg e] at h
            simp only [pureP_pure, Option.bind_some, Option.some.injEq, Value.pointer.injEq] at h
            exact ⟨a, rfl, by rw [← h, add_block]⟩
    · simp at h
namespace SqF
variable {a0 : Act} {h0 : Hp} (q : SqF P call ops bf a0 h0)
abbrev A := q.q.A
abbrev H := q.q.H
abbrev K := q.q.K
abbrev W := q.q.W
abbrev V := q.q.V
def sz (j : Nat) : Nat := (q.H j).size

def E (j : Nat) : Prop := ∃ o, ops[j]? = some o ∧ Region.wanted o (yielded ops (q.A j).tmps) = true ∧ heapOp o = true ∧ isLd ops bf j o = false
def Wo (j : Nat) : Prop := q.E j ∧ q.W (j + 1) = true
/-- Which numbers may stand in what operation j gives. -/
def al (j : Nat) : Nat → Bool := allow h0.size (q.K (j + 1)) (bf.getD j 0 ||| 2 ^ j)

inductive Case (j : Nat) (o : Oper) : Prop
  | un (hw : Region.wanted o (yielded ops (q.A j).tmps) = false) (hv : q.V j = undef) (hH : q.H (j + 1) = q.H j) (hK : q.K (j + 1) = q.K j) (hW : q.W (j + 1) = q.W j)
  | pure (hw : Region.wanted o (yielded ops (q.A j).tmps) = true) (hp : heapOp o = false) (hv : aPure P (q.A j).eval o = some (q.V j)) (hH : q.H (j + 1) = q.H j) (hK : q.K (j + 1) = q.K j) (hW : q.W (j + 1) = q.W j)
      (hb : vokB (allow h0.size (q.K j) (bf.getD j 0)) (q.V j) = true)
  | ld (hw : Region.wanted o (yielded ops (q.A j).tmps) = true) (hp : heapOp o = true) (hl : isLd ops bf j o = true) (g : Hp) (hv : opVal P call o (q.A j) (q.H j) = some (q.V j, g)) (hH : q.H (j + 1) = q.H j) (hK : q.K (j + 1) = q.K j) (hW : q.W (j + 1) = q.W j)
      (hb : vokB (allow h0.size [] 0) (q.V j) = true) (hlate : isLate ops bf j o = true → oldP h0.size o (q.A j) = true)
  | wr (hw : Region.wanted o (yielded ops (q.A j).tmps) = true) (hp : heapOp o = true) (hl : isLd ops bf j o = false) (ho : ordered bf (heapOps ops bf) j = true) (L : List Nat) (g : Hp) (hv : opVal P call o (q.A j) ((q.H j).hideL L) = some (q.V j, g))
      (hH : q.H (j + 1) = Hp.backL (q.H j) g L) (hL : ∀ i x t, ops[i]? = some x → isLd ops bf i x = true → unord bf i j = true → hidT ops bf i x = some t → ∀ p, (q.A j).tmps.getD t undef = .pointer (some p) → p.block ∈ L)
      (hK : q.K (j + 1) = (j, q.sz j, q.sz (j + 1)) :: q.K j) (hW : q.W (j + 1) = true) (hs : q.sz j ≤ q.sz (j + 1)) (hb : vokB (q.al j) (q.V j) = true)
  | rd (hw : Region.wanted o (yielded ops (q.A j).tmps) = true) (hp : heapOp o = true) (hl : isLd ops bf j o = false) (hW0 : q.W j = false) (h1 : Hp)
      (hv : opVal P call o (q.A j) ((q.H j).view (bf.getD j 0) (q.K j)) = some (q.V j, h1)) (hz : q.sz (j + 1) = h1.size)
      (hH : q.H (j + 1) = (q.H j).more h1 (q.al j) (flatB (q.V j)))
      (hK : q.K (j + 1) = (j, q.sz j, q.sz (j + 1)) :: q.K j) (hW : q.W (j + 1) = false) (hs : q.sz j ≤ q.sz (j + 1)) (hb : vokB (q.al j) (q.V j) = true)

theorem mem_hidOf {i j : Nat} {x : Oper} {t : Tmp} (hx : ops[i]? = some x) (hl : isLd ops bf i x = true) (hu : unord bf i j = true) (ht : hidT ops bf i x = some t) : t ∈ hidOf ops bf j := by
  unfold hidOf
  rw [List.mem_filterMap]
  refine ⟨(x, i), ?_, by simp [hl, hu, ht]⟩
  rw [List.mem_zipIdx_iff_getElem?]
  simpa using hx
theorem mem_hidB {a : Act} {l : List Tmp} {t : Tmp} (ht : t ∈ l) {p : Addr} (hp : a.tmps.getD t undef = .pointer (some p)) : p.block ∈ hidB a l := by
  unfold hidB
  rw [List.mem_filterMap]
  exact ⟨t, ht, by rw [hp]; rfl⟩

theorem takeR_size (h g : Hp) (p : Nat → Bool) (lo : Nat) : ∀ n, (h.takeR g p lo n).size = h.size ∧ (h.takeR g p lo n).ro = h.ro
  | 0 => ⟨rfl, rfl⟩
  | n + 1 => by simp only [Hp.takeR, Hp.size_setB, Hp.ro_setB]; exact takeR_size h g p lo n
theorem more_size (h g : Hp) (p : Nat → Bool) (f : Bool) : (h.more g p f).size = g.size ∧ (h.more g p f).ro = h.ro := by
  unfold Hp.more
  split
  · exact ⟨rfl, rfl⟩
  · exact ⟨rfl, (takeR_size h g p _ _).2⟩

theorem case (j : Nat) (o : Oper) (ho : ops[j]? = some o) : q.Case j o := by
  obtain ⟨h1, h2⟩ := q.q.step j o (Nat.zero_le _) ho
  replace h1 : drawStep P call ops bf (heapOps ops bf) h0.size j o (q.A j) (q.H j) (q.K j) (q.W j) = some ⟨q.V j, q.H (j + 1), q.K (j + 1), q.W (j + 1)⟩ := h1
  unfold drawStep at h1
  by_cases hw : Region.wanted o (yielded ops (q.A j).tmps) = true
  · rw [if_pos hw] at h1
    by_cases hp : heapOp o = true
    · rw [if_pos hp] at h1
      have wrt : ∀ (L : List Nat), ordered bf (heapOps ops bf) j = true → isLd ops bf j o = false → (∀ i x t, ops[i]? = some x → isLd ops bf i x = true → unord bf i j = true → hidT ops bf i x = some t → ∀ p, (q.A j).tmps.getD t undef = .pointer (some p) → p.block ∈ L) →
          drawWrite P call bf h0.size j o (q.A j) (q.H j) (q.K j) L = some ⟨q.V j, q.H (j + 1), q.K (j + 1), q.W (j + 1)⟩ → q.Case j o := by
        intro L hord hl hL hd
        unfold drawWrite at hd
        split at hd
        · rename_i v h' hv
          split at hd
          · rename_i hc
            simp only [Bool.and_eq_true, decide_eq_true_eq] at hc
            injection hd with hd
            injection hd with e1 e2 e3 e4
            subst e1
            have hz : q.sz (j + 1) = h'.size := by simp only [sz, ← e2]; exact (backL_size _ _ _).1
            refine .wr hw hp hl hord L h' hv e2.symm hL (by rw [hz]; exact e3.symm) e4.symm (by rw [hz]; exact hc.1) ?_
            unfold al
            rw [← e3]
            exact hc.2
          · cases hd
        · cases hd
      by_cases hl : isLd ops bf j o = true
      · rw [if_pos hl] at h1
        split at h1
        · rename_i v g hv
          split at h1
          · rename_i hc
            injection h1 with h1
            injection h1 with e1 e2 e3 e4
            subst e1
            rw [Bool.and_eq_true, Bool.or_eq_true, Bool.not_eq_true'] at hc
            exact .ld hw hp hl g hv e2.symm e3.symm e4.symm hc.1 (fun h => hc.2.resolve_left (by rw [h]; simp))
          · cases h1
        · cases h1
      rw [if_neg hl] at h1
      rw [Bool.not_eq_true] at hl
      have lkp : drawLook P call bf h0.size j o (q.A j) (q.H j) (q.K j) (q.W j) = some ⟨q.V j, q.H (j + 1), q.K (j + 1), q.W (j + 1)⟩ → q.Case j o := by
        intro hlook
        unfold drawLook at hlook
        split at hlook
        · cases hlook
        · rename_i hwr
          split at hlook
          · rename_i v g hv
            simp only [] at hlook
            split at hlook
            · rename_i hc
              simp only [Bool.and_eq_true, decide_eq_true_eq] at hc
              injection hlook with hlook
              injection hlook with e1 e2 e3 e4
              subst e1
              have hz : q.sz (j + 1) = g.size := by simp only [sz, ← e2]; exact (more_size _ _ _ _).1
              have hal : q.al j = allow h0.size ((j, (q.H j).size, g.size) :: q.K j) (bf.getD j 0 ||| 2 ^ j) := by
                unfold al
                rw [← e3]
              refine .rd hw hp hl (by simpa using hwr) g hv hz ?_ (by rw [hz]; exact e3.symm) e4.symm (by rw [hz]; exact hc.1) ?_
              · rw [hal]; exact e2.symm
              · rw [hal]; exact hc.2
            · cases hlook
          · cases hlook
      by_cases hdir : direct ops bf (heapOps ops bf) j o = true
      · rw [if_pos hdir] at h1
        unfold direct at hdir
        simp only [Bool.and_eq_true, beq_iff_eq] at hdir
        rw [hdir.2] at h1
        split at h1
        · rename_i d hd
          split at hd
          · injection h1 with h1
            subst h1
            exact lkp hd
          · cases hd
        · exact wrt _ hdir.1.1.2 hl (fun i x t hx hl hu ht p hp => mem_hidB (mem_hidOf hx hl hu ht) hp) h1
      rw [if_neg hdir] at h1
      split at h1
      · rename_i d hlook
        injection h1 with h1
        subst h1
        exact lkp hlook
      · split at h1
        · rename_i hord
          simp only [Bool.and_eq_true, List.isEmpty_iff] at hord
          exact wrt [] hord.1 hl (fun i x t hx hl hu ht p hp => by
            have := mem_hidOf hx hl hu ht
            rw [hord.2] at this; cases this) h1
        · cases h1
    · rw [if_neg hp] at h1
      split at h1
      · rename_i v hv
        split at h1
        · rename_i hc
          injection h1 with h1
          injection h1 with e1 e2 e3 e4
          subst e1
          exact .pure hw (by simpa using hp) hv e2.symm e3.symm e4.symm hc
        · cases h1
      · cases h1
  · rw [if_neg hw] at h1
    injection h1 with h1
    injection h1 with e1 e2 e3 e4
    exact .un (by simpa using hw) e1.symm e2.symm e3.symm e4.symm

theorem next (j : Nat) (o : Oper) (ho : ops[j]? = some o) : q.A (j + 1) = (q.A j).put o.dst (q.V j) := (q.q.step j o (Nat.zero_le _) ho).2

theorem notE {j : Nat} {o : Oper} (ho : ops[j]? = some o) (h : Region.wanted o (yielded ops (q.A j).tmps) = false ∨ heapOp o = false ∨ isLd ops bf j o = true) : ¬ q.E j := by
  rintro ⟨x, hx, h1, h2, h3⟩
  rw [ho] at hx
  cases hx
  rcases h with h | h | h
  · rw [h] at h1; cases h1
  · rw [h] at h2; cases h2
  · rw [h] at h3; cases h3

theorem sz_le1 {j : Nat} (hj : j < ops.size) : q.sz j ≤ q.sz (j + 1) := by
  have ho : ops[j]? = some ops[j] := Array.getElem?_eq_getElem hj
  cases q.case j _ ho with
  | un hw hv hH => simp only [sz, hH]; exact Nat.le_refl _
  | pure hw hp hv hH => simp only [sz, hH]; exact Nat.le_refl _
  | ld hw hp hl g hv hH => simp only [sz, hH]; exact Nat.le_refl _
  | wr hw hp hl ho L g hv hH hL hK hW hs => exact hs
  | rd hw hp hl hW0 h1 hv hz hH hK hW hs => exact hs

theorem sz_le {i j : Nat} (hij : i ≤ j) (hj : j ≤ ops.size) : q.sz i ≤ q.sz j := by
  induction j with
  | zero => have : i = 0 := by omega
            subst this; exact Nat.le_refl _
  | succ j ih =>
    by_cases h : i = j + 1
    · subst h; exact Nat.le_refl _
    · exact Nat.le_trans (ih (by omega) (by omega)) (q.sz_le1 (by omega))

theorem sz0 : q.sz 0 = h0.size := by simp only [sz]; rw [H, q.H0]

/-- Where nothing is done to the heap. -/
theorem H_same {j : Nat} (hj : j < ops.size) (h : ¬ q.E j) : q.H (j + 1) = q.H j ∧ q.K (j + 1) = q.K j ∧ q.W (j + 1) = q.W j := by
  have ho : ops[j]? = some ops[j] := Array.getElem?_eq_getElem hj
  cases q.case j _ ho with
  | un hw hv hH hK hW => exact ⟨hH, hK, hW⟩
  | pure hw hp hv hH hK hW => exact ⟨hH, hK, hW⟩
  | ld hw hp hl g hv hH hK hW => exact ⟨hH, hK, hW⟩
  | wr hw hp hl => exact absurd ⟨_, ho, hw, hp, hl⟩ h
  | rd hw hp hl => exact absurd ⟨_, ho, hw, hp, hl⟩ h

theorem H_const {i j : Nat} (hij : i ≤ j) (hj : j ≤ ops.size) (h : ∀ k, i ≤ k → k < j → ¬ q.E k) : q.H j = q.H i := by
  induction j with
  | zero => have : i = 0 := by omega
            subst this; rfl
  | succ j ih =>
    by_cases he : i = j + 1
    · subst he; rfl
    · rw [(q.H_same (by omega) (h j (by omega) (by omega))).1]
      exact ih (by omega) (by omega) fun k h1 h2 => h k h1 (by omega)

/-- What is kept: the ranges of numbers. -/
theorem K_mem {j : Nat} (hj : j ≤ ops.size) (x : Nat × Nat × Nat) : x ∈ q.K j ↔ ∃ i, i < j ∧ q.E i ∧ x = (i, q.sz i, q.sz (i + 1)) := by
  induction j with
  | zero =>
    rw [K, q.K0]
    simp
  | succ j ih =>
    have ih := ih (by omega)
    have ho : ops[j]? = some ops[j] := Array.getElem?_eq_getElem (by omega)
    have same : ¬ q.E j → q.K (j + 1) = q.K j → (x ∈ q.K (j + 1) ↔ ∃ i, i < j + 1 ∧ q.E i ∧ x = (i, q.sz i, q.sz (i + 1))) := by
      intro hn hk
      rw [hk, ih]
      constructor
      · rintro ⟨i, h1, h2⟩; exact ⟨i, by omega, h2⟩
      · rintro ⟨i, h1, h2, h3⟩
        refine ⟨i, ?_, h2, h3⟩
        rcases Nat.lt_or_ge i j with h | h
        · exact h
        · have : i = j := by omega
          subst this; exact absurd h2 hn
    have more : q.E j → q.K (j + 1) = (j, q.sz j, q.sz (j + 1)) :: q.K j → (x ∈ q.K (j + 1) ↔ ∃ i, i < j + 1 ∧ q.E i ∧ x = (i, q.sz i, q.sz (i + 1))) := by
      intro hn hk
      rw [hk, List.mem_cons, ih]
      constructor
      · rintro (h | ⟨i, h1, h2⟩)
        · exact ⟨j, by omega, hn, h⟩
        · exact ⟨i, by omega, h2⟩
      · rintro ⟨i, h1, h2, h3⟩
        rcases Nat.lt_or_ge i j with h | h
        · exact .inr ⟨i, h, h2, h3⟩
        · have : i = j := by omega
          subst this; exact .inl h3
    cases q.case j _ ho with
    | un hw hv hH hK hW => exact same (q.notE ho (.inl hw)) hK
    | pure hw hp hv hH hK hW => exact same (q.notE ho (.inr (.inl hp))) hK
    | ld hw hp hl g hv hH hK hW => exact same (q.notE ho (.inr (.inr hl))) hK
    | wr hw hp hl ho' L g hv hH hL hK => exact more ⟨_, ho, hw, hp, hl⟩ hK
    | rd hw hp hl hW0 h1 hv hz hH hK => exact more ⟨_, ho, hw, hp, hl⟩ hK

theorem allow_spec {j : Nat} (hj : j ≤ ops.size) {bits id : Nat} (h : allow h0.size (q.K j) bits id = true) :
    id < h0.size ∨ ∃ i, i < j ∧ q.E i ∧ bits.testBit i = true ∧ q.sz i ≤ id ∧ id < q.sz (i + 1) := by
  unfold allow at h
  rw [Bool.or_eq_true] at h
  rcases h with h | h
  · exact .inl (by simpa using h)
  · rw [List.any_eq_true] at h
    obtain ⟨x, hx, h1⟩ := h
    obtain ⟨i, h2, h3, rfl⟩ := (q.K_mem hj x).1 hx
    simp only [Bool.and_eq_true, decide_eq_true_eq] at h1
    exact .inr ⟨i, h2, h3, h1.1, h1.2.1, h1.2.2⟩

theorem al_spec {j : Nat} (hj : j < ops.size) {id : Nat} (h : q.al j id = true) :
    id < h0.size ∨ (q.E j ∧ q.sz j ≤ id ∧ id < q.sz (j + 1)) ∨ ∃ i, i < j ∧ q.E i ∧ (bf.getD j 0).testBit i = true ∧ q.sz i ≤ id ∧ id < q.sz (i + 1) := by
  rcases q.allow_spec hj h with h | ⟨i, h1, h2, h3, h4, h5⟩
  · exact .inl h
  · rw [Nat.testBit_or, Bool.or_eq_true, Nat.testBit_two_pow] at h3
    rcases Nat.lt_or_ge i j with hij | hij
    · refine .inr (.inr ⟨i, hij, h2, ?_, h4, h5⟩)
      rcases h3 with h3 | h3
      · exact h3
      · simp at h3; omega
    · have : i = j := by omega
      subst this; exact .inr (.inl ⟨h2, h4, h5⟩)

theorem al_lt {j : Nat} (hj : j < ops.size) {id : Nat} (h : q.al j id = true) : id < q.sz (j + 1) := by
  rcases q.al_spec hj h with h | ⟨_, _, h⟩ | ⟨i, h1, _, _, _, h⟩
  · have := q.sz_le (i := 0) (j := j + 1) (by omega) (by omega)
    rw [q.sz0] at this; omega
  · exact h
  · have := q.sz_le (i := i + 1) (j := j + 1) (by omega) (by omega)
    omega

theorem allow_lt {j : Nat} (hj : j ≤ ops.size) {bits id : Nat} (h : allow h0.size (q.K j) bits id = true) : id < q.sz j := by
  rcases q.allow_spec hj h with h | ⟨i, h1, _, _, _, h⟩
  · have := q.sz_le (i := 0) (j := j) (by omega) (by omega)
    rw [q.sz0] at this; omega
  · have := q.sz_le (i := i + 1) (j := j) (by omega) (by omega)
    omega

theorem V_vok {j : Nat} (hj : j < ops.size) : vok (q.sz (j + 1)) (q.V j) := by
  have ho : ops[j]? = some ops[j] := Array.getElem?_eq_getElem hj
  cases q.case j _ ho with
  | un hw hv => rw [hv]; simp
  | pure hw hp hv hH hK hW hb => exact vok_mono (q.sz_le1 hj) _ (vok_of_vokB (fun b => q.allow_lt (by omega)) _ hb)
  | ld hw hp hl g hv hH hK hW hb =>
    have hz := q.sz_le (i := 0) (j := j + 1) (by omega) (by omega)
    rw [q.sz0] at hz
    refine vok_of_vokB (p := allow h0.size [] 0) (fun b hb' => ?_) _ hb
    simp only [allow, List.any_nil, Bool.or_false, decide_eq_true_eq] at hb'
    omega
  | wr hw hp hl ho L g hv hH hL hK hW hs hb => exact vok_of_vokB (fun b => q.al_lt hj) _ hb
  | rd hw hp hl hW0 h1 hv hz hH hK hW hs hb => exact vok_of_vokB (fun b => q.al_lt hj) _ hb

theorem A_defers {j : Nat} (hj : j ≤ ops.size) : (q.A j).defers = a0.defers ∧ (q.A j).tmps.size = a0.tmps.size := by
  induction j with
  | zero => rw [A, q.A0]; exact ⟨rfl, rfl⟩
  | succ j ih =>
    have ho : ops[j]? = some ops[j] := Array.getElem?_eq_getElem (by omega)
    rw [q.next j _ ho]
    obtain ⟨h1, h2⟩ := ih (by omega)
    refine ⟨?_, ?_⟩
    · cases ops[j].dst <;> exact h1
    · cases ops[j].dst with
      | none => exact h2
      | some d => simp only [Act.put, Array.size_setIfInBounds]; exact h2

theorem A_ok (ha : aok h0.size a0) {j : Nat} (hj : j ≤ ops.size) : aok (q.sz j) (q.A j) := by
  induction j with
  | zero => rw [q.sz0, A, q.A0]; exact ha
  | succ j ih =>
    have ho : ops[j]? = some ops[j] := Array.getElem?_eq_getElem (by omega)
    rw [q.next j _ ho]
    exact put_aok (aok_mono (q.sz_le1 (by omega)) (ih (by omega))) (q.V_vok (by omega))

/-- No writer on the way: the temporary stays. -/
theorem A_const {t i j : Nat} (hij : i ≤ j) (hj : j ≤ ops.size) (h : ∀ k o, i ≤ k → k < j → ops[k]? = some o → o.dst ≠ some t) : (q.A j).tmps[t]? = (q.A i).tmps[t]? := by
  induction j with
  | zero => have : i = 0 := by omega
            subst this; rfl
  | succ j ih =>
    by_cases he : i = j + 1
    · subst he; rfl
    · have ho : ops[j]? = some ops[j] := Array.getElem?_eq_getElem (by omega)
      rw [q.next j _ ho, ← ih (by omega) (by omega) fun k o h1 h2 => h k o h1 (by omega)]
      have := h j _ (by omega) (by omega) ho
      cases hd : ops[j].dst with
      | none => rfl
      | some d =>
        simp only [Act.put]
        rw [Array.getElem?_setIfInBounds, if_neg]
        intro e; subst e; exact this hd

theorem W_up {i j : Nat} (hw : q.Wo i) (hij : i < j) (hj : j ≤ ops.size) : q.W j = true := by
  induction j with
  | zero => omega
  | succ j ih =>
    have ho : ops[j]? = some ops[j] := Array.getElem?_eq_getElem (by omega)
    by_cases he : i = j
    · subst he
      obtain ⟨⟨o, h1, h2, h3, h3'⟩, h4⟩ := hw
      rw [ho] at h1
      cases h1
      cases q.case i _ ho with
      | un hw => rw [hw] at h2; cases h2
      | pure hw hp => rw [hp] at h3; cases h3
      | ld hw hp hl => rw [hl] at h3'; cases h3'
      | wr hw hp hl ho' L g hv hH hL hK hW => exact hW
      | rd hw hp => exact h4
    · have ih := ih (by omega) (by omega)
      cases q.case j _ ho with
      | un hw hv hH hK hW => rw [hW]; exact ih
      | pure hw hp hv hH hK hW => rw [hW]; exact ih
      | ld hw hp hl g hv hH hK hW => rw [hW]; exact ih
      | wr hw hp hl ho' L g hv hH hL hK hW => exact hW
      | rd hw hp hl hW0 => rw [hW0] at ih; cases ih

theorem takeR_get (h g : Hp) (p : Nat → Bool) (lo id : Nat) : ∀ n, (h.takeR g p lo n).get id = if lo ≤ id ∧ id < lo + n then keepBlk p (g.get id) else h.get id
  | 0 => by simp only [Hp.takeR]; rw [if_neg (by omega)]
  | n + 1 => by
    simp only [Hp.takeR]
    rw [Hp.get_setB]
    by_cases h1 : id = lo + n
    · subst h1
      rw [if_pos rfl, if_pos (by omega)]
    · rw [if_neg h1, takeR_get h g p lo id n]
      by_cases h2 : lo ≤ id ∧ id < lo + n
      · rw [if_pos h2, if_pos (by omega)]
      · rw [if_neg h2, if_neg (by omega)]

theorem more_get {h g : Hp} {p : Nat → Bool} {f : Bool} (hle : h.size ≤ g.size) (id : Nat) :
    (h.more g p f).get id = if f = false ∧ h.size ≤ id ∧ id < g.size then keepBlk p (g.get id) else h.get id := by
  unfold Hp.more
  cases f with
  | true => simp only [if_true, Bool.true_eq_false, false_and, if_false]; rfl
  | false =>
    simp only [Bool.false_eq_true, if_false, true_and]
    have := takeR_get h g p h.size id (g.size - h.size)
    rw [show h.size + (g.size - h.size) = g.size from by omega] at this
    exact this

theorem keepBlk_spec {p : Nat → Bool} {x : Option Blk} {y : Blk} (h : keepBlk p x = some y) : ∃ cs own, x = some (.cells cs own) ∧ y = .cells cs own ∧ ∀ v ∈ cs, vokB p v = true := by
  unfold keepBlk at h
  split at h
  · rename_i cs own
    split at h
    · rename_i hc
      cases h
      exact ⟨cs, own, rfl, rfl, Array.all_eq_true_iff_forall_mem.1 hc⟩
    · cases h
  · cases h

/-- A block that operation i has made. -/
def QR (i id : Nat) (y : Blk) : Prop := q.E i ∧ q.sz i ≤ id ∧ id < q.sz (i + 1) ∧ (q.H (i + 1)).get id = some y

/-- Ahead of the first operation that writes: the old blocks, and what each has made. -/
theorem H_quiet (hlt : ∀ b, h0.get b ≠ none → b < h0.size) {j : Nat} (hj : j ≤ ops.size) (hn : ∀ k, k < j → ¬ q.Wo k) :
    (q.H j).ro = h0.ro ∧ (∀ id, id < h0.size → (q.H j).get id = h0.get id) ∧
    ∀ id y, (q.H j).get id = some y → (id < h0.size ∧ h0.get id = some y) ∨ ∃ i, i < j ∧ q.QR i id y := by
  induction j with
  | zero =>
    rw [H, q.H0]
    exact ⟨rfl, fun _ _ => rfl, fun id y h => .inl ⟨hlt id (by rw [h]; simp), h⟩⟩
  | succ j ih =>
    obtain ⟨i1, i2, i3⟩ := ih (by omega) fun k hk => hn k (by omega)
    have ho : ops[j]? = some ops[j] := Array.getElem?_eq_getElem (by omega)
    have same : q.H (j + 1) = q.H j → (q.H (j + 1)).ro = h0.ro ∧ (∀ id, id < h0.size → (q.H (j + 1)).get id = h0.get id) ∧
        ∀ id y, (q.H (j + 1)).get id = some y → (id < h0.size ∧ h0.get id = some y) ∨ ∃ i, i < j + 1 ∧ q.QR i id y := by
      intro e
      rw [e]
      refine ⟨i1, i2, fun id y h => ?_⟩
      rcases i3 id y h with h | ⟨i, h1, h2⟩
      · exact .inl h
      · exact .inr ⟨i, by omega, h2⟩
    cases q.case j _ ho with
    | un hw hv hH => exact same hH
    | pure hw hp hv hH => exact same hH
    | ld hw hp hl g hv hH => exact same hH
    | wr hw hp hl ho' L g hv hH hL hK hW => exact absurd ⟨⟨_, ho, hw, hp, hl⟩, hW⟩ (hn j (by omega))
    | rd hw hp hl hW0 h1 hv hz hH hK hW hs hb =>
      have hle : (q.H j).size ≤ h1.size := by rw [← hz]; exact hs
      have h0j : h0.size ≤ (q.H j).size := by
        have := q.sz_le (i := 0) (j := j) (by omega) (by omega)
        rw [q.sz0] at this; exact this
      refine ⟨by rw [hH, (more_size _ _ _ _).2]; exact i1, fun id hid => ?_, fun id y h => ?_⟩
      · rw [hH, more_get hle, if_neg (by omega)]; exact i2 id hid
      · by_cases hr : q.sz j ≤ id ∧ id < q.sz (j + 1)
        · exact .inr ⟨j, by omega, ⟨_, ho, hw, hp, hl⟩, hr.1, hr.2, h⟩
        · rw [hH, more_get hle, if_neg (by intro hc; apply hr; rw [hz]; exact hc.2)] at h
          rcases i3 id y h with h | ⟨i, h2, h3⟩
          · exact .inl h
          · exact .inr ⟨i, by omega, h3⟩

/-- A temporary that no operation of the region turns. -/
theorem A_live {t : Tmp} (h : ops.all (fun x => !(x.dst == some t)) = true) {j : Nat} (hj : j ≤ ops.size) : (q.A j).tmps[t]? = a0.tmps[t]? := by
  have := q.A_const (t := t) (i := 0) (j := j) (Nat.zero_le _) hj fun k o _ _ ho hd => by
    have := Array.all_eq_true_iff_forall_mem.1 h o (Array.mem_of_getElem? ho)
    rw [hd] at this; simp at this
  rw [this, A, q.A0]
/-- A temporary that is a field of what another one leads to. -/
theorem A_field {i j : Nat} {x : Oper} {s : TypeId} {t u : Tmp} {f : Nat} {p : Addr} (hx : ops[i]? = some x) (ho : x.op = .fieldAddr s (.tmp t) f) (hd : x.dst = some u) (hu : ∀ k y, ops[k]? = some y → y.dst = some u → k = i) (hij : i < j) (hj : j ≤ ops.size) (hp : (q.A j).tmps.getD u undef = .pointer (some p)) :
    ∃ p0, p0.block = p.block ∧ (q.A i).tmps.getD t undef = .pointer (some p0) := by
  have hc := q.A_const (t := u) (i := i + 1) (j := j) (by omega) hj fun k o h1 h2 hk hdk => by have := hu k o hk hdk; omega
  rw [Array.getD_eq_getD_getElem?, hc, q.next i x hx, hd] at hp
  have hV : q.V i = .pointer (some p) := by
    simp only [Act.put] at hp
    rw [Array.getElem?_setIfInBounds] at hp
    split at hp
    · split at hp
      · exact hp
      · simp [undef] at hp
    · rename_i h; exact absurd rfl h
  have hheap : heapOp x = false := by unfold heapOp; rw [ho]
  cases q.case i x hx with
  | un hw hv => rw [hV] at hv; simp [undef] at hv
  | pure hw hp' hv =>
    rw [hV] at hv
    unfold aPure at hv
    rw [ho] at hv
    obtain ⟨p0, h1, h2⟩ := fieldAt_block hv
    exact ⟨p0, h2, h1⟩
  | ld hw hp' => rw [hheap] at hp'; cases hp'
  | wr hw hp' => rw [hheap] at hp'; cases hp'
  | rd hw hp' => rw [hheap] at hp'; cases hp'
theorem A_chain : ∀ (n : Nat) (u : Tmp) (b : Nat) (t : Tmp), ldChain ops n u b = some t → ∀ (j : Nat) (p : Addr), b ≤ j → j ≤ ops.size → (q.A j).tmps.getD u undef = .pointer (some p) → ∃ p0, p0.block = p.block ∧ a0.tmps.getD t undef = .pointer (some p0)
  | 0, _, _, _, h => by cases h
  | n + 1, u, b, t, h => by
    intro j p hbj hj hp
    unfold ldChain at h
    split at h
    · rename_i hc
      obtain rfl := Option.some.inj h
      refine ⟨p, rfl, ?_⟩
      rw [Array.getD_eq_getD_getElem?, q.A_live hc hj] at hp
      rw [Array.getD_eq_getD_getElem?]; exact hp
    · split at h
      · rename_i x hf
        split at h
        · rename_i s v f hx
          split at h
          · rename_i hlt
            obtain ⟨h1, h2, h3⟩ := field_def hf hx
            obtain ⟨p1, e1, hp1⟩ := q.A_field h1 hx h2 h3 (by omega) hj hp
            obtain ⟨p0, e0, hp0⟩ := A_chain n v x.2 t h x.2 p1 (Nat.le_refl _) (by have := (Array.getElem?_eq_some_iff.1 h1).1; omega) hp1
            exact ⟨p0, e0.trans e1, hp0⟩
          · cases h
        · cases h
      · cases h
/-- What is loaded out of an old block, in either order with operation k, is not turned by it. -/
theorem H_ld {i k : Nat} {o : Oper} {t : Tmp} {p : Addr} (hi : ops[i]? = some o) (hnl : isLate ops bf i o = false) (hl : isLd ops bf i o = true) (ht : ldTmp ops o = some t) (hp : a0.tmps.getD t undef = .pointer (some p)) (hk : k < ops.size) (hu : q.E k → unord bf i k = true) (hb : p.block < h0.size) :
    (q.H (k + 1)).get p.block = (q.H k).get p.block := by
  have ho : ops[k]? = some ops[k] := Array.getElem?_eq_getElem hk
  cases q.case k _ ho with
  | un hw hv hH => rw [hH]
  | pure hw hp hv hH => rw [hH]
  | ld hw hp hl g hv hH => rw [hH]
  | wr hw hp' hl' ho' L g hv hH hL hK hW =>
    have hall : ops.all (fun x => !(x.dst == some t)) = true := by
      obtain ⟨_, _, _, h, _⟩ := ldTmp_spec ht
      exact h
    have := hL i o t hi hl (hu ⟨_, ho, hw, hp', hl'⟩) (by unfold hidT; rw [hnl]; exact ht) p (by
      rw [Array.getD_eq_getD_getElem?] at hp ⊢
      rw [q.A_live hall (by omega)]; exact hp)
    rw [hH, backL_get, if_pos this]
  | rd hw hp' hl' hW0 h1 hv hz hH hK hW hs =>
    have h0k : h0.size ≤ q.sz k := by
      have := q.sz_le (i := 0) (j := k) (by omega) (by omega)
      rw [q.sz0] at this; exact this
    have h0k' : h0.size ≤ (q.H k).size := h0k
    rw [hH, more_get (by rw [← hz]; exact hs), if_neg (by omega)]
/-- The same of a load that stands ahead of what may write. -/
theorem H_late {i k : Nat} {o : Oper} {u : Tmp} {p : Addr} (hi : ops[i]? = some o) (hla : isLate ops bf i o = true) (ht : ldPtr o = some u) (hp : (q.A i).tmps.getD u undef = .pointer (some p)) (hk : k < ops.size) (hu : q.E k → unord bf i k = true) (hb : p.block < h0.size) :
    (q.H (k + 1)).get p.block = (q.H k).get p.block := by
  have ho : ops[k]? = some ops[k] := Array.getElem?_eq_getElem hk
  have hl : isLd ops bf i o = true := by unfold isLd; rw [hla]; simp
  have hall : ∀ m y, ops[m]? = some y → (!unord bf i m || decide (i < m) || !heapOp y || isLoad y) = true ∧ (decide (m < i) || !(y.dst == some u)) = true := by
    intro m y hy
    unfold isLate at hla
    rw [ht] at hla
    simp only [Bool.and_eq_true] at hla
    have := List.all_eq_true.1 hla.2.2 (y, m) (by rw [List.mem_zipIdx_iff_getElem?]; simpa using hy)
    rwa [Bool.and_eq_true] at this
  cases q.case k _ ho with
  | un hw hv hH => rw [hH]
  | pure hw hp hv hH => rw [hH]
  | ld hw hp hl g hv hH => rw [hH]
  | wr hw hp' hl' ho' L g hv hH hL hK hW =>
    have hun := hu ⟨_, ho, hw, hp', hl'⟩
    have h1 := (hall k _ ho).1
    rw [hun, hp'] at h1
    by_cases hik : i < k
    · have hc := q.A_const (t := u) (i := i) (j := k) (by omega) (by omega) fun m y h1 h2 hm hd => by
        have := (hall m y hm).2
        rw [hd] at this
        simp at this
        omega
      have := hL i o u hi hl hun (by unfold hidT; rw [hla]; exact ht) p (by
        rw [Array.getD_eq_getD_getElem?] at hp ⊢
        rw [hc]; exact hp)
      rw [hH, backL_get, if_pos this]
    · have hload : isLoad ops[k] = true := by simpa [hik] using h1
      have hg : g = (q.H k).hideL L := by
        unfold isLoad at hload
        split at hload
        · rename_i ty x hop
          unfold opVal at hv
          have e1 : aPure P (q.A k).eval ops[k] = none := by unfold aPure; rw [hop]
          rw [e1] at hv
          unfold aHeap at hv
          rw [hop] at hv
          simp only [] at hv
          cases hx : (q.A k).eval x with
          | pointer z =>
            cases z with
            | none => rw [hx] at hv; simp at hv
            | some z =>
              rw [hx] at hv
              simp only [] at hv
              cases hz : aLoadVar P ty z ((q.H k).hideL L) with
              | none => rw [hz] at hv; simp at hv
              | some v => rw [hz] at hv; simp only [Option.map_some, Option.some.injEq, Prod.mk.injEq] at hv; exact hv.2.symm
          | _ => rw [hx] at hv; simp at hv
        · cases hload
      rw [hH, hg, backL_get]
      by_cases hm : p.block ∈ L
      · rw [if_pos hm]
      · rw [if_neg hm, hideL_get, if_neg hm]
  | rd hw hp' hl' hW0 h1 hv hz hH hK hW hs =>
    have h0k : h0.size ≤ q.sz k := by
      have := q.sz_le (i := 0) (j := k) (by omega) (by omega)
      rw [q.sz0] at this; exact this
    have h0k' : h0.size ≤ (q.H k).size := h0k
    rw [hH, more_get (by rw [← hz]; exact hs), if_neg (by omega)]
theorem H_late_to {i m n : Nat} {o : Oper} {u : Tmp} {p : Addr} (hi : ops[i]? = some o) (hla : isLate ops bf i o = true) (ht : ldPtr o = some u) (hp : (q.A i).tmps.getD u undef = .pointer (some p)) (hmn : m ≤ n) (hn : n ≤ ops.size) (hu : ∀ k, m ≤ k → k < n → q.E k → unord bf i k = true) (hb : p.block < h0.size) :
    (q.H n).get p.block = (q.H m).get p.block := by
  induction n with
  | zero => have : m = 0 := by omega
            subst this; rfl
  | succ n ih =>
    by_cases e : m = n + 1
    · subst e; rfl
    · rw [q.H_late hi hla ht hp (by omega) (hu n (by omega) (by omega)) hb]
      exact ih (by omega) (by omega) fun k h1 h2 => hu k h1 (by omega)
theorem H_ld_to {i m n : Nat} {o : Oper} {t : Tmp} {p : Addr} (hi : ops[i]? = some o) (hnl : isLate ops bf i o = false) (hl : isLd ops bf i o = true) (ht : ldTmp ops o = some t) (hp : a0.tmps.getD t undef = .pointer (some p)) (hmn : m ≤ n) (hn : n ≤ ops.size) (hu : ∀ k, m ≤ k → k < n → q.E k → unord bf i k = true) (hb : p.block < h0.size) :
    (q.H n).get p.block = (q.H m).get p.block := by
  induction n with
  | zero => have : m = 0 := by omega
            subst this; rfl
  | succ n ih =>
    by_cases e : m = n + 1
    · subst e; rfl
    · rw [q.H_ld hi hnl hl ht hp (by omega) (hu n (by omega) (by omega)) hb]
      exact ih (by omega) (by omega) fun k h1 h2 => hu k h1 (by omega)

end SqF
end
end Go.Abs
/- A region that draws its order: what holds on the way, whatever order is drawn. -/
namespace Go.Abs
namespace SqF
variable {P : Program} {CK : Code → Prop} {call : CallF} {ops : Array Oper} {bf : Array Nat} {a0 : Act} {h0 : Hp} {β0 : Bm} {w0 : World} (q : SqF P call ops bf a0 h0)

theorem hideR_get (h : Hp) (lo id : Nat) : ∀ n, (h.hideR lo n).get id = if lo ≤ id ∧ id < lo + n then none else h.get id
  | 0 => by simp only [Hp.hideR]; rw [if_neg (by omega)]
  | n + 1 => by
    simp only [Hp.hideR]
    rw [Hp.get_setB]
    by_cases h1 : id = lo + n
    · subst h1
      rw [if_pos rfl, if_pos (by omega)]
    · rw [if_neg h1, hideR_get h lo id n]
      by_cases h2 : lo ≤ id ∧ id < lo + n
      · rw [if_pos h2, if_pos (by omega)]
      · rw [if_neg h2, if_neg (by omega)]

theorem hideR_size (h : Hp) (lo : Nat) : ∀ n, (h.hideR lo n).size = h.size
  | 0 => rfl
  | n + 1 => by simp only [Hp.hideR, Hp.size_setB]; exact hideR_size h lo n

theorem hideAll_size (h : Hp) (bits : Nat) : ∀ l, (h.hideAll bits l).size = h.size
  | [] => rfl
  | x :: l => by
    simp only [Hp.hideAll]
    split
    · exact hideAll_size h bits l
    · rw [hideR_size]; exact hideAll_size h bits l

theorem hideAll_some {h : Hp} {bits id : Nat} {y : Blk} : ∀ {l : List (Nat × Nat × Nat)}, (h.hideAll bits l).get id = some y →
    h.get id = some y ∧ ∀ x ∈ l, x.2.1 ≤ id → id < x.2.2 → bits.testBit x.1 = true
  | [], hg => ⟨hg, by simp⟩
  | x :: l, hg => by
    simp only [Hp.hideAll] at hg
    split at hg
    · rename_i hb
      obtain ⟨h1, h2⟩ := hideAll_some hg
      refine ⟨h1, fun z hz => ?_⟩
      rcases List.mem_cons.1 hz with rfl | hz
      · exact fun _ _ => hb
      · exact h2 z hz
    · rename_i hb
      rw [hideR_get] at hg
      split at hg
      · cases hg
      · rename_i hr
        obtain ⟨h1, h2⟩ := hideAll_some hg
        refine ⟨h1, fun z hz => ?_⟩
        rcases List.mem_cons.1 hz with rfl | hz
        · intro h3 h4; exact absurd ⟨h3, by omega⟩ hr
        · exact h2 z hz

def SD (D : Nat → Prop) (id : Nat) : Prop := id < h0.size ∨ ∃ i, D i ∧ q.E i ∧ q.sz i ≤ id ∧ id < q.sz (i + 1)
noncomputable def SDb (D : Nat → Prop) (id : Nat) : Bool := @decide (q.SD D id) (Classical.propDecidable _)
theorem SDb_iff {D : Nat → Prop} {id : Nat} : q.SDb D id = true ↔ q.SD D id := by simp [SDb]

structure Ph1 (CK : Code → Prop) (β0 : Bm) (w0 : World) (D : Nat → Prop) (β : Bm) (w : World) : Prop where
  old : ∀ b, b < h0.size → β b = β0 b
  noW : ∀ i, D i → ¬ q.Wo i
  wle : w0.heap.size ≤ w.heap.size
  ext : ∀ k, k < w0.heap.size → w.heap[k]? = w0.heap[k]?
  os : w.os = w0.os
  tape : w.tape = w0.tape
  output : w.output = w0.output
  blk : ∀ i id y, D i → q.QR i id y → ∃ o, w.heap[(β id).B]? = some o ∧ w0.heap.size ≤ (β id).B ∧ BlkOk CK β (q.sz (i + 1)) (β id) y o
  inj : ∀ i i' b b' y y', D i → D i' → q.QR i b y → q.QR i' b' y' → y.own = true → b ≠ b' → (β b).B ≠ (β b').B

section
variable {D : Nat → Prop} {β : Bm} {w : World} {q}

theorem Ph1.rel (r0 : Rel P CK β0 h0 w0) (p : q.Ph1 CK β0 w0 D β w) {X : Hp} (hX : h0.size ≤ X.size) (hXro : X.ro ≤ X.size)
    (hget : ∀ id y, X.get id = some y → (id < h0.size ∧ h0.get id = some y) ∨ ∃ i, D i ∧ q.QR i id y ∧ q.sz (i + 1) ≤ X.size) : Rel P CK β X w := by
  have hnew : ∀ i id y, D i → q.QR i id y → w0.heap.size ≤ (β id).B := fun i id y hd hq => by
    obtain ⟨o, _, h, _⟩ := p.blk i id y hd hq
    exact h
  have hold : ∀ id y, id < h0.size → h0.get id = some y → (β id).B < w0.heap.size := fun id y hlt hy => by
    rw [p.old id hlt]; exact r0.wlt hy
  refine ⟨fun g hg => ?_, ?_, fun id y hy => ?_, fun b b' hb hb' hne => ?_, fun b hb => ?_, hXro⟩
  · rw [p.old g (by have := r0.gsize; omega)]; exact r0.glob g hg
  · have := r0.gsize; omega
  · rcases hget id y hy with ⟨h1, h2⟩ | ⟨i, h1, h2, h3⟩
    · obtain ⟨o, ho, hok⟩ := r0.blk id y h2
      refine ⟨o, ?_, ?_⟩
      · rw [p.ext _ (hold id y h1 h2), p.old id h1]; exact ho
      · rw [p.old id h1]; exact hok.congr p.old hX
    · obtain ⟨o, ho, _, hok⟩ := p.blk i id y h1 h2
      exact ⟨o, ho, hok.congr (fun _ _ => rfl) h3⟩
  · obtain ⟨y, hy, hyo⟩ := hb
    obtain ⟨y', hy'⟩ := Option.ne_none_iff_exists'.1 hb'
    rcases hget b y hy with ⟨h1, h2⟩ | ⟨i, h1, h2, h3⟩
    · rcases hget b' y' hy' with ⟨g1, g2⟩ | ⟨i', g1, g2, g3⟩
      · rw [p.old b h1, p.old b' g1]
        exact r0.inj b b' ⟨y, h2, hyo⟩ (by rw [g2]; simp) hne
      · have := hold b y h1 h2; have := hnew i' b' y' g1 g2; omega
    · rcases hget b' y' hy' with ⟨g1, g2⟩ | ⟨i', g1, g2, g3⟩
      · have := hold b' y' g1 g2; have := hnew i b y h1 h2; omega
      · exact p.inj i i' b b' y y' h1 g1 h2 g2 hyo hne
  · obtain ⟨y, hy⟩ := Option.ne_none_iff_exists'.1 hb
    rcases hget b y hy with ⟨h1, h2⟩ | ⟨i, h1, h2, h3⟩
    · omega
    · have := h2.2.2.1; omega

theorem Ph1.st (r0 : Rel P CK β0 h0 w0) (p : q.Ph1 CK β0 w0 D β w) {X : Hp} (hX : h0.size ≤ X.size) (hXro : X.ro ≤ X.size)
    (hget : ∀ id y, X.get id = some y → (id < h0.size ∧ h0.get id = some y) ∨ ∃ i, D i ∧ q.QR i id y ∧ q.sz (i + 1) ≤ X.size) (hro : X.ro = h0.ro)
    (hold : ∀ id, id < h0.size → X.get id = h0.get id) : St P CK β0 h0 w0 β X w := by
  refine ⟨p.rel r0 hX hXro hget, p.old, hX, p.wle, hro, fun b _ hb => hold b hb, fun b hb ho => ?_, fun b hb ho => ?_, fun b hb ho => ?_, fun k hk _ => p.ext k hk, p.os, p.tape, p.output⟩
  · obtain ⟨y, hy, hyo⟩ := ho
    rw [hold b hb] at hy
    exact ⟨y, hy, hyo⟩
  · rw [← hold b hb]; exact ho
  · obtain ⟨y, hy⟩ := Option.ne_none_iff_exists'.1 ho
    rcases hget b y hy with ⟨h1, h2⟩ | ⟨i, h1, h2, h3⟩
    · omega
    · obtain ⟨o, _, h, _⟩ := p.blk i b y h1 h2
      exact .inl h
end

structure TInv (β0 : Bm) (D : Nat → Prop) (β : Bm) (S : Nat → Bool) (aw : Act) : Prop where
  defers : aw.defers = a0.defers.map (renD β0)
  size : aw.tmps.size = a0.tmps.size
  tmp : ∀ t, ∃ m, m ≤ ops.size ∧ (∀ i o, ops[i]? = some o → o.dst = some t → (D i ↔ i < m)) ∧ aw.tmps[t]? = ((q.A m).tmps[t]?).map (ren β) ∧
    ∀ v, (q.A m).tmps[t]? = some v → vokB S v = true

section
variable {D : Nat → Prop} {β β' : Bm} {S S' : Nat → Bool} {aw : Act} {q}

/-- What is done is closed against the order that the edges lay. -/
def Cl (ops : Array Oper) (bf : Array Nat) (D : Nat → Prop) : Prop := ∀ j, D j → j < ops.size ∧ ∀ k, k < ops.size → (bf.getD j 0).testBit k = true → D k
/-- Operation j may come up. -/
structure Rd (ops : Array Oper) (bf : Array Nat) (D : Nat → Prop) (j : Nat) : Prop where
  not : ¬ D j
  all : ∀ k, k < ops.size → (bf.getD j 0).testBit k = true → D k

theorem TInv.read (t : q.TInv β0 D β S aw) (f : DrawFacts ops bf) (cl : Cl ops bf D) {j : Nat} {o : Oper} (rd : Rd ops bf D j) (ho : ops[j]? = some o) :
    ∀ s ∈ o.looksAt ops, aw.tmps[s]? = ((q.A j).tmps[s]?).map (ren β) ∧ ∀ v, (q.A j).tmps[s]? = some v → vokB S v = true := by
  intro s hs
  have hj : j < ops.size := (Array.getElem?_eq_some_iff.1 ho).1
  obtain ⟨m, hm, h1, h2, h3⟩ := t.tmp s
  have before : ∀ k x, k < j → ops[k]? = some x → x.dst = some s → k < m := by
    intro k x hk hx hd
    refine (h1 k x hx hd).1 ?_
    rcases f.apart k j x o hk hx ho with hb | hb
    · exact rd.all k (by omega) hb
    · exact absurd hs ((Oper.apart_spec hb).1 s hd)
  have behind : ∀ k x, j ≤ k → ops[k]? = some x → x.dst = some s → m ≤ k := by
    intro k x hk hx hd
    have hkn : ¬ D k := by
      intro hD
      rcases Nat.lt_or_ge j k with hlt | hge
      · rcases f.apart j k o x hlt ho hx with hb | hb
        · exact rd.not ((cl k hD).2 j hj hb)
        · exact (Oper.apart_spec hb).2.2 s hd hs
      · have : k = j := by omega
        subst this; exact rd.not hD
    rcases Nat.lt_or_ge k m with h | h
    · exact absurd ((h1 k x hx hd).2 h) hkn
    · exact h
  have e : (q.A j).tmps[s]? = (q.A m).tmps[s]? := by
    rcases Nat.le_total m j with h | h
    · refine q.A_const h (by omega) fun k x hk hkj hx hd => ?_
      have := before k x hkj hx hd
      omega
    · refine (q.A_const h hm fun k x hk hkm hx hd => ?_).symm
      have := behind k x hk hx hd
      omega
  rw [e]
  exact ⟨h2, h3⟩

theorem TInv.step (t : q.TInv β0 D β S aw) (f : DrawFacts ops bf) (cl : Cl ops bf D) {j : Nat} {o : Oper} (rd : Rd ops bf D j) (ho : ops[j]? = some o)
    (hβ : ∀ b, S b = true → β' b = β b) (hS : ∀ b, S b = true → S' b = true) (hv : vokB S' (q.V j) = true) : q.TInv β0 (fun i => D i ∨ i = j) β' S' (aw.put o.dst (ren β' (q.V j))) := by
  have hj : j < ops.size := (Array.getElem?_eq_some_iff.1 ho).1
  refine ⟨?_, ?_, fun s => ?_⟩
  · rw [← t.defers]; cases o.dst <;> rfl
  · rw [← t.size]
    cases o.dst with
    | none => rfl
    | some d => simp only [Act.put, Array.size_setIfInBounds]
  · by_cases hd : o.dst = some s
    · refine ⟨j + 1, hj, fun i x hx hxd => ?_, ?_, fun v hv' => ?_⟩
      · rcases Nat.lt_trichotomy i j with h | h | h
        · rcases f.apart i j x o h hx ho with hb | hb
          · have := rd.all i (by omega) hb
            exact ⟨fun _ => by omega, fun _ => .inl this⟩
          · exact absurd hd ((Oper.apart_spec hb).2.1 s hxd)
        · subst h; exact ⟨fun _ => by omega, fun _ => .inr rfl⟩
        · rcases f.apart j i o x h ho hx with hb | hb
          · refine ⟨fun hD => ?_, fun hlt => by omega⟩
            rcases hD with hD | hD
            · exact absurd ((cl i hD).2 j hj hb) rd.not
            · omega
          · exact absurd hxd ((Oper.apart_spec hb).2.1 s hd)
      · rw [q.next j o ho, hd]
        simp only [Act.put]
        rw [Array.getElem?_setIfInBounds, Array.getElem?_setIfInBounds, if_pos rfl, if_pos rfl, t.size, (q.A_defers (by omega : j ≤ ops.size)).2]
        split <;> rfl
      · rw [q.next j o ho, hd] at hv'
        simp only [Act.put] at hv'
        rw [Array.getElem?_setIfInBounds, if_pos rfl] at hv'
        split at hv'
        · cases hv'; exact hv
        · cases hv'
    · obtain ⟨m, hm, h1, h2, h3⟩ := t.tmp s
      refine ⟨m, hm, fun i x hx hxd => ?_, ?_, fun v hv' => vokB_mono hS v (h3 v hv')⟩
      · have hij : i ≠ j := by
          intro e; subst e
          rw [ho] at hx; cases hx; exact hd hxd
        rw [← h1 i x hx hxd]
        simp [hij]
      · have e1 : (aw.put o.dst (ren β' (q.V j))).tmps[s]? = aw.tmps[s]? := by
          cases hd' : o.dst with
          | none => rfl
          | some d =>
            simp only [Act.put]
            rw [Array.getElem?_setIfInBounds, if_neg]
            intro e; subst e; exact hd hd'
        rw [e1, h2]
        cases hv' : (q.A m).tmps[s]? with
        | none => rfl
        | some v => simp only [Option.map_some]; rw [ren_congrB hβ v (h3 v hv')]

theorem TInv.done (t : q.TInv β0 D β S aw) (hall : ∀ i, i < ops.size → D i) (ha : aok h0.size a0) (hβ : ∀ b, b < h0.size → β b = β0 b) : aw = renAct β (q.A ops.size) := by
  have e1 : aw.tmps = (q.A ops.size).tmps.map (ren β) := by
    apply Array.ext_getElem?
    intro s
    obtain ⟨m, hm, h1, h2, h3⟩ := t.tmp s
    rw [h2, Array.getElem?_map]
    congr 1
    refine (q.A_const hm (Nat.le_refl _) fun k x hk hkn hx hd => ?_).symm
    have := (h1 k x hx hd).1 (hall k hkn)
    omega
  have e2 : aw.defers = (q.A ops.size).defers.map (renD β) := by
    rw [t.defers, (q.A_defers (Nat.le_refl _)).1]
    exact (congrArg Act.defers (renAct_congr hβ ha)).symm
  cases aw
  simp only [renAct, Act.mk.injEq]
  exact ⟨e1, e2⟩

theorem eval_same {o : Oper} {a b : Act} (h : ∀ s ∈ o.looksAt ops, a.tmps[s]? = b.tmps[s]?) : ∀ x ∈ o.op.operands, a.eval x = b.eval x := by
  intro x hx
  cases x with
  | tmp s =>
    have := h s (List.mem_append_left _ (List.mem_filterMap.2 ⟨.tmp s, by simpa using hx, rfl⟩))
    simp only [Act.eval, Array.getD_eq_getD_getElem?, this]
  | const c => rfl
  | global g => rfl
  | func f => rfl

theorem wanted_same {o : Oper} {a b : Act} (h : ∀ s ∈ o.looksAt ops, a.tmps[s]? = b.tmps[s]?) : Region.wanted o (yielded ops a.tmps) = Region.wanted o (yielded ops b.tmps) := by
  unfold Region.wanted
  cases hg : o.guard with
  | none => rfl
  | some g =>
    obtain ⟨g, want⟩ := g
    simp only []
    have : yielded ops a.tmps g = yielded ops b.tmps g := by
      unfold yielded
      cases hd : (ops[g]?).bind (·.dst) with
      | none => rfl
      | some d =>
        have hm : d ∈ o.looksAt ops := by
          unfold Oper.looksAt
          rw [hg]
          exact List.mem_append_right _ (by simp [hd])
        simp only [Option.bind_some, h d hm]
    rw [this]

end
end SqF
end Go.Abs
/- A region that draws its order: the steps. -/
namespace Go.Abs
namespace SqF
variable {P : Program} {CK : Code → Prop} {call : CallF} {ops : Array Oper} {bf : Array Nat} {a0 : Act} {h0 : Hp} {β0 : Bm} {w0 : World} (q : SqF P call ops bf a0 h0)

def DI (CK : Code → Prop) (β0 : Bm) (w0 : World) (D : Nat → Prop) (β : Bm) (aw : Act) (w : World) : Prop :=
  (q.Ph1 CK β0 w0 D β w ∧ q.TInv β0 D β (q.SDb D) aw) ∨
  ∃ m, m ≤ ops.size ∧ (∃ k, k < m ∧ q.Wo k) ∧ (∀ i, q.E i → (D i ↔ i < m)) ∧ St P CK β0 h0 w0 β (q.H m) w ∧ q.TInv β0 D β (fun id => decide (id < q.sz m)) aw

variable {D : Nat → Prop} {β : Bm} {aw : Act} {w : World} {S : Nat → Bool} {q}

theorem E_lt {j : Nat} (h : q.E j) : j < ops.size := by
  obtain ⟨o, ho, _⟩ := h
  exact (Array.getElem?_eq_some_iff.1 ho).1

theorem TInv.mono (t : q.TInv β0 D β S aw) {S' : Nat → Bool} (h : ∀ b, S b = true → S' b = true) : q.TInv β0 D β S' aw :=
  ⟨t.defers, t.size, fun s => by
    obtain ⟨m, h1, h2, h3, h4⟩ := t.tmp s
    exact ⟨m, h1, h2, h3, fun v hv => vokB_mono h v (h4 v hv)⟩⟩

theorem SD_lt (hE : ∀ i, q.E i → D i → i < ops.size) {id : Nat} (h : q.SD D id) : id < q.sz ops.size := by
  rcases h with h | ⟨i, h1, h2, h3, h4⟩
  · have := q.sz_le (i := 0) (j := ops.size) (by omega) (by omega)
    rw [q.sz0] at this; omega
  · have := q.sz_le (i := i + 1) (j := ops.size) (E_lt h2) (by omega)
    omega

theorem allow_SD {j : Nat} (hj : j < ops.size) (rd : Rd ops bf D j) {id : Nat} (h : allow h0.size (q.K j) (bf.getD j 0) id = true) : q.SD D id := by
  rcases q.allow_spec (by omega) h with h | ⟨i, h1, h2, h3, h4, h5⟩
  · exact .inl h
  · exact .inr ⟨i, rd.all i (by omega) h3, h2, h4, h5⟩

theorem al_SD {j : Nat} (hj : j < ops.size) (rd : Rd ops bf D j) {id : Nat} (h : q.al j id = true) : q.SD (fun i => D i ∨ i = j) id := by
  rcases q.al_spec hj h with h | ⟨h2, h4, h5⟩ | ⟨i, h1, h2, h3, h4, h5⟩
  · exact .inl h
  · exact .inr ⟨j, .inr rfl, h2, h4, h5⟩
  · exact .inr ⟨i, .inl (rd.all i (by omega) h3), h2, h4, h5⟩

theorem quiet_step (f : DrawFacts ops bf) (cl : Cl ops bf D) {j : Nat} {o : Oper} (rd : Rd ops bf D j) (ho : ops[j]? = some o) (hn : ¬ q.E j)
    (hv : vokB (allow h0.size (q.K j) (bf.getD j 0)) (q.V j) = true) (hi : q.DI CK β0 w0 D β aw w) : q.DI CK β0 w0 (fun i => D i ∨ i = j) β (aw.put o.dst (ren β (q.V j))) w := by
  have hj : j < ops.size := (Array.getElem?_eq_some_iff.1 ho).1
  rcases hi with ⟨p, t⟩ | ⟨m, hm, hk, he, s, t⟩
  · refine .inl ⟨⟨p.old, fun i hi hw => ?_, p.wle, p.ext, p.os, p.tape, p.output, fun i id y hi hq => ?_, fun i i' b b' y y' hi hi' hq hq' => ?_⟩, t.step f cl rd ho (fun _ _ => rfl) (fun b hb => ?_) ?_⟩
    · rcases hi with hi | rfl
      · exact p.noW i hi hw
      · exact hn hw.1
    · rcases hi with hi | rfl
      · exact p.blk i id y hi hq
      · exact absurd hq.1 hn
    · rcases hi with hi | rfl
      · rcases hi' with hi' | rfl
        · exact p.inj i i' b b' y y' hi hi' hq hq'
        · exact absurd hq'.1 hn
      · exact absurd hq.1 hn
    · rw [q.SDb_iff] at hb ⊢
      rcases hb with h | ⟨i, h1, h2⟩
      · exact .inl h
      · exact .inr ⟨i, .inl h1, h2⟩
    · refine vokB_mono (fun b hb => ?_) _ hv
      rw [q.SDb_iff]
      rcases allow_SD hj rd hb with h | ⟨i, h1, h2⟩
      · exact .inl h
      · exact .inr ⟨i, .inl h1, h2⟩
  · refine .inr ⟨m, hm, hk, fun i hE => ?_, s, t.step f cl rd ho (fun _ _ => rfl) (fun _ hb => hb) ?_⟩
    · rw [← he i hE]
      refine ⟨fun h => ?_, .inl⟩
      rcases h with h | rfl
      · exact h
      · exact absurd hE hn
    · refine vokB_mono (fun b hb => ?_) _ hv
      simp only [decide_eq_true_eq]
      rcases allow_SD hj rd hb with h | ⟨i, h1, h2, h3, h4⟩
      · have := q.sz_le (i := 0) (j := m) (by omega) (by omega)
        rw [q.sz0] at this; omega
      · have := (he i h2).1 h1
        have := q.sz_le (i := i + 1) (j := m) (by omega) (by omega)
        omega

/-- Ahead of an operation that writes, all stands as in the order of the text. -/
theorem at_wr (r0 : Rel P CK β0 h0 w0) (cl : Cl ops (Region.before ops) D) {q : SqF P call ops (Region.before ops) a0 h0} {j : Nat} {o : Oper} (rd : Rd ops (Region.before ops) D j) (ho : ops[j]? = some o)
    (hp : heapOp o = true) (hord : ordered (Region.before ops) (heapOps ops (Region.before ops)) j = true) (hi : q.DI CK β0 w0 D β aw w) :
    (∀ i, q.E i → (D i ↔ i < j)) ∧ St P CK β0 h0 w0 β (q.H j) w ∧ q.TInv β0 D β (fun id => decide (id < q.sz j)) aw := by
  have hj : j < ops.size := (Array.getElem?_eq_some_iff.1 ho).1
  have hE : ∀ i, q.E i → (D i ↔ i < j) := by
    intro i hEi
    obtain ⟨x, hx, _, hxp, hxl⟩ := hEi
    have hi' : i < ops.size := (Array.getElem?_eq_some_iff.1 hx).1
    by_cases hij : i = j
    · subst hij; exact ⟨fun h => absurd h rd.not, fun h => by omega⟩
    · have hs := ordered_spec hord hx hxp hxl hij
      constructor
      · intro hD
        rcases Nat.lt_or_ge i j with h | h
        · exact h
        · exact absurd ((cl i hD).2 j hj (hs.2 (by omega))) rd.not
      · intro hlt
        exact rd.all i hi' (hs.1 hlt)
  refine ⟨hE, ?_⟩
  rcases hi with ⟨p, t⟩ | ⟨m, hm, hk, he, s, t⟩
  · have hz : h0.size ≤ (q.H j).size := by
      have := q.sz_le (i := 0) (j := j) (by omega) (by omega)
      rw [q.sz0] at this; exact this
    obtain ⟨g1, g2, g3⟩ := q.H_quiet r0.lt (j := j) (by omega) fun k hk hw => p.noW k ((hE k hw.1).2 hk) hw
    refine ⟨p.st r0 hz (by rw [g1]; exact Nat.le_trans r0.roLe hz) (fun id y hy => ?_) g1 g2, t.mono fun b hb => ?_⟩
    · rcases g3 id y hy with h | ⟨i, h1, h2⟩
      · exact .inl h
      · exact .inr ⟨i, (hE i h2.1).2 h1, h2, q.sz_le (by omega) (by omega)⟩
    · rw [q.SDb_iff] at hb
      simp only [decide_eq_true_eq]
      rcases hb with h | ⟨i, h1, h2, h3, h4⟩
      · exact Nat.lt_of_lt_of_le h hz
      · have := (hE i h2).1 h1
        have := q.sz_le (i := i + 1) (j := j) (by omega) (by omega)
        omega
  · have e : q.H j = q.H m := by
      rcases Nat.le_total m j with h | h
      · refine q.H_const h (by omega) fun k hk hkj hEk => ?_
        have := (he k hEk).1 ((hE k hEk).2 hkj)
        omega
      · refine (q.H_const h hm fun k hk hkm hEk => ?_).symm
        have := (hE k hEk).1 ((he k hEk).2 hkm)
        omega
    rw [e]
    refine ⟨s, t.mono fun b hb => ?_⟩
    simp only [decide_eq_true_eq] at hb ⊢
    simpa only [sz, e] using hb

theorem emptyRel {n : Nat} (hg : ∀ g, g < P.globals.size → (β g).B = g ∧ (β g).O = 0) (hn : P.globals.size ≤ n) : Rel P CK β ⟨.nil, n, 0⟩ w :=
  ⟨hg, hn, fun b y h => (by cases h), fun b b' h => (by obtain ⟨x, hx, _⟩ := h; cases hx), fun b h => absurd rfl h, Nat.zero_le _⟩

theorem opnds {X : Hp} (r : Rel P CK β X w) {o : Oper} (hok : operOk P o = true) {a : Act}
    (hread : ∀ s ∈ o.looksAt ops, aw.tmps[s]? = (a.tmps[s]?).map (ren β) ∧ ∀ v, a.tmps[s]? = some v → vok X.size v) :
    ∀ x ∈ o.op.operands, vok X.size (a.eval x) ∧ aw.eval x = ren β (a.eval x) := by
  intro x hx
  have hxo : opnOk P x = true := by
    simp only [operOk, Bool.and_eq_true, Array.all_eq_true_iff_forall_mem] at hok
    exact hok.1 x hx
  have nil : aok X.size { tmps := #[], defers := [] } := ⟨by simp, by simp⟩
  cases x with
  | tmp s =>
    obtain ⟨h1, h2⟩ := hread s (List.mem_append_left _ (List.mem_filterMap.2 ⟨.tmp s, by simpa using hx, rfl⟩))
    simp only [Act.eval, Array.getD_eq_getD_getElem?, h1]
    cases hs : a.tmps[s]? with
    | none => simp
    | some v => simp only [Option.map_some, Option.getD_some]; exact ⟨h2 v hs, trivial⟩
  | const c => exact eval_ren r nil hxo
  | global g => exact eval_ren r nil hxo
  | func f' => exact eval_ren r nil hxo

theorem pure_sound (pk : ProgOk P) {rd : Option Nat} {o : Oper} (ho : operOk P o = true) {n : Nat} {a a₀ : Act} {v : Value} (hρ : ∀ x ∈ o.op.operands, vok n (a.eval x) ∧ a₀.eval x = ren β (a.eval x))
    (he : aPure P a.eval o = some v) (Q : Exit → Act → World → Prop) : o.wpIn (FW rd) 0 P a₀ w (fun a' w' => a' = a₀.put o.dst (ren β v) ∧ w' = w) Q := by
  have hnd : ∀ c, o.op ≠ .defer c := by
    intro c hc
    simp [operOk, hc, isDefer] at ho
  refine ⟨fun _ _ => trivial, ?_⟩
  rw [Oper.semAt_eq _ _ _ hnd]
  obtain ⟨h1, h2⟩ := aPure_eqv (n := n) (β := β) pk.zero hρ he
  rw [pureP_run h2 w, Oper.uponIn_value]
  exact ⟨rfl, rfl⟩

/-- An operation that only makes blocks of its own, or only looks. -/
theorem rd_step (hlt0 : ∀ b, h0.get b ≠ none → b < h0.size) (f : DrawFacts ops bf) (cl : Cl ops bf D) {j : Nat} {o : Oper} (rd : Rd ops bf D j) (ho : ops[j]? = some o) (hE : q.E j) (hW1 : q.W (j + 1) = false) (hW0 : q.W j = false) (h1 : Hp)
    (hz : q.sz (j + 1) = h1.size) (hH : q.H (j + 1) = (q.H j).more h1 (q.al j) (flatB (q.V j))) (hs : q.sz j ≤ q.sz (j + 1)) (hb : vokB (q.al j) (q.V j) = true)
    (p : q.Ph1 CK β0 w0 D β w) (t : q.TInv β0 D β (q.SDb D) aw) {X : Hp} (hXz : X.size = q.sz j) (hXr : X.ro = q.sz j) (rX : Rel P CK β X w) {β' : Bm} {w' : World} (s : St P CK β X w β' h1 w') :
    ∃ γ, q.DI CK β0 w0 (fun i => D i ∨ i = j) γ (aw.put o.dst (ren β' (q.V j))) w' := by
  have hj : j < ops.size := (Array.getElem?_eq_some_iff.1 ho).1
  have hz0 : h0.size ≤ q.sz j := by
    have := q.sz_le (i := 0) (j := j) (by omega) (by omega)
    rw [q.sz0] at this; exact this
  have hclt : ∀ i, D i → i < ops.size := fun i hi => (cl i hi).1
  -- the new map
  let γ : Bm := fun b => if q.sz j ≤ b ∧ b < q.sz (j + 1) then β' b else β b
  have γin : ∀ b, q.sz j ≤ b → b < q.sz (j + 1) → γ b = β' b := fun b h1 h2 => if_pos ⟨h1, h2⟩
  have γout : ∀ b, ¬ (q.sz j ≤ b ∧ b < q.sz (j + 1)) → γ b = β b := fun b h => if_neg h
  have hlow : ∀ b, b < q.sz j → β' b = β b := fun b hb => s.ext b (by rw [hXz]; exact hb)
  -- the ranges of others are apart
  have apart : ∀ i b, D i → q.E i → q.sz i ≤ b → b < q.sz (i + 1) → ¬ (q.sz j ≤ b ∧ b < q.sz (j + 1)) := by
    intro i b hi hEi hb1 hb2 hb3
    rcases Nat.lt_trichotomy i j with h | h | h
    · have := q.sz_le (i := i + 1) (j := j) (by omega) (by omega); omega
    · subst h; exact rd.not hi
    · have := q.sz_le (i := j + 1) (j := i) (by omega) (by have := hclt i hi; omega); omega
  have γSD : ∀ b, q.SD D b → γ b = β b := by
    intro b hb
    rcases hb with h | ⟨i, h1, h2, h3, h4⟩
    · exact γout b (by omega)
    · exact γout b (apart i b h1 h2 h3 h4)
  have γal : ∀ b, q.al j b = true → γ b = β' b := by
    intro b hb
    rcases q.al_spec hj hb with h | ⟨_, h4, h5⟩ | ⟨i, h1, h2, h3, h4, h5⟩
    · rw [γout b (by omega), hlow b (by omega)]
    · exact γin b h4 h5
    · have := q.sz_le (i := i + 1) (j := j) (by omega) (by omega)
      rw [γout b (by omega), hlow b (by omega)]
  -- old objects stay
  have hfr : ∀ k, k < w.heap.size → w'.heap[k]? = w.heap[k]? := by
    intro k hk
    refine s.frame k hk fun b hb hob => ?_
    have := rX.lt b hob.pres
    rw [hXz] at this; rw [hXr] at hb; omega
  have hnewB : ∀ b, q.sz j ≤ b → h1.get b ≠ none → w.heap.size ≤ (β' b).B := by
    intro b hb hg
    rcases s.fresh b (by rw [hXz]; exact hb) hg with h | ⟨c, hc1, hc2, _⟩
    · exact h
    · rw [hXz] at hc1; rw [hXr] at hc2; omega
  -- what this operation has made
  have hmade : ∀ id y, q.QR j id y → ∃ cs own, y = .cells cs own ∧ h1.get id = some (.cells cs own) ∧ ∀ v ∈ cs, vokB (q.al j) v = true := by
    rintro id y ⟨_, g1, g2, g3⟩
    rw [hH, more_get (by rw [← hz]; exact hs)] at g3
    have hl : (q.H j).size ≤ id := g1
    split at g3
    · obtain ⟨cs, own, k1, k2, k3⟩ := keepBlk_spec g3
      exact ⟨cs, own, k2, k1, k3⟩
    · rename_i hc
      exfalso
      have hnW : ∀ k, k < j → ¬ q.Wo k := fun k hk hw => by
        have := q.W_up hw hk (by omega)
        rw [hW0] at this; cases this
      rcases (q.H_quiet hlt0 (j := j) (by omega) hnW).2.2 id y g3 with h | ⟨i, h, h'⟩
      · omega
      · have := h'.2.2.1; have := q.sz_le (i := i + 1) (j := j) (by omega) (by omega)
        omega
  have mapCells : ∀ (cs : Array Value) (b n : Nat) (μ ν : Bm) (S : Nat → Bool) (own : Bool) (x : Obj) (m : Nat), (∀ v ∈ cs, vokB S v = true) → (∀ b, S b = true → μ b = ν b) → (∀ v ∈ cs, vok m v) →
      BlkOk CK ν n (ν b) (.cells cs own) x → μ b = ν b → BlkOk CK μ m (μ b) (.cells cs own) x := by
    intro cs b n μ ν S own x m h1 h2 h3 h4 h5
    obtain ⟨C, e, fz, k1, k2, k3, k4⟩ := h4
    rw [h5]
    refine ⟨C, e, fz, k1, fun i v hi => ?_, k3, k4⟩
    have hm := Array.mem_of_getElem? hi
    rw [ren_congrB h2 v (h1 v hm)]
    exact ⟨(k2 i v hi).1, h3 v hm⟩
  -- what the others have made
  have hothers : ∀ i id y, D i → q.QR i id y → ∃ cs own, y = .cells cs own ∧ ∀ v ∈ cs, vokB (q.SDb D) v = true ∧ vok (q.sz (i + 1)) v := by
    rintro i id y hi hq
    have hii := E_lt hq.1
    obtain ⟨x, hx, hxw, hxp, hxl⟩ := hq.1
    cases q.case i x hx with
    | un hw => rw [hw] at hxw; cases hxw
    | pure hw hp => rw [hp] at hxp; cases hxp
    | ld hw hp hl => rw [hl] at hxl; cases hxl
    | wr hw hp hl ho' L' g' hv' hH' hL' hK' hW' => exact absurd ⟨hq.1, hW'⟩ (p.noW i hi)
    | rd hw hp hl hW0' g hv hz' hH' hK' hW' hs' hb' =>
      obtain ⟨_, g1, g2, g3⟩ := hq
      rw [hH', more_get (by rw [← hz']; exact hs')] at g3
      split at g3
      · obtain ⟨cs, own, k1, k2, k3⟩ := keepBlk_spec g3
        refine ⟨cs, own, k2, fun v hv => ⟨vokB_mono (fun b hb => ?_) v (k3 v hv), vok_of_vokB (fun b => q.al_lt hii) v (k3 v hv)⟩⟩
        rw [q.SDb_iff]
        rcases q.al_spec hii hb with h | ⟨h2, h4, h5⟩ | ⟨i', h1, h2, h3, h4, h5⟩
        · exact .inl h
        · exact .inr ⟨i, hi, h2, h4, h5⟩
        · exact .inr ⟨i', (cl i hi).2 i' (by omega) h3, h2, h4, h5⟩
      · rename_i hc
        exfalso
        have hnW : ∀ k, k < i → ¬ q.Wo k := fun k hk hw => by
          have := q.W_up hw hk (by omega)
          rw [hW0'] at this; cases this
        have hl : (q.H i).size ≤ id := g1
        have : h0.size ≤ q.sz i := by
          have := q.sz_le (i := 0) (j := i) (by omega) (by omega)
          rw [q.sz0] at this; exact this
        rcases (q.H_quiet hlt0 (j := i) (by omega) hnW).2.2 id y g3 with h | ⟨i', h, h'⟩
        · omega
        · have := h'.2.2.1; have := q.sz_le (i := i' + 1) (j := i) (by omega) (by omega)
          omega
  have hoB : ∀ i id y, D i → q.QR i id y → (γ id).B = (β id).B ∧ (β id).B < w.heap.size ∧ w0.heap.size ≤ (β id).B := by
    intro i id y hi hq
    obtain ⟨x, hx, h2, _⟩ := p.blk i id y hi hq
    exact ⟨by rw [γSD id (.inr ⟨i, hi, hq.1, hq.2.1, hq.2.2.1⟩)], (Array.getElem?_eq_some_iff.1 hx).1, h2⟩
  have hjB : ∀ id y, q.QR j id y → (γ id).B = (β' id).B ∧ w.heap.size ≤ (β' id).B := by
    intro id y hq
    obtain ⟨cs, own, _, k2, _⟩ := hmade id y hq
    exact ⟨by rw [γin id hq.2.1 hq.2.2.1], hnewB id hq.2.1 (by rw [k2]; simp)⟩
  refine ⟨γ, .inl ⟨⟨fun b hb => ?_, fun i hi hw => ?_, by have := p.wle; have := s.wsize; omega, fun k hk => ?_, s.os.trans p.os, s.tape.trans p.tape, s.output.trans p.output, fun i id y hi hq => ?_,
    fun i i' b b' y y' hi hi' hq hq' hy hne => ?_⟩, ?_⟩⟩
  · rw [γout b (by omega)]; exact p.old b hb
  · rcases hi with hi | rfl
    · exact p.noW i hi hw
    · have := hw.2; rw [hW1] at this; cases this
  · rw [hfr k (by have := p.wle; omega)]; exact p.ext k hk
  · rcases hi with hi | rfl
    · obtain ⟨x, hx, h2, h3⟩ := p.blk i id y hi hq
      obtain ⟨e1, e2, e3⟩ := hoB i id y hi hq
      obtain ⟨cs, own, rfl, h4⟩ := hothers i id y hi hq
      refine ⟨x, by rw [e1, hfr _ e2]; exact hx, by rw [e1]; exact h2, ?_⟩
      exact mapCells cs id _ γ β (q.SDb D) own x _ (fun v hv => (h4 v hv).1) (fun b hb => γSD b (q.SDb_iff.1 hb)) (fun v hv => (h4 v hv).2) h3 (γSD id (.inr ⟨i, hi, hq.1, hq.2.1, hq.2.2.1⟩))
    · obtain ⟨cs, own, rfl, k2, k3⟩ := hmade id y hq
      obtain ⟨e1, e2⟩ := hjB id _ hq
      obtain ⟨x, hx, hok⟩ := s.rel.blk id _ k2
      refine ⟨x, by rw [e1]; exact hx, by rw [e1]; have := p.wle; omega, ?_⟩
      exact mapCells cs id _ γ β' (q.al i) own x _ k3 γal (fun v hv => vok_of_vokB (fun b => q.al_lt hj) v (k3 v hv)) hok (γin id hq.2.1 hq.2.2.1)
  · rcases hi with hi | rfl
    · rcases hi' with hi' | rfl
      · rw [(hoB i b y hi hq).1, (hoB i' b' y' hi' hq').1]
        exact p.inj i i' b b' y y' hi hi' hq hq' hy hne
      · have := hoB i b y hi hq
        have := hjB b' y' hq'
        omega
    · rcases hi' with hi' | rfl
      · have := hoB i' b' y' hi' hq'
        have := hjB b y hq
        omega
      · obtain ⟨cs, own, rfl, k2, k3⟩ := hmade b y hq
        obtain ⟨cs', own', rfl, k2', k3'⟩ := hmade b' y' hq'
        rw [(hjB b _ hq).1, (hjB b' _ hq').1]
        exact s.rel.inj b b' ⟨_, k2, hy⟩ (by rw [k2']; simp) hne
  · have e : ren β' (q.V j) = ren γ (q.V j) := (ren_congrB γal _ hb).symm
    rw [e]
    refine t.step f cl rd ho (fun b hb => γSD b (q.SDb_iff.1 hb)) (fun b hb => ?_) (vokB_mono (fun b hb => ?_) _ hb)
    · rw [q.SDb_iff] at hb ⊢
      rcases hb with h | ⟨i, h1, h2⟩
      · exact .inl h
      · exact .inr ⟨i, .inl h1, h2⟩
    · rw [q.SDb_iff]; exact al_SD hj rd hb

end SqF
end Go.Abs
/- A region that draws its order is run soundly. -/
namespace Go.Abs
theorem aLoadVar_congr {P : Program} {ty : TypeId} {p : Addr} {h h' : Hp} (e : h'.get p.block = h.get p.block) : aLoadVar P ty p h' = aLoadVar P ty p h := by
  unfold aLoadVar Hp.row Hp.cell
  rw [e]
theorem opVal_load {P : Program} {call : CallF} {o : Oper} {ty : TypeId} {x : Operand} {a : Act} {h g : Hp} {v : Value} (ho : o.op = .load ty x) (he : opVal P call o a h = some (v, g)) : ∃ p, a.eval x = .pointer (some p) ∧ aLoadVar P ty p h = some v := by
  unfold opVal at he
  have e1 : aPure P a.eval o = none := by unfold aPure; rw [ho]
  rw [e1] at he
  unfold aHeap at he
  rw [ho] at he
  simp only [] at he
  cases hx : a.eval x with
  | pointer q =>
    cases q with
    | none => rw [hx] at he; simp at he
    | some p =>
      rw [hx] at he
      simp only [] at he
      refine ⟨p, rfl, ?_⟩
      cases hl : aLoadVar P ty p h with
      | none => rw [hl] at he; simp at he
      | some u => rw [hl] at he; simp at he; rw [he.1]
  | _ => rw [hx] at he; simp at he
theorem load_sound {P : Program} {CK : Code → Prop} {β : Bm} {h : Hp} {w : World} {rd : Option Nat} {o : Oper} {ty : TypeId} {x : Operand} (ho : o.op = .load ty x) (r : Rel P CK β h w) {a a₀ : Act} {v : Value} {p : Addr} (hx : a.eval x = .pointer (some p)) (hρ : a₀.eval x = ren β (a.eval x)) (hv : aLoadVar P ty p h = some v) (Q : Exit → Act → World → Prop) :
    o.wpIn (FW rd) 0 P a₀ w (fun a' w' => a' = a₀.put o.dst (ren β v) ∧ w' = w) Q := by
  have hnd : ∀ c, o.op ≠ .defer c := by
    intro c hc
    rw [ho] at hc; cases hc
  refine ⟨fun _ _ => trivial, ?_⟩
  rw [Oper.semAt_eq _ _ _ hnd]
  obtain ⟨h1, h2⟩ := loadVar_run r hv
  have e : (execOp a₀.eval o).run P w = .ok (.value (ren β v)) w := by
    unfold execOp
    rw [ho]
    simp only []
    rw [hρ, hx, ren_pointer]
    unfold Instr.loadAt
    rw [run_then (show (do let a ← Instr.sureAddr (.pointer (some (renA β p))); loadVar ty a : Sem Value).run P w = .ok (ren β v) w from h1)]
    rfl
  rw [e, Oper.uponIn_value]
  exact ⟨rfl, rfl⟩
theorem DrawFacts.before_lt {ops : Array Oper} {bf : Array Nat} (f : DrawFacts ops bf) : ∀ (j : Nat) (o : Oper), ops[j]? = some o → ∀ k, k < ops.size → (bf.getD j 0).testBit k = true → k < j := by
  intro j
  induction j using Nat.strongRecOn with
  | _ j ih =>
    intro o ho k hk hb
    obtain ⟨e, he, hbd, hor⟩ := f.edge j o ho k hk hb
    have hlt := f.lt j o ho e he hbd
    have hj := (Array.getElem?_eq_some_iff.1 ho).1
    rcases hor with rfl | hor
    · exact hlt
    · have := ih e.on hlt _ (Array.getElem?_eq_getElem (by omega : e.on < ops.size)) k hk hor
      omega
namespace SqF
variable {P : Program} {CK : Code → Prop} {call : CallF} {ops : Array Oper} {a0 : Act} {h0 : Hp} {β0 : Bm} {w0 : World} {q : SqF P call ops (Region.before ops) a0 h0}
variable {D : Nat → Prop} {β : Bm} {aw : Act} {w : World}

theorem step_sound (pk : ProgOk P) (hcall : CallOk P CK call) (r0 : Rel P CK β0 h0 w0) (ha0 : aok h0.size a0) (f : DrawFacts ops (Region.before ops)) (hok : ops.all (operOk P) = true)
    (cl : Cl ops (Region.before ops) D) {j : Nat} {o : Oper} (rd : Rd ops (Region.before ops) D j) (ho : ops[j]? = some o) (hi : q.DI CK β0 w0 D β aw w) {rr : Option Nat} (Q : Exit → Act → World → Prop) :
    wpOpIn (FW rr) 0 P ops Q j (fun aw' w' => ∃ γ, q.DI CK β0 w0 (fun i => D i ∨ i = j) γ aw' w') aw w := by
  have hj : j < ops.size := (Array.getElem?_eq_some_iff.1 ho).1
  have oko : operOk P o = true := Array.all_eq_true_iff_forall_mem.1 hok o (Array.mem_of_getElem? ho)
  have hzn : h0.size ≤ q.sz ops.size := by
    have := q.sz_le (i := 0) (j := ops.size) (by omega) (by omega)
    rw [q.sz0] at this; exact this
  have hzj : h0.size ≤ q.sz j := by
    have := q.sz_le (i := 0) (j := j) (by omega) (by omega)
    rw [q.sz0] at this; exact this
  have hread : ∀ s ∈ o.looksAt ops, aw.tmps[s]? = ((q.A j).tmps[s]?).map (ren β) ∧ ∀ v, (q.A j).tmps[s]? = some v → vok (q.sz ops.size) v := by
    intro s hs
    rcases hi with ⟨p, t⟩ | ⟨m, hm, hk, he, st, t⟩
    · obtain ⟨h1, h2⟩ := t.read f cl rd ho s hs
      exact ⟨h1, fun v hv => vok_of_vokB (fun b hb => SD_lt (fun i _ hi => (cl i hi).1) (q.SDb_iff.1 hb)) v (h2 v hv)⟩
    · obtain ⟨h1, h2⟩ := t.read f cl rd ho s hs
      refine ⟨h1, fun v hv => vok_of_vokB (fun b hb => ?_) v (h2 v hv)⟩
      simp only [decide_eq_true_eq] at hb
      have := q.sz_le hm (Nat.le_refl _)
      omega
  have hglob : ∀ g, g < P.globals.size → (β g).B = g ∧ (β g).O = 0 := by
    rcases hi with ⟨p, t⟩ | ⟨m, hm, hk, he, st, t⟩
    · intro g hg; rw [p.old g (by have := r0.gsize; omega)]; exact r0.glob g hg
    · exact st.rel.glob
  have hsame : ∀ s ∈ o.looksAt ops, aw.tmps[s]? = (renAct β (q.A j)).tmps[s]? := fun s hs => by
    rw [(hread s hs).1]; simp [renAct]
  have hwant : Region.wanted o (yielded ops aw.tmps) = Region.wanted o (yielded ops (q.A j).tmps) := by
    rw [wanted_same hsame, wanted_ren]
  unfold wpOpIn
  rw [ho]
  simp only []
  rw [hwant]
  cases q.case j o ho with
  | un hw hv hH hK hW =>
    rw [if_neg (by simp [hw])]
    refine ⟨fun _ _ => trivial, β, ?_⟩
    have := quiet_step f cl rd ho (q.notE ho (.inl hw)) (by rw [hv]; simp) hi
    rw [hv, ren_undef] at this
    exact this
  | pure hw hp hv hH hK hW hb =>
    rw [if_pos hw]
    have hρ := opnds (emptyRel (CK := CK) (w := w) hglob (by have := r0.gsize; omega : P.globals.size ≤ q.sz ops.size)) oko hread
    refine Oper.wpIn_mono ?_ (pure_sound pk oko hρ hv Q)
    rintro a' w' ⟨rfl, rfl⟩
    exact ⟨β, quiet_step f cl rd ho (q.notE ho (.inr (.inl hp))) hb hi⟩
  | ld hw hp hl g hv hH hK hW hb hlate =>
    rw [if_pos hw]
    have hEj : ¬ q.E j := q.notE ho (.inr (.inr hl))
    -- operations that come up in either order with the load
    have hun1 : ∀ k, k < ops.size → D k → k ≠ j → ((Region.before ops).getD k 0).testBit j = false := by
      intro k hk hD hne
      cases hb : ((Region.before ops).getD k 0).testBit j with
      | false => rfl
      | true => exact absurd ((cl k hD).2 j hj hb) rd.not
    have hun2 : ∀ k, k < ops.size → ¬ D k → ((Region.before ops).getD j 0).testBit k = false := by
      intro k hk hD
      cases hb : ((Region.before ops).getD j 0).testBit k with
      | false => rfl
      | true => exact absurd (rd.all k hk hb) hD
    have hlt1 : ∀ k, k < ops.size → k < j → ((Region.before ops).getD k 0).testBit j = false := by
      intro k hk hkj
      cases hb : ((Region.before ops).getD k 0).testBit j with
      | false => rfl
      | true =>
        have := f.before_lt k _ (Array.getElem?_eq_getElem hk) j hj hb
        omega
    have hlt2 : ∀ k, k < ops.size → j ≤ k → ((Region.before ops).getD j 0).testBit k = false := by
      intro k hk hkj
      cases hb : ((Region.before ops).getD j 0).testBit k with
      | false => rfl
      | true =>
        have := f.before_lt j _ ho k hk hb
        omega
    by_cases hla : isLate ops (Region.before ops) j o = true
    · obtain ⟨u0, hu0⟩ : ∃ u, ldPtr o = some u := by
        cases hp : ldPtr o with
        | some u => exact ⟨u, rfl⟩
        | none => unfold isLate at hla; rw [hp] at hla; simp at hla
      obtain ⟨ty, hop⟩ : ∃ ty, o.op = .load ty (.tmp u0) := by
        unfold ldPtr at hu0
        split at hu0
        · rename_i ty u h
          cases hu0
          exact ⟨ty, h⟩
        · cases hu0
      obtain ⟨p0, hx, hld⟩ := opVal_load hop hv
      have hlook : u0 ∈ o.looksAt ops := List.mem_append_left _ (List.mem_filterMap.2 ⟨.tmp u0, by simp [hop, Op.operands], rfl⟩)
      have hρ : aw.eval (.tmp u0) = ren β ((q.A j).eval (.tmp u0)) := by
        simp only [Act.eval, Array.getD_eq_getD_getElem?, (hread u0 hlook).1]
        cases (q.A j).tmps[u0]? with
        | none => simp
        | some v => rfl
      have hx0 : (q.A j).tmps.getD u0 undef = .pointer (some p0) := hx
      have hpb : p0.block < h0.size := by
        have := hlate hla
        unfold oldP at this
        rw [hu0] at this
        simp only [hx0, blkO, decide_eq_true_eq] at this
        exact this
      have fin : ∀ X : Hp, Rel P CK β X w → X.get p0.block = (q.H j).get p0.block → o.wpIn (FW rr) 0 P aw w (fun aw' w' => ∃ γ, q.DI CK β0 w0 (fun i => D i ∨ i = j) γ aw' w') Q := by
        intro X rX hX
        refine Oper.wpIn_mono ?_ (load_sound hop rX hx hρ ((aLoadVar_congr hX).trans hld) Q)
        rintro a' w' ⟨rfl, rfl⟩
        refine ⟨β, quiet_step f cl rd ho hEj (vokB_mono (fun b hb' => ?_) _ hb) hi⟩
        simp only [allow, List.any_nil, Bool.or_false, decide_eq_true_eq] at hb'
        simp [allow, hb']
      rcases hi with ⟨p, t⟩ | ⟨m, hm, hk, he, st, t⟩
      · refine fin h0 (p.rel r0 (Nat.le_refl _) r0.roLe fun id y hy => .inl ⟨r0.lt id (by rw [hy]; simp), hy⟩) ?_
        have key : ∀ n, n ≤ j → (q.H n).get p0.block = h0.get p0.block := by
          intro n
          induction n with
          | zero => intro _; rw [H, q.H0]
          | succ n ih =>
            intro hn
            rw [← ih (by omega)]
            by_cases hEn : q.E n ∧ D n
            · have ho' : ops[n]? = some ops[n] := Array.getElem?_eq_getElem (by omega)
              have hnW : ¬ q.Wo n := p.noW n hEn.2
              cases q.case n _ ho' with
              | un hw hv hH => rw [hH]
              | pure hw hp hv hH => rw [hH]
              | ld hw hp hl g hv hH => rw [hH]
              | wr hw hp' hl' ho' L g hv hH hL hK hW => exact absurd ⟨hEn.1, hW⟩ hnW
              | rd hw hp' hl' hW0 h1 hv hz hH hK hW hs =>
                have h0k : h0.size ≤ (q.H n).size := by
                  have := q.sz_le (i := 0) (j := n) (by omega) (by omega)
                  rw [q.sz0] at this; exact this
                rw [hH, more_get (by rw [← hz]; exact hs), if_neg (by omega)]
            · exact q.H_late ho hla hu0 hx0 (by omega) (fun hE => by
                have hD : ¬ D n := fun h => hEn ⟨hE, h⟩
                unfold unord; rw [hlt1 n (by omega) (by omega), hun2 n (by omega) hD]; rfl) hpb
        exact (key j (Nat.le_refl _)).symm
      · refine fin (q.H m) st.rel ?_
        rcases Nat.le_total m j with h | h
        · refine (q.H_late_to ho hla hu0 hx0 h (by omega) (fun k hk1 hk2 hE => ?_) hpb).symm
          have hD : ¬ D k := fun hD => by have := (he k hE).1 hD; omega
          unfold unord; rw [hlt1 k (by omega) hk2, hun2 k (by omega) hD]; rfl
        · refine q.H_late_to ho hla hu0 hx0 h hm (fun k hk1 hk2 hE => ?_) hpb
          have hD : D k := (he k hE).2 hk2
          have hne : k ≠ j := fun e => by subst e; exact hEj hE
          unfold unord; rw [hun1 k (by omega) hD hne, hlt2 k (by omega) hk1]; rfl
    · rw [Bool.not_eq_true] at hla
      have hnl := hla
      obtain ⟨t0, ht0⟩ : ∃ t, ldTmp ops o = some t := by
        unfold isLd at hl
        rw [hnl, Bool.or_false] at hl
        unfold isLd0 at hl
        rw [Bool.and_eq_true] at hl
        exact Option.isSome_iff_exists.1 hl.1
      obtain ⟨ty, u0, hop, hall, hchain⟩ := ldTmp_spec ht0
      obtain ⟨p1, hx, hld⟩ := opVal_load hop hv
      have hlook : u0 ∈ o.looksAt ops := List.mem_append_left _ (List.mem_filterMap.2 ⟨.tmp u0, by simp [hop, Op.operands], rfl⟩)
      have hρ : aw.eval (.tmp u0) = ren β ((q.A j).eval (.tmp u0)) := by
        simp only [Act.eval, Array.getD_eq_getD_getElem?, (hread u0 hlook).1]
        cases (q.A j).tmps[u0]? with
        | none => simp
        | some v => rfl
      obtain ⟨p0, hb01, hx0⟩ : ∃ p0, p0.block = p1.block ∧ a0.tmps.getD t0 undef = .pointer (some p0) := by
        have hx : (q.A j).tmps.getD u0 undef = .pointer (some p1) := hx
        rcases hchain with rfl | ⟨x', s', f', v', c1, c2, c3, c5⟩
        · refine ⟨p1, rfl, ?_⟩
          rw [Array.getD_eq_getD_getElem?, q.A_live hall (by omega)] at hx
          rw [Array.getD_eq_getD_getElem?]; exact hx
        · obtain ⟨g1, g2, g3⟩ := field_def c1 c2
          obtain ⟨p2, e2, hp2⟩ := q.A_field g1 c2 g2 g3 (c5 j o ty ho hop) (by omega) hx
          obtain ⟨p0, e0, hp0⟩ := q.A_chain 4 v' x'.2 t0 c3 x'.2 p2 (Nat.le_refl _) (by have := (Array.getElem?_eq_some_iff.1 g1).1; omega) hp2
          exact ⟨p0, e0.trans e2, hp0⟩
      have hpb : p0.block < h0.size := by
        rw [Array.getD_eq_getD_getElem?] at hx0
        cases hq : a0.tmps[t0]? with
        | none => rw [hq] at hx0; simp [undef] at hx0
        | some v =>
          rw [hq] at hx0
          simp only [Option.getD_some] at hx0
          have := ha0.1 v (Array.mem_of_getElem? hq)
          rw [hx0] at this; simpa using this
      have fin : ∀ X : Hp, Rel P CK β X w → X.get p0.block = (q.H j).get p0.block → o.wpIn (FW rr) 0 P aw w (fun aw' w' => ∃ γ, q.DI CK β0 w0 (fun i => D i ∨ i = j) γ aw' w') Q := by
        intro X rX hX
        refine Oper.wpIn_mono ?_ (load_sound hop rX hx hρ ((aLoadVar_congr (hb01 ▸ hX)).trans hld) Q)
        rintro a' w' ⟨rfl, rfl⟩
        refine ⟨β, quiet_step f cl rd ho hEj (vokB_mono (fun b hb' => ?_) _ hb) hi⟩
        simp only [allow, List.any_nil, Bool.or_false, decide_eq_true_eq] at hb'
        simp [allow, hb']
      rcases hi with ⟨p, t⟩ | ⟨m, hm, hk, he, st, t⟩
      · refine fin h0 (p.rel r0 (Nat.le_refl _) r0.roLe fun id y hy => .inl ⟨r0.lt id (by rw [hy]; simp), hy⟩) ?_
        have key : ∀ n, n ≤ j → (q.H n).get p0.block = h0.get p0.block := by
          intro n
          induction n with
          | zero => intro _; rw [H, q.H0]
          | succ n ih =>
            intro hn
            rw [← ih (by omega)]
            by_cases hEn : q.E n ∧ D n
            · have ho' : ops[n]? = some ops[n] := Array.getElem?_eq_getElem (by omega)
              have hnW : ¬ q.Wo n := p.noW n hEn.2
              cases q.case n _ ho' with
              | un hw hv hH => rw [hH]
              | pure hw hp hv hH => rw [hH]
              | ld hw hp hl g hv hH => rw [hH]
              | wr hw hp' hl' ho' L g hv hH hL hK hW => exact absurd ⟨hEn.1, hW⟩ hnW
              | rd hw hp' hl' hW0 h1 hv hz hH hK hW hs =>
                have h0k : h0.size ≤ (q.H n).size := by
                  have := q.sz_le (i := 0) (j := n) (by omega) (by omega)
                  rw [q.sz0] at this; exact this
                rw [hH, more_get (by rw [← hz]; exact hs), if_neg (by omega)]
            · exact q.H_ld ho hnl hl ht0 hx0 (by omega) (fun hE => by
                have hD : ¬ D n := fun h => hEn ⟨hE, h⟩
                unfold unord; rw [hlt1 n (by omega) (by omega), hun2 n (by omega) hD]; rfl) hpb
        exact (key j (Nat.le_refl _)).symm
      · refine fin (q.H m) st.rel ?_
        rcases Nat.le_total m j with h | h
        · refine (q.H_ld_to ho hnl hl ht0 hx0 h (by omega) (fun k hk1 hk2 hE => ?_) hpb).symm
          have hD : ¬ D k := fun hD => by have := (he k hE).1 hD; omega
          unfold unord; rw [hlt1 k (by omega) hk2, hun2 k (by omega) hD]; rfl
        · refine q.H_ld_to ho hnl hl ht0 hx0 h hm (fun k hk1 hk2 hE => ?_) hpb
          have hD : D k := (he k hE).2 hk2
          have hne : k ≠ j := fun e => by subst e; exact hEj hE
          unfold unord; rw [hun1 k (by omega) hD hne, hlt2 k (by omega) hk1]; rfl
  | wr hw hp hl hord L g hv hHj hL hK hW hs hb =>
    rw [if_pos hw]
    obtain ⟨hE, st, t⟩ := at_wr r0 cl rd ho hp hord hi
    have hρ := opnds (X := (q.H j).hideL L) (st.rel.hideL L) oko fun s hs => ⟨(hread s hs).1, fun v hv => ?_⟩
    · refine Oper.wpIn_mono ?_ (opVal_sound pk hcall oko (st.rel.hideL L) hρ hv Q)
      rintro a' w' ⟨β', rfl, h2, h3⟩
      replace h3 := St.unhide st.rel h3
      rw [← hHj] at h3
      have hsg : g.size = q.sz (j + 1) := by simp only [sz, hHj]; exact (backL_size _ _ _).1.symm
      rw [hsg] at h2
      have hEj : q.E j := ⟨o, ho, hw, hp, hl⟩
      refine ⟨β', .inr ⟨j + 1, hj, ⟨j, by omega, hEj, hW⟩, fun i hEi => ?_, st.trans h3, ?_⟩⟩
      · show D i ∨ i = j ↔ i < j + 1
        rw [hE i hEi]; omega
      · refine t.step f cl rd ho (fun b hb' => ?_) (fun b hb' => ?_) (vokB_of_vok (fun b hb' => ?_) _ h2)
        · simp only [decide_eq_true_eq] at hb'
          exact h3.ext b hb'
        · simp only [decide_eq_true_eq] at hb' ⊢
          omega
        · simp only [decide_eq_true_eq]; exact hb'
    · rw [(hideL_size _ _).1]
      exact (q.A_ok ha0 (by omega : j ≤ ops.size)).1 v (Array.mem_of_getElem? hv)
  | rd hw hp hl hW0 h1 hv hz hH hK hW hs hb =>
    rw [if_pos hw]
    have hEj : q.E j := ⟨o, ho, hw, hp, hl⟩
    have hnW : ∀ k, k < j → ¬ q.Wo k := fun k hk hw => by
      have := q.W_up hw hk (by omega)
      rw [hW0] at this; cases this
    rcases hi with ⟨p, t⟩ | ⟨m, hm, ⟨k, hk, hkw⟩, he, st, t⟩
    · have hXz : ((q.H j).view ((Region.before ops).getD j 0) (q.K j)).size = q.sz j := by
        simp only [Hp.view]; exact hideAll_size _ _ _
      have hXr : ((q.H j).view ((Region.before ops).getD j 0) (q.K j)).ro = q.sz j := rfl
      have rX : Rel P CK β ((q.H j).view ((Region.before ops).getD j 0) (q.K j)) w := by
        refine p.rel r0 (by rw [hXz]; exact hzj) (by rw [hXz, hXr]; exact Nat.le_refl _) fun id y hy => ?_
        obtain ⟨g1, g2⟩ := hideAll_some (show ((q.H j).hideAll ((Region.before ops).getD j 0) (q.K j)).get id = some y from hy)
        rcases (q.H_quiet r0.lt (j := j) (by omega) hnW).2.2 id y g1 with h | ⟨i, h, h'⟩
        · exact .inl h
        · refine .inr ⟨i, ?_, h', by rw [hXz]; exact q.sz_le (by omega) (by omega)⟩
          have hb := g2 (i, q.sz i, q.sz (i + 1)) ((q.K_mem (by omega) _).2 ⟨i, h, h'.1, rfl⟩) h'.2.1 h'.2.2.1
          exact rd.all i (by omega) hb
      have hρ := opnds rX oko fun s hs => ⟨(hread s hs).1, fun v hv => by
        rw [hXz]
        exact (q.A_ok ha0 (by omega : j ≤ ops.size)).1 v (Array.mem_of_getElem? hv)⟩
      refine Oper.wpIn_mono ?_ (opVal_sound pk hcall oko rX hρ hv Q)
      rintro a' w' ⟨β', rfl, h2, h3⟩
      exact rd_step r0.lt f cl rd ho hEj hW hW0 h1 hz hH hs hb p t hXz hXr rX h3
    · exfalso
      have hDk := (he k hkw.1).2 hk
      have hjm : ¬ j < m := fun h => rd.not ((he j hEj).2 h)
      have := q.W_up hkw (by omega : k < j) (by omega)
      rw [hW0] at this; cases this

/-- At the end. -/
theorem done_sound (r0 : Rel P CK β0 h0 w0) (ha0 : aok h0.size a0) (hall : ∀ i, i < ops.size → D i) (cl : Cl ops (Region.before ops) D) (hi : q.DI CK β0 w0 D β aw w) :
    aw = renAct β (q.A ops.size) ∧ aok (q.H ops.size).size (q.A ops.size) ∧ St P CK β0 h0 w0 β (q.H ops.size) w := by
  have hz : h0.size ≤ (q.H ops.size).size := by
    have := q.sz_le (i := 0) (j := ops.size) (by omega) (by omega)
    rw [q.sz0] at this; exact this
  refine ⟨?_, q.A_ok ha0 (Nat.le_refl _), ?_⟩
  · rcases hi with ⟨p, t⟩ | ⟨m, hm, hk, he, st, t⟩
    · exact t.done hall ha0 p.old
    · exact t.done hall ha0 fun b hb => st.ext b hb
  · rcases hi with ⟨p, t⟩ | ⟨m, hm, hk, he, st, t⟩
    · obtain ⟨g1, g2, g3⟩ := q.H_quiet r0.lt (j := ops.size) (Nat.le_refl _) fun k hk hw => p.noW k (hall k hk) hw
      refine p.st r0 hz (by rw [g1]; exact Nat.le_trans r0.roLe hz) (fun id y hy => ?_) g1 g2
      rcases g3 id y hy with h | ⟨i, h1, h2⟩
      · exact .inl h
      · exact .inr ⟨i, hall i h1, h2, q.sz_le (by omega) (by omega)⟩
    · have e : q.H ops.size = q.H m := q.H_const hm (Nat.le_refl _) fun k hk hkn hEk => by
        have := (he k hEk).1 (hall k hkn)
        omega
      rw [e]; exact st

/-- How many are not yet done. -/
def left (listed : Array Bool) : Nat → Nat
  | 0 => 0
  | k + 1 => left listed k + if listed.getD k true then 0 else 1

theorem left_set {listed : Array Bool} {j : Nat} (hj : listed.getD j true = false) : ∀ k, left (listed.setIfInBounds j true) k + (if j < k then 1 else 0) = left listed k
  | 0 => by simp [left]
  | k + 1 => by
    have hjs : j < listed.size := by
      rcases Nat.lt_or_ge j listed.size with h | h
      · exact h
      · simp [Array.getElem?_eq_none h] at hj
    have ih := left_set hj k
    simp only [left]
    by_cases hjk : j = k
    · subst hjk
      rw [hj]
      simp only [Nat.lt_irrefl, if_false, Nat.lt_succ_self, if_true] at ih ⊢
      simp [hjs] at ih ⊢
      omega
    · rw [getD_set_ne true hjk]
      have : (j < k + 1) = (j < k) := by simp; omega
      simp only [this]
      omega

theorem left_zero {listed : Array Bool} : ∀ k, left listed k = 0 → ∀ i, i < k → listed.getD i true = true
  | 0, _, i, hi => by omega
  | k + 1, h, i, hi => by
    simp only [left] at h
    by_cases hik : i = k
    · subst hik
      cases hb : listed.getD i true with
      | true => rfl
      | false => rw [hb] at h; simp at h
    · exact left_zero k (by omega) i (by omega)

theorem any_sound (pk : ProgOk P) (hcall : CallOk P CK call) (r0 : Rel P CK β0 h0 w0) (ha0 : aok h0.size a0) (f : DrawFacts ops (Region.before ops)) (hok : ops.all (operOk P) = true)
    {rr : Option Nat} (Q : Exit → Act → World → Prop) (hQ : ∀ β' w', St P CK β0 h0 w0 β' (q.H ops.size) w' → aok (q.H ops.size).size (q.A ops.size) → Q .normal (renAct β' (q.A ops.size)) w') :
    ∀ (fuel : Nat) (listed : Array Bool) (β : Bm) (aw : Act) (w : World), listed.size = ops.size → left listed ops.size ≤ fuel → Cl ops (Region.before ops) (fun i => listed.getD i false = true) →
      q.DI CK β0 w0 (fun i => listed.getD i false = true) β aw w → wpAnyIn (FW rr) 0 P .any ops Q fuel listed aw w := by
  have hgd : ∀ (listed : Array Bool) (i : Nat), i < listed.size → listed.getD i true = listed.getD i false := by
    intro listed i hi
    simp [hi]
  have prog : ∀ (listed : Array Bool), listed.size = ops.size → Region.ready .any ops listed = [] → ∀ i, i < ops.size → listed.getD i false = true := by
    intro listed hsz hr i
    induction i using Nat.strongRecOn with
    | _ i ih =>
      intro hi
      cases hb : listed.getD i false with
      | true => rfl
      | false =>
        exfalso
        have : i ∈ Region.ready .any ops listed := by
          refine mem_ready.2 ⟨by rw [hgd listed i (by omega)]; exact hb, ops[i], Array.getElem?_eq_getElem hi, fun e he hbd => ?_⟩
          have := f.lt i _ (Array.getElem?_eq_getElem hi) e he hbd
          exact ih e.on this (by omega)
        rw [hr] at this
        cases this
  have fin : ∀ (listed : Array Bool) (β : Bm) (aw : Act) (w : World), listed.size = ops.size → Region.ready .any ops listed = [] → Cl ops (Region.before ops) (fun i => listed.getD i false = true) →
      q.DI CK β0 w0 (fun i => listed.getD i false = true) β aw w → Q .normal aw w := by
    intro listed β aw w hsz hr cl hi
    obtain ⟨h1, h2, h3⟩ := done_sound r0 ha0 (prog listed hsz hr) cl hi
    rw [h1]
    exact hQ β w h3 h2
  intro fuel
  induction fuel with
  | zero =>
    intro listed β aw w hsz hl cl hi
    have hall := left_zero ops.size (by omega : left listed ops.size = 0)
    have hr : Region.ready .any ops listed = [] := by
      rw [List.eq_nil_iff_forall_not_mem]
      intro i hmem
      obtain ⟨h1, o, h2, _⟩ := mem_ready.1 hmem
      rw [hall i (Array.getElem?_eq_some_iff.1 h2).1] at h1
      cases h1
    exact ⟨hr, fin listed β aw w hsz hr cl hi⟩
  | succ fuel ih =>
    intro listed β aw w hsz hl cl hi
    refine ⟨fun hr => fin listed β aw w hsz hr cl hi, fun j hj => ?_⟩
    obtain ⟨h1, o, ho, h3⟩ := mem_ready.1 hj
    have hjn : j < ops.size := (Array.getElem?_eq_some_iff.1 ho).1
    have rd : Rd ops (Region.before ops) (fun i => listed.getD i false = true) j := by
      refine ⟨fun h => ?_, fun k hk hb => ?_⟩
      · rw [hgd listed j (by omega)] at h1
        have h : listed.getD j false = true := h
        rw [h1] at h; cases h
      · obtain ⟨e, he, hbd, hor⟩ := f.edge j o ho k hk hb
        have hl := h3 e he hbd
        rcases hor with rfl | hor
        · exact hl
        · exact (cl e.on hl).2 k hk hor
    refine wpOpIn_mono ?_ (step_sound pk hcall r0 ha0 f hok cl rd ho hi Q)
    rintro a' w' ⟨γ, hd⟩
    have eD : (fun i => listed.getD i false = true ∨ i = j) = fun i => (listed.setIfInBounds j true).getD i false = true := by
      funext i
      by_cases hij : i = j
      · subst hij
        simp [hsz, hjn]
      · rw [getD_set_ne false (Ne.symm hij)]
        simp [hij]
    rw [eD] at hd
    refine ih _ γ a' w' (by simpa using hsz) ?_ ?_ hd
    · have := left_set h1 ops.size
      rw [if_pos hjn] at this
      omega
    · rw [← eD]
      intro i hiD
      rcases hiD with hiD | rfl
      · exact ⟨(cl i hiD).1, fun k hk hb => .inl ((cl i hiD).2 k hk hb)⟩
      · exact ⟨hjn, fun k hk hb => .inl (rd.all k hk hb)⟩

end SqF

theorem evalDraw0_any {R : Type} {P : Program} {CK : Code → Prop} (pk : ProgOk P) {call : CallF} (hcall : CallOk P CK call) {ops : Array Oper} (hok : ops.all (operOk P) = true) (hdk : drawOk ops = true) {rd : Option Nat} {β : Bm} {h : Hp} {w : World} {a : Act} {K : Act → Hp → Option R} {res : R}
    (r : Rel P CK β h w) (ha : aok h.size a) (he : evalDraw0 P call ops a h K = some res) {Q : Exit → Act → World → Prop} (hQ : ∀ a' w', Ends P CK β h w K res a' w' → Q .normal a' w') :
    wpAnyIn (FW rd) 0 P .any ops Q ops.size (Array.replicate ops.size false) (renAct β a) w := by
  unfold evalDraw0 at he
  obtain ⟨q, h1, h2, h3, h4, h5⟩ := evalDrawL_seq ops.toList 0 a h [] false K res (by simp) (Nat.zero_le _) he
  let q' : SqF P call ops (Region.before ops) a h := ⟨q, h1, h2, h3, h4⟩
  have hf : ∀ i, (Array.replicate ops.size false).getD i false = false := by
    intro i
    simp only [Array.getD_eq_getD_getElem?, Array.getElem?_replicate]
    split <;> rfl
  refine SqF.any_sound (q := q') (w0 := w) (β0 := β) pk hcall r ha (drawOk_facts hdk) hok Q (fun β' w' st hok' => ?_) ops.size _ β _ _ (by simp) ?_ ?_ ?_
  · exact hQ _ _ ⟨q.A ops.size, q.H ops.size, β', h5, rfl, hok', st⟩
  · have : ∀ k, SqF.left (Array.replicate ops.size false) k ≤ k := by
      intro k
      induction k with
      | zero => exact Nat.le_refl _
      | succ k ih => simp only [SqF.left]; split <;> omega
    exact this _
  · intro j hj
    have hj : (Array.replicate ops.size false).getD j false = true := hj
    rw [hf] at hj; cases hj
  · refine .inl ⟨⟨fun b _ => rfl, fun i hi => ?_, Nat.le_refl _, fun _ _ => rfl, rfl, rfl, rfl, fun i id y hi => ?_, fun i i' b b' y y' hi => ?_⟩, ⟨rfl, by simp [renAct], fun t => ⟨0, Nat.zero_le _, fun i o _ _ => ?_, ?_, fun v hv => ?_⟩⟩⟩
    · have hi : (Array.replicate ops.size false).getD i false = true := hi
      rw [hf] at hi; cases hi
    · have hi : (Array.replicate ops.size false).getD i false = true := hi
      rw [hf] at hi; cases hi
    · have hi : (Array.replicate ops.size false).getD i false = true := hi
      rw [hf] at hi; cases hi
    · show (Array.replicate ops.size false).getD i false = true ↔ _
      rw [hf]; simp
    · show _ = ((q.A 0).tmps[t]?).map _
      rw [h1]; simp [renAct]
    · have hv : (q.A 0).tmps[t]? = some v := hv
      rw [h1] at hv
      refine vokB_of_vok (fun b hb => ?_) v (ha.1 v (Array.mem_of_getElem? hv))
      rw [q'.SDb_iff]
      exact .inl hb
theorem newOp_facts {ops : Array Oper} {i : Nat} (h : newOp ops = some i) : ∃ oi t, ops[i]? = some oi ∧ oi.op = .makeMap t none ∧ oi.guard = none ∧ oi.after = #[] ∧ drawOk (ops.setIfInBounds i nopO) = true ∧
    ∀ (j : Nat) (o : Oper), ops[j]? = some o → j ≠ i → (∀ (g : Nat) (b : Bool), o.guard = some (g, b) → g ≠ i) ∧ ((∀ e ∈ o.after, Region.binds .any e = true → e.on ≠ i) → oi.apart ops o = true ∧ easyOp o = true) := by
  unfold newOp at h
  split at h
  · have h1 := List.find?_some h
    unfold newAt at h1
    cases hi : ops[i]? with
    | none => rw [hi] at h1; cases h1
    | some oi =>
      rw [hi] at h1
      simp only [Bool.and_eq_true] at h1
      obtain ⟨⟨⟨⟨⟨g1, g2⟩, g3⟩, g4⟩, g5⟩, g6⟩ := h1
      obtain ⟨t, ht⟩ : ∃ t, oi.op = .makeMap t none := by
        unfold isMk at g1
        split at g1
        · rename_i t ho; exact ⟨t, ho⟩
        · cases g1
      refine ⟨oi, t, rfl, ht, by simpa using g2, by simpa using g3, g6, fun j o ho hji => ?_⟩
      rw [List.all_eq_true] at g4
      have := g4 j (List.mem_range.2 (Array.getElem?_eq_some_iff.1 ho).1)
      rw [ho, Bool.or_eq_true] at this
      have := this.resolve_left (by simpa using hji)
      simp only [Bool.and_eq_true, Bool.or_eq_true] at this
      refine ⟨fun g b hg => ?_, fun hno => ?_⟩
      · have h2 := this.1
        rw [hg] at h2
        simpa using h2
      · rcases this.2 with h2 | h2
        · rw [Array.any_eq_true'] at h2
          obtain ⟨e, he, h3⟩ := h2
          simp only [Bool.and_eq_true, beq_iff_eq] at h3
          exact absurd h3.2 (hno e he h3.1)
        · exact ⟨h2.2, h2.1⟩
  · cases h
theorem nop_ok {P : Program} {ops : Array Oper} {i : Nat} (h : ops.all (operOk P) = true) : (ops.setIfInBounds i nopO).all (operOk P) = true := by
  rw [Array.all_eq_true_iff_forall_mem] at h ⊢
  intro x hx
  rcases Array.mem_or_eq_of_mem_setIfInBounds hx with hx | rfl
  · exact h x hx
  · simp [operOk, nopO, Op.operands, opnOk, isDefer]; unfold flatB; rfl
theorem renAct_put {β : Bm} {a : Act} {d : Option Tmp} {v : Value} : renAct β (a.put d v) = (renAct β a).put d (ren β v) := by
  cases d with
  | none => rfl
  | some d => simp only [renAct, Act.put, Array.map_setIfInBounds]
theorem evalDraw_ok {R : Type} {P : Program} {CK : Code → Prop} (pk : ProgOk P) {call : CallF} (hcall : CallOk P CK call) : DrawOk (R := R) P CK drawOk (evalDraw P call) := by
  intro ops hok hdk rd id β h w a K res r ha he Q hQ
  have s0 := St.drew r (w.drawn + 1)
  have ends : ∀ {β' h' w'} (s : St P CK β h w β' h' w') {a'' w''}, Ends P CK β' h' w' K res a'' w'' → Q .normal a'' w'' := fun s a'' w'' he => by
    obtain ⟨aa, hh, γ, e1, e2, e3, e4⟩ := he
    exact hQ _ _ ⟨aa, hh, γ, e1, e2, e3, s.trans e4⟩
  unfold evalDraw at he
  split at he
  · exact wpIn_region_any pk.mixed (evalDraw0_any pk hcall hok hdk s0.rel ha he fun a' w' => ends s0)
  · rename_i i hi
    obtain ⟨oi, t, ho, hop, hg, haf, hdk', hfree⟩ := newOp_facts hi
    have hlt : i < ops.size := (Array.getElem?_eq_some_iff.1 ho).1
    refine Code.wpIn_mono (Q := fun e a w => e = .normal ∧ Q .normal a w) (fun e a w h => by rw [h.1]; exact h.2) ?_
    refine wpIn_region_any pk.mixed ?_
    obtain ⟨β', w', g1, g2, g3⟩ := makeMap_good s0.rel (t := t) (res := none) (v := .map (some h.size)) (h' := h.push (some (.map #[] 0))) rfl
    have g1' : Result.ok (Value.map (some w.heap.size)) (psh { w with drawn := w.drawn + 1 }) = .ok (ren β' (.map (some h.size))) w' := g1
    injection g1' with e1 e2
    subst e2
    rw [ho] at he
    have ha' : aok (h.push (some (.map #[] 0))).size (a.put oi.dst (.map (some h.size))) := by
      have h1 : aok (h.push (some (.map #[] 0))).size a := aok_mono (by simp) ha
      cases hd : oi.dst with
      | none => exact h1
      | some d =>
        refine ⟨fun v hv => ?_, h1.2⟩
        rcases Array.mem_or_eq_of_mem_setIfInBounds hv with hv | rfl
        · exact h1.1 v hv
        · simp
    have hA := evalDraw0_any (rd := rd) pk hcall (nop_ok (i := i) hok) hdk' g3.rel ha' he (Q := fun e a w => e = .normal ∧ Q .normal a w) fun a' w' he => ⟨rfl, ends (s0.trans g3) he⟩
    have eA : renAct β' (a.put oi.dst (.map (some h.size))) = (renAct β a).put oi.dst (.map (some w.heap.size)) := by
      rw [renAct_put, ← e1, renAct_congr g3.ext ha]
    rw [eA, Array.size_setIfInBounds] at hA
    obtain ⟨n, hn⟩ : ∃ n, ops.size = n + 1 := ⟨ops.size - 1, by omega⟩
    have hB := wpAnyIn_nop (fuel := n) hlt (fun j o hj g b hg' => by
      by_cases hji : j = i
      · subst hji
        rw [ho] at hj; cases hj
        rw [hg] at hg'; cases hg'
      · exact (hfree j o hj hji).1 g b hg') (by rw [← hn]; exact hA)
    rw [show wpAnyIn (FW rd) 0 P .any ops (fun e a w => e = .normal ∧ Q .normal a w) ops.size = wpAnyIn (FW rd) 0 P .any ops (fun e a w => e = .normal ∧ Q .normal a w) (n + 1) by rw [hn]]
    refine wpAnyIn_new ho hop hg (fun c a w h => by cases h.1) n _ _ _ (fun j o hj hji _ hno => (hfree j o hj hji).2 hno) (mem_ready.2 ⟨by simp [hlt], oi, ho, by simp [haf]⟩) ?_
    exact hB

end Go.Abs
