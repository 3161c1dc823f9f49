/- An evaluator for the model, and that it is sound (part AbsB): no statement of a law stands here. -/
import Derived.Test.YtjimckjdkgbojaaGreatDoorAbsA
import Derived.Deep.AppendSrc
set_option linter.all false
/- Slicing. -/
namespace Go.Abs
section
variable {P : Program} {CK : Code → Prop} {β : Bm} {h : Hp} {w : World} {n : Nat}

theorem sliceBound_some {x : Value} {y : Nat} {c : BoundsCode} {l : Nat} (hs : pureP P (Instr.sliceBound x y c) = some l) :
    ∃ k i, x = .int k i ∧ 0 ≤ i ∧ i ≤ y ∧ l = i.toNat := by
  unfold Instr.sliceBound at hs
  cases x <;> simp only [pureP_bind, asIntOf, pureP_stuck, pureP_pure, Option.bind_none, Option.bind_some] at hs <;> first | (cases hs; done) | skip
  · rename_i k i
    split at hs
    · rename_i hc
      rw [pureP_pure, Option.some.injEq] at hs
      exact ⟨k, i, rfl, hc.1, hc.2, hs.symm⟩
    · simp at hs
  · rename_i a
    cases a <;> simp [asIntOf] at hs

theorem sliceBound_mk {k : IntKind} {i : Int} {y : Nat} {c : BoundsCode} (h0 : 0 ≤ i) (h1 : i ≤ y) : pureP P (Instr.sliceBound (.int k i) y c) = some i.toNat := by
  unfold Instr.sliceBound
  simp only [pureP_bind, asIntOf, pureP_pure, Option.bind_some]
  rw [if_pos ⟨h0, h1⟩, pureP_pure]

theorem sliceBound_ren {x : Value} {y : Nat} {c : BoundsCode} {l : Nat} (hs : pureP P (Instr.sliceBound x y c) = some l) : pureP P (Instr.sliceBound (ren β x) y c) = some l := by
  obtain ⟨k, i, rfl, h0, h1, rfl⟩ := sliceBound_some hs
  rw [ren_int]; exact sliceBound_mk h0 h1

theorem sliceBounds_ren {b : Bool} {len cap : Nat} {lo hi mx : Option Value} {r : Nat × Nat × Nat} (hs : pureP P (Instr.sliceBounds b len cap lo hi mx) = some r) :
    pureP P (Instr.sliceBounds b len cap (lo.map (ren β)) (hi.map (ren β)) (mx.map (ren β))) = some r ∧ r.2.2 ≤ cap := by
  unfold Instr.sliceBounds at hs ⊢
  cases mx with
  | none =>
    cases hi with
    | none =>
      cases lo with
      | none =>
        simp only [Option.map_none, pureP_bind, pureP_pure, Option.bind_some, Option.some.injEq] at hs ⊢
        subst hs; exact ⟨rfl, Nat.le_refl _⟩
      | some x =>
        simp only [Option.map_none, Option.map_some, pureP_bind, pureP_pure, Option.bind_some, Option.bind_eq_some_iff, Option.some.injEq] at hs ⊢
        obtain ⟨l, hl, rfl⟩ := hs
        exact ⟨⟨l, sliceBound_ren hl, rfl⟩, Nat.le_refl _⟩
    | some y =>
      cases lo with
      | none =>
        simp only [Option.map_none, Option.map_some, pureP_bind, pureP_pure, Option.bind_some, Option.bind_eq_some_iff, Option.some.injEq] at hs ⊢
        obtain ⟨q, hq, rfl⟩ := hs
        exact ⟨⟨q, sliceBound_ren hq, rfl⟩, Nat.le_refl _⟩
      | some x =>
        simp only [Option.map_none, Option.map_some, pureP_bind, pureP_pure, Option.bind_some, Option.bind_eq_some_iff, Option.some.injEq] at hs ⊢
        obtain ⟨q, hq, l, hl, rfl⟩ := hs
        exact ⟨⟨q, sliceBound_ren hq, l, sliceBound_ren hl, rfl⟩, Nat.le_refl _⟩
  | some z =>
    cases hi with
    | none =>
      cases lo <;> simp only [pureP_bind, pureP_stuck, Option.bind_none, Option.bind_eq_some_iff] at hs <;> (obtain ⟨_, _, hs⟩ := hs; cases hs)
    | some y =>
      cases lo with
      | none =>
        simp only [Option.map_none, Option.map_some, pureP_bind, pureP_pure, Option.bind_some, Option.bind_eq_some_iff, Option.some.injEq] at hs ⊢
        obtain ⟨m, hm, q, hq, rfl⟩ := hs
        obtain ⟨_, _, _, _, hb, rfl⟩ := sliceBound_some hm
        exact ⟨⟨_, sliceBound_ren hm, q, sliceBound_ren hq, rfl⟩, by simp only; omega⟩
      | some x =>
        simp only [Option.map_some, pureP_bind, pureP_pure, Option.bind_eq_some_iff, Option.some.injEq] at hs ⊢
        obtain ⟨m, hm, q, hq, l, hl, rfl⟩ := hs
        obtain ⟨_, _, _, _, hb, rfl⟩ := sliceBound_some hm
        exact ⟨⟨_, sliceBound_ren hm, q, sliceBound_ren hq, l, sliceBound_ren hl, rfl⟩, by simp only; omega⟩

theorem slice_exact {a : Addr} {hb : a.block < n} {l q m s : Nat} (hm : m < capOpen) :
    vok n (.slice (some (if m = l then a else a.add (l * s))) (q - l) (m - l)) ∧
      Value.slice (some (if m = l then renA β a else (renA β a).add (l * s))) (q - l) (m - l) = ren β (.slice (some (if m = l then a else a.add (l * s))) (q - l) (m - l)) := by
  refine ⟨?_, ?_⟩
  · split <;> simp [hb, add_block]
  · have hc : ¬ capOpen ≤ m - l := by omega
    rw [ren_slice, renCap, if_neg hc]
    split
    · rfl
    · rw [add_renA]

/-- Slicing where the capacity is known. -/
theorem sliceAt_ren {t : TypeId} {x v : Value} {lo hi mx : Option Value} (hx : vok n x)
    (hk : match x with | .slice _ _ c => c < capOpen | .pointer (some _) => ∃ k e, P.underlying t = some (.array k e) ∧ k < capOpen | _ => False)
    (hs : pureP P (Instr.sliceAt t x lo hi mx) = some v) :
    vok n v ∧ pureP P (Instr.sliceAt t (ren β x) (lo.map (ren β)) (hi.map (ren β)) (mx.map (ren β))) = some (ren β v) := by
  have arr : ∀ (a : Addr) (k : Nat) (e : TypeId), a.block < n → k < capOpen →
      pureP P (do
        let (l, q, m) ← Instr.sliceBounds false k k lo hi mx
        let size ← sizeOf e
        pure (.slice (some (if m = l then a else a.add (l * size))) (q - l) (m - l))) = some v →
      vok n v ∧ pureP P (do
        let (l, q, m) ← Instr.sliceBounds false k k (lo.map (ren β)) (hi.map (ren β)) (mx.map (ren β))
        let size ← sizeOf e
        pure (.slice (some (if m = l then renA β a else (renA β a).add (l * size))) (q - l) (m - l))) = some (ren β v) := by
    intro a k e hb hkc hs
    rw [pureP_bind] at hs ⊢
    cases e1 : pureP P (Instr.sliceBounds false k k lo hi mx) with
    | none => rw [e1] at hs; simp at hs
    | some r =>
      obtain ⟨l, q, m⟩ := r
      obtain ⟨e1', hm⟩ := sliceBounds_ren (β := β) e1
      rw [e1] at hs; rw [e1']
      simp only [Option.bind_some, pureP_bind] at hs ⊢
      cases e2 : pureP P (sizeOf e) with
      | none => rw [e2] at hs; simp at hs
      | some s =>
        rw [e2] at hs
        simp only [Option.bind_some, pureP_pure, Option.some.injEq] at hs ⊢
        subst hs
        have := slice_exact (n := n) (β := β) (a := a) (hb := hb) (l := l) (q := q) (m := m) (s := s) (by simp only at hm; omega)
        exact ⟨this.1, this.2⟩
  unfold Instr.sliceAt at hs ⊢
  rw [pureP_bind] at hs ⊢
  cases hu : pureP P (underlying t) with
  | none => rw [hu] at hs; simp at hs
  | some u =>
    rw [hu] at hs
    rw [Option.bind_some] at hs ⊢
    cases x <;> first | (exact hk.elim) | skip
    · -- a pointer to an array
      rename_i a
      cases a with
      | none => exact hk.elim
      | some a =>
        obtain ⟨k, e, hke, hkc⟩ := hk
        rw [pureP_underlying] at hu
        rw [hu] at hke
        cases hke
        simp only [vok_pointer] at hx
        simp only [ren_pointer]
        rw [pureP_bind] at hs ⊢
        simp only [Instr.sureAddr, pureP_pure, Option.bind_some] at hs ⊢
        exact arr a k e hx hkc hs
    · rename_i a len c
      have row : ∀ e : TypeId, u = .slice e → pureP P (Instr.slice t (.slice a len c) lo hi mx) = some v →
          vok n v ∧ pureP P (Instr.slice t (ren β (.slice a len c)) (lo.map (ren β)) (hi.map (ren β)) (mx.map (ren β))) = some (ren β v) := by
        intro e he hs
        subst he
        unfold Instr.slice at hs ⊢
        rw [pureP_bind] at hs ⊢
        rw [hu] at hs ⊢
        rw [Option.bind_some] at hs ⊢
        have e0 : ren β (.slice a len c) = .slice (a.map (renA β)) len c := by
          cases a with
          | none => simp
          | some a => simp only [ren_slice, Option.map_some, renCap]; rw [if_neg (by omega)]
        rw [e0]
        simp only [] at hs ⊢
        rw [pureP_bind] at hs ⊢
        cases e1 : pureP P (Instr.sliceBounds true len c lo hi mx) with
        | none => rw [e1] at hs; simp at hs
        | some r =>
          obtain ⟨l, q, m⟩ := r
          obtain ⟨e1', hm⟩ := sliceBounds_ren (β := β) e1
          rw [e1] at hs; rw [e1']
          simp only [Option.bind_some, pureP_bind] at hs ⊢
          cases e2 : pureP P (sizeOf e) with
          | none => rw [e2] at hs; simp at hs
          | some s =>
            rw [e2] at hs
            simp only [Option.bind_some, pureP_pure, Option.some.injEq] at hs ⊢
            subst hs
            cases a with
            | none =>
              have : (if m = l then (none : Option Addr) else Option.map (fun x : Addr => x.add (l * s)) none) = none := by split <;> rfl
              simp only [Option.map_none] at this ⊢
              rw [this]
              exact ⟨by simp, by simp⟩
            | some a =>
              simp only [vok_slice] at hx
              have := slice_exact (n := n) (β := β) (a := a) (hb := hx) (l := l) (q := q) (m := m) (s := s) (by simp only at hm; omega)
              have e3 : ∀ b : Addr, (if m = l then some b else Option.map (fun x : Addr => x.add (l * s)) (some b)) = some (if m = l then b else b.add (l * s)) := by
                intro b; split <;> rfl
              simp only [Option.map_some] at e3 ⊢
              rw [e3, e3]
              exact ⟨this.1, this.2⟩
      cases u <;> simp only [] at hs ⊢ <;> first
        | exact row _ rfl hs
        | (simp [Instr.sureAddr] at hs; done)
        | skip
      all_goals
        unfold Instr.slice at hs
        rw [pureP_bind, hu, Option.bind_some] at hs
        first | (simp [asAddr] at hs; done) | (simp at hs; done)

end
end Go.Abs
/- Slicing, whole. -/
namespace Go.Abs
section
variable {P : Program} {CK : Code → Prop} {β : Bm} {h : Hp} {w : World}

theorem natOf_some {v : Value} {l : Nat} (e : natOf v = some l) : ∃ k i, v = .int k i ∧ 0 ≤ i ∧ l = i.toNat := by
  cases v <;> simp only [natOf] at e <;> first | (cases e; done) | skip
  split at e
  · cases e; exact ⟨_, _, rfl, ‹_›, rfl⟩
  · cases e

theorem natOr_some {v : Option Value} {d l : Nat} (e : natOr v d = some l) : (v = none ∧ l = d) ∨ ∃ k i, v = some (.int k i) ∧ 0 ≤ i ∧ l = i.toNat := by
  cases v with
  | none => cases e; exact .inl ⟨rfl, rfl⟩
  | some v =>
    obtain ⟨k, i, rfl, h0, rfl⟩ := natOf_some e
    exact .inr ⟨k, i, rfl, h0, rfl⟩

/-- What the machine reckons of the bounds, where they fit. -/
theorem bounds2 {lo hi : Option Value} {n cap l q : Nat} (hl : natOr lo 0 = some l) (hh : natOr hi n = some q) (h1 : l ≤ q) (h2 : q ≤ cap) :
    pureP P (Instr.sliceBounds true n cap (lo.map (ren β)) (hi.map (ren β)) none) = some (l, q, cap) := by
  unfold Instr.sliceBounds
  rcases natOr_some hl with ⟨rfl, rfl⟩ | ⟨k, i, rfl, h0, rfl⟩ <;> rcases natOr_some hh with ⟨rfl, rfl⟩ | ⟨k', i', rfl, h0', rfl⟩ <;>
    simp only [Option.map_none, Option.map_some, ren_int, pureP_bind, pureP_pure, Option.bind_some, Option.bind_eq_some_iff, Option.some.injEq]
  · exact ⟨_, sliceBound_mk h0' (by omega), rfl⟩
  · exact ⟨_, sliceBound_mk h0 (by omega), rfl⟩
  · exact ⟨_, sliceBound_mk h0' (by omega), _, sliceBound_mk h0 (by omega), rfl⟩

theorem bounds3 {lo hi mx : Option Value} {x : Value} {n cap l q m : Nat} (hl : natOr lo 0 = some l) (hx : hi = some x) (hh : natOr hi n = some q) {y : Value} (hm : natOf y = some m) (hmx : mx = some y)
    (h1 : l ≤ q) (h2 : q ≤ m) (h3 : m ≤ cap) : pureP P (Instr.sliceBounds true n cap (lo.map (ren β)) (hi.map (ren β)) (mx.map (ren β))) = some (l, q, m) := by
  subst hx hmx
  unfold Instr.sliceBounds
  obtain ⟨k2, i2, rfl, h02, rfl⟩ := natOf_some hm
  rcases natOr_some hh with ⟨e, _⟩ | ⟨k', i', e, h0', rfl⟩
  · cases e
  · cases e
    rcases natOr_some hl with ⟨rfl, rfl⟩ | ⟨k, i, rfl, h0, rfl⟩ <;>
      simp only [Option.map_none, Option.map_some, ren_int, pureP_bind, pureP_pure, Option.bind_some, Option.bind_eq_some_iff, Option.some.injEq]
    · exact ⟨_, sliceBound_mk h02 (by omega), _, sliceBound_mk h0' (by omega), rfl⟩
    · exact ⟨_, sliceBound_mk h02 (by omega), _, sliceBound_mk h0' (by omega), _, sliceBound_mk h0 (by omega), rfl⟩

theorem known_le (r : Rel P CK β h w) (a : Addr) (s : Nat) : h.known a s ≤ ((β a.block).av - a.off) / s := by
  unfold Hp.known
  split
  · rename_i cs own hb
    obtain ⟨_, _, _, _, _, h3, _⟩ := r.cellsOf hb
    split
    · exact Nat.div_le_div_right (by omega)
    · exact Nat.zero_le _
  · exact Nat.zero_le _

theorem sub_div {x l s : Nat} (hs : 0 < s) (hl : l ≤ x / s) : (x - l * s) / s = x / s - l := by
  have := Nat.sub_mul_div_of_le x s l (by rw [Nat.mul_comm]; exact (Nat.le_div_iff_mul_le hs).1 hl)
  rwa [Nat.mul_comm s l] at this

/-- SLICING, WHOLE. -/
theorem slice_good (r : Rel P CK β h w) {t : TypeId} {x v : Value} {lo hi mx : Option Value} {h' : Hp} (hx : vok h.size x) (hs : aSlice P t x lo hi mx h = some (v, h')) :
    Good P CK β h w v h' (Instr.sliceAt t (ren β x) (lo.map (ren β)) (hi.map (ren β)) (mx.map (ren β))) := by
  have pure1 : ∀ {x : Value} {s : Sem Value}, (s' : Sem Value) → (∀ v, pureP P s = some v → vok h.size v ∧ pureP P s' = some (ren β v)) →
      (pureP P s).map (fun v => (v, h)) = some (v, h') → Good P CK β h w v h' s' := by
    intro x s s' hk e
    rw [Option.map_eq_some_iff] at e
    obtain ⟨u, hu, e⟩ := e
    cases e
    obtain ⟨h1, h2⟩ := hk _ hu
    exact ⟨β, w, pureP_run h2 w, h1, St.refl r⟩
  unfold aSlice at hs
  split at hs
  · -- nil
    rename_i n c
    split at hs
    · rename_i hc
      exact pure1 (x := .nilFunc) _ (fun v hv => sliceAt_ren hx hc hv) hs
    · cases hs
  · rename_i a n c
    split at hs
    · rename_i hc
      exact pure1 (x := .nilFunc) _ (fun v hv => sliceAt_ren hx hc hv) hs
    · rename_i hc
      split at hs
      · rename_i e hu
        split at hs
        · rename_i s hsz
          split at hs
          · cases hs
          · rename_i hse
            have hs0 : 0 < s := by omega
            have hsp : a.spot = none := Decidable.byContradiction fun e => hse (.inr (.inr e))
            have hse' : c - capOpen = s := by omega
            have hcap : renCap β a c = ((β a.block).av - a.off) / s := by rw [renCap, if_pos (by omega), hse']
            simp only [vok_slice] at hx
            have hkn := known_le r a s
            have hu' : pureP P (underlying t) = some (.slice e) := by rw [pureP_underlying]; exact hu
            -- the machine's run, once the bounds are known
            have run : ∀ (l q m : Nat), pureP P (Instr.sliceBounds true n (((β a.block).av - a.off) / s) (lo.map (ren β)) (hi.map (ren β)) (mx.map (ren β))) = some (l, q, m) →
                (Instr.sliceAt t (ren β (.slice (some a) n c)) (lo.map (ren β)) (hi.map (ren β)) (mx.map (ren β))).run P w =
                  .ok (.slice (some (if m = l then renA β a else (renA β a).add (l * s))) (q - l) (m - l)) w := by
              intro l q m hb
              rw [ren_slice, hcap]
              unfold Instr.sliceAt
              rw [run_pureP hu']
              simp only []
              unfold Instr.slice
              rw [run_pureP hu']
              simp only []
              rw [run_pureP hb]
              simp only []
              rw [run_pureP hsz, run_ret]
              have e3 : ∀ b : Addr, (if m = l then some b else Option.map (fun x : Addr => x.add (l * s)) (some b)) = some (if m = l then b else b.add (l * s)) := by
                intro b; split <;> rfl
              rw [e3]
            split at hs
            · rename_i l q hl hq
              split at hs
              · rename_i hb
                have hrun := run l q _ (bounds2 hl hq hb.1 (by omega))
                split at hs
                · rename_i h0
                  subst h0
                  cases hs
                  refine ⟨β, w, ?_, by simpa using hx, St.refl r⟩
                  rw [hrun, ren_slice, hcap]
                  simp [Addr.add]
                · rename_i h0
                  split at hs
                  · rename_i hlt
                    cases hs
                    refine ⟨β, w, ?_, by simp [add_block, hx], St.refl r⟩
                    have hoff : (a.add (l * s)).off = a.off + l * s := by
                      simp only [Addr.add]
                      split
                      · rename_i hz; rw [hz]; simp
                      · rfl
                    have hc' : renCap β (a.add (l * s)) c = ((β a.block).av - a.off) / s - l := by
                      rw [renCap, if_pos (by omega), hse', add_block, hoff, ← Nat.sub_sub, sub_div hs0 (by omega)]
                    rw [hrun, ren_slice, hc', if_neg (by omega), add_renA]
                  · rename_i hlt
                    cases hs
                    have hlq : q - l = 0 := by omega
                    by_cases hm : ((β a.block).av - a.off) / s = l
                    · refine ⟨upd β h.size ⟨(β a.block).B, (β a.block).O + a.off, 0⟩, w, ?_, by simp, St.skip r _⟩
                      rw [hrun, if_pos hm, ren_slice, renCap, if_pos (by omega), hlq, hm]
                      simp [renA, hsp]
                    · refine ⟨upd β h.size ⟨(β a.block).B, (β a.block).O + a.off + l * s, (((β a.block).av - a.off) / s - l) * s⟩, w, ?_, by simp, St.skip r _⟩
                      rw [hrun, if_neg hm, ren_slice, renCap, if_pos (by omega), hlq, hse']
                      have hadd : (renA β a).add (l * s) = ⟨(β a.block).B, (β a.block).O + a.off + l * s, none⟩ := by
                        simp only [renA, Addr.add]; split
                        · rename_i hz; rw [hz]; simp [hsp]
                        · rfl
                      rw [hadd]
                      simp [renA, Nat.mul_div_cancel _ hs0]
              · cases hs
            · rename_i l q m hl hq
              split at hs
              · rename_i x m' hm'
                split at hs
                · rename_i hb
                  cases hs
                  have hrun := run l q m' (bounds3 hl rfl hq hm' rfl hb.1 hb.2.1 (by omega))
                  have := slice_exact (n := h.size) (β := β) (a := a) (hb := hx) (l := l) (q := q) (m := m') (s := s) hb.2.2.2
                  exact ⟨β, w, by rw [hrun, this.2], this.1, St.refl r⟩
                · cases hs
              · cases hs
            · cases hs
        · cases hs
      · cases hs
  · rename_i s
    rw [Option.map_eq_some_iff] at hs
    obtain ⟨u, hu, e⟩ := hs
    cases e
    obtain ⟨h1, h2, h3⟩ := flatOnly_eqv hu
    refine ⟨β, w, ?_, flat_vok v h2, St.refl r⟩
    have opt : ∀ o : Option Value, (∀ x ∈ o.toArray, flatB x = true) → o.map (ren β) = o := by
      intro o ho
      cases o with
      | none => rfl
      | some x => rw [Option.map_some, flat_ren x (ho x (by simp))]
    rw [flat_ren v h2, ren_string, opt lo (fun x hx => h1 x (by simp [hx])), opt hi (fun x hx => h1 x (by simp [hx])), opt mx (fun x hx => h1 x (by simp [hx]))]
    exact pureP_run h3 w
  · rename_i a
    split at hs
    · rename_i n e hu
      split at hs
      · rename_i hn
        exact pure1 (x := .nilFunc) _ (fun v hv => sliceAt_ren hx ⟨n, e, hu, hn⟩ hv) hs
      · cases hs
    · cases hs
  · cases hs

end
end Go.Abs
/- append, copy, clear. -/
namespace Go.Abs

def aLen : Value → Option Nat
  | .slice _ n _ => some n
  | .string s => some s.size
  | _ => none

/-- The first n elements' cells. -/
def aFirst (size n : Nat) (x : Value) (h : Hp) : Option (Array Value) :=
  match x with
  | .slice (some a) _ _ => if n * size = 0 then some #[] else h.row a (n * size)
  | .slice none _ _ => some #[]
  | .string s => some ((s.extract 0 n).data.map fun b => .int .u8 b.toNat)
  | _ => none

def rowOrText : Option TypeDesc → Bool
  | some (.slice _) => true
  | some .string => true
  | _ => false

/-- What is appended: how many elements, and their cells. -/
def aNews (P : Program) (xt : TypeId) (size : Nat) (x : Value) (h : Hp) : Option (Nat × Array Value) :=
  if rowOrText (P.underlying xt) then
    match aLen x with
    | some k => (aFirst size k x h).map fun cs => (k, cs)
    | none => none
  else none

def aGrow (size need : Nat) (cs : Array Value) (h : Hp) : Value × Hp := (.slice (some ⟨h.size, 0, none⟩) need (capOpen + size), h.push (some (.cells cs true)))

def aInto (a : Addr) (n size need c : Nat) (new : Array Value) (h : Hp) : Option (Value × Hp) :=
  if new.size = 0 then some (.slice (some a) need c, h) else (h.wr (a.add (n * size)) new.toList).map fun h' => (.slice (some a) need c, h')

def aAppend (P : Program) (ts : Array TypeId) (args : Array Value) (h : Hp) : Option (Value × Hp) :=
  match ts.toList, args.toList with
  | [st, xt], [.slice base n c, x] =>
    match P.underlying st with
    | some (.slice e) =>
      match P.info? e with
      | some i =>
        match aNews P xt i.size x h, i.zero with
        | some (k, new), some _ =>
          if i.size = 0 ∨ new.size ≠ k * i.size ∨ capOpen ≤ n + k ∨ 2 ^ 47 < (n + k) * i.bytes then none else
          match base with
          | none => if n = 0 ∧ c = 0 then (if k = 0 then some (.slice none 0 0, h) else some (aGrow i.size k new h)) else none
          | some a =>
            if c < capOpen then
              if n + k ≤ c then aInto a n i.size (n + k) c new h
              else (h.row a (n * i.size)).map fun old => aGrow i.size (n + k) (old ++ new) h
            else if c - capOpen ≠ i.size then none
            else if n + k ≤ h.known a i.size then aInto a n i.size (n + k) c new h
            else
              match h.get a.block, h.row a (n * i.size) with
              | some (.cells _ true), some old =>
                if h.ro ≤ a.block ∧ new.toList.all oneC = true then some (.slice (some ⟨h.size, 0, none⟩) (n + k) c, (h.setB a.block none).push (some (.cells (old ++ new) true))) else none
              | _, _ => none
        | none, some z =>
          match P.underlying xt, base, x with
          | some (.int _), none, .int _ l =>
            if n = 0 ∧ c = 0 ∧ i.size ≠ 0 ∧ 0 ≤ IntKind.i64.wrap l ∧ (IntKind.i64.wrap l).toNat < capOpen ∧ (IntKind.i64.wrap l).toNat * i.bytes ≤ 2 ^ 47 then
              if (IntKind.i64.wrap l).toNat = 0 then some (.slice none 0 0, h) else some (aGrow i.size (IntKind.i64.wrap l).toNat (Builtin.zeroCells z.cells (IntKind.i64.wrap l).toNat) h)
            else none
          | _, _, _ => none
        | _, _ => none
      | none => none
    | _ => none
  | _, _ => none

def aCopy (P : Program) (ts : Array TypeId) (args : Array Value) (h : Hp) : Option (Value × Hp) :=
  match (ts[0]? : Option TypeId), (args[0]? : Option Value), (args[1]? : Option Value) with
  | some st, some (.slice base d _), some x =>
    match P.underlying st with
    | some (.slice e) =>
      match pureP P (sizeOf e), aLen x with
      | some size, some m =>
        match aFirst size (Nat.min m d) x h with
        | some cs =>
          match base with
          | none => some (goInt (Nat.min m d), h)
          | some a => if cs.size = 0 then some (goInt (Nat.min m d), h) else (h.wr a cs.toList).map fun h' => (goInt (Nat.min m d), h')
        | none => none
      | _, _ => none
    | _ => none
  | _, _, _ => none

def aClear (P : Program) (ts : Array TypeId) (args : Array Value) (h : Hp) : Option (Value × Hp) :=
  match (ts[0]? : Option TypeId), (args[0]? : Option Value) with
  | some st, some (.slice none _ _) => if (P.underlying st).isSome then some (.tuple #[], h) else none
  | some st, some (.slice (some a) n _) =>
    match P.underlying st with
    | some (.slice e) =>
      if n = 0 then some (.tuple #[], h) else
      match pureP P (zeroValue e) with
      | some z => (h.wr a (Builtin.zeroCells z.cells n).toList).map fun h' => (.tuple #[], h')
      | none => none
    | _ => none
  | _, _ => none

section
variable {P : Program} {CK : Code → Prop} {β : Bm} {h : Hp} {w : World}

theorem first_run (r : Rel P CK β h w) {size n : Nat} {x : Value} {cs : Array Value} (hc : aFirst size n x h = some cs) :
    (Builtin.firstCells size n (ren β x)).run P w = .ok (cs.map (ren β)) w ∧ ∀ v ∈ cs, vok h.size v := by
  unfold aFirst at hc
  split at hc
  · rename_i a _ _
    rw [ren_slice]
    split at hc
    · rename_i h0
      cases hc
      refine ⟨?_, by simp⟩
      simp only [Builtin.firstCells, h0, loadCells, loadCellsFrom, run_ret]
      simp
    · obtain ⟨h1, h2, _⟩ := row_run r hc
      exact ⟨h1, h2⟩
  · cases hc; rw [ren_slice_nil]; exact ⟨by simp [Builtin.firstCells, run_ret], by simp⟩
  · rename_i s
    cases hc
    rw [ren_string]
    refine ⟨?_, fun v hv => ?_⟩
    · simp only [Builtin.firstCells, run_ret]
      congr 1
      rw [Array.map_map]
      exact Array.map_congr_left fun b _ => by simp
    · obtain ⟨b, _, rfl⟩ := Array.mem_map.1 hv; simp
  · cases hc

theorem len_run {x : Value} {n : Nat} (hl : aLen x = some n) : pureP P (Builtin.lenOf (ren β x)) = some n := by
  unfold aLen at hl
  split at hl
  · rename_i a n' c
    cases hl
    cases a <;> simp [Builtin.lenOf]
  · cases hl; simp [Builtin.lenOf]
  · cases hl

theorem zeroCells_flat {z : Array Value} {k : Nat} (hz : ∀ c ∈ z, flatB c = true) : ∀ c ∈ Builtin.zeroCells z k, flatB c = true := range_cells hz

/-- A write into a row at hand. -/
theorem into_run (r : Rel P CK β h w) {a : Addr} {n size need c : Nat} {new : Array Value} {v : Value} {h' : Hp} (ha : a.block < h.size) (hn : ∀ v ∈ new, vok h.size v)
    (hi : aInto a n size need c new h = some (v, h')) :
    ∃ w', (storeCells ((renA β a).add (n * size)) (new.map (ren β)).toList).run P w = .ok () w' ∧ v = .slice (some a) need c ∧ vok h'.size v ∧ St P CK β h w β h' w' := by
  unfold aInto at hi
  split at hi
  · rename_i h0
    cases hi
    have : new = #[] := Array.size_eq_zero_iff.1 h0
    subst this
    exact ⟨w, by simp [storeCells, run_ret], rfl, by simp [ha], St.refl r⟩
  · rw [Option.map_eq_some_iff] at hi
    obtain ⟨h1, hw, e⟩ := hi
    cases e
    obtain ⟨w', h2, h3⟩ := wr_run r (fun v hv => hn v (by simpa using hv)) hw
    refine ⟨w', ?_, rfl, ?_, h3⟩
    · rw [add_renA]; simpa using h2
    · have := h3.size
      simp only [vok_slice]; omega

theorem zeroCells_size (z : Array Value) (k : Nat) : (Builtin.zeroCells z k).size = k * z.size := by simp [Builtin.zeroCells]

theorem rowOrText_kind {t : TypeId} (h : rowOrText (P.underlying t) = true) : (∃ e, P.underlying t = some (.slice e)) ∨ P.underlying t = some .string := by
  cases hu : P.underlying t with
  | none => rw [hu] at h; cases h
  | some u => rw [hu] at h; cases u <;> first | (cases h; done) | exact .inl ⟨_, rfl⟩ | exact .inr rfl

theorem news_run (r : Rel P CK β h w) {xt : TypeId} {size : Nat} {x : Value} {k : Nat} {new : Array Value} (hn : aNews P xt size x h = some (k, new)) :
    ((∃ e, P.underlying xt = some (.slice e)) ∨ P.underlying xt = some .string) ∧ (∀ v ∈ new, vok h.size v) ∧ (∀ w' : World, (Builtin.lenOf (ren β x)).run P w' = .ok k w') ∧
      ∀ w' : World, w'.heap = w.heap → (Builtin.firstCells size k (ren β x)).run P w' = .ok (new.map (ren β)) w' := by
  unfold aNews at hn
  split at hn
  · rename_i hk
    split at hn
    · rename_i k' hl
      rw [Option.map_eq_some_iff] at hn
      obtain ⟨cs, hf, e⟩ := hn
      cases e
      exact ⟨rowOrText_kind hk, (first_run r hf).2, fun w' => pureP_run (len_run hl) w', fun w' hw' => (first_run (w := w') ⟨r.glob, r.gsize, by rw [hw']; exact r.blk, r.inj, r.lt, r.roLe⟩ hf).1⟩
    · cases hn
  · cases hn

/-- The machine's append, where there is room. -/
theorem append_room {t tx ty e : TypeId} {i : TypeInfo} (ht : P.underlying t = some (.slice e)) (hi : P.info? e = some i) (hk : (∃ e', P.underlying tx = some (.slice e')) ∨ P.underlying tx = some .string)
    {a : Addr} {n k cap : Nat} {x : Value} {news : Array Value} {w w' : World} (hlen : ∀ w' : World, (Builtin.lenOf x).run P w' = .ok k w') (hc : (Builtin.firstCells i.size k x).run P w = .ok news w)
    (hroom : n + k ≤ cap) (hst : (storeCells (a.add (n * i.size)) news.toList).run P w = .ok () w') :
    (Builtin.append_ #[t, tx] ty #[.slice (some a) n cap, x]).run P w = .ok (.slice (some a) (n + k) cap) w' := by
  rcases hk with ⟨e', hk⟩ | hk <;> simp [Builtin.append_, run_underlying ht, run_underlying hk, sizeOf, typeInfo, hi, hlen, hroom, hc, hst]

theorem append_nothing {t tx ty e : TypeId} {i : TypeInfo} (ht : P.underlying t = some (.slice e)) (hi : P.info? e = some i) (hk : (∃ e', P.underlying tx = some (.slice e')) ∨ P.underlying tx = some .string)
    {x : Value} {news : Array Value} {w : World} (hlen : ∀ w' : World, (Builtin.lenOf x).run P w' = .ok 0 w') (hc : (Builtin.firstCells i.size 0 x).run P w = .ok news w) :
    (Builtin.append_ #[t, tx] ty #[.slice none 0 0, x]).run P w = .ok (.slice none 0 0) w := by
  rcases hk with ⟨e', hk⟩ | hk <;> simp [Builtin.append_, run_underlying ht, run_underlying hk, sizeOf, typeInfo, hi, hlen, hc]

/-- The machine's append, where there is none. -/
theorem append_grow {t tx ty e : TypeId} {i : TypeInfo} {z : Value} (ht : P.underlying t = some (.slice e)) (hi : P.info? e = some i) (hz : i.zero = some z)
    (hk : (∃ e', P.underlying tx = some (.slice e')) ∨ P.underlying tx = some .string)
    {base : Option Addr} {n k cap : Nat} {x : Value} {old news : Array Value} {w : World} (hlen : ∀ w' : World, (Builtin.lenOf x).run P w' = .ok k w')
    (hold : (Builtin.firstCells i.size n (.slice base n cap)).run P w.drew = .ok old w.drew)
    (hc : (Builtin.firstCells i.size k x).run P w.drew = .ok news w.drew) (hg : cap < n + k) (h63 : n + k ≤ 4611686018427387904) (hfit : (n + k) * i.bytes ≤ 140737488355328) :
    ∃ m, n + k ≤ m ∧ (Builtin.append_ #[t, tx] ty #[.slice base n cap, x]).run P w =
      .ok (.slice (some ⟨w.heap.size, 0, none⟩) (n + k) m) (w.drew.alloc (.cells (old ++ news ++ Builtin.zeroCells z.cells (m - (n + k))) e)) := by
  refine ⟨grownCap w (n + k) cap e, grownCap_ge _ _ _ _, ?_⟩
  have hn : ¬ (n + k ≤ cap) := by omega
  have h63' : ¬ (9223372036854775807 < ((n : Int) + (k : Int))) := by omega
  have hfit' := growslice_fits hg hfit
  have h48' : ¬ (281474976710656 < Builtin.nextslicecap (n + k) cap * i.bytes) := by omega
  rcases hk with ⟨e', hk⟩ | hk <;>
    simp [Builtin.append_, run_underlying ht, run_underlying hk, sizeOf, typeInfo, zeroValue, hi, hz, hlen, hn, h63', h48', Question.forced, hc, hold, newRow, grownCap]

theorem choose_run (q : Question) (hq : q.forced = false) : (choose q).run P w = .ok (q.cut (w.tape w.drawn q)) { w with drawn := w.drawn + 1 } := by
  simp [choose, Sem.run, hq]

/-- A new row, with room behind it. -/
theorem grow_run (r : Rel P CK β h w) {e : TypeId} {size need : Nat} {cs rest : Array Value} (hv : ∀ v ∈ cs, vok h.size v) (hs : 0 < size) (m : Nat) (hm : need ≤ m) (hcs : cs.size = need * size)
    (hr : rest.size = (m - need) * size) :
    ∃ β' w', (newRow e (cs.map (ren β) ++ rest)).run P w = .ok ⟨w.heap.size, 0, none⟩ w' ∧ St P CK β h w β' (aGrow size need cs h).2 w' ∧
      ren β' (aGrow size need cs h).1 = .slice (some ⟨w.heap.size, 0, none⟩) need m ∧ vok (aGrow size need cs h).2.size (aGrow size need cs h).1 := by
  have hle : need * size ≤ m * size := Nat.mul_le_mul_right _ hm
  refine ⟨upd β h.size ⟨w.heap.size, 0, m * size⟩, { w with heap := w.heap.push (.cells (cs.map (ren β) ++ rest) e) }, rfl, St.new r _ _ _ rfl ⟨_, _, _, rfl, fun i v hi => ⟨?_, hv v (Array.mem_of_getElem? hi)⟩, by simp only; omega, fun _ => ⟨rfl, ?_⟩⟩, ?_, ?_⟩
  · have hlt := (Array.getElem?_eq_some_iff.1 hi).1
    simp only [Nat.zero_add]
    rw [Array.getElem?_append_left (by simpa using hlt), Array.getElem?_map, hi]; rfl
  · simp only [Array.size_append, Array.size_map, hr, hcs, Nat.sub_mul]; omega
  · simp only [aGrow, ren_slice, renA, renCap, upd_self, Nat.add_zero, Nat.sub_zero]
    rw [if_pos (by omega)]
    have : capOpen + size - capOpen = size := by omega
    rw [this, Nat.mul_div_cancel _ hs]
  · simp [aGrow]

/-- Zeros behind nothing. -/
theorem append_zeros {t tx ty e : TypeId} {i : TypeInfo} {z : Value} {j : IntKind} (ht : P.underlying t = some (.slice e)) (hi : P.info? e = some i) (hz : i.zero = some z)
    (hk : P.underlying tx = some (.int j)) {jx : IntKind} {l : Int} {k : Nat} {w : World} (hl : IntKind.i64.wrap l = (k : Int)) (hs : i.size ≠ 0) (h63 : k ≤ 4611686018427387904) (hfit : k * i.bytes ≤ 140737488355328) :
    (k = 0 → (Builtin.append_ #[t, tx] ty #[.slice none 0 0, .int jx l]).run P w = .ok (.slice none 0 0) w) ∧
    (k ≠ 0 → ∃ m, k ≤ m ∧ (Builtin.append_ #[t, tx] ty #[.slice none 0 0, .int jx l]).run P w =
      .ok (.slice (some ⟨w.heap.size, 0, none⟩) k m) (w.drew.alloc (.cells (Builtin.zeroCells z.cells k ++ Builtin.zeroCells z.cells (m - k)) e))) := by
  have h48 : ¬ (281474976710656 < (k : Int) * (i.bytes : Int)) := by
    have : ((k * i.bytes : Nat) : Int) = (k : Int) * (i.bytes : Int) := Int.natCast_mul _ _
    omega
  have h63' : ¬ (9223372036854775807 < (k : Int)) := by omega
  have hk0 : ¬ ((k : Int) < 0) := by omega
  refine ⟨fun h0 => ?_, fun h0 => ⟨grownCap w k 0 e, grownCap_ge _ _ _ _, ?_⟩⟩
  · subst h0
    simp [Builtin.append_, run_underlying ht, run_underlying hk, sizeOf, typeInfo, hi, hl, asInt, asIntOf]
  · have hn : ¬ (k ≤ 0) := by omega
    have hfit' := growslice_fits (need := k) (old := 0) (by omega) hfit
    have hks : ¬ (k * i.size = 0) := Nat.mul_ne_zero h0 hs
    have h48' : ¬ (281474976710656 < Builtin.nextslicecap k 0 * i.bytes) := by omega
    simp [Builtin.append_, run_underlying ht, run_underlying hk, sizeOf, typeInfo, zeroValue, hi, hz, hl, hn, hk0, h48, h63', h48', Question.forced, newRow, grownCap, asInt, asIntOf, Builtin.firstCells, h0]
    intro hc; exact absurd hc hks
/-- APPEND. -/
theorem append_good (hz : ZeroOk P) (r : Rel P CK β h w) {ts : Array TypeId} {ty : TypeId} {args : Array Value} {v : Value} {h' : Hp} (ha : ∀ a ∈ args, vok h.size a)
    (hs : aAppend P ts args h = some (v, h')) : Good P CK β h w v h' (Builtin.append_ ts ty (args.map (ren β))) := by
  unfold aAppend at hs
  split at hs
  rotate_left
  · cases hs
  rename_i st xt base n c x hts hargs
  have hts : ts = #[st, xt] := Array.toList_inj.1 hts
  have hargs : args = #[.slice base n c, x] := Array.toList_inj.1 hargs
  subst hts hargs
  have hvs : vok h.size (.slice base n c) := ha _ (by simp)
  have hvx : vok h.size x := ha _ (by simp)
  have em : #[Value.slice base n c, x].map (ren β) = #[ren β (.slice base n c), ren β x] := by simp only [List.map_toArray, List.map_cons, List.map_nil]
  rw [em]
  split at hs
  rotate_left
  · cases hs
  rename_i e hu
  split at hs
  rotate_left
  · cases hs
  rename_i i hi
  split at hs
  rotate_left
  · rename_i z hnone hzero
    split at hs
    · rename_i j l hxt
      split at hs
      · rename_i hc
        obtain ⟨rfl, rfl, hs0, hw0, hwc, hwb⟩ := hc
        obtain ⟨k, hk⟩ : ∃ k : Nat, IntKind.i64.wrap l = (k : Int) := ⟨_, (Int.toNat_of_nonneg hw0).symm⟩
        have hzs : z.cells.size = i.size := (hz e i z hi hzero).2
        have hzc : ∀ m, (Builtin.zeroCells z.cells m).size = m * i.size := fun m => by rw [zeroCells_size, hzs]
        have hzf := flat_cells (hz e i z hi hzero).1
        rw [hk, Int.toNat_natCast] at hs hwc hwb
        obtain ⟨r1, r2⟩ := append_zeros (P := P) (ty := ty) (w := w) hu hi hzero hxt (jx := _) hk hs0 (by unfold capOpen at hwc; omega) hwb
        rw [ren_slice_nil, ren_int]
        split at hs
        · rename_i h0
          cases hs
          exact ⟨β, w, by rw [ren_slice_nil]; exact r1 h0, by simp, St.refl r⟩
        · rename_i h0
          cases hs
          obtain ⟨m, hm, hrun⟩ := r2 h0
          have hzk : (Builtin.zeroCells z.cells k).map (ren β) = Builtin.zeroCells z.cells k := map_flat (zeroCells_flat hzf)
          obtain ⟨β', w', h1, h2, h3, h4⟩ := grow_run (r.drew (w.drawn + 1)) (e := e) (cs := Builtin.zeroCells z.cells k) (rest := Builtin.zeroCells z.cells (m - k)) (fun v hv => flat_vok v (zeroCells_flat hzf v hv)) (Nat.pos_of_ne_zero hs0) m hm (hzc _) (hzc _)
          refine ⟨β', w', ?_, h4, (St.drew r _).trans h2⟩
          rw [hrun, show ren β' (Value.slice (some ⟨h.size, 0, none⟩) k (capOpen + i.size)) = _ from h3]
          have : w' = { w with drawn := w.drawn + 1, heap := w.heap.push (.cells ((Builtin.zeroCells z.cells k).map (ren β) ++ Builtin.zeroCells z.cells (m - k)) e) } := by
            injection h1 with _ h1; exact h1.symm
          subst this
          rw [hzk]
          rfl
      · cases hs
    · cases hs
  · cases hs
  rename_i k new z hnew hzero
  split at hs
  · cases hs
  rename_i hcond
  obtain ⟨hk, hnv, hlen, hfirst⟩ := news_run r hnew
  have hsize : 0 < i.size := by omega
  have hnewsz : new.size = k * i.size := by omega
  have hneed : n + k < capOpen := by omega
  have hroom : (n + k) * i.bytes ≤ 2 ^ 47 := by omega
  have hzs : z.cells.size = i.size := (hz e i z hi hzero).2
  have hzc : ∀ m, (Builtin.zeroCells z.cells m).size = m * i.size := fun m => by rw [zeroCells_size, hzs]
  have hw := r.drew (w.drawn + 1)
  -- growing, old cells known
  have growing : ∀ (h0 : Hp) (r0 : Rel P CK β h0 w), h0.size = h.size → ∀ (old : Array Value), (∀ v ∈ old, vok h.size v) → old.size = n * i.size → (Builtin.firstCells i.size n (ren β (.slice base n c))).run P w.drew = .ok (old.map (ren β)) w.drew →
      ∀ b' cap', ren β (.slice base n c) = .slice b' n cap' → cap' < n + k →
      Good P CK β h0 w (aGrow i.size (n + k) (old ++ new) h0).1 (aGrow i.size (n + k) (old ++ new) h0).2 (Builtin.append_ #[st, xt] ty #[ren β (.slice base n c), ren β x]) := by
    intro h0 r0 hh0 old ho hos hf b' cap' hb' hg
    rw [hb'] at hf ⊢
    obtain ⟨m, hm, hrun⟩ := append_grow (ty := ty) hu hi hzero hk hlen hf (hfirst w.drew rfl) hg (by unfold capOpen at hneed; omega) hroom
    obtain ⟨β', w', h1, h2, h3, h4⟩ := grow_run (r0.drew (w.drawn + 1)) (e := e) (cs := old ++ new) (rest := Builtin.zeroCells z.cells (m - (n + k)))
      (fun v hv => by rw [hh0]; exact (Array.mem_append.1 hv).elim (ho v) (hnv v)) hsize m hm (by simp [hos, hnewsz, Nat.add_mul]) (hzc _)
    refine ⟨β', w', ?_, h4, (St.drew r0 _).trans h2⟩
    rw [hrun, h3]
    have : w' = { w with drawn := w.drawn + 1, heap := w.heap.push (.cells ((old ++ new).map (ren β) ++ Builtin.zeroCells z.cells (m - (n + k))) e) } := by
      injection h1 with _ h1; exact h1.symm
    subst this
    rw [Array.map_append]
    rfl
  have into : ∀ a, base = some a → ∀ cap', ren β (.slice base n c) = .slice (some (renA β a)) n cap' → n + k ≤ cap' → renCap β a c = cap' →
      aInto a n i.size (n + k) c new h = some (v, h') → Good P CK β h w v h' (Builtin.append_ #[st, xt] ty #[ren β (.slice base n c), ren β x]) := by
    intro a hb cap' hren hle hcap hi'
    subst hb
    simp only [vok_slice] at hvs
    obtain ⟨w', h1, rfl, h3, h4⟩ := into_run r hvs hnv hi'
    refine ⟨β, w', ?_, h3, h4⟩
    rw [hren, append_room (ty := ty) hu hi hk hlen (hfirst w rfl) hle h1, ren_slice, hcap]
  split at hs
  · -- nil
    split at hs
    · rename_i h0
      obtain ⟨rfl, rfl⟩ := h0
      split at hs
      · rename_i hk0
        subst hk0
        cases hs
        refine ⟨β, w, ?_, by simp, St.refl r⟩
        rw [ren_slice_nil]; exact append_nothing hu hi hk hlen (hfirst w rfl)
      · cases hs
        have := growing h r rfl #[] (by simp) (by simp) (by simp [Builtin.firstCells]) none 0 (by simp) (by omega)
        simp only [Nat.zero_add, Array.empty_append] at this
        exact this
    · cases hs
  · rename_i a
    simp only [vok_slice] at hvs
    split at hs
    · rename_i hc
      have hcap : renCap β a c = c := by rw [renCap, if_neg (by omega)]
      split at hs
      · rename_i hle
        exact into a rfl c (by rw [ren_slice, hcap]) hle hcap hs
      · rename_i hle
        rw [Option.map_eq_some_iff] at hs
        obtain ⟨old, ho, e'⟩ := hs
        cases e'
        obtain ⟨h1, h2, h3⟩ := row_run hw ho
        refine growing h r rfl old h2 h3 ?_ (some (renA β a)) c (by rw [ren_slice, hcap]) (by omega)
        rw [ren_slice]; exact h1
    · rename_i hc
      split at hs
      · cases hs
      · rename_i hse
        have hcap : renCap β a c = ((β a.block).av - a.off) / i.size := by rw [renCap, if_pos (by omega), show c - capOpen = i.size from by omega]
        split at hs
        · rename_i hle
          have := known_le r a i.size
          exact into a rfl _ (by rw [ren_slice, hcap]) (by omega) hcap hs
        · rename_i hle
          split at hs
          · rename_i cs old hb ho
            split at hs
            · rename_i hro
              cases hs
              have hc' : c = capOpen + i.size := by omega
              have hsp : a.spot = none := by
                unfold Hp.row at ho
                split at ho
                · assumption
                · cases ho
              obtain ⟨h1, h2, h3⟩ := row_run hw ho
              by_cases hin : n + k ≤ ((β a.block).av - a.off) / i.size
              · obtain ⟨C, e0, fz, hC, hcell, hav, hown⟩ := r.cellsOf hb
                obtain ⟨rfl, hCs⟩ := hown rfl
                have hmul := (Nat.le_div_iff_mul_le hsize).1 hin
                have hole : a.off + n * i.size ≤ cs.size := by
                  unfold Hp.row at ho
                  rw [hb, hsp] at ho
                  simp only [] at ho
                  split at ho
                  · assumption
                  · cases ho
                have hadd : n * i.size + new.size = (n + k) * i.size := by rw [hnewsz, Nat.add_mul]
                have hst := storeCells_run (P := P) (e := e0) ((β a.block).O + a.off + n * i.size) (new.map (ren β)).toList 0 w C hC (by simp; omega)
                  (by rw [Array.toList_map, List.all_map]; rw [← hro.2]; congr 1; funext v; exact ren_oneC v)
                have haddr : (renA β a).add (n * i.size) = ⟨(β a.block).B, (β a.block).O + a.off + n * i.size, none⟩ := by
                  simp only [renA, Addr.add]; split
                  · rename_i hz'; rw [hz']; simp [hsp]
                  · rfl
                rw [← haddr] at hst
                refine ⟨_, _, ?_, ?_, St.rehang r hb rfl hro.1 ⟨(β a.block).B, (β a.block).O + a.off, (β a.block).av - a.off⟩ rfl _ (.cells (splice C ((β a.block).O + a.off + n * i.size + 0) (new.map (ren β)).toList) e0 (0, 0)) ⟨_, _, _, rfl, fun j v hj => ?_, ?_, fun _ => ⟨rfl, ?_⟩⟩⟩
                · rw [ren_slice, hcap, append_room (ty := ty) hu hi hk hlen (hfirst w rfl) hin hst, ren_slice, renCap, if_pos (by omega), hc']
                  simp only [renA, hsp, upd_self, Nat.add_zero, Nat.sub_zero]
                  rw [show capOpen + i.size - capOpen = i.size from by omega]
                · simp
                · have hos : old.size = n * i.size := h3
                  rw [Array.getElem?_append] at hj
                  rw [splice_get _ _ _ _ (by simp; omega)]
                  simp only [Array.length_toList, Array.size_map, Nat.add_zero]
                  split at hj
                  · rename_i hlt
                    rw [if_neg (by omega)]
                    have : cs[a.off + j]? = some v := by
                      unfold Hp.row at ho
                      rw [hb, hsp] at ho
                      simp only [] at ho
                      rw [if_pos hole] at ho
                      cases ho
                      rw [Array.getElem?_extract] at hj
                      split at hj
                      · exact hj
                      · cases hj
                    have := hcell (a.off + j) v this
                    rw [← Nat.add_assoc] at this
                    exact this
                  · rename_i hlt
                    have hjn := (Array.getElem?_eq_some_iff.1 hj).1
                    rw [if_pos (by omega), show (β a.block).O + a.off + j - ((β a.block).O + a.off + n * i.size) = j - old.size from by omega, Array.getElem?_toList, Array.getElem?_map, hj]
                    exact ⟨rfl, hnv v (Array.mem_of_getElem? hj)⟩
                · simp only [Array.size_append, h3]; omega
                · rw [splice_size]; simp only; omega
              · have rk := (St.kill r hro.1).rel
                obtain ⟨β', w', q1, q2, q3⟩ := growing _ rk rfl old h2 h3 (by rw [ren_slice]; exact h1) (some (renA β a)) _ (by rw [ren_slice, hcap]) (by omega)
                refine ⟨β', w', ?_, ?_, (St.kill r hro.1).trans ?_⟩
                · rw [hc'] at q1 ⊢; exact q1
                · rw [hc']; exact q2
                · exact q3
            · cases hs
          · cases hs

end
end Go.Abs
/- copy, clear; all operations that touch the heap. -/
namespace Go.Abs
section
variable {P : Program} {CK : Code → Prop} {β : Bm} {h : Hp} {w : World}

theorem copy_good (r : Rel P CK β h w) {ts : Array TypeId} {ty : TypeId} {args : Array Value} {v : Value} {h' : Hp}
    (hs : aCopy P ts args h = some (v, h')) : Good P CK β h w v h' (Builtin.copy_ ts ty (args.map (ren β))) := by
  unfold aCopy at hs
  split at hs
  rotate_left
  · cases hs
  rename_i st base d c x hst hd hx
  split at hs
  rotate_left
  · cases hs
  rename_i e hu
  split at hs
  rotate_left
  · cases hs
  rename_i size m hsz hm
  split at hs
  rotate_left
  · cases hs
  rename_i cs hcs
  obtain ⟨hf, hv⟩ := first_run r hcs
  have e0 : (args.map (ren β))[0]? = some (ren β (.slice base d c)) := by rw [Array.getElem?_map, hd]; rfl
  have e1 : (args.map (ren β))[1]? = some (ren β x) := by rw [Array.getElem?_map, hx]; rfl
  have hl := fun w' => pureP_run (len_run (P := P) (β := β) hm) w'
  have hsz' := fun w' => pureP_run hsz w'
  have run : ∀ (b' : Option Addr) (c' : Nat), ren β (.slice base d c) = .slice b' d c' → (match b' with | some a => ∃ w', (storeCells a (cs.map (ren β)).toList).run P w = .ok () w' ∧ St P CK β h w β h' w' | none => h' = h) →
      v = goInt (Nat.min m d) → Good P CK β h w v h' (Builtin.copy_ ts ty (args.map (ren β))) := by
    intro b' c' hb hst' hv'
    rw [hb] at e0
    cases b' with
    | none =>
      simp only [] at hst'
      subst hst' hv'
      refine ⟨β, w, ?_, by simp [goInt], St.refl r⟩
      simp [Builtin.copy_, hst, e0, e1, run_underlying hu, hl, hsz', hf, goInt]
    | some a =>
      obtain ⟨w', h1, h2⟩ := hst'
      subst hv'
      refine ⟨β, w', ?_, by simp [goInt], h2⟩
      rw [Array.toList_map] at h1
      simp [Builtin.copy_, hst, e0, e1, run_underlying hu, hl, hsz', hf, goInt, h1]
  split at hs
  · cases hs
    exact run none c (by simp) rfl rfl
  · rename_i a
    split at hs
    · rename_i h0
      cases hs
      have : cs = #[] := Array.size_eq_zero_iff.1 h0
      subst this
      exact run (some (renA β a)) _ (ren_slice _ _ _) ⟨w, by simp [storeCells], St.refl r⟩ rfl
    · rw [Option.map_eq_some_iff] at hs
      obtain ⟨h1, hw, e'⟩ := hs
      cases e'
      obtain ⟨w', h2, h3⟩ := wr_run r (fun v hv' => hv v (by simpa using hv')) hw
      exact run (some (renA β a)) _ (ren_slice _ _ _) ⟨w', by simpa using h2, h3⟩ rfl

theorem clear_good (hz : ZeroOk P) (r : Rel P CK β h w) {ts : Array TypeId} {ty : TypeId} {args : Array Value} {v : Value} {h' : Hp}
    (hs : aClear P ts args h = some (v, h')) : Good P CK β h w v h' (Builtin.clear_ ts ty (args.map (ren β))) := by
  unfold aClear at hs
  split at hs
  · rename_i st n c hst hx
    split at hs
    · rename_i hu
      cases hs
      obtain ⟨u, hu⟩ := Option.isSome_iff_exists.1 hu
      have e0 : (args.map (ren β))[0]? = some (.slice none n c) := by rw [Array.getElem?_map, hx]; simp
      refine ⟨β, w, ?_, by simp, St.refl r⟩
      simp [Builtin.clear_, hst, e0, run_underlying hu]
    · cases hs
  · rename_i st a n c hst hx
    split at hs
    · rename_i e hu
      have e0 : (args.map (ren β))[0]? = some (.slice (some (renA β a)) n (renCap β a c)) := by rw [Array.getElem?_map, hx]; simp
      split at hs
      · rename_i hn
        cases hs
        subst hn
        refine ⟨β, w, ?_, by simp, St.refl r⟩
        simp [Builtin.clear_, hst, e0, run_underlying hu]
      · rename_i hn
        split at hs
        · rename_i z hzv
          rw [Option.map_eq_some_iff] at hs
          obtain ⟨h1, hw, e'⟩ := hs
          cases e'
          have hf := zeroCells_flat (k := n) (flat_cells (zero_flat hz hzv))
          obtain ⟨w', h2, h3⟩ := wr_run r (fun v hv => flat_vok v (hf v (by simpa using hv))) hw
          rw [← Array.toList_map, map_flat hf] at h2
          have hzr := fun w' => pureP_run hzv w'
          refine ⟨β, w', ?_, by simp, h3⟩
          simp [Builtin.clear_, hst, e0, run_underlying hu, hn, hzr, h2]
        · cases hs
    · cases hs
  · cases hs

end

/-! ### Maps whose keys are numbers -/
/-- The place of a number in a map. -/
def aFind (P : Program) (kt : TypeId) (k : Value) (es : List MapEntry) : Option (Option (Nat × Value)) :=
  match P.underlying kt, k with
  | some (.int j), .int i x => Instr.findNow (.int j) (.int i x) es 0
  | _, _ => none
def aEntries (x : Value) (h : Hp) : Option (Array MapEntry) :=
  match x with
  | .map none => some #[]
  | .map (some r) => match h.get r with
    | some (.map es _) => some es
    | _ => none
  | _ => none
def aLookup (P : Program) (xt : TypeId) (x ix : Value) (ok : Bool) (h : Hp) : Option Value :=
  match P.underlying xt with
  | some (.map key elem) =>
    match aEntries x h with
    | some es => match aFind P key ix es.toList with
      | some (some (_, v)) => some (if ok then .tuple #[v, .bool true] else v)
      | some none => match pureP P (zeroValue elem) with
        | some z => some (if ok then .tuple #[z, .bool false] else z)
        | none => none
      | none => none
    | none => none
  | _ => none
def aUpdate (P : Program) (t : TypeId) (m k x : Value) (h : Hp) : Option Hp :=
  match P.underlying t, m with
  | some (.map key _), .map (some r) =>
    match h.get r with
    | some (.map es cl) =>
      if h.ro ≤ r then
        match aFind P key k es.toList with
        | some (some (i, _)) => some (h.setB r (some (.map (es.modify i fun e => { e with key := k, val := x }) cl)))
        | some none => some (h.setB r (some (.map (es.push { key := k, val := x, born := cl }) (cl + 1))))
        | none => none
      else none
    | _ => none
  | _, _ => none
def aMakeMap (P : Program) (t : TypeId) (res : Option Value) (h : Hp) : Option (Value × Hp) :=
  match res with
  | none => some (.map (some h.size), h.push (some (.map #[] 0)))
  | some (.int _ _) => match P.underlying t with
    | some (.map _ _) => some (.map (some h.size), h.push (some (.map #[] 0)))
    | _ => none
  | _ => none

section
variable {P : Program} {CK : Code → Prop} {β : Bm} {h : Hp} {w : World}
def renE (β : Bm) (e : MapEntry) : MapEntry := { key := ren β e.key, val := ren β e.val, born := e.born }
theorem getMap_run {k : Nat} {es : Array MapEntry} {cl : Nat} (hk : w.heap[k]? = some (.map es cl)) : (getObj k).run P w = .ok (.map es cl) w := by simp [getObj, Sem.run, hk]
theorem setObj_run {k : Nat} {o o' : Obj} (hk : w.heap[k]? = some o') (ho : ∀ c e f, o' ≠ .cells c e f) : (setObj k o).run P w = .ok () { w with heap := w.heap.setIfInBounds k o } := by
  cases o' <;> first | (exact absurd rfl (ho _ _ _)) | simp [setObj, Sem.run, hk]
theorem newObj_run (o : Obj) : (newObj o).run P w = .ok w.heap.size { w with heap := w.heap.push o } := rfl

theorem findNow_ren {j i : IntKind} {x : Int} : ∀ (es : List MapEntry) (n : Nat) (r : Option (Nat × Value)), Instr.findNow (.int j) (.int i x) es n = some r → Instr.findNow (.int j) (.int i x) (es.map (renE β)) n = some (r.map fun p => (p.1, ren β p.2))
  | [], n, r, h => by cases h; rfl
  | e :: es, n, r, h => by
    obtain ⟨k, v, b⟩ := e
    simp only [Instr.findNow, List.map_cons, renE] at h ⊢
    cases k <;> simp only [Instr.sameNow] at h <;> first | (cases h; done) | skip
    rename_i i' y
    simp only [ren_int, Instr.sameNow]
    by_cases hi : i = i'
    · rw [if_pos hi] at h ⊢
      by_cases hx : (x == y) = true
      · rw [hx] at h ⊢; cases h; rfl
      · rw [Bool.not_eq_true] at hx; rw [hx] at h ⊢; exact findNow_ren es (n + 1) r h
    · rw [if_neg hi] at h; cases h
theorem findNow_at {j i : IntKind} {x : Int} : ∀ (es : List MapEntry) (n q : Nat) (v : Value), Instr.findNow (.int j) (.int i x) es n = some (some (q, v)) → ∃ m e, q = n + m ∧ es[m]? = some e ∧ e.key = .int i x ∧ e.val = v
  | [], n, q, v, h => by cases h
  | e :: es, n, q, v, h => by
    simp only [Instr.findNow] at h
    cases hk : e.key <;> rw [hk] at h <;> simp only [Instr.sameNow] at h <;> first | (cases h; done) | skip
    rename_i i' y
    by_cases hi : i = i'
    · rw [if_pos hi] at h
      by_cases hx : (x == y) = true
      · rw [hx] at h; cases h
        refine ⟨0, e, rfl, rfl, ?_, rfl⟩
        rw [hk, hi, eq_of_beq hx]
      · rw [Bool.not_eq_true] at hx; rw [hx] at h
        obtain ⟨m, e', h1, h2, h3⟩ := findNow_at es (n + 1) q v h
        exact ⟨m + 1, e', by omega, h2, h3⟩
    · rw [if_neg hi] at h; cases h
theorem aFind_run {kt : TypeId} {k : Value} {es : List MapEntry} {r : Option (Nat × Value)} (hf : aFind P kt k es = some r) :
    (∃ i x, k = .int i x) ∧ (∀ b, pureP P (Instr.checkKey b 10000 kt k) = some ()) ∧ pureP P (Instr.findKey kt k (es.map (renE β))) = some (r.map fun p => (p.1, ren β p.2)) := by
  unfold aFind at hf
  split at hf
  · rename_i _ _ j i x hu
    have hc : ∀ b, pureP P (Instr.checkKey b 10000 kt (.int i x)) = some () := fun b => by
      rw [show (10000 : Nat) = 9999 + 1 from rfl, Instr.checkKey]
      simp [hu]
    refine ⟨⟨i, x, rfl⟩, hc, ?_⟩
    unfold Instr.findKey
    simp only [pureP_bind, pureP_underlying, hu, Option.bind_some]
    rw [findNow_ren es 0 r hf]
    rfl
  · cases hf

theorem lookup_good (hz : ZeroOk P) (r : Rel P CK β h w) {xt : TypeId} {x ix : Value} {ok : Bool} {v : Value} (hs : aLookup P xt x ix ok h = some v) : Good P CK β h w v h (Instr.lookup xt (ren β x) (ren β ix) ok) := by
  unfold aLookup at hs
  split at hs
  rotate_left
  · cases hs
  rename_i key elem hu
  split at hs
  rotate_left
  · cases hs
  rename_i es hes
  have hent : (∀ e ∈ es, vok h.size e.key ∧ vok h.size e.val) ∧ ((x = .map none ∧ es = #[]) ∨ ∃ q cl, x = .map (some q) ∧ w.heap[(β q).B]? = some (.map (es.map (renE β)) cl)) := by
    unfold aEntries at hes
    split at hes
    · cases hes
      exact ⟨by simp, .inl ⟨rfl, rfl⟩⟩
    · rename_i q
      split at hes
      · rename_i es' cl hg
        cases hes
        obtain ⟨o, ho, h1, rfl⟩ := r.blk _ _ hg
        exact ⟨h1, .inr ⟨q, cl, rfl, ho⟩⟩
      · cases hes
    · cases hes
  obtain ⟨hev, hent⟩ := hent
  have hfin : ∀ u : Value, v = u → vok h.size u → (Instr.lookup xt (ren β x) (ren β ix) ok).run P w = .ok (ren β u) w → Good P CK β h w v h (Instr.lookup xt (ren β x) (ren β ix) ok) := by
    rintro u rfl h1 h2
    exact ⟨β, w, h2, h1, St.refl r⟩
  split at hs
  · rename_i q u hf
    obtain ⟨⟨i, z, rfl⟩, c4, c3⟩ := aFind_run (β := β) hf
    cases hs
    have hu' : vok h.size u := by
      unfold aFind at hf
      split at hf
      · obtain ⟨m, e, _, h2, _, h4⟩ := findNow_at _ _ _ _ hf
        rw [← h4]
        exact (hev e (by
          have := List.mem_of_getElem? h2
          simpa using this)).2
      · cases hf
    refine hfin _ rfl (by split <;> simp [hu']) ?_
    unfold Instr.lookup
    rw [run_pureP (by rw [pureP_underlying]; exact hu)]
    rcases hent with ⟨rfl, rfl⟩ | ⟨q', cl, rfl, ho⟩
    · unfold aFind at hf
      split at hf
      · cases hf
      · cases hf
    · rw [ren_map]
      simp only [ren_int]
      rw [run_then (getMap_run ho)]
      simp only []
      rw [run_then (run_ret _), run_pureP (c4 _), run_pureP (show _ = some (some (q, ren β u)) from by rw [Array.toList_map]; exact c3)]
      simp only []
      rw [run_then (run_ret _), run_ret]
      cases ok <;> simp
  · rename_i hf
    obtain ⟨⟨i, z, rfl⟩, c4, c3⟩ := aFind_run (β := β) hf
    split at hs
    · rename_i z0 hz0
      cases hs
      have hzf := zero_flat hz hz0
      refine hfin _ rfl (by split <;> simp [flat_vok _ hzf]) ?_
      unfold Instr.lookup
      rw [run_pureP (by rw [pureP_underlying]; exact hu)]
      rcases hent with ⟨rfl, rfl⟩ | ⟨q', cl, rfl, ho⟩
      · rw [ren_map_nil]
        simp only [ren_int]
        rw [run_then (run_ret _), run_pureP (c4 _), run_pureP (show pureP P (Instr.findKey key (.int i z) (#[] : Array MapEntry).toList) = some none from c3)]
        simp only []
        rw [run_then (a := z0) (w' := w) (pureP_run hz0 w)]
        rw [run_then (run_ret _), run_ret]
        cases ok <;> simp [flat_ren _ hzf]
      · rw [ren_map]
        simp only [ren_int]
        rw [run_then (getMap_run ho)]
        simp only []
        rw [run_then (run_ret _), run_pureP (c4 _), run_pureP (show _ = some none from by rw [Array.toList_map]; exact c3)]
        simp only []
        rw [run_then (a := z0) (w' := w) (pureP_run hz0 w)]
        rw [run_then (run_ret _), run_ret]
        cases ok <;> simp [flat_ren _ hzf]
    · cases hs
  · cases hs

theorem makeMap_good (r : Rel P CK β h w) {t : TypeId} {res : Option Value} {v : Value} {h' : Hp} (hs : aMakeMap P t res h = some (v, h')) : Good P CK β h w v h' (Instr.makeMap t (res.map (ren β))) := by
  have s1 := St.new r ⟨w.heap.size, 0, 0⟩ (.map #[] 0) (.map #[] 0) rfl ⟨by simp, by simp⟩
  have fin : Good P CK β h w (.map (some h.size)) (h.push (some (.map #[] 0))) (do pure (.map (some (← newObj (.map #[] 0))))) :=
    ⟨_, _, by rw [run_then (newObj_run _), run_ret, ren_map, upd_self], by simp, s1⟩
  unfold aMakeMap at hs
  split at hs
  · cases hs
    exact fin
  · split at hs
    · rename_i k n _ key elem hu
      cases hs
      obtain ⟨β', w', h1, h2⟩ := fin
      refine ⟨β', w', ?_, h2⟩
      unfold Instr.makeMap
      simp only [Option.map_some, ren_int]
      rw [run_pureP (by rw [pureP_underlying]; exact hu)]
      simp only []
      rw [run_pureP (a := n) (by unfold asInt; rw [pureP_bind]; rfl)]
      exact h1
    · cases hs
  · cases hs

theorem update_run (r : Rel P CK β h w) {t : TypeId} {m k x : Value} {h' : Hp} (hk : vok h.size k) (hx : vok h.size x) (hs : aUpdate P t m k x h = some h') :
    ∃ w', (Instr.mapUpdate t (ren β m) (ren β k) (ren β x)).run P w = .ok () w' ∧ St P CK β h w β h' w' := by
  unfold aUpdate at hs
  split at hs
  rotate_left
  · cases hs
  rename_i key elem q hu
  split at hs
  rotate_left
  · cases hs
  rename_i es cl hg
  split at hs
  rotate_left
  · cases hs
  rename_i hro
  obtain ⟨o, ho, hev, rfl⟩ := r.blk _ _ hg
  split at hs
  · rename_i i u hf
    obtain ⟨⟨ki, z, rfl⟩, c4, c3⟩ := aFind_run (β := β) hf
    cases hs
    obtain ⟨e, he, hek⟩ : ∃ e, es[i]? = some e ∧ e.key = .int ki z := by
      unfold aFind at hf
      split at hf
      · rename_i e1 e2
        obtain ⟨m, e, h1, h2, h3, h4⟩ := findNow_at _ _ _ _ hf
        cases e2
        exact ⟨e, by rw [← h2]; simp [h1], h3⟩
      · cases hf
    have s := St.set r hg rfl hro (.map (es.modify i fun e => { e with key := .int ki z, val := x }) cl) (.map ((es.map (renE β)).modify i fun e => { e with key := .int ki z, val := ren β x }) cl) ⟨fun e' he' => ?_, ?_⟩
    · refine ⟨_, ?_, s⟩
      unfold Instr.mapUpdate
      rw [run_pureP (by rw [pureP_underlying]; exact hu)]
      rw [ren_map]
      simp only []
      rw [run_then (getMap_run ho)]
      simp only [ren_int]
      rw [run_pureP (c4 _)]
      rw [run_pureP (by rw [Array.toList_map]; exact c3)]
      simp only [Option.map_some]
      have hkey : ((((es.map fun e => ({ key := ren β e.key, val := ren β e.val, born := e.born } : MapEntry))[i]?).map (·.key)).getD (.int ki z)) = .int ki z := by
        rw [Array.getElem?_map, he]
        simp [hek]
      rw [hkey]
      have hkt : pureP P (Instr.keyThatStays (.int ki z) (.int ki z)) = some (.int ki z) := by
        unfold Instr.keyThatStays
        simp [Instr.sameBits]
      rw [run_pureP hkt]
      exact setObj_run ho (fun _ _ _ e => by cases e)
    · rcases Array.mem_iff_getElem?.1 he' with ⟨n, hn⟩
      rw [Array.getElem?_modify] at hn
      split at hn
      · rw [Option.map_eq_some_iff] at hn
        obtain ⟨e0, h0, rfl⟩ := hn
        exact ⟨by simp, hx⟩
      · exact hev e' (Array.mem_of_getElem? hn)
    · congr 1
      apply Array.ext_getElem?
      intro n
      rw [Array.getElem?_modify, Array.getElem?_map, Array.getElem?_map, Array.getElem?_modify]
      split
      · cases es[n]? <;> simp [renE]
      · cases es[n]? <;> simp [renE]
  · rename_i hf
    obtain ⟨⟨ki, z, rfl⟩, c4, c3⟩ := aFind_run (β := β) hf
    cases hs
    have s := St.set r hg rfl hro (.map (es.push { key := .int ki z, val := x, born := cl }) (cl + 1)) (.map ((es.map (renE β)).push { key := .int ki z, val := ren β x, born := cl }) (cl + 1)) ⟨fun e' he' => ?_, ?_⟩
    · refine ⟨_, ?_, s⟩
      unfold Instr.mapUpdate
      rw [run_pureP (by rw [pureP_underlying]; exact hu)]
      rw [ren_map]
      simp only []
      rw [run_then (getMap_run ho)]
      simp only [ren_int]
      rw [run_pureP (c4 _)]
      rw [run_pureP (by rw [Array.toList_map]; exact c3)]
      simp only [Option.map_none]
      exact setObj_run ho (fun _ _ _ e => by cases e)
    · rcases Array.mem_push.1 he' with he' | rfl
      · exact hev e' he'
      · exact ⟨by simp, hx⟩
    · simp; rfl
  · cases hs
end

/-! ### All operations that touch the heap, but calls of functions -/
inductive Out where
  | val (v : Value)
  | skip

def aHeapCall (P : Program) (ρ : Operand → Value) (c : Call) (h : Hp) : Option (Out × Hp) :=
  match c.callee with
  | .builtin .append => (aAppend P c.argTypes (c.args.map ρ) h).map fun x => (.val x.1, x.2)
  | .builtin .copy => (aCopy P c.argTypes (c.args.map ρ) h).map fun x => (.val x.1, x.2)
  | .builtin .clear => (aClear P c.argTypes (c.args.map ρ) h).map fun x => (.val x.1, x.2)
  | _ => none

def aHeap (P : Program) (ρ : Operand → Value) (o : Oper) (h : Hp) : Option (Out × Hp) :=
  match o.op with
  | .load t a => match ρ a with
    | .pointer (some a) => (aLoadVar P t a h).map fun v => (.val v, h)
    | _ => none
  | .store t a x => match ρ a with
    | .pointer (some a) => (aStoreVar P t a (ρ x) h).map fun h' => (.skip, h')
    | _ => none
  | .alloc e => (aAlloc P e h).map fun x => (.val x.1, x.2)
  | .box _ x => some (.val (aNewRow (ρ x).cells h).1, (aNewRow (ρ x).cells h).2)
  | .buildSlice t n parts => (aBuildSlice P t n (parts.map fun (i, x) => (i, ρ x)) h).map fun x => (.val x.1, x.2)
  | .makeSlice t l c => (aMakeSlice P t (ρ l) (ρ c) h).map fun x => (.val x.1, x.2)
  | .slice t x lo hi mx => (aSlice P t (ρ x) (lo.map ρ) (hi.map ρ) (mx.map ρ) h).map fun x => (.val x.1, x.2)
  | .call c => aHeapCall P ρ c h
  | .makeMap t r => (aMakeMap P t (r.map ρ) h).map fun x => (.val x.1, x.2)
  | .lookup t x ix ok => (aLookup P t (ρ x) (ρ ix) ok h).map fun v => (.val v, h)
  | .mapUpdate t m k x => (aUpdate P t (ρ m) (ρ k) (ρ x) h).map fun h' => (.skip, h')
  | _ => none

section
variable {P : Program} {CK : Code → Prop} {β : Bm} {h : Hp} {w : World}

def outNext (β : Bm) : Out → Next
  | .val v => .value (ren β v)
  | .skip => .skip
def outOk (n : Nat) : Out → Prop
  | .val v => vok n v
  | .skip => True

/-- What is claimed of an operation. -/
def GoodO (P : Program) (CK : Code → Prop) (β : Bm) (h : Hp) (w : World) (v : Out) (h' : Hp) (s : Sem Next) : Prop :=
  ∃ β' w', s.run P w = .ok (outNext β' v) w' ∧ outOk h'.size v ∧ St P CK β h w β' h' w'

theorem GoodO.of {v : Value} {h' : Hp} {s : Sem Value} (g : Good P CK β h w v h' s) : GoodO P CK β h w (.val v) h' (do pure (.value (← s))) := by
  obtain ⟨β', w', h1, h2, h3⟩ := g
  exact ⟨β', w', by rw [run_then h1, run_ret]; rfl, h2, h3⟩

theorem map_out {x : Option (Value × Hp)} {v : Out} {h' : Hp} (e : x.map (fun x => (Out.val x.1, x.2)) = some (v, h')) : ∃ u, x = some (u, h') ∧ v = .val u := by
  rw [Option.map_eq_some_iff] at e
  obtain ⟨⟨u, h2⟩, h1, h3⟩ := e
  cases h3
  exact ⟨u, h1, rfl⟩

theorem aHeapCall_good (hz : ZeroOk P) (r : Rel P CK β h w) {ρ ρ' : Operand → Value} {ty : TypeId} {c : Call} {v : Out} {h' : Hp} (hρ : ∀ x ∈ c.operands, vok h.size (ρ x) ∧ ρ' x = ren β (ρ x))
    (hs : aHeapCall P ρ c h = some (v, h')) : GoodO P CK β h w v h' (do let d ← resolve ρ' c ty; invoke d.target d.args) := by
  have ha : ∀ x ∈ c.args, vok h.size (ρ x) ∧ ρ' x = ren β (ρ x) := fun x hx => hρ x (by simp [Call.operands, hx])
  unfold aHeapCall at hs
  unfold resolve
  rw [map_ren ha]
  have hv := map_vok ha
  split at hs
  · rename_i hc
    obtain ⟨u, hu, rfl⟩ := map_out hs
    rw [hc]
    have := GoodO.of (append_good (ty := ty) hz r hv hu)
    obtain ⟨β', w', h1, h2⟩ := this
    exact ⟨β', w', by rw [run_pureP (pureP_pure _)]; exact h1, h2⟩
  · rename_i hc
    obtain ⟨u, hu, rfl⟩ := map_out hs
    rw [hc]
    have := GoodO.of (copy_good (ty := ty) r hu)
    obtain ⟨β', w', h1, h2⟩ := this
    exact ⟨β', w', by rw [run_pureP (pureP_pure _)]; exact h1, h2⟩
  · rename_i hc
    obtain ⟨u, hu, rfl⟩ := map_out hs
    rw [hc]
    have := GoodO.of (clear_good (ty := ty) hz r hu)
    obtain ⟨β', w', h1, h2⟩ := this
    exact ⟨β', w', by rw [run_pureP (pureP_pure _)]; exact h1, h2⟩
  · cases hs

theorem aHeap_good (hz : ZeroOk P) (r : Rel P CK β h w) {ρ ρ' : Operand → Value} {o : Oper} {v : Out} {h' : Hp} (hρ : ∀ x ∈ o.op.operands, vok h.size (ρ x) ∧ ρ' x = ren β (ρ x))
    (hs : aHeap P ρ o h = some (v, h')) : GoodO P CK β h w v h' (execOp ρ' o) := by
  unfold aHeap at hs
  unfold execOp
  cases ho : o.op <;> rw [ho] at hs hρ <;> simp only [] at hs ⊢ <;> first | (cases hs; done) | skip
  case alloc e =>
    obtain ⟨u, hu, rfl⟩ := map_out hs
    exact GoodO.of (alloc_good hz r hu)
  case box e x =>
    have hx := hρ x (by simp [Op.operands])
    cases hs
    rw [hx.2]
    exact GoodO.of (box_good r hx.1)
  case buildSlice t n parts =>
    obtain ⟨u, hu, rfl⟩ := map_out hs
    have hp : ∀ p ∈ parts.map (fun (i, x) => (i, ρ x)), vok h.size p.2 := by
      intro p hp
      obtain ⟨⟨i, x⟩, hq, rfl⟩ := Array.mem_map.1 hp
      exact (hρ x (by simp [Op.operands]; exact ⟨i, hq⟩)).1
    have e : parts.map (fun (i, x) => (i, ρ' x)) = (parts.map (fun (i, x) => (i, ρ x))).map fun p => (p.1, ren β p.2) := by
      rw [Array.map_map]
      refine Array.map_congr_left fun p hp => ?_
      have := (hρ p.2 (by simp [Op.operands]; exact ⟨p.1, hp⟩)).2
      simp [this]
    rw [e]
    exact GoodO.of (buildSlice_good hz r hp hu)
  case load t a =>
    have hx := hρ a (by simp [Op.operands])
    split at hs
    · rename_i b hb
      rw [Option.map_eq_some_iff] at hs
      obtain ⟨u, hu, e⟩ := hs
      cases e
      obtain ⟨h1, h2⟩ := loadVar_run r hu
      refine GoodO.of ⟨β, w, ?_, h2, St.refl r⟩
      rw [hx.2, hb, ren_pointer]
      unfold Instr.loadAt
      rw [run_then (show (Instr.sureAddr (.pointer (some (renA β b)))).run P w = .ok (renA β b) w from rfl)]
      exact h1
    · cases hs
  case store t a x =>
    have ha := hρ a (by simp [Op.operands])
    have hx := hρ x (by simp [Op.operands])
    split at hs
    · rename_i b hb
      rw [Option.map_eq_some_iff] at hs
      obtain ⟨h1, hu, e⟩ := hs
      cases e
      obtain ⟨w', h2, h3⟩ := storeVar_run r hx.1 hu
      refine ⟨β, w', ?_, trivial, h3⟩
      rw [ha.2, hb, ren_pointer, hx.2]
      have : (Instr.storeAt t (.pointer (some (renA β b))) (ren β (ρ x))).run P w = .ok () w' := by
        unfold Instr.storeAt
        rw [run_then (show (Instr.sureAddr (.pointer (some (renA β b)))).run P w = .ok (renA β b) w from rfl)]
        exact h2
      rw [run_then this]; rfl
    · cases hs
  case makeSlice t l c =>
    have hl := hρ l (by simp [Op.operands])
    have hc := hρ c (by simp [Op.operands])
    obtain ⟨u, hu, rfl⟩ := map_out hs
    rw [hl.2, hc.2]
    exact GoodO.of (makeSlice_good hz r hu)
  case slice t x lo hi mx =>
    have hx := hρ x (by simp [Op.operands])
    have hlo : ∀ y, lo = some y → ρ' y = ren β (ρ y) := fun y hy => (hρ y (by subst hy; simp [Op.operands])).2
    have hhi : ∀ y, hi = some y → ρ' y = ren β (ρ y) := fun y hy => (hρ y (by subst hy; simp [Op.operands])).2
    have hmx : ∀ y, mx = some y → ρ' y = ren β (ρ y) := fun y hy => (hρ y (by subst hy; simp [Op.operands])).2
    obtain ⟨u, hu, rfl⟩ := map_out hs
    have opt : ∀ z : Option Operand, (∀ y, z = some y → ρ' y = ren β (ρ y)) → z.map ρ' = (z.map ρ).map (ren β) := by
      intro z hz'
      cases z with
      | none => rfl
      | some y => simp [hz' y rfl]
    rw [hx.2, opt lo hlo, opt hi hhi, opt mx hmx]
    exact GoodO.of (slice_good r hx.1 hu)
  case makeMap t res =>
    have hr : res.map ρ' = (res.map ρ).map (ren β) := by
      cases res with
      | none => rfl
      | some y => simp [(hρ y (by simp [Op.operands])).2]
    obtain ⟨u, hu, rfl⟩ := map_out hs
    rw [hr]
    exact GoodO.of (makeMap_good r hu)
  case lookup t x ix ok =>
    have hx := hρ x (by simp [Op.operands])
    have hi := hρ ix (by simp [Op.operands])
    rw [Option.map_eq_some_iff] at hs
    obtain ⟨u, hu, e⟩ := hs
    cases e
    rw [hx.2, hi.2]
    exact GoodO.of (lookup_good hz r hu)
  case mapUpdate t m k x =>
    have hm := hρ m (by simp [Op.operands])
    have hk := hρ k (by simp [Op.operands])
    have hx := hρ x (by simp [Op.operands])
    rw [Option.map_eq_some_iff] at hs
    obtain ⟨h1, hu, e⟩ := hs
    cases e
    obtain ⟨w', h2, h3⟩ := update_run r hk.1 hx.1 hu
    refine ⟨β, w', ?_, trivial, h3⟩
    rw [hm.2, hk.2, hx.2, run_then h2]; rfl
  case call c =>
    exact aHeapCall_good hz r (fun x hx => hρ x (by simpa [Op.operands] using hx)) hs

end
end Go.Abs
/- The evaluator: a function's call, run over the abstract heap. -/
namespace Go.Abs

inductive Tgt where
  | fn (f : FuncId)
  | yield (l : Nat)

abbrev CallF := Tgt → Array Value → Hp → Option (Value × Hp)

/-- What a function value enters, and with which arguments. -/
def aTarget (P : Program) (f : Value) (args : Array Value) : Option (Tgt × Array Value) :=
  match f with
  | .func (.func g) first cap =>
    match P.funcs[g]? with
    | some fn => if fn.body.isSome then some (.fn g, first ++ args ++ cap) else none
    | none => none
  | .func (.yield l) first _ => some (.yield l, first ++ args)
  | _ => none

def aCallee (P : Program) (ρ : Operand → Value) (c : Call) : Option (Tgt × Array Value) :=
  match c.callee with
  | .value f => aTarget P (ρ f) (c.args.map ρ)
  | _ => none

section
variable {R : Type} (P : Program) (call : CallF)

/-- What an operation gives (what is put into its place), and the heap behind it. -/
def opVal (o : Oper) (a : Act) (h : Hp) : Option (Value × Hp) :=
  match aPure P a.eval o with
  | some v => some (v, h)
  | none =>
    match aHeap P a.eval o h with
    | some (.val v, h') => some (v, h')
    | some (.skip, h') => some (undef, h')
    | none =>
      match o.op with
      | .call c =>
        match aCallee P a.eval c with
        | some (t, args) => call t args h
        | none => none
      | _ => none

/-- A deferred call, as it is kept. -/
def aDefer (ρ : Operand → Value) (c : Call) : Option Deferred :=
  match c.callee with
  | .value f =>
    match ρ f with
    | .func (.func g) first cap =>
      match P.funcs[g]? with
      | some fn => if fn.body.isSome then some { target := .fn (.func g) cap, args := first ++ c.args.map ρ } else none
      | none => none
    | _ => none
  | _ => none

def evalOp (top : Bool) (o : Oper) (a : Act) (h : Hp) (K : Act → Hp → Option R) : Option R :=
  match opVal P call o a h with
  | some (v, h') => K (a.put o.dst v) h'
  | none =>
    if top then
      match o.op with
      | .defer c =>
        match aDefer P a.eval c with
        | some d => K (Act.put { a with defers := d :: a.defers } o.dst undef) h
        | none => none
      | _ => none
    else none

def evalOps (top : Bool) (ops : Array Oper) : List Oper → Act → Hp → (Act → Hp → Option R) → Option R
  | [], a, h, K => K a h
  | o :: l, a, h, K =>
    if Region.wanted o (yielded ops a.tmps) then evalOp P call top o a h fun a h => evalOps top ops l a h K
    else evalOps top ops l (a.put o.dst undef) h K

def evalLoop (body : Act → Hp → (Exit → Act → Hp → Option R) → Option R) : Nat → Act → Hp → (Exit → Act → Hp → Option R) → Option R
  | 0, _, _, _ => none
  | n + 1, a, h, K => body a h fun e a h => match e with
    | .normal => evalLoop body n a h K
    | e => K e a h

/-- Entering a range over a function: the record, its number, the marks. -/
def enterL (ctx : Option Nat) (a : Act) (ps : Array Tmp) (asg body : Code) (h : Hp) : Option (Nat × List Deferred × Hp) :=
  match ctx with
  | none => some (h.size + 1, [{ target := .collected h.size, args := #[] }], (h.push (some (.defd false))).push (some (.loop .ready none a.tmps ps asg body h.size)))
  | some l =>
    match h.get l with
    | some (.loop _ _ _ _ _ _ d) => some (h.size, [], h.push (some (.loop .ready none a.tmps ps asg body d)))
    | _ => none

/-- Behind it: the jump that a round has left. -/
def leaveL (l : Nat) (h : Hp) : Option (Exit × Hp) :=
  match h.get l with
  | some (.loop st pd tm ps asg body d) =>
    if st = .busy ∨ ¬ h.ro ≤ l then none else
    let h' := h.setB l (some (.loop .exhausted pd tm ps asg body d))
    match pd with
    | none => some (.normal, h')
    | some .ret => some (.ret, h')
    | some (.exit id) => some (.exit id, h')
    | _ => none
  | _ => none

def evalC (draw : Array Oper → Act → Hp → (Act → Hp → Option R) → Option R) (ctx : Option Nat) (lf : Nat) : Code → Act → Hp → (Exit → Act → Hp → Option R) → Option R
  | .skip, a, h, K => K .normal a h
  | .region _ ops false, a, h, K => evalOps P call ctx.isNone ops ops.toList a h fun a h => K .normal a h
  | .region _ ops true, a, h, K => draw ops a h fun a h => K .normal a h
  | .seq x y, a, h, K => evalC draw ctx lf x a h fun e a h => match e with
    | .normal => evalC draw ctx lf y a h K
    | e => K e a h
  | .cond c x y, a, h, K =>
    match a.eval c with
    | .bool true => evalC draw ctx lf x a h K
    | .bool false => evalC draw ctx lf y a h K
    | _ => none
  | .block id c, a, h, K => evalC draw ctx lf c a h fun e a h => match e with
    | .exit id' => if id' = id then K .normal a h else K (.exit id') a h
    | e => K e a h
  | .loop c, a, h, K => evalLoop (evalC draw ctx lf c) lf a h K
  | .rangeFunc f ps asg body, a, h, K =>
    match enterL ctx a ps asg body h with
    | some (l, mark, h1) =>
      match aTarget P (a.eval f) #[.func (.yield l) #[] #[]] with
      | some (.fn g, args) =>
        match call (.fn g) args h1 with
        | some (_, h2) =>
          match leaveL l h2 with
          | some (e, h3) => K e { a with defers := mark ++ a.defers } h3
          | none => none
        | none => none
      | _ => none
    | none => none
  | .exit id, a, h, K => K (.exit id) a h
  | .scope c, a, h, K => evalC draw ctx lf c a h fun e a h => match e with
    | .goto _ => none
    | e => K e a h
  | .label _, a, h, K => K .normal a h
  | .goto _, _, _, _ => none
  | .ret, a, h, K => K .ret a h
  | .refuse _, _, _, _ => none

abbrev DCall := FuncId → Array Value → Hp → Option (Value × Hp)
/-- The marks are taken on the way out, and what was deferred is called. -/
def takeMarks (dc : DCall) : List Deferred → Hp → Option Hp
  | [], h => some h
  | d :: ds, h =>
    match d.target with
    | .collected r =>
      match h.get r with
      | some (.defd false) => if h.ro ≤ r then takeMarks dc ds (h.setB r (some (.defd true))) else none
      | _ => none
    | .fn (.func g) cap =>
      match dc g (d.args ++ cap) h with
      | some (_, h') => takeMarks dc ds h'
      | none => none
    | _ => none

def aResult (tmps : Array Value) (h : Hp) : ResultVar → Option Value
  | .tmp t => some (tmps.getD t undef)
  | .cell a t =>
    match tmps.getD a undef with
    | .pointer (some b) => aLoadVar P t b h
    | _ => none

def aResultsL (tmps : Array Value) (h : Hp) : List ResultVar → Option (List Value)
  | [] => some []
  | x :: l =>
    match aResult P tmps h x with
    | some v => (aResultsL tmps h l).map fun vs => v :: vs
    | none => none

def aResults (fn : Func) (tmps : Array Value) (h : Hp) : Option Value :=
  match aResultsL P tmps h fn.results.toList with
  | some [v] => some v
  | some vs => some (.tuple vs.toArray)
  | none => none

def finish (dc : DCall) (fn : Func) (a : Act) (h : Hp) : Option (Value × Hp) :=
  match takeMarks dc a.defers h with
  | some h' => (aResults P fn a.tmps h').map fun v => (v, h')
  | none => none

/-- A round's end. -/
def endR (l : Nat) (jump : Option Code) (h : Hp) : Option (Value × Hp) :=
  match h.get l with
  | some (.loop _ _ tm ps asg body d) =>
    if h.ro ≤ l then some (.bool jump.isNone, h.setB l (some (.loop (if jump.isNone then .ready else .done) jump tm ps asg body d))) else none
  | _ => none

def beginR (l : Nat) (h : Hp) : Option Hp :=
  match h.get l with
  | some (.loop .ready pd tm ps asg body d) => if h.ro ≤ l then some (h.setB l (some (.loop .busy pd tm ps asg body d))) else none
  | _ => none

end
end Go.Abs
/- The evaluator is sound: operations, and regions in the order of the text. -/
namespace Go.Abs

/-- The fence that lets everything by, in a round or not. -/
def FW (r : Option Nat) : Fence := { Fence.wide with round := r }

def renD (β : Bm) (d : Deferred) : Deferred :=
  match d.target with
  | .collected r => { target := .collected (β r).B, args := d.args }
  | .fn f cap => { target := .fn (renFn β f) (cap.map (ren β)), args := d.args.map (ren β) }
  | _ => d
def renAct (β : Bm) (a : Act) : Act := { tmps := a.tmps.map (ren β), defers := a.defers.map (renD β) }
def dok (n : Nat) (d : Deferred) : Prop :=
  (∃ r, d = { target := .collected r, args := #[] } ∧ r < n) ∨ ∃ g cap args, d = { target := .fn (.func g) cap, args := args } ∧ (∀ v ∈ cap, vok n v) ∧ ∀ v ∈ args, vok n v
def aok (n : Nat) (a : Act) : Prop := (∀ v ∈ a.tmps, vok n v) ∧ ∀ d ∈ a.defers, dok n d
theorem dok_mono {n m : Nat} (hnm : n ≤ m) {d : Deferred} (h : dok n d) : dok m d := by
  rcases h with ⟨r, h1, h2⟩ | ⟨g, cap, args, h1, h2, h3⟩
  · exact .inl ⟨r, h1, by omega⟩
  · exact .inr ⟨g, cap, args, h1, fun v hv => vok_mono hnm v (h2 v hv), fun v hv => vok_mono hnm v (h3 v hv)⟩
theorem renD_congr {n : Nat} {β γ : Bm} (hg : ∀ b, b < n → γ b = β b) {d : Deferred} (h : dok n d) : renD γ d = renD β d := by
  rcases h with ⟨r, rfl, hr⟩ | ⟨g, cap, args, rfl, h2, h3⟩
  · simp [renD, hg r hr]
  · simp only [renD, renFn]
    congr 1
    · congr 1
      exact Array.map_congr_left fun v hv => ren_congr hg v (h2 v hv)
    · exact Array.map_congr_left fun v hv => ren_congr hg v (h3 v hv)

def opnOk (P : Program) : Operand → Bool
  | .const v => flatB v
  | .global g => g < P.globals.size
  | _ => true
def isDefer : Op → Bool
  | .defer _ => true
  | _ => false
def operOkD (P : Program) (o : Oper) : Bool := o.op.operands.all (opnOk P)
def operOk (P : Program) (o : Oper) : Bool := o.op.operands.all (opnOk P) && !isDefer o.op

section
variable {P : Program} {CK : Code → Prop} {β : Bm} {h : Hp} {w : World}

theorem renAct_congr {n : Nat} {γ : Bm} (hg : ∀ b, b < n → γ b = β b) {a : Act} (ha : aok n a) : renAct γ a = renAct β a := by
  unfold renAct
  congr 1
  · exact Array.map_congr_left fun v hv => ren_congr hg v (ha.1 v hv)
  · refine List.map_congr_left fun d hd => ?_
    exact renD_congr hg (ha.2 d hd)

theorem aok_mono {n m : Nat} (hnm : n ≤ m) {a : Act} (ha : aok n a) : aok m a :=
  ⟨fun v hv => vok_mono hnm v (ha.1 v hv), fun d hd => dok_mono hnm (ha.2 d hd)⟩

theorem put_ren (a : Act) (d : Option Tmp) (v : Value) : (renAct β a).put d (ren β v) = renAct β (a.put d v) := by
  cases d <;> simp [Act.put, renAct, setC_map]

theorem put_aok {n : Nat} {a : Act} (ha : aok n a) {d : Option Tmp} {v : Value} (hv : vok n v) : aok n (a.put d v) := by
  cases d with
  | none => exact ha
  | some t =>
    refine ⟨fun x hx => ?_, ha.2⟩
    rcases mem_setC hx with rfl | hx
    · exact hv
    · exact ha.1 x hx

theorem eval_ren (r : Rel P CK β h w) {a : Act} (ha : aok h.size a) {x : Operand} (hx : opnOk P x = true) : vok h.size (a.eval x) ∧ (renAct β a).eval x = ren β (a.eval x) := by
  cases x with
  | tmp t =>
    simp only [Act.eval, renAct, Array.getD_eq_getD_getElem?, Array.getElem?_map]
    cases ht : a.tmps[t]? with
    | none => simp
    | some v => simp; exact ha.1 v (Array.mem_of_getElem? ht)
  | const v =>
    simp only [Act.eval]
    exact ⟨flat_vok v hx, (flat_ren v hx).symm⟩
  | global g =>
    simp only [opnOk, decide_eq_true_eq] at hx
    have := r.glob g hx
    have hg := r.gsize
    simp only [Act.eval, ren_pointer, renA, this.1, this.2, vok_pointer]
    exact ⟨(by omega), trivial⟩
  | func f => simp [Act.eval, renFn, fnok]

theorem operands_renD (r : Rel P CK β h w) {a : Act} (ha : aok h.size a) {o : Oper} (ho : operOkD P o = true) :
    ∀ x ∈ o.op.operands, vok h.size (a.eval x) ∧ (renAct β a).eval x = ren β (a.eval x) := by
  intro x hx
  simp only [operOkD, Array.all_eq_true_iff_forall_mem] at ho
  exact eval_ren r ha (ho x hx)
theorem operOk_D {o : Oper} (ho : operOk P o = true) : operOkD P o = true := by
  simp only [operOk, Bool.and_eq_true] at ho
  exact ho.1
theorem operands_ren (r : Rel P CK β h w) {a : Act} (ha : aok h.size a) {o : Oper} (ho : operOk P o = true) :
    ∀ x ∈ o.op.operands, vok h.size (a.eval x) ∧ (renAct β a).eval x = ren β (a.eval x) := operands_renD r ha (operOk_D ho)

/-- What a call does. -/
def Post (P : Program) (CK : Code → Prop) (β : Bm) (h : Hp) (w : World) (v : Value) (h' : Hp) (e : Ending) (w' : World) : Prop :=
  ∃ β', e = .returned (ren β' v) ∧ vok h'.size v ∧ St P CK β h w β' h' w'

/-- What is claimed of a target that is entered. -/
def Enters (P : Program) (CK : Code → Prop) (β : Bm) (h : Hp) (w : World) (args : Array Value) (v : Value) (h' : Hp) : Tgt → Prop
  | .fn f => CallsIn (FW none) 0 P f (args.map (ren β)) w (Post P CK β h w v h')
  | .yield l => ∃ f tmps asg body, (Instr.yield (β l).B (args.map (ren β))).run P w = .ok (.round (β l).B f tmps asg body) w ∧
      RoundIn (FW none) 0 P (β l).B f tmps asg body w (Post P CK β h w v h')

def TgtIn (n : Nat) : Tgt → Prop
  | .fn _ => True
  | .yield l => l < n
def TgtRun (P : Program) (β : Bm) (args : Array Value) (d : Deferred) : Tgt → Prop
  | .fn g => ∀ w, (invoke d.target d.args).run P w = .ok (.enter g args) w
  | .yield l => invoke d.target d.args = Instr.yield (β l).B args

def CallOk (P : Program) (CK : Code → Prop) (call : CallF) : Prop :=
  ∀ t args h v h', call t args h = some (v, h') → ∀ β w, Rel P CK β h w → (∀ a ∈ args, vok h.size a) → TgtIn h.size t → Enters P CK β h w args v h' t

/-- What a piece of code comes to. -/
def Ends (P : Program) (CK : Code → Prop) (β : Bm) (h : Hp) (w : World) {R : Type} (K : Act → Hp → Option R) (res : R) (a' : Act) (w' : World) : Prop :=
  ∃ aa hh β', K aa hh = some res ∧ a' = renAct β' aa ∧ aok hh.size aa ∧ St P CK β h w β' hh w'

structure ProgOk (P : Program) : Prop where
  zero : ZeroOk P
  name : ∀ (f : FuncId) (fn : Func), P.funcs[f]? = some fn → fn.body.isSome = true → (fn.name == "runtime.NumGoroutine") = false
  mixed : P.follows .mixedOrders = true

theorem target_run (pk : ProgOk P) {f : Value} {args : Array Value} {t : Tgt} {args' : Array Value} (hf : vok h.size f) (ha : ∀ a ∈ args, vok h.size a) (ht : aTarget P f args = some (t, args')) :
    (∀ a ∈ args', vok h.size a) ∧ TgtIn h.size t ∧
      ∃ d, (∀ w, (Deferred.ofValue (ren β f) (args.map (ren β))).run P w = .ok d w) ∧ TgtRun P β (args'.map (ren β)) d t := by
  cases f <;> simp only [aTarget] at ht <;> first | (cases ht; done) | skip
  rename_i fnv first cap
  cases fnv <;> simp only [] at ht <;> first | (cases ht; done) | skip
  · rename_i g
    cases hfn : P.funcs[g]? with
    | none => rw [hfn] at ht; cases ht
    | some fn =>
      rw [hfn] at ht
      simp only [] at ht
      by_cases hb : fn.body.isSome = true
      · rw [if_pos hb] at ht
        cases ht
        simp only [vok_func] at hf
        refine ⟨fun x hx => ?_, trivial, { target := .fn (.func g) (cap.map (ren β)), args := first.map (ren β) ++ args.map (ren β) }, fun w => ?_, fun w => ?_⟩
        · rcases Array.mem_append.1 hx with hx | hx
          · rcases Array.mem_append.1 hx with hx | hx
            · exact hf.2.1 x hx
            · exact ha x hx
          · exact hf.2.2 x hx
        · rw [ren_func]; rfl
        · have hn := pk.name g fn hfn hb
          have hnb : fn.body.isNone = false := by cases hbb : fn.body <;> simp_all
          simp only [invoke, callFunc]
          rw [run_pureP (pureP_program (P := P))]
          simp only [hfn]
          rw [if_neg (by simpa using hn), if_neg (by simp [hnb])]
          rw [run_ret]
          simp
      · rw [if_neg hb] at ht; cases ht
  · rename_i l
    cases ht
    simp only [vok_func, fnok] at hf
    refine ⟨fun x hx => ?_, hf.1, { target := .fn (.yield (β l).B) (cap.map (ren β)), args := first.map (ren β) ++ args.map (ren β) }, fun w => ?_, ?_⟩
    · rcases Array.mem_append.1 hx with hx | hx
      · exact hf.2.1 x hx
      · exact ha x hx
    · rw [ren_func]; rfl
    · simp [TgtRun, invoke]

variable {R : Type} {call : CallF} {rd : Option Nat}

theorem opVal_sound' (pk : ProgOk P) (hcall : CallOk P CK call) {o : Oper} (r : Rel P CK β h w) {a a₀ : Act} {v : Value} {h' : Hp}
    (hρ : ∀ x ∈ o.op.operands, vok h.size (a.eval x) ∧ a₀.eval x = ren β (a.eval x)) (he : opVal P call o a h = some (v, h')) (Q : Exit → Act → World → Prop) :
    o.wpIn (FW rd) 0 P a₀ w (fun a' w' => ∃ β', a' = a₀.put o.dst (ren β' v) ∧ vok h'.size v ∧ St P CK β h w β' h' w') Q := by
  have hnd : ∀ c, o.op ≠ .defer c := by
    intro c hc
    have hp : aPure P a.eval o = none := by unfold aPure; rw [hc]
    have hh : aHeap P a.eval o h = none := by unfold aHeap; rw [hc]
    simp [opVal, hp, hh, hc] at he
  refine ⟨fun _ _ => trivial, ?_⟩
  rw [Oper.semAt_eq _ _ _ hnd]
  unfold opVal at he
  split at he
  · rename_i v hv
    cases he
    obtain ⟨h1, h2⟩ := aPure_eqv (n := h.size) (β := β) pk.zero hρ hv
    rw [pureP_run h2 w, Oper.uponIn_value]
    exact ⟨β, rfl, h1, St.refl r⟩
  · split at he
    · rename_i v h' hv
      cases he
      obtain ⟨β', w', h1, h2, h3⟩ := aHeap_good pk.zero r hρ hv
      rw [h1]
      simp only [outNext, Oper.uponIn_value]
      exact ⟨β', rfl, h2, h3⟩
    · rename_i h' hv
      cases he
      obtain ⟨β', w', h1, h2, h3⟩ := aHeap_good pk.zero r hρ hv
      rw [h1]
      simp only [outNext, Oper.uponIn_skip]
      exact ⟨β', by rw [ren_undef], by simp, h3⟩
    · split at he
      · rename_i c hc
        split at he
        · rename_i t args ht
          have hcl := he
          unfold aCallee at ht
          split at ht
          · rename_i f hf
            have hf' := hρ f (by rw [hc]; simp [Op.operands, Call.operands, hf])
            have hargs : ∀ x ∈ c.args, vok h.size (a.eval x) ∧ a₀.eval x = ren β (a.eval x) := fun x hx => hρ x (by rw [hc]; simp [Op.operands, Call.operands, hx])
            obtain ⟨g1, g2, d, g3, g4⟩ := target_run (β := β) pk hf'.1 (map_vok hargs) ht
            have hent := hcall t args h v h' hcl β w r g1 g2
            have hres : (execOp a₀.eval o).run P w = (invoke d.target d.args).run P w := by
              unfold execOp
              rw [hc]
              simp only []
              unfold resolve
              rw [hf]
              simp only []
              rw [hf'.2, map_ren hargs]
              exact run_then (g3 w)
            rw [hres]
            have fin : ∀ (e : Ending) (w' : World), Post P CK β h w v h' e w' → (match e, w' with
                | .returned u, w'' => ∃ β', a₀.put o.dst u = a₀.put o.dst (ren β' v) ∧ vok h'.size v ∧ St P CK β h w β' h' w''
                | .panicked chain, w'' => Q (.panic chain) a₀ w''
                | .outgrown, _ => LetsOut Q) := by
              rintro e w' ⟨β', rfl, h2, h3⟩
              exact ⟨β', rfl, h2, h3⟩
            cases t with
            | fn g =>
              rw [g4 w, Oper.uponIn_enter]
              exact ⟨fun hd => by simp [FW, Fence.wide] at hd, CallsIn.mono (F := FW rd) (n := 0 - 1) hent fun e w' hp => fin e w' hp⟩
            | yield l =>
              obtain ⟨f', tmps, asg, body, hy, hr⟩ := hent
              rw [g4, hy, Oper.uponIn_round]
              exact ⟨fun hd => by simp [FW, Fence.wide] at hd, RoundIn.mono (F := FW rd) (n := 0 - 1) hr fun e w' hp => fin e w' hp⟩
          · cases ht
        · cases he
      · cases he

theorem opVal_sound (pk : ProgOk P) (hcall : CallOk P CK call) {o : Oper} (_ho : operOk P o = true) (r : Rel P CK β h w) {a a₀ : Act} {v : Value} {h' : Hp}
    (hρ : ∀ x ∈ o.op.operands, vok h.size (a.eval x) ∧ a₀.eval x = ren β (a.eval x)) (he : opVal P call o a h = some (v, h')) (Q : Exit → Act → World → Prop) :
    o.wpIn (FW rd) 0 P a₀ w (fun a' w' => ∃ β', a' = a₀.put o.dst (ren β' v) ∧ vok h'.size v ∧ St P CK β h w β' h' w') Q := opVal_sound' pk hcall r hρ he Q

/-- A deferred call is noted. -/
theorem defer_sound {o : Oper} {c : Call} (hc : o.op = .defer c) (ho : operOkD P o = true) (r : Rel P CK β h w) {a : Act} (ha : aok h.size a) {d : Deferred} (hd : aDefer P a.eval c = some d) {K : Act → Hp → Option R} {res : R}
    (he : K (Act.put { a with defers := d :: a.defers } o.dst undef) h = some res) (Q : Exit → Act → World → Prop) :
    o.wpIn (FW none) 0 P (renAct β a) w (Ends P CK β h w K res) Q := by
  have hρ := operands_renD r ha ho
  unfold aDefer at hd
  split at hd
  · rename_i f hf
    have hf' := hρ f (by rw [hc]; simp [Op.operands, Call.operands, hf])
    have hargs : ∀ x ∈ c.args, vok h.size (a.eval x) ∧ (renAct β a).eval x = ren β (a.eval x) := fun x hx => hρ x (by rw [hc]; simp [Op.operands, Call.operands, hx])
    split at hd
    · rename_i g first cap hfv
      rw [hfv] at hf'
      split at hd
      · rename_i fn hfn
        split at hd
        · cases hd
          have hvf := hf'.1
          simp only [vok_func] at hvf
          have hrun : (o.semAt (FW none).round (renAct β a).eval).run P w = .ok (.defer (renD β { target := .fn (.func g) cap, args := first ++ c.args.map a.eval })) w := by
            show (Oper.semAt none (renAct β a).eval o).run P w = _
            rw [Oper.semAt_none]
            unfold execOp
            rw [hc]
            simp only []
            unfold resolve
            rw [hf]
            simp only []
            rw [hf'.2, map_ren hargs, ren_func]
            simp only [renD, renFn, Array.map_append]
            rfl
          refine ⟨fun _ _ => trivial, ?_⟩
          rw [hrun, Oper.uponIn_defer]
          have haa : aok h.size { a with defers := { target := .fn (.func g) cap, args := first ++ c.args.map a.eval } :: a.defers } := by
            refine ⟨ha.1, fun d hd => ?_⟩
            rcases List.mem_cons.1 hd with rfl | hd
            · refine .inr ⟨g, cap, _, rfl, hvf.2.2, fun v hv => ?_⟩
              rcases Array.mem_append.1 hv with hv | hv
              · exact hvf.2.1 v hv
              · exact map_vok hargs v hv
            · exact ha.2 d hd
          refine ⟨_, h, β, he, ?_, put_aok haa (by simp), St.refl r⟩
          have := put_ren (β := β) { a with defers := { target := .fn (.func g) cap, args := first ++ c.args.map a.eval } :: a.defers } o.dst undef
          rw [ren_undef] at this
          rw [← this]
          rfl
        · cases hd
      · cases hd
    · cases hd
  · cases hd

theorem evalOp_sound (pk : ProgOk P) (hcall : CallOk P CK call) {top : Bool} (htop : top = true → rd = none) {o : Oper} (ho : operOkD P o = true) (r : Rel P CK β h w) {a : Act} (ha : aok h.size a) {K : Act → Hp → Option R} {res : R}
    (he : evalOp P call top o a h K = some res) (Q : Exit → Act → World → Prop) :
    o.wpIn (FW rd) 0 P (renAct β a) w (Ends P CK β h w K res) Q := by
  unfold evalOp at he
  split at he
  · rename_i v h' hv
    refine Oper.wpIn_mono ?_ (opVal_sound' pk hcall r (operands_renD r ha ho) hv Q)
    rintro a' w' ⟨β', rfl, h2, h3⟩
    refine ⟨_, h', β', he, ?_, put_aok (aok_mono h3.size ha) h2, h3⟩
    rw [← renAct_congr h3.ext ha]; exact put_ren _ _ _
  · split at he
    · rename_i ht
      obtain rfl := htop ht
      split at he
      · rename_i c hc
        split at he
        · rename_i d hd
          exact defer_sound hc ho r ha hd he Q
        · cases he
      · cases he
    · cases he

end
end Go.Abs
/- The evaluator is sound: code. -/
namespace Go.Abs

def codeOk (P : Program) (dk : Array Oper → Bool) : Code → Bool
  | .region _ ops d => ops.all (operOkD P) && (!d || (ops.all (operOk P) && dk ops))
  | .seq x y => codeOk P dk x && codeOk P dk y
  | .cond c x y => opnOk P c && codeOk P dk x && codeOk P dk y
  | .block _ c => codeOk P dk c
  | .loop c => codeOk P dk c
  | .scope c => codeOk P dk c
  | .rangeFunc f _ asg body => opnOk P f && codeOk P dk asg && codeOk P dk body
  | _ => true

def ctxIn (ctx : Option Nat) (n : Nat) : Prop := ∀ l, ctx = some l → l < n
def ctxB (β : Bm) (ctx : Option Nat) : Option Nat := ctx.map fun l => (β l).B

section
variable {P : Program} {dk : Array Oper → Bool} {β : Bm} {h : Hp} {w : World} {R : Type} {call : CallF}

abbrev CKd (P : Program) (dk : Array Oper → Bool) : Code → Prop := fun c => codeOk P dk c = true

def EndsC (P : Program) (CK : Code → Prop) (β : Bm) (h : Hp) (w : World) (K : Exit → Act → Hp → Option R) (res : R) (e : Exit) (a' : Act) (w' : World) : Prop :=
  Ends P CK β h w (K e) res a' w'

theorem Ends.step {CK : Code → Prop} {β' : Bm} {h' : Hp} {w' w'' : World} {K : Act → Hp → Option R} {res : R} {a : Act} (s : St P CK β h w β' h' w') (e : Ends P CK β' h' w' K res a w'') : Ends P CK β h w K res a w'' := by
  obtain ⟨aa, hh, γ, h1, h2, h3, h4⟩ := e
  exact ⟨aa, hh, γ, h1, h2, h3, s.trans h4⟩

theorem ctxB_step {CK : Code → Prop} {β' : Bm} {h' : Hp} {w' : World} (s : St P CK β h w β' h' w') {ctx : Option Nat} (hc : ctxIn ctx h.size) : ctxB β' ctx = ctxB β ctx ∧ ctxIn ctx h'.size := by
  cases ctx with
  | none => exact ⟨rfl, fun l hl => by cases hl⟩
  | some l =>
    have := hc l rfl
    exact ⟨by simp [ctxB, s.ext l this], fun l' hl => by cases hl; have := s.size; omega⟩

theorem wanted_ren {ops : Array Oper} {o : Oper} {a : Act} : Region.wanted o (yielded ops (renAct β a).tmps) = Region.wanted o (yielded ops a.tmps) := by
  unfold Region.wanted
  cases o.guard with
  | none => rfl
  | some g =>
    obtain ⟨j, want⟩ := g
    have : yielded ops (renAct β a).tmps j = yielded ops a.tmps j := by
      unfold yielded renAct
      cases hd : (ops[j]?).bind (·.dst) with
      | none => rfl
      | some d =>
        simp only [Option.bind_some, Array.getElem?_map]
        cases ht : a.tmps[d]? with
        | none => rfl
        | some v =>
          simp only [Option.map_some]
          cases v with
          | pointer p => cases p <;> simp
          | slice p _ _ => cases p <;> simp
          | map p => cases p <;> simp
          | chan p => simp [ren]
          | complex => simp [ren]
          | _ => simp
    simp only [this]

theorem put_undef (a : Act) (d : Option Tmp) : (renAct β a).put d undef = renAct β (a.put d undef) := by
  have := put_ren (β := β) a d undef
  rwa [ren_undef] at this

theorem evalOps_sound (pk : ProgOk P) {CK : Code → Prop} (hcall : CallOk P CK call) {ops : Array Oper} (hok : ops.all (operOkD P) = true) (Q : Exit → Act → World → Prop) {rd : Option Nat} {top : Bool} (htop : top = true → rd = none) :
    ∀ (l : List Oper) (k : Nat) (β : Bm) (h : Hp) (w : World) (a : Act) (K : Act → Hp → Option R) (res : R), l = ops.toList.drop k → Rel P CK β h w → aok h.size a →
      evalOps P call top ops l a h K = some res → (∀ a' w', Ends P CK β h w K res a' w' → Q .normal a' w') →
      wpOpsIn (FW rd) 0 P ops Q (List.range' k l.length) (renAct β a) w
  | [], k, β, h, w, a, K, res, _, r, ha, he, hq => hq _ _ ⟨a, h, β, he, rfl, ha, St.refl r⟩
  | o :: l, k, β, h, w, a, K, res, hl, r, ha, he, hq => by
    have hk : ops[k]? = some o := by
      have : (ops.toList.drop k)[0]? = some o := by rw [← hl]; rfl
      rw [List.getElem?_drop] at this
      simpa using this
    have hl' : l = ops.toList.drop (k + 1) := by
      have : (o :: l).tail = (ops.toList.drop k).tail := by rw [hl]
      simpa using this
    have ho : operOkD P o = true := (Array.all_eq_true_iff_forall_mem.1 hok) o (Array.mem_of_getElem? hk)
    rw [List.length_cons, List.range'_succ, wpOpsIn_cons]
    unfold wpOpIn
    rw [hk]
    simp only []
    rw [wanted_ren]
    simp only [evalOps] at he
    split at he
    · rename_i hw
      rw [if_pos hw]
      refine Oper.wpIn_mono ?_ (evalOp_sound pk hcall htop ho r ha he Q)
      rintro a' w' ⟨aa, hh, β', h1, rfl, h3, h4⟩
      exact evalOps_sound pk hcall hok Q htop l (k + 1) β' hh w' aa K res hl' h4.rel h3 h1 fun a' w'' he => hq a' w'' (Ends.step h4 he)
    · rename_i hw
      rw [if_neg hw]
      refine ⟨fun _ _ => trivial, ?_⟩
      rw [put_undef]
      exact evalOps_sound pk hcall hok Q htop l (k + 1) β h w _ K res hl' r (put_aok ha (by simp)) he hq

/-- What is asked of the way in which a region that draws its order is run. -/
def DrawOk (P : Program) (CK : Code → Prop) (dk : Array Oper → Bool) (draw : Array Oper → Act → Hp → (Act → Hp → Option R) → Option R) : Prop :=
  ∀ (ops : Array Oper), ops.all (operOk P) = true → dk ops = true → ∀ (rd : Option Nat) (id : Nat) (β : Bm) (h : Hp) (w : World) (a : Act) (K : Act → Hp → Option R) (res : R), Rel P CK β h w → aok h.size a →
    draw ops a h K = some res → ∀ Q : Exit → Act → World → Prop, (∀ a' w', Ends P CK β h w K res a' w' → Q .normal a' w') → (Code.region id ops true).wpIn (FW rd) 0 P Q (renAct β a) w

theorem getLoop_run {k : Nat} {r : Loop} (hk : w.heap[k]? = some (.loop r)) : (Instr.getLoop k).run P w = .ok r w := by
  unfold Instr.getLoop
  simp [getObj, Sem.run, hk]

/-- The record of a range over a function is laid. -/
theorem enter_run {dk' : Code → Prop} (r : Rel P dk' β h w) {ctx : Option Nat} (hc : ctxIn ctx h.size) {a : Act} (ha : aok h.size a) {ps : Array Tmp} {asg body : Code} (k1 : dk' asg) (k2 : dk' body) {l : Nat} {mark : List Deferred} {h1 : Hp}
    (he : enterL ctx a ps asg body h = some (l, mark, h1)) (fn : FuncId) :
    ∃ β' w', (Instr.enterLoop fn (renAct β a).tmps ps asg body (ctxB β ctx)).run P w = .ok ((β' l).B, mark.map (renD β')) w' ∧ St P dk' β h w β' h1 w' ∧ l < h1.size ∧
      aok h1.size { a with defers := mark ++ a.defers } := by
  unfold enterL at he
  cases ctx with
  | none =>
    simp only [Option.some.injEq, Prod.mk.injEq] at he
    obtain ⟨rfl, rfl, rfl⟩ := he
    have s1 := St.new r ⟨w.heap.size, 0, 0⟩ (.defd false) (.deferred (some [])) rfl rfl
    have ha1 := aok_mono s1.size ha
    have s2 := St.new s1.rel ⟨w.heap.size + 1, 0, 0⟩ (.loop .ready none a.tmps ps asg body h.size) (.loop { state := .ready, pending := none, fn := fn, tmps := (renAct β a).tmps, params := ps, assign := asg, body := body, defers := w.heap.size }) (by simp)
      ⟨by simp, ha1.1, k1, k2, .inl rfl, fn, by
        simp only [upd_self]
        congr 2
        exact (congrArg Act.tmps (renAct_congr s1.ext ha)).symm⟩
    refine ⟨_, _, ?_, s1.trans s2, by simp, ?_⟩
    · simp only [Instr.enterLoop, ctxB, Option.map_none]
      rw [run_then (newObj_run _), run_then (run_ret _)]
      rw [run_then (newObj_run _), run_ret]
      have e1 : h.size + 1 = (h.push (some (.defd false))).size := rfl
      rw [e1, upd_self]
      simp [renD, upd_lt]
    · have ha2 := aok_mono s2.size ha1
      refine ⟨ha2.1, fun d hd => ?_⟩
      rcases List.mem_append.1 hd with hd | hd
      · simp only [List.mem_singleton] at hd
        exact .inl ⟨h.size, hd, by simp; omega⟩
      · exact ha2.2 d hd
  | some l0 =>
    have hl0 := hc l0 rfl
    split at he
    · rename_i l' e0; cases e0
    · rename_i l' hc0
      cases hc0
      split at he
      · rename_i st pd tm ps' asg' body' d hg
        simp only [Option.some.injEq, Prod.mk.injEq] at he
        obtain ⟨rfl, rfl, rfl⟩ := he
        obtain ⟨o, ho, q1, q2, q3, q4, q5, fn', rfl⟩ := r.blk _ _ hg
        have s2 := St.new r ⟨w.heap.size, 0, 0⟩ (.loop .ready none a.tmps ps asg body d) (.loop { state := .ready, pending := none, fn := fn, tmps := (renAct β a).tmps, params := ps, assign := asg, body := body, defers := (β d).B }) rfl
          ⟨q1, ha.1, k1, k2, .inl rfl, fn, rfl⟩
        refine ⟨_, _, ?_, s2, by simp, ?_⟩
        · simp only [Instr.enterLoop, ctxB, Option.map_some]
          rw [run_then (getLoop_run ho), run_then (run_ret _), run_then (newObj_run _), run_ret]
          simp
        · exact aok_mono s2.size ha
      · cases he

end
end Go.Abs
