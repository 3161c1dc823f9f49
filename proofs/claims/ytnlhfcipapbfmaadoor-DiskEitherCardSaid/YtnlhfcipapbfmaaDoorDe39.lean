/- The plain law of a plate: what stands there stays, but for what is written. -/
import Derived.Test.YtnlhfcipapbfmaaDoorDe37
namespace Go.Abs.B1d
open Go.Proofs
set_option maxRecDepth 10000
set_option maxHeartbeats 4000000
set_option linter.all false
/-- But for the sectors W, the plate is P, and no row is of them. -/
structure Stay (P : List (List Value)) (W : Nat → Bool) (D : DV) : Prop where
  plate : ∀ i : Nat, W i = false → D.1[i]? = P[i]?
  rows : ∀ r ∈ D.2.1, 0 ≤ r.1 ∧ ∀ i : Nat, W i = false → r.1 ≠ (i : Int)
theorem Stay.mono {P : List (List Value)} {W V : Nat → Bool} {D : DV} (h : Stay P W D) (hW : ∀ i, V i = false → W i = false) : Stay P V D :=
  ⟨fun i hi => h.plate i (hW i hi), fun r hr => ⟨(h.rows r hr).1, fun i hi => (h.rows r hr).2 i (hW i hi)⟩⟩
theorem Stay.same {P : List (List Value)} {W : Nat → Bool} {D E : DV} (h : Stay P W D) (h1 : E.1 = D.1) (h2 : E.2.1 = D.2.1) : Stay P W E := ⟨by rw [h1]; exact h.plate, by rw [h2]; exact h.rows⟩
theorem down_stay {P : List (List Value)} {W : Nat → Bool} (f : Nat → Bool) : ∀ (rs : List T62) (Q : List (List Value)) (n : Nat), (∀ i : Nat, W i = false → Q[i]? = P[i]?) → (∀ r ∈ rs, 0 ≤ r.1 ∧ ∀ i : Nat, W i = false → r.1 ≠ (i : Int)) → ∀ i, W i = false → (downL f Q rs n)[i]? = P[i]?
  | [], Q, n, h, _ => h
  | r :: rs, Q, n, h, g => by
    intro i hi
    rw [downL]
    refine down_stay f rs _ (n + 1) (fun j hj => ?_) (fun s hs => g s (List.mem_cons_of_mem _ hs)) i hi
    split
    · have := g r List.mem_cons_self
      rw [List.getElem?_set_ne (by have := this.2 j hj; omega)]
      exact h j hj
    · exact h j hj
theorem Stay.crash {P : List (List Value)} {W : Nat → Bool} {D : DV} (h : Stay P W D) (ks : List Bool) : Stay P W (crashS D ks) :=
  ⟨fun i hi => down_stay _ _ _ _ h.plate h.rows i hi, fun r hr => by cases hr⟩
theorem Stay.sync {P : List (List Value)} {W : Nat → Bool} {D : DV} (h : Stay P W D) : Stay P W (syncS D).1 := by
  have ha := actS_keeps D 0 true
  have h' : Stay P W (actS D 0 true).1 := h.same ha.1 ha.2
  unfold syncS
  split
  · exact ⟨fun i hi => down_stay _ _ _ _ h'.plate h'.rows i hi, fun r hr => by cases hr⟩
  · exact h'
theorem Stay.arm {P : List (List Value)} {W : Nat → Bool} {D : DV} (h : Stay P W D) (n : Int) : Stay P W (armS D n).1 := by
  unfold armS; split
  · exact h
  · exact h.same rfl rfl
theorem Stay.fail {P : List (List Value)} {W : Nat → Bool} {D : DV} (h : Stay P W D) (n : Int) : Stay P W (failS D n).1 := by
  unfold failS; split
  · exact h
  · exact h.same rfl rfl
theorem Stay.read {P : List (List Value)} {W : Nat → Bool} {D : DV} (h : Stay P W D) (i : Int) : Stay P W (readS D i).1 := by
  have ha := actS_keeps D i false
  exact h.same ha.1 ha.2
theorem Stay.put {P : List (List Value)} {W : Nat → Bool} {D : DV} (h : Stay P W D) (n : Nat) (x : List Value) (hn : W n = true) : Stay P W (putS D (n : Int) x) := by
  have new : 0 ≤ (n : Int) ∧ ∀ i : Nat, W i = false → (n : Int) ≠ (i : Int) := ⟨by omega, fun i hi e => by
    have : n = i := by omega
    subst this; rw [hn] at hi; cases hi⟩
  obtain ⟨h1, h2⟩ := h
  unfold putS
  split
  · refine ⟨h1, fun r hr => ?_⟩
    rcases List.mem_or_eq_of_mem_set hr with hr | hr
    · exact h2 r hr
    · subst hr; exact new
  · split
    · rename_i r rs hrs
      rw [hrs] at h2
      split
      · refine ⟨fun i hi => ?_, fun s hs => ?_⟩
        · have := h2 r List.mem_cons_self
          simp only
          rw [List.getElem?_set_ne (by have := this.2 i hi; omega)]
          exact h1 i hi
        · rcases List.mem_append.1 hs with hs | hs
          · exact h2 s (List.mem_cons_of_mem _ hs)
          · simp at hs; subst hs; exact new
      · refine ⟨h1, fun s hs => ?_⟩
        rcases List.mem_append.1 hs with hs | hs
        · exact h2 s (by rw [← hrs]; exact hs)
        · simp at hs; subst hs; exact new
    · refine ⟨h1, fun s hs => ?_⟩
      simp at hs; subst hs; exact new
/-- A deed that writes says where. -/
theorem deed_at {D : DV} {x : T42} (h : kindN x < 5) (he : (deedS D x).2.2 = 0) : ∃ n : Nat, x.2.1 = (n : Int) ∧ n < D.1.length := by
  have h0 := kindN_range x
  unfold deedS at he
  rw [if_neg (by omega), if_neg (by omega), if_neg (by omega), if_neg (by omega), if_neg (by omega)] at he
  simp only [writeS] at he
  split at he
  · rename_i ha; exact actS_ok ha
  · rename_i ha; exact absurd he ha
theorem deed_stay {P : List (List Value)} {W V : Nat → Bool} {D : DV} {x : T42} (h : Stay P W D) (hV : ∀ i, V i = false → W i = false) (hx : kindN x < 5 → (deedS D x).2.2 = 0 → V x.2.1.toNat = true) : Stay P V (deedS D x).1 := by
  have h' := h.mono hV
  have h0 := kindN_range x
  unfold deedS at hx ⊢
  split
  · exact h'.read _
  · split
    · exact h'.sync
    · split
      · exact h'.arm _
      · split
        · exact h'.fail _
        · split
          · exact h'.crash _
          · rename_i h5 h6 h7 h8 h9
            rw [if_neg h5, if_neg h6, if_neg h7, if_neg h8, if_neg h9] at hx
            have hx := hx (by omega)
            have hk := actS_keeps D x.2.1 true
            simp only [writeS] at hx ⊢
            by_cases ha : (actS D x.2.1 true).2 = 0
            · rw [if_pos ha] at hx ⊢
              obtain ⟨n, hn, -⟩ := actS_ok ha
              rw [hn]
              rw [hn] at hx hk
              exact Stay.put (h'.same hk.1 hk.2) n _ (by simpa using hx rfl)
            · rw [if_neg ha]
              exact h'.same hk.1 hk.2
theorem Stay.start (D : DV) (ks : List Bool) (P : List (List Value)) (hP : P = (crashS D ks).1) : Stay P (fun _ => false) (crashS D ks) := ⟨fun i _ => by rw [hP], fun r hr => by cases hr⟩
/-- Synced, all that is shown stays. -/
theorem sync_all {D : DV} (hd : D.2.2.2.2.1 = false) (h14 : D.1.length = 14) (wf : WF D) : (armS D (-1)).2 = 0 ∧ (failS (armS D (-1)).1 (-1)).2 = 0 ∧ (syncS (failS (armS D (-1)).1 (-1)).1).2 = 0 ∧ (syncS (failS (armS D (-1)).1 (-1)).1).1.1.length = 14 ∧ shownS (syncS (failS (armS D (-1)).1 (-1)).1).1 [] = shownS D (List.replicate 8 true) := by
  obtain ⟨P, R, fu, fl, de, op⟩ := D
  simp only at hd h14
  subst hd
  have e1 : armS (P, R, fu, fl, false, op) (-1) = ((P, R, -1, fl, false, op), 0) := rfl
  have e2 : failS (P, R, -1, fl, false, op) (-1) = ((P, R, -1, -1, false, op), 0) := rfl
  have hm : dn (-1) = -1 := dn_neg
  have e3 : actS (P, R, -1, -1, false, op) 0 true = ((P, R, -1, -1, false, IntKind.i64.wrap (op + 1)), 0) := by
    unfold actS
    simp [h14, hm]
  rw [e1]
  simp only []
  rw [e2]
  have e4 : syncS (P, R, -1, -1, false, op) = ((downL (fun _ => true) P R 0, [], -1, -1, false, IntKind.i64.wrap (op + 1)), 0) := by
    unfold syncS; rw [e3]; rfl
  simp only []
  rw [e4]
  refine ⟨by trivial, by trivial, by trivial, by simp only [downL_len]; exact h14, ?_⟩
  unfold shownS crashS
  simp only [downL]
  refine congrArg List.flatten (downL_congr R P 0 fun j _ hj => ?_)
  have := wf.rows
  simp only at this
  rw [List.getElem?_replicate, if_pos (by omega)]; rfl
/-- A block of what is shown. -/
theorem shown_block {L : List (List Value)} (h : ∀ y ∈ L, y.length = 64) : ∀ {i : Nat} {y : List Value}, L[i]? = some y → (L.flatten.drop (i * 64)).take 64 = y := by
  induction L with
  | nil => intro i y h; simp at h
  | cons a L ih =>
    intro i y hi
    have ha := h a List.mem_cons_self
    cases i with
    | zero => simp at hi; subst hi; simp [← ha]
    | succ i =>
      simp only [List.getElem?_cons_succ] at hi
      rw [List.flatten_cons, List.drop_append, List.drop_eq_nil_of_le (by rw [ha]; omega), List.nil_append, ha, show (i + 1) * 64 - 64 = i * 64 by omega]
      exact ih (fun y hy => h y (List.mem_cons_of_mem _ hy)) hi
/-- All that is said of what is shown: block by block. -/
theorem Stay.shown {P : List (List Value)} {W : Nat → Bool} {D : DV} (h : Stay P W D) (ks : List Bool) {i : Nat} (hi : W i = false) : (crashS D ks).1[i]? = P[i]? := (h.crash ks).plate i hi
end Go.Abs.B1d
