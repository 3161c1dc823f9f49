/- Ships: levels: the plain law: the turns come to an end. -/
import Derived.Test.YtnlhfcipapbfmaaSl3
import Derived.Test.YtnlhfcipapbfmaaSp4
namespace Go.Abs.B1
open Go.Proofs
set_option maxRecDepth 10000
set_option maxHeartbeats 4000000
set_option linter.all false
def ep (l : T34) (i : Nat) : Int := if i = 0 then 0 else epo l (i - 1)
theorem V_base (E : Int) (l : T34) (n : Nat) : (cutV' E l n).2.1.1.1 = (n : Int) := by
  unfold cutV'
  split
  · rename_i h; subst h; rfl
  · rfl
theorem V_ep (E : Int) (l : T34) (n : Nat) : (cutV' E l n).2.1.1.2 = ep l n := by
  unfold cutV' ep
  split <;> rfl
theorem V_ents (E : Int) (l : T34) (n : Nat) : (cutV' E l n).2.2 = l.drop n := by
  unfold cutV'
  split
  · rename_i h; subst h; rfl
  · rfl
theorem V_routes (E : Int) (l : T34) (n : Nat) : (cutV' E l n).2.1.2.1 = [] := by
  unfold cutV'
  split <;> rfl
theorem V_55 {E : Int} {l : T34} {n : Nat} (h : n ≤ l.length) (hl : l.length ≤ 40) : f55 (cutV' E l n) = (l.length : Int) := by
  rw [f55_is (by rw [V_base]; omega) (by rw [V_base]; omega) (by rw [V_ents, List.length_drop]; omega), V_base, V_ents, List.length_drop]; omega
theorem V_15 {E : Int} {l : T34} {n : Nat} (h : n ≤ l.length) (hl : l.length ≤ 40) : f15 (cutV' E l n) = 0 := by
  unfold f15
  rw [V_base, V_ents, List.length_drop, if_neg (by omega), if_neg (by omega)]
theorem V_57 {E : Int} {l : T34} {n : Nat} (h : n ≤ l.length) (hl : l.length ≤ 40) (i : Nat) : f57 (cutV' E l n) (i : Int) = if n ≤ i ∧ i ≤ l.length then ((i : Int), ep l i, true) else (0, 0, false) := by
  unfold f57
  rw [V_55 h hl, V_base, V_ep]
  by_cases h1 : i < n
  · rw [if_pos (by omega), if_neg (by omega)]
  · rw [if_neg (by omega)]
    by_cases h2 : l.length < i
    · rw [if_pos (by omega), if_neg (by omega)]
    · rw [if_neg (by omega), if_pos (c := n ≤ i ∧ i ≤ l.length) (by omega)]
      by_cases h3 : i = n
      · subst h3; rw [if_pos rfl]
      · rw [if_neg (by omega)]
        have : elemI (cutV' E l n) (i : Int) = ((i - n - 1 : Nat) : Int) := by
          unfold elemI
          rw [V_base, u64_in (x := (i : Int) - (n : Int)) (by omega) (by omega), u64_in (by omega) (by omega)]; omega
        rw [this, Int.toNat_natCast]
        unfold epoAt ep epo
        rw [V_ents, List.getElem?_drop, show n + (i - n - 1) = i - 1 by omega, if_neg (by omega)]
        rfl
theorem V_small {E : Int} {l : T34} {n : Nat} (hl : l.length ≤ 40) (hu : ∀ e ∈ l, e.2.2.2.length ≤ 9) : Small (cutV' E l n) :=
  ⟨by rw [V_routes]; simp, by rw [V_ents, List.length_drop]; omega, fun e he => by rw [V_ents] at he; exact hu e (List.mem_of_mem_drop he)⟩
/-- A turn. -/
noncomputable def stepL (A : T36) (s : Int × T36) : Int × T36 :=
  if (offD A s.1).1 = 3 then (min (max s.1 A.2.1.1.1) (f55 A), s.2)
  else (min (if (accD s.2 (offD A s.1)).1 = true then max s.1 (accD s.2 (offD A s.1)).2.2.2 else (accD s.2 (offD A s.1)).2.2.2) (f55 A), putD s.2 (accD s.2 (offD A s.1)))
/-- What a turn asks. -/
structure OkL (A : T36) (s : Int × T36) : Prop where
  b15 : f15 s.2 = 0
  small : Small s.2
  took : (offD A s.1).1 = 3 → f27 s.2 (offD A s.1) = (false, 0)
  acc : ¬ (offD A s.1).1 = 3 → f29 (offD A s.1) = true ∧ putB s.2 (accD s.2 (offD A s.1)) = true
/-- The other journal beside this one: the same up to s. -/
structure Ag (la l : T34) (c s : Nat) : Prop where
  hc : c ≤ s
  hs : s ≤ l.length
  ha : s ≤ la.length
  len : l.length ≤ 40
  ups : ∀ e ∈ l, e.2.2.2.length ≤ 9
  same : ∀ j, j < s → l[j]? = la[j]?
  diff : ∀ j, s ≤ j → j < l.length → j < la.length → ep l (j + 1) ≠ ep la (j + 1)
theorem Ag.ep {la l : T34} {c s : Nat} (a : Ag la l c s) {i : Nat} (h : i ≤ s) : ep l i = ep la i := by
  unfold B1.ep epo
  split
  · rfl
  · rw [a.same _ (by omega)]
theorem Ag.ne {la l : T34} {c s : Nat} (a : Ag la l c s) {j : Nat} (h1 : s ≤ j) (h2 : j < l.length) (h3 : j < la.length) : l[j]? ≠ la[j]? := fun h => by
  refine a.diff j h1 h2 h3 ?_
  unfold B1.ep epo
  rw [if_neg (by omega), if_neg (by omega), Nat.add_sub_cancel, h]
theorem Ag.of_take {la : T34} {c q : Nat} (h1 : c ≤ q) (h2 : q ≤ la.length) (h3 : la.length ≤ 40) (hu : ∀ e ∈ la, e.2.2.2.length ≤ 9) : Ag la (la.take q) c q := by
  have hl : (la.take q).length = q := by rw [List.length_take]; omega
  exact ⟨h1, by omega, h2, by omega, fun e he => hu e (List.mem_of_mem_take he), fun j hj => by rw [List.getElem?_take, if_pos hj], fun j h1 h2 => by omega⟩
def mu (a na len s x : Nat) : Nat :=
  if x < na then 1 + (a - na + 7) / 8 else if x ≤ s then (a - x + 7) / 8 else if x ≤ len then (x - s) + (a - s + 7) / 8 else 1 + (len - s) + (a - s + 7) / 8
theorem off_state {E : Int} {la : T34} {na x : Nat} {m : Int} (hna : na ≤ la.length) (hl : la.length ≤ 40) (hx : (x : Int) = min m (la.length : Int)) (h : x < na) :
    offD (cutV' E la na) m = (3, 0, 0, 0, (0, 0), [], 0, false, 0, 0, (cutV' E la na).2.1, 0, [], 0) := by
  unfold offD offM
  rw [V_55 hna hl, V_base, if_pos (by omega)]
theorem off_offer {E : Int} {la : T34} {na x : Nat} {m : Int} (hna : na ≤ la.length) (hl : la.length ≤ 40) (hx : (x : Int) = min m (la.length : Int)) (h : na ≤ x) :
    offD (cutV' E la na) m = (1, 0, 0, 0, ((x : Int), ep la x), (la.drop x).take 8, 0, false, 0, 0, ((0, 0), [], ((0, 0), (0, 0), (0, 0))), 0, [], 0) := by
  unfold offD offM
  rw [V_55 hna hl, V_base, ← hx, if_neg (by omega), V_57 hna hl, if_pos (by omega), V_ents, List.drop_drop, show ((x : Int) - (na : Int)).toNat = x - na by omega, show na + (x - na) = x by omega]
/-- What an offer makes of the other journal. -/
theorem acc_is {E : Int} {la l : T34} {c s nb x : Nat} {Y : T47} (ag : Ag la l c s) (hnb : nb ≤ c) (hla : la.length ≤ 40) (hx : x ≤ la.length) (h1 : prevI Y = (x : Int)) (h2 : Y.2.2.2.2.1.2 = ep la x) (h3 : entsY Y = (la.drop x).take 8) :
    (l.length < x → accD (cutV' E l nb) Y = (false, 0, [], (l.length : Int))) ∧
    (s < x → x ≤ l.length → accD (cutV' E l nb) Y = (false, 0, [], ((x - 1 : Nat) : Int))) ∧
    (x ≤ s → x + min 8 (la.length - x) ≤ s → accD (cutV' E l nb) Y = (true, 0, [], ((x + min 8 (la.length - x) : Nat) : Int))) ∧
    (x ≤ s → s < x + min 8 (la.length - x) → accD (cutV' E l nb) Y = (true, (s : Int) + 1, ((la.drop x).take 8).drop (s - x), ((x + min 8 (la.length - x) : Nat) : Int))) := by
  have hnl : nb ≤ l.length := by have := ag.hc; have := ag.hs; omega
  have hc := ag.hc
  have hs := ag.hs
  have ha := ag.ha
  have e55 := V_55 (E := E) hnl ag.len
  have hEl : ((la.drop x).take 8).length = min 8 (la.length - x) := by rw [List.length_take, List.length_drop]
  have h57 := V_57 (E := E) hnl ag.len x
  have hget : ∀ i, i < min 8 (la.length - x) → ((la.drop x).take 8)[i]? = la[x + i]? := fun i hi => by rw [List.getElem?_take, if_pos (by omega), List.getElem?_drop]
  refine ⟨fun q => ?_, fun q1 q2 => ?_, fun q1 q2 => ?_, fun q1 q2 => ?_⟩
  · unfold accD
    rw [e55, h1, if_pos (by omega)]
  · have hne := ag.diff (x - 1) (by omega) (by omega) (by omega)
    rw [show x - 1 + 1 = x by omega] at hne
    unfold accD
    rw [e55, h1, if_neg (by omega), h57, if_pos (c := nb ≤ x ∧ x ≤ l.length) (by omega), h2, if_pos ⟨rfl, hne⟩]
    refine Prod.ext rfl (Prod.ext rfl (Prod.ext rfl ?_))
    show max (x : Int) 1 - 1 = ((x - 1 : Nat) : Int)
    omega
  · unfold accD
    rw [e55, h1, if_neg (by omega), h57, h2, h3, hEl, if_neg (by
      split
      · rw [ag.ep q1]; simp
      · simp)]
    rw [show (List.range (min 8 (la.length - x))).find? (isNew (cutV' E l nb) Y) = none from ?_]
    · show ((true, 0, [], prevI Y + ((entsY Y).length : Int)) : T72) = _
      rw [h1, h3, hEl]
      refine Prod.ext rfl (Prod.ext rfl (Prod.ext rfl ?_))
      exact (Int.natCast_add _ _).symm
    · rw [List.find?_eq_none]
      intro i hi
      have hi : i < min 8 (la.length - x) := by simpa using hi
      unfold isNew hasY
      rw [V_base, h1, e55, h3, hget i hi, V_ents, List.getElem?_drop]
      by_cases hb : x + i + 1 ≤ nb
      · rw [decide_eq_true (show (x : Int) + (i : Int) + 1 ≤ (nb : Int) by omega)]; simp
      · rw [show ((x : Int) + (i : Int) - (nb : Int)).toNat = x + i - nb by omega, show nb + (x + i - nb) = x + i by omega, ag.same (x + i) (by omega), decide_eq_true (show (x : Int) + (i : Int) + 1 ≤ (l.length : Int) by omega)]; simp
  · unfold accD
    rw [e55, h1, if_neg (by omega), h57, h2, h3, hEl, if_neg (by
      split
      · rw [ag.ep q1]; simp
      · simp)]
    rw [show (List.range (min 8 (la.length - x))).find? (isNew (cutV' E l nb) Y) = some (s - x) from ?_]
    · show ((true, prevI Y + ((s - x : Nat) : Int) + 1, (entsY Y).drop (s - x), prevI Y + ((entsY Y).length : Int)) : T72) = _
      rw [h1, h3, hEl]
      refine Prod.ext rfl (Prod.ext ?_ (Prod.ext rfl ?_))
      · show (x : Int) + ((s - x : Nat) : Int) + 1 = (s : Int) + 1
        omega
      · exact (Int.natCast_add _ _).symm
    · rw [List.find?_range_eq_some]
      refine ⟨?_, by simp only [List.mem_range]; omega, fun i hi => ?_⟩
      · unfold isNew hasY
        rw [V_base, h1, e55, h3, hget _ (by omega), V_ents, List.getElem?_drop, decide_eq_false (show ¬ (x : Int) + ((s - x : Nat) : Int) + 1 ≤ (nb : Int) by omega), show ((x : Int) + ((s - x : Nat) : Int) - (nb : Int)).toNat = s - nb by omega, show nb + (s - nb) = s by omega, show x + (s - x) = s by omega]
        by_cases hsl : s < l.length
        · rw [decide_eq_false (show ¬ la[s]? = l[s]? from fun h => ag.ne (Nat.le_refl _) hsl (by omega) h.symm)]; simp
        · rw [decide_eq_false (show ¬ (x : Int) + ((s - x : Nat) : Int) + 1 ≤ (l.length : Int) by omega)]; simp
      · unfold isNew hasY
        rw [V_base, h1, e55, h3, hget i (by omega), V_ents, List.getElem?_drop]
        by_cases hb : x + i + 1 ≤ nb
        · rw [decide_eq_true (show (x : Int) + (i : Int) + 1 ≤ (nb : Int) by omega)]; simp
        · rw [show ((x : Int) + (i : Int) - (nb : Int)).toNat = x + i - nb by omega, show nb + (x + i - nb) = x + i by omega, ag.same (x + i) (by omega), decide_eq_true (show (x : Int) + (i : Int) + 1 ≤ (l.length : Int) by omega)]; simp
theorem cut_same {E : Int} {la l : T34} {c s nb q : Nat} (ag : Ag la l c s) (hnb : nb ≤ c) (hq : s ≤ q) (hqa : q ≤ la.length) {d x : Nat} (hx : x ≤ s) (hd : q = x + d) :
    ((cutV' E l nb).1, (cutV' E l nb).2.1, (l.drop nb).take (s - nb) ++ ((la.drop x).take d).drop (s - x)) = cutV' E (la.take q) nb := by
  have hc := ag.hc
  have hs := ag.hs
  have e1 : (l.drop nb).take (s - nb) ++ ((la.drop x).take d).drop (s - x) = (la.take q).drop nb := by
    apply List.ext_getElem?
    intro i
    by_cases hi : i < s - nb
    · rw [List.getElem?_append_left (by rw [List.length_take, List.length_drop]; omega), List.getElem?_take, if_pos hi, List.getElem?_drop, List.getElem?_drop, List.getElem?_take, if_pos (by omega), ag.same _ (by omega)]
    · rw [List.getElem?_append_right (by rw [List.length_take, List.length_drop]; omega), List.length_take, List.length_drop, List.getElem?_drop, List.getElem?_take, List.getElem?_drop, List.getElem?_drop, List.getElem?_take]
      rw [show min (s - nb) (l.length - nb) = s - nb by omega, show x + (s - x + (i - (s - nb))) = nb + i by omega]
      by_cases hj : nb + i < q
      · rw [if_pos (by omega), if_pos hj]
      · rw [if_neg (by omega), if_neg hj]
  rw [e1]
  unfold cutV'
  by_cases h0 : nb = 0
  · subst h0; rw [if_pos rfl, if_pos rfl]; rfl
  · rw [if_neg h0, if_neg h0]
    have : epo l (nb - 1) = epo (la.take q) (nb - 1) := by
      unfold epo
      rw [List.getElem?_take, if_pos (by omega), ag.same _ (by omega)]
    rw [this]
theorem turn_law {E : Int} {la l : T34} {c s na nb x : Nat} {m : Int} (ag : Ag la l c s) (hna : na ≤ c) (hnb : nb ≤ c) (hla : la.length ≤ 40) (hua : ∀ e ∈ la, e.2.2.2.length ≤ 9) (hx : (x : Int) = min m (la.length : Int)) :
    OkL (cutV' E la na) (m, cutV' E l nb) ∧ ∃ l' s', ∃ x' : Nat, Ag la l' c s' ∧ x' ≤ la.length ∧ stepL (cutV' E la na) (m, cutV' E l nb) = ((x' : Int), cutV' E l' nb) ∧ mu la.length na l'.length s' x' ≤ mu la.length na l.length s x - 1 := by
  have hc := ag.hc
  have hs := ag.hs
  have ha := ag.ha
  have hnl : nb ≤ l.length := by omega
  have hnal : na ≤ la.length := by omega
  have b15 := V_15 (E := E) hnl ag.len
  have bsm := V_small (E := E) (n := nb) ag.len ag.ups
  have a55 := V_55 (E := E) hnal hla
  have b55 := V_55 (E := E) hnl ag.len
  by_cases h1 : x < na
  · have ho := off_state (E := E) hnal hla hx h1
    refine ⟨⟨b15, bsm, fun _ => ?_, fun h => absurd (by rw [ho]) h⟩, l, s, na, ag, by omega, ?_, ?_⟩
    · show f27 (cutV' E l nb) (offD (cutV' E la na) m) = _
      rw [ho]
      unfold f27
      rw [if_pos b15, if_pos rfl]
      show (if 4611686018427387904 < (cutV' E la na).2.1.1.1 then ((false, 2) : Bool × Int) else (tookB (cutV' E l nb) (cutV' E la na).2.1.1.1 (cutV' E la na).2.1.1.2, 0)) = _
      rw [V_base, V_ep, if_neg (by omega)]
      refine Prod.ext ?_ rfl
      show tookB _ _ _ = false
      unfold tookB
      rw [V_base, V_57 hnl ag.len]
      by_cases hq : nb ≤ na
      · rw [if_pos ⟨hq, by omega⟩, ag.ep (by omega)]; simp
      · rw [decide_eq_false (by omega)]; rfl
    · unfold stepL
      show (if (offD (cutV' E la na) m).1 = 3 then _ else _) = _
      rw [ho, if_pos rfl, a55, V_base]
      refine Prod.ext ?_ rfl
      show min (max m (na : Int)) (la.length : Int) = (na : Int)
      omega
    · unfold mu
      rw [if_neg (Nat.lt_irrefl na), if_pos (show na ≤ s by omega), if_pos h1]
      omega
  · have ho := off_offer (E := E) hnal hla hx (by omega)
    obtain ⟨Y, hY⟩ : ∃ Y, Y = offD (cutV' E la na) m := ⟨_, rfl⟩
    rw [← hY] at ho
    have y1 : prevI Y = (x : Int) := by rw [ho]
    have y2 : Y.2.2.2.2.1.2 = ep la x := by rw [ho]
    have y3 : entsY Y = (la.drop x).take 8 := by rw [ho]
    have y4 : ¬ Y.1 = 3 := by rw [ho]; exact (by decide : ¬ (1 : Int) = 3)
    have hxa : x ≤ la.length := by omega
    obtain ⟨A1, A2, A3, A4⟩ := acc_is (E := E) ag hnb hla hxa y1 y2 y3
    have h29 : f29 Y = true := by
      have e1 : Y.1 = 1 := by rw [ho]
      have e2 : ((entsY Y).length : Int) ≤ 8 := by rw [y3, List.length_take]; omega
      have e3 : prevI Y ≤ 4611686018427387904 := by rw [y1]; omega
      unfold f29
      rw [decide_eq_true e1, decide_eq_true (show ((Y.2.2.2.2.2.1.length : Int) ≤ 8) from e2), decide_eq_true (show Y.2.2.2.2.1.1 ≤ 4611686018427387904 from e3)]; rfl
    have hstep : stepL (cutV' E la na) (m, cutV' E l nb) = (min (if (accD (cutV' E l nb) Y).1 = true then max m (accD (cutV' E l nb) Y).2.2.2 else (accD (cutV' E l nb) Y).2.2.2) (la.length : Int), putD (cutV' E l nb) (accD (cutV' E l nb) Y)) := by
      unfold stepL
      show (if (offD (cutV' E la na) m).1 = 3 then _ else _) = _
      rw [← hY, if_neg y4, a55]
    have hok : putB (cutV' E l nb) (accD (cutV' E l nb) Y) = true → OkL (cutV' E la na) (m, cutV' E l nb) := fun hp => ⟨b15, bsm, fun h => absurd (show Y.1 = 3 by rw [hY]; exact h) y4, fun _ => by
      show f29 (offD (cutV' E la na) m) = true ∧ putB (cutV' E l nb) (accD (cutV' E l nb) (offD (cutV' E la na) m)) = true
      rw [← hY]; exact ⟨h29, hp⟩⟩
    have keep : ∀ (b : Bool) (h : Int), accD (cutV' E l nb) Y = (b, 0, [], h) → putB (cutV' E l nb) (accD (cutV' E l nb) Y) = true ∧ putD (cutV' E l nb) (accD (cutV' E l nb) Y) = cutV' E l nb := fun b h e => by
      rw [e]; unfold putB putD; rw [if_pos rfl, if_pos rfl]; exact ⟨rfl, rfl⟩
    by_cases h2 : l.length < x
    · have e := A1 h2
      obtain ⟨k1, k2⟩ := keep _ _ e
      refine ⟨hok k1, l, s, l.length, ag, by omega, ?_, ?_⟩
      · rw [hstep, k2, e, if_neg Bool.false_ne_true]
        refine Prod.ext ?_ rfl
        show min (l.length : Int) (la.length : Int) = _
        omega
      · unfold mu
        rw [if_neg (show ¬ l.length < na by omega), if_neg h1, if_neg (show ¬ x ≤ s by omega), if_neg (show ¬ x ≤ l.length by omega)]
        split
        · omega
        · rw [if_pos (Nat.le_refl _)]; omega
    · by_cases h3 : s < x
      · have e := A2 h3 (by omega)
        obtain ⟨k1, k2⟩ := keep _ _ e
        refine ⟨hok k1, l, s, x - 1, ag, by omega, ?_, ?_⟩
        · rw [hstep, k2, e, if_neg Bool.false_ne_true]
          refine Prod.ext ?_ rfl
          show min ((x - 1 : Nat) : Int) (la.length : Int) = _
          omega
        · unfold mu
          rw [if_neg (show ¬ x - 1 < na by omega), if_neg h1, if_neg (show ¬ x ≤ s by omega), if_pos (show x ≤ l.length by omega)]
          split
          · omega
          · rw [if_pos (by omega)]; omega
      · obtain ⟨d, hd⟩ : ∃ d, d = min 8 (la.length - x) := ⟨_, rfl⟩
        rw [← hd] at A3 A4
        have hmx : min (max m ((x + d : Nat) : Int)) (la.length : Int) = ((x + d : Nat) : Int) := by omega
        by_cases h4 : x + d ≤ s
        · have e := A3 (by omega) h4
          obtain ⟨k1, k2⟩ := keep _ _ e
          refine ⟨hok k1, l, s, x + d, ag, by omega, ?_, ?_⟩
          · rw [hstep, k2, e, if_pos rfl]
            exact Prod.ext hmx rfl
          · unfold mu
            rw [if_neg (show ¬ x + d < na by omega), if_neg h1, if_pos h4, if_pos (show x ≤ s by omega)]
            omega
        · have e := A4 (by omega) (by omega)
          have hdl : (((la.drop x).take 8).drop (s - x)).length = d - (s - x) := by rw [List.length_drop, List.length_take, List.length_drop]; omega
          have h8 : (la.drop x).take 8 = (la.drop x).take d := by rw [hd, ← List.length_drop, ← List.take_eq_take_min]
          have hpo : putOk (cutV' E l nb) ((true, (s : Int) + 1, ((la.drop x).take 8).drop (s - x), ((x + d : Nat) : Int)) : T72) = true := by
            unfold putOk
            rw [V_base, b55]
            rw [decide_eq_false (show ¬ ((s : Int) + 1 ≤ (nb : Int)) by omega), decide_eq_false (show ¬ ((l.length : Int) + 1 < (s : Int) + 1) by omega), decide_eq_false (show ¬ ((((la.drop x).take 8).drop (s - x)).length : Int) = 0 by rw [hdl]; omega)]; rfl
          have k1 : putB (cutV' E l nb) (accD (cutV' E l nb) Y) = true := by
            rw [e]; unfold putB
            rw [if_neg (show ¬ ((s : Int) + 1 = 0) by omega)]; exact hpo
          have k2 : putD (cutV' E l nb) (accD (cutV' E l nb) Y) = cutV' E (la.take (x + d)) nb := by
            rw [e]; unfold putD
            rw [if_neg (show ¬ ((s : Int) + 1 = 0) by omega), if_pos hpo, V_base, V_ents]
            show (_, _, (l.drop nb).take ((s : Int) + 1 - (nb : Int) - 1).toNat ++ ((la.drop x).take 8).drop (s - x)) = _
            rw [show ((s : Int) + 1 - (nb : Int) - 1).toNat = s - nb by omega, h8]
            exact cut_same ag hnb (by omega) (by omega) (by omega) rfl
          have hlt : (la.take (x + d)).length = x + d := by rw [List.length_take]; omega
          refine ⟨hok k1, la.take (x + d), x + d, x + d, Ag.of_take (by omega) (by omega) hla hua, by omega, ?_, ?_⟩
          · rw [hstep, k2, e, if_pos rfl]
            exact Prod.ext hmx rfl
          · unfold mu
            rw [if_neg (show ¬ x + d < na by omega), if_neg h1, if_pos (Nat.le_refl _), if_pos (show x ≤ s by omega)]
            omega
noncomputable def turnsN (A : T36) (s : Int × T36) : Nat → Int × T36
  | 0 => s
  | n + 1 => stepL A (turnsN A s n)
theorem turns_law {E : Int} {la lb : T34} {c na nb : Nat} {m : Int} (ag : Ag la lb c c) (hna : na ≤ c) (hnb : nb ≤ c) (hla : la.length ≤ 20) (hua : ∀ e ∈ la, e.2.2.2.length ≤ 9) (hm : 0 ≤ m) :
    ∀ i, ∃ l s, ∃ x : Nat, Ag la l c s ∧ turnsN (cutV' E la na) (m, cutV' E lb nb) i = ((turnsN (cutV' E la na) (m, cutV' E lb nb) i).1, cutV' E l nb) ∧ (x : Int) = min (turnsN (cutV' E la na) (m, cutV' E lb nb) i).1 (la.length : Int) ∧ mu la.length na l.length s x ≤ (lb.length - c) + 4 - i ∧ (0 < i → (turnsN (cutV' E la na) (m, cutV' E lb nb) i).1 = (x : Int))
  | 0 => by
    obtain ⟨x, hx⟩ : ∃ x : Nat, (x : Int) = min m (la.length : Int) := ⟨(min m (la.length : Int)).toNat, by omega⟩
    refine ⟨lb, c, x, ag, rfl, hx, ?_, fun h => absurd h (Nat.lt_irrefl 0)⟩
    have := ag.hs
    unfold mu
    split
    · omega
    · split
      · omega
      · split <;> omega
  | i + 1 => by
    obtain ⟨l, s, x, ag1, e1, hx, hmu, -⟩ := turns_law (E := E) ag hna hnb hla hua hm i
    obtain ⟨-, l', s', x', ag', hx', e2, hmu'⟩ := turn_law (E := E) ag1 hna hnb (by omega) hua hx
    have e3 : turnsN (cutV' E la na) (m, cutV' E lb nb) (i + 1) = ((x' : Int), cutV' E l' nb) := by
      show stepL (cutV' E la na) (turnsN (cutV' E la na) (m, cutV' E lb nb) i) = _
      rw [e1]; exact e2
    refine ⟨l', s', x', ag', by rw [e3], by rw [e3]; show (x' : Int) = min (x' : Int) _; omega, by omega, fun _ => by rw [e3]⟩
theorem turns_ok {E : Int} {la lb : T34} {c na nb : Nat} {m : Int} (ag : Ag la lb c c) (hna : na ≤ c) (hnb : nb ≤ c) (hla : la.length ≤ 20) (hua : ∀ e ∈ la, e.2.2.2.length ≤ 9) (hm : 0 ≤ m) (i : Nat) :
    OkL (cutV' E la na) (turnsN (cutV' E la na) (m, cutV' E lb nb) i) := by
  obtain ⟨l, s, x, ag1, e1, hx, -, -⟩ := turns_law (E := E) ag hna hnb hla hua hm i
  rw [e1]
  exact (turn_law (E := E) ag1 hna hnb (by omega) hua hx).1
/-- What the turns come to. -/
structure EndL (A : T36) (r : Int × T36) (na nb a : Nat) : Prop where
  ab : A.2.1.1.1 = (na : Int)
  bb : r.2.2.1.1.1 = (nb : Int)
  a55 : f55 A = (a : Int)
  b55 : (a : Int) ≤ f55 r.2
  m : r.1 = (a : Int)
  al : a ≤ 20
  nal : na ≤ a
  nbl : nb ≤ a
  same : ∀ z : Nat, na ≤ z → nb ≤ z → z < a → ∃ e, A.2.2[z - na]? = some e ∧ r.2.2.2[z - nb]? = some e
theorem turns_end {E : Int} {la lb : T34} {c na nb : Nat} {m : Int} (ag : Ag la lb c c) (hna : na ≤ c) (hnb : nb ≤ c) (hla : la.length ≤ 20) (hua : ∀ e ∈ la, e.2.2.2.length ≤ 9) (hm : 0 ≤ m) :
    EndL (cutV' E la na) (turnsN (cutV' E la na) (m, cutV' E lb nb) ((cutV' E lb nb).2.2.length + 12)) na nb la.length := by
  have hac := ag.ha
  have hbc := ag.hs
  have hN : (lb.length - c) + 4 ≤ (cutV' E lb nb).2.2.length + 12 := by rw [V_ents, List.length_drop]; omega
  obtain ⟨l, s, x, ag1, e1, hx, hmu, hpos⟩ := turns_law (E := E) ag hna hnb hla hua hm ((cutV' E lb nb).2.2.length + 12)
  have hmx := hpos (by omega)
  have h0 : mu la.length na l.length s x = 0 := by omega
  have h1 := ag1.hc
  have h2 := ag1.hs
  have h3 := ag1.ha
  have hxa : x ≤ la.length := by omega
  have hxx : x = la.length ∧ s = la.length := by
    unfold mu at h0
    split at h0
    · omega
    · split at h0
      · omega
      · split at h0 <;> omega
  rw [e1]
  refine ⟨V_base _ _ _, V_base _ _ _, V_55 (by omega) (by omega), ?_, by show (turnsN _ _ _).1 = _; rw [hmx, hxx.1], hla, by omega, by omega, fun z z1 z2 z3 => ?_⟩
  · show _ ≤ f55 (cutV' E l nb)
    rw [V_55 (by omega) ag1.len]; omega
  · refine ⟨la[z], ?_, ?_⟩
    · rw [V_ents, List.getElem?_drop, show na + (z - na) = z by omega]; exact List.getElem?_eq_getElem z3
    · show (cutV' E l nb).2.2[z - nb]? = _
      rw [V_ents, List.getElem?_drop, show nb + (z - nb) = z by omega, ag1.same z (by omega)]; exact List.getElem?_eq_getElem z3
theorem ag_made (x : T106) : Ag ((comL x.2.2.2.1 (cN x) ++ ownL (E0 x + 2) (cN x) (mN x)).map ent) ((comL x.2.2.2.1 (cN x) ++ ownL (E0 x + 1) (cN x) (tN x)).map ent) (cN x) (cN x) := by
  have hc12 : cN x < 12 := (remN_is x.1 12 (by decide) (by decide)).2
  have ht10 : tN x < 10 := (remN_is x.2.2.1 10 (by decide) (by decide)).2
  have la : ∀ E n, ((comL x.2.2.2.1 (cN x) ++ ownL E (cN x) n).map ent).length = cN x + n := fun E n => by rw [List.length_map, List.length_append, comL_len, ownL_len]
  have ge : ∀ E n j, cN x ≤ j → j < cN x + n → ((comL x.2.2.2.1 (cN x) ++ ownL E (cN x) n).map ent)[j]? = some (ent (E, (cN x : Int) + ((j - cN x : Nat) : Int) + 1)) := fun E n j h1 h2 => by
    rw [List.getElem?_map, List.getElem?_append_right (by rw [comL_len]; exact h1), comL_len]
    unfold ownL
    rw [List.getElem?_map, List.getElem?_range (by omega)]; rfl
  refine ⟨Nat.le_refl _, by rw [la]; omega, by rw [la]; omega, by rw [la]; omega, fun e he => ?_, fun j hj => ?_, fun j h1 h2 h3 => ?_⟩
  · obtain ⟨y, -, rfl⟩ := List.mem_map.1 he; simp
  · rw [List.getElem?_map, List.getElem?_map, List.getElem?_append_left (by rw [comL_len]; exact hj), List.getElem?_append_left (by rw [comL_len]; exact hj)]
  · rw [la] at h2 h3
    unfold ep epo
    rw [if_neg (by omega), if_neg (by omega), Nat.add_sub_cancel, ge _ _ j h1 h2, ge _ _ j h1 h3]
    show ¬ (E0 x + 1 = E0 x + 2)
    omega
/-- The journals, and what their turns come to. -/
theorem made_law (x : T106) (m : Int) (hm : 0 ≤ m) : f15 (madeA x) = 0 ∧ Small (madeA x) ∧ (∀ i, OkL (madeA x) (turnsN (madeA x) (m, madeB x) i)) ∧ (madeB x).2.2.length ≤ 40 ∧
    ∃ na nb a, EndL (madeA x) (turnsN (madeA x) (m, madeB x) ((madeB x).2.2.length + 12)) na nb a := by
  have hc12 : cN x < 12 := (remN_is x.1 12 (by decide) (by decide)).2
  have hm10 : mN x < 10 := (remN_is x.2.1 10 (by decide) (by decide)).2
  have ag := ag_made x
  have hl : ((comL x.2.2.2.1 (cN x) ++ ownL (E0 x + 2) (cN x) (mN x)).map ent).length = cN x + mN x := by rw [List.length_map, List.length_append, comL_len, ownL_len]
  have hu : ∀ e ∈ (comL x.2.2.2.1 (cN x) ++ ownL (E0 x + 2) (cN x) (mN x)).map ent, e.2.2.2.length ≤ 9 := fun e he => by obtain ⟨y, -, rfl⟩ := List.mem_map.1 he; simp
  have n1 : min (remN x.2.2.2.2.1 13) (cN x) ≤ cN x := Nat.min_le_right _ _
  have n2 : min (remN x.2.2.2.2.2 13) (cN x) ≤ cN x := Nat.min_le_right _ _
  refine ⟨V_15 (by omega) (by omega), V_small (by omega) hu, fun i => turns_ok ag n1 n2 (by omega) hu hm i, ?_, _, _, _, turns_end ag n1 n2 (by omega) hu hm⟩
  have := ag.len
  unfold madeB
  rw [V_ents, List.length_drop]; omega
end Go.Abs.B1
