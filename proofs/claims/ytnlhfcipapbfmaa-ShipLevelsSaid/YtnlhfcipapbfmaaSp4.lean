/- The plain law of a change that is put. -/
import Derived.Test.YtnlhfcipapbfmaaSh23
import Derived.Test.YtnlhfcipapbfmaaSp3
namespace Go.Abs.B1
open Go.Proofs
set_option maxRecDepth 10000
set_option maxHeartbeats 4000000
set_option linter.all false
theorem f15_zero {x : T36} (h : f15 x = 0) : x.2.1.1.1 ≤ 4611686018427387904 ∧ x.2.2.length ≤ 40 := by
  unfold f15 at h
  split at h
  · cases h
  · split at h
    · cases h
    · omega
theorem f29_is {y : T47} (h : f29 y = true) : (entsY y).length ≤ 8 ∧ prevI y ≤ 4611686018427387904 := by
  unfold f29 at h
  simp only [Bool.and_eq_true, decide_eq_true_eq] at h
  have h8 : ((entsY y).length : Int) ≤ 8 := h.1.2
  exact ⟨by omega, h.2⟩
/-- What is asked of a put. -/
structure Law (x : T36) (y : T47) (c : T72) : Prop where
  ok : putB x c = true
  have' : c.2.2.2 = prevI y + (entsY y).length
  base : (putD x c).1 = x.1 ∧ (putD x c).2.1 = x.2.1
  len : (putD x c).2.2.length ≤ 100
  at' : ∀ i : Nat, i < (entsY y).length → x.2.1.1.1 ≤ prevI y + i → prevI y + i < f55 (putD x c) ∧ (putD x c).2.2[(prevI y + i - x.2.1.1.1).toNat]? = (entsY y)[i]?
  ahead : ∀ q : Nat, x.2.1.1.1 + q < prevI y → q < x.2.2.length ∧ (putD x c).2.2[q]? = x.2.2[q]?
  again : f15 (putD x c) = 0 → accD (putD x c) y = (true, 0, [], c.2.2.2)
theorem put_law {x : T36} {y : T47} (h15 : f15 x = 0) (h29 : f29 y = true) (hb : 0 ≤ x.2.1.1.1) (hp : 0 ≤ prevI y) (hc : (accD x y).1 = true) : Law x y (accD x y) := by
  obtain ⟨hb2, hl⟩ := f15_zero h15
  obtain ⟨hn, hp2⟩ := f29_is h29
  have h55 := f55_is hb hb2 (by omega)
  unfold accD at hc
  split at hc
  · cases hc
  rename_i c1
  split at hc
  · cases hc
  rename_i c2
  have eacc : accD x y = foundD x y ((List.range (entsY y).length).find? (isNew x y)) := by unfold accD; rw [if_neg c1, if_neg c2]
  clear hc
  cases hf : (List.range (entsY y).length).find? (isNew x y) with
  | none =>
    rw [hf] at eacc
    rw [List.find?_eq_none] at hf
    have hd : putD x (accD x y) = x := by rw [eacc]; unfold putD foundD; rw [if_pos rfl]
    have hold : ∀ i : Nat, i < (entsY y).length → x.2.1.1.1 ≤ prevI y + i → hasY x y i = true := fun i hi hbi => by
      have := hf i (by simpa using hi)
      unfold isNew at this
      rw [decide_eq_false (by omega)] at this
      simpa using this
    refine ⟨by rw [eacc]; rfl, by rw [eacc]; rfl, by rw [hd]; exact ⟨rfl, rfl⟩, by rw [hd]; omega, fun i hi hbi => ?_, fun q hq => ?_, fun h => ?_⟩
    · rw [hd]
      have := hold i hi hbi
      unfold hasY at this
      simp only [Bool.and_eq_true, decide_eq_true_eq] at this
      exact ⟨by omega, this.2.symm⟩
    · rw [hd]; exact ⟨by omega, rfl⟩
    · rw [hd, eacc]; rfl
  | some i =>
    rw [hf] at eacc
    rw [List.find?_range_eq_some] at hf
    obtain ⟨f1, f2, f3⟩ := hf
    have hi : i < (entsY y).length := by simpa using f2
    have hbi : x.2.1.1.1 ≤ prevI y + i := by
      unfold isNew at f1
      simp only [Bool.and_eq_true, Bool.not_eq_true', decide_eq_false_iff_not] at f1
      omega
    have hold : ∀ j : Nat, j < i → x.2.1.1.1 ≤ prevI y + j → hasY x y j = true := fun j hj hbj => by
      have := f3 j hj
      unfold isNew at this
      rw [decide_eq_false (by omega)] at this
      simpa using this
    have hle : prevI y + i ≤ x.2.1.1.1 + x.2.2.length := by
      cases i with
      | zero => omega
      | succ j =>
        by_cases hbj : x.2.1.1.1 ≤ prevI y + j
        · have := hold j (by omega) hbj
          unfold hasY at this
          simp only [Bool.and_eq_true, decide_eq_true_eq] at this
          omega
        · omega
    obtain ⟨T, hT⟩ : ∃ T : Nat, prevI y + i - x.2.1.1.1 = (T : Int) := ⟨_, (Int.toNat_of_nonneg (by omega)).symm⟩
    have e1 : (accD x y).2.1 = prevI y + i + 1 := by rw [eacc]; rfl
    have e2 : (accD x y).2.2.1 = (entsY y).drop i := by rw [eacc]; rfl
    have e3 : (accD x y).2.2.2 = prevI y + (entsY y).length := by rw [eacc]; rfl
    have hok : putOk x (accD x y) = true := by
      unfold putOk
      rw [e1, e2, decide_eq_false (by omega), decide_eq_false (by rw [h55]; omega), decide_eq_false (by rw [List.length_drop]; omega)]; rfl
    have hd : putD x (accD x y) = (x.1, x.2.1, x.2.2.take T ++ (entsY y).drop i) := by
      unfold putD
      rw [if_neg (by rw [e1]; omega), if_pos hok, e1, e2, show (prevI y + (i : Int) + 1 - x.2.1.1.1 - 1).toNat = T by omega]
    have hlen : (x.2.2.take T ++ (entsY y).drop i).length = T + ((entsY y).length - i) := by rw [List.length_append, List.length_take, List.length_drop]; omega
    have h55n : f55 (x.1, x.2.1, x.2.2.take T ++ (entsY y).drop i) = prevI y + (entsY y).length := by
      rw [f55_is (x := (x.1, x.2.1, x.2.2.take T ++ (entsY y).drop i)) hb hb2 (by simp only [hlen]; omega)]
      simp only [hlen]; omega
    have hat : ∀ j : Nat, j < (entsY y).length → x.2.1.1.1 ≤ prevI y + j → (x.2.2.take T ++ (entsY y).drop i)[(prevI y + j - x.2.1.1.1).toNat]? = (entsY y)[j]? := fun j hj hbj => by
      by_cases hji : j < i
      · have := hold j hji hbj
        unfold hasY at this
        simp only [Bool.and_eq_true, decide_eq_true_eq] at this
        rw [List.getElem?_append_left (by rw [List.length_take]; omega), List.getElem?_take, if_pos (by omega)]
        exact this.2.symm
      · rw [List.getElem?_append_right (by rw [List.length_take]; omega), List.length_take, List.getElem?_drop]
        congr 1; omega
    have hah : ∀ q : Nat, x.2.1.1.1 + q < prevI y → q < x.2.2.length ∧ (x.2.2.take T ++ (entsY y).drop i)[q]? = x.2.2[q]? := fun q hq => by
      have hqT : q < T := by omega
      have hql : q < x.2.2.length := by omega
      exact ⟨hql, by rw [List.getElem?_append_left (by rw [List.length_take]; omega), List.getElem?_take, if_pos hqT]⟩
    refine ⟨?_, e3, by rw [hd]; exact ⟨rfl, rfl⟩, by rw [hd]; simp only [hlen]; omega, fun j hj hbj => ?_, fun q hq => ?_, fun h => ?_⟩
    · unfold putB; rw [if_neg (by rw [e1]; omega)]; exact hok
    · rw [hd]; exact ⟨by rw [h55n]; omega, hat j hj hbj⟩
    · rw [hd]; exact hah q hq
    · rw [hd] at h ⊢
      rw [e3]
      have g1 : ¬ f55 (x.1, x.2.1, x.2.2.take T ++ (entsY y).drop i) < prevI y := by rw [h55n]; omega
      have g57 : f57 (x.1, x.2.1, x.2.2.take T ++ (entsY y).drop i) (prevI y) = f57 x (prevI y) := by
        unfold f57
        by_cases k1 : prevI y < x.2.1.1.1
        · rw [if_pos k1, if_pos k1]
        · rw [if_neg k1, if_neg k1, if_neg g1, if_neg c1]
          by_cases k2 : prevI y = x.2.1.1.1
          · rw [if_pos k2, if_pos k2]
          · rw [if_neg k2, if_neg k2]
            have ee : elemI (x.1, x.2.1, x.2.2.take T ++ (entsY y).drop i) (prevI y) = elemI x (prevI y) := rfl
            have eq : (elemI x (prevI y)).toNat < T := by
              unfold elemI
              rw [u64_in (x := prevI y - x.2.1.1.1) (by omega) (by omega), u64_in (by omega) (by omega)]; omega
            have ep : epoAt (x.1, x.2.1, x.2.2.take T ++ (entsY y).drop i) (elemI x (prevI y)).toNat = epoAt x (elemI x (prevI y)).toNat := by
              unfold epoAt
              rw [List.getElem?_append_left (by rw [List.length_take]; omega), List.getElem?_take, if_pos eq]
            rw [ee, ep]
      have g2 : ¬ ((f57 (x.1, x.2.1, x.2.2.take T ++ (entsY y).drop i) (prevI y)).2.2 = true ∧ ¬ (f57 (x.1, x.2.1, x.2.2.take T ++ (entsY y).drop i) (prevI y)).2.1 = y.2.2.2.2.1.2) := by rw [g57]; exact c2
      unfold accD
      rw [if_neg g1, if_neg g2]
      have : (List.range (entsY y).length).find? (isNew (x.1, x.2.1, x.2.2.take T ++ (entsY y).drop i) y) = none := by
        rw [List.find?_eq_none]
        intro j hj
        have hj : j < (entsY y).length := by simpa using hj
        unfold isNew
        by_cases hbj : x.2.1.1.1 ≤ prevI y + j
        · have : hasY (x.1, x.2.1, x.2.2.take T ++ (entsY y).drop i) y j = true := by
            unfold hasY
            rw [h55n, decide_eq_true (by omega), decide_eq_true (hat j hj hbj).symm]; rfl
          rw [this]; simp
        · simp only [decide_eq_true (show prevI y + (j : Int) + 1 ≤ x.2.1.1.1 by omega)]; simp
      rw [this]
      rfl
theorem put_not {x : T36} {y : T47} (hc : (accD x y).1 = false) : (accD x y).2.1 = 0 ∧ (accD x y).2.2.1 = [] := by
  unfold accD at hc ⊢
  split
  · exact ⟨rfl, rfl⟩
  · rename_i c1
    rw [if_neg c1] at hc
    split
    · exact ⟨rfl, rfl⟩
    · rename_i c2
      rw [if_neg c2] at hc
      cases hf : (List.range (entsY y).length).find? (isNew x y) <;> rw [hf] at hc <;> cases hc
end Go.Abs.B1
