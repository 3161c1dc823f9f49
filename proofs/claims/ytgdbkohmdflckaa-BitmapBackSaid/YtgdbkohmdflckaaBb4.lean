/- The laws BitmapNodes and BitmapBack: plain lemmas. -/
import Derived.Test.YtgdbkohmdflckaaBb3
namespace Go.Abs.A1
open Go.Proofs
set_option maxRecDepth 10000
set_option linter.all false
theorem Words.mono {h h' : Hp} {v : Value} {len : Nat} {zs : List Int} (w : Words h v len zs) (hs : h.size ≤ h'.size) (hg : ∀ b, b < h.size → h'.get b = h.get b) : Words h' v len zs := by
  obtain ⟨o, c, e, h1, h2, h3⟩ := w
  refine ⟨o, c, e, h1, h2, fun h0 => ?_⟩
  obtain ⟨b, own, q1, q2, q3⟩ := h3 h0
  exact ⟨b, own, q1, by omega, by rw [hg b q2]; exact q3⟩
theorem decV_take (len : Nat) (zs : List Int) (h : len ≤ zs.length) : decV len (zs.take len) = decV len zs := by
  unfold decV
  by_cases hn : len < 3
  · rw [if_pos hn, if_pos hn]
  · rw [if_neg hn, if_neg hn]
    have g : ∀ i, i < 3 → (zs.take len).getD i 0 = zs.getD i 0 := fun i hi => by
      simp only [List.getD_eq_getElem?_getD, List.getElem?_take]
      rw [if_pos (by omega)]
    simp only [g 0 (by omega), g 1 (by omega), g 2 (by omega)]
theorem decV_form (len : Nat) (zs : List Int) : ∃ i o r c e, decV len zs = .tuple #[vN i o r c, .int .i64 e] := by
  unfold decV
  split
  · exact ⟨_, _, _, _, _, rfl⟩
  · simp only []
    split <;> exact ⟨_, _, _, _, _, rfl⟩
theorem eq49 (i o r c i' o' r' c' : Int) : aBin Try.prog .eql 49 (vN i o r c) (vN i' o' r' c') = some (.bool (decide (i = i') && (decide (o = o') && (decide (r = r') && decide (c = c'))))) ∧
    aBin Try.prog .neq 49 (vN i o r c) (vN i' o' r' c') = some (.bool (!(decide (i = i') && (decide (o = o') && (decide (r = r') && decide (c = c')))))) :=
  bin_eql_agg (k := [.int .u32, .int .u32, .int .u32, .int .u32]) (by kernel_rfl) (by kernel_rfl) (by kernel_rfl) (by simp [cellsEq, scEq, andO])

theorem row50 : tRow Try.prog 50 = some (1, 4, #[.int .u32 0]) := by kernel_rfl
theorem text50 : rowOrText (Try.prog.underlying 50) = true := by kernel_rfl
/-- Words are appended to none. -/
theorem copyW {k : Hp} {b : Nat} {v : Value} {len : Nat} {zs : List Int} (w : Words k v len zs) (hb : b < k.size) (hg : k.get b = some (.cells #[] true)) (hl : len ≤ 1000) :
    ∃ v' k', aAppend Try.prog #[50, 50] #[.slice (some ⟨b, 0, none⟩) 0 0, v] k = some (v', k') ∧ Words k' v' len (zs.take len) ∧ k.size ≤ k'.size ∧ k'.ro = k.ro ∧ (∀ c, c < k.size → k'.get c = k.get c) ∧ (∃ b' c', v' = .slice (some ⟨b', 0, none⟩) len c' ∧ (c' = 0 ∧ len = 0 ∨ c' = capOpen + 1 ∧ b' + 1 = k'.size ∧ k'.get b' = some (.cells ((zs.take len).map u32).toArray true))) := by
  obtain ⟨o, c, rfl, h1, h2, h3⟩ := w
  by_cases h0 : len = 0
  · subst h0
    have hf : aFirst 1 0 (.slice o 0 c) k = some #[] := by cases o <;> rfl
    exact ⟨_, _, append_nothing2 row50 text50 (by decide) (by omega) (by omega) (by omega) rfl hf, ⟨_, _, rfl, by simp, by simp, by simp⟩, Nat.le_refl _, rfl, fun _ _ => rfl, ⟨_, _, rfl, .inl ⟨rfl, rfl⟩⟩⟩
  · obtain ⟨bl, own, rfl, hbl, hgl⟩ := h3 (by omega)
    have hf : aFirst 1 len (.slice (some ⟨bl, 0, none⟩) len c) k = some ((zs.take len).map u32).toArray := by
      simp only [aFirst]
      rw [if_neg (by omega)]
      simp only [Hp.row, hgl]
      rw [if_pos (by simp; omega)]
      simp [List.map_take]
    have hrow : k.row ⟨b, 0, none⟩ (0 * 1) = some #[] := by simp [Hp.row, hg]
    have key := append_copy (k := k) (a := ⟨b, 0, none⟩) (n := 0) (c := 0) row50 text50 (by decide) (by omega) (by omega) (by omega) (by unfold capOpen; omega) rfl hf (by simp; omega) hrow
    simp only [Nat.zero_add, Array.empty_append] at key
    refine ⟨_, _, key, ⟨_, _, rfl, by simp; omega, fun z hz => h2 z (List.mem_of_mem_take hz), fun _ => ⟨k.size, true, rfl, by simp, by simp⟩⟩, by simp, rfl, fun c hc => get_push_ne (by omega), ⟨_, _, rfl, .inr ⟨rfl, by simp, by simp⟩⟩⟩
theorem word_eq (i o : Int) (hi : 0 ≤ i) (hi2 : i < 65536) (ho : 0 ≤ o) (ho2 : o < 65536) : wordO i o = o * 65536 + i ∧ wordA i o = o * 65536 + i := by
  constructor
  · unfold wordO
    have e : ishl .u32 o 16 = o * 65536 := by
      show IntKind.u32.wrap _ = _
      have : min (16 : Int).toNat (IntKind.u32.bits) = 16 := by decide
      rw [this, u32_in] <;> omega
    rw [e]
    unfold ibOr
    show IntKind.u32.wrap _ = _
    rw [show IntKind.u32.bits = 32 from rfl, BitVec.toNat_or, ofInt_nat, ofInt_nat]
    have e1 : (o * 65536) % 2 ^ 32 = o * 65536 := Int.emod_eq_of_lt (by omega) (by omega)
    have e2 : i % 2 ^ 32 = i := Int.emod_eq_of_lt (by omega) (by omega)
    rw [e1, e2]
    obtain ⟨a, rfl⟩ := Int.eq_ofNat_of_zero_le ho
    obtain ⟨b, rfl⟩ := Int.eq_ofNat_of_zero_le hi
    have e3 : ((a : Int) * 65536).toNat = 2 ^ 16 * a := by omega
    rw [e3, Int.toNat_natCast, ← Nat.two_pow_add_eq_or_of_lt (by omega)]
    rw [u32_in] <;> omega
  · unfold wordA
    rw [u32_in (x := o * 65536) (by omega) (by omega), u32_in] <;> omega
theorem right_in {i o r c : Int} (h : rightF i o r c = true) : i < 32768 ∧ o < 65536 := by
  unfold rightF at h
  simp only [Bool.and_eq_true, decide_eq_true_eq] at h
  exact ⟨h.1.1.1, h.1.1.2⟩
def TN2 : List (FuncId × (Array Value → Hp → Option (Value × Hp))) := [(11, g11), (28, g28), (29, g28), (30, g30), (31, g31), (32, g32), (33, g33)]
abbrev IN2 : Intr := fun f => TN2.lookup f
theorem okN2 : IntrOk Try.prog (CKb Try.prog) IN2 := Con.table fun x hx => by
  simp only [TN2, List.mem_cons, List.not_mem_nil, or_false] at hx
  rcases hx with rfl | rfl | rfl | rfl | rfl | rfl | rfl
  · exact con11
  · exact con28
  · exact con29
  · exact con30
  · exact con31
  · exact con32
  · exact con33
end Go.Abs.A1
