/- The law LeaseOne, run: what is kept from event to event. -/
import Derived.Test.YtgdbkohmdflckaaLa8
namespace Go.Abs.A1
open Go.Proofs
set_option maxRecDepth 10000
set_option linter.all false
structure LS where
  n1 : Int
  H : Int
  n2 : Int
  Pm : Int
  asked : List Int
  told : List Int
  gr : List (Int × Int)
abbrev u64 (x : Int) : Value := .int .u64 x
abbrev gC (g : Int × Int) : List Value := [u64 g.1, u64 g.2]
/-- How it lies in memory. -/
structure PH (h k : Hp) (S : LS) (v9 v10 v11 : Value) : Prop where
  size : h.size + 2 ≤ k.size
  ro : k.ro = h.ro
  keep : ∀ b, b < h.size → k.get b = h.get b
  a : k.get h.size = cL S.n1 S.H 0 true
  b : k.get (h.size + 1) = cL S.n2 0 S.Pm true
  s9 : SlAt (h.size + 2) k v9 1 (S.asked.map u64)
  s10 : SlAt (h.size + 2) k v10 1 (S.told.map u64)
  s11 : SlAt (h.size + 2) k v11 2 (S.gr.flatMap gC)
  d1 : ∀ b, blkOf v9 = some b → blkOf v10 ≠ some b
  d2 : ∀ b, blkOf v9 = some b → blkOf v11 ≠ some b
  d3 : ∀ b, blkOf v10 = some b → blkOf v11 ≠ some b
/-- What holds of times; c: by how much a promise may be over before it was looked at. -/
structure IV (S : LS) (i : Nat) (c : Int) : Prop where
  n1 : 0 ≤ S.n1 ∧ S.n1 < 1000000 + i
  n2 : 0 ≤ S.n2 ∧ S.n2 < 1000000 + i
  H : 0 ≤ S.H ∧ S.H ≤ 1000008 + i
  Pm : 0 ≤ S.Pm ∧ S.Pm ≤ 1000012 + i
  asked : ∀ x ∈ S.asked, 0 ≤ x ∧ x ≤ S.n1
  told : ∀ t ∈ S.told, 0 ≤ t ∧ ∃ g ∈ S.gr, t ≤ g.1
  gr : ∀ g ∈ S.gr, 0 ≤ g.1 ∧ g.1 ≤ S.n1 ∧ 0 ≤ g.2 ∧ g.2 ≤ S.n2 ∧ g.2 + 12 ≤ S.Pm ∧ (S.n2 - g.2 ≥ c → S.n1 ≥ g.1 + 8)
  held : S.H = 0 ∨ ∃ g ∈ S.gr, S.H ≤ g.1 + 8
  len : S.asked.length ≤ i ∧ S.told.length ≤ i ∧ S.gr.length ≤ i

section
variable {h k : Hp} {S : LS} {v9 v10 v11 : Value}
theorem PH.grow (p : PH h k S v9 v10 v11) {k' : Hp} (hs : k.size ≤ k'.size) (hr : k'.ro = k.ro) (hg : ∀ b, b < k.size → k'.get b = k.get b) : PH h k' S v9 v10 v11 := by
  have e := p.size
  exact ⟨by omega, hr.trans p.ro, fun b hb => (hg b (by omega)).trans (p.keep b hb), (hg _ (by omega)).trans p.a, (hg _ (by omega)).trans p.b, p.s9.mono hs fun b hb => hg b (p.s9.lt hb).2, p.s10.mono hs fun b hb => hg b (p.s10.lt hb).2,
    p.s11.mono hs fun b hb => hg b (p.s11.lt hb).2, p.d1, p.d2, p.d3⟩
theorem PH.push (p : PH h k S v9 v10 v11) (x : Option Blk) : PH h (k.push x) S v9 v10 v11 := p.grow (by simp) rfl fun b hb => get_push_ne (by omega)
theorem PH.setA (p : PH h k S v9 v10 v11) (n H : Int) : PH h (k.setB h.size (cL n H 0 true)) { S with n1 := n, H := H } v9 v10 v11 := by
  have e := p.size
  exact ⟨by simpa using e, p.ro, fun b hb => by rw [get_set_ne (by omega)]; exact p.keep b hb, get_set_self, by rw [get_set_ne (by omega)]; exact p.b,
    p.s9.mono (by simp) fun b hb => get_set_ne (by have := (p.s9.lt hb).1; omega), p.s10.mono (by simp) fun b hb => get_set_ne (by have := (p.s10.lt hb).1; omega), p.s11.mono (by simp) fun b hb => get_set_ne (by have := (p.s11.lt hb).1; omega), p.d1, p.d2, p.d3⟩
theorem PH.setB (p : PH h k S v9 v10 v11) (n Q : Int) : PH h (k.setB (h.size + 1) (cL n 0 Q true)) { S with n2 := n, Pm := Q } v9 v10 v11 := by
  have e := p.size
  exact ⟨by simpa using e, p.ro, fun b hb => by rw [get_set_ne (by omega)]; exact p.keep b hb, by rw [get_set_ne (by omega)]; exact p.a, get_set_self,
    p.s9.mono (by simp) fun b hb => get_set_ne (by have := (p.s9.lt hb).1; omega), p.s10.mono (by simp) fun b hb => get_set_ne (by have := (p.s10.lt hb).1; omega), p.s11.mono (by simp) fun b hb => get_set_ne (by have := (p.s11.lt hb).1; omega), p.d1, p.d2, p.d3⟩

theorem slice_eq {lo : Nat} {v : Value} {s : Nat} {cells : List Value} (hs : SlAt lo k v s cells) (hp : 0 < s) : ∃ o n c, v = .slice o n c ∧ cells.length = n * s := by
  rcases hs with ⟨rfl, rfl⟩ | ⟨b, n, rfl, _, _, h3, _⟩
  · exact ⟨none, 0, 0, rfl, by simp⟩
  · exact ⟨_, n, _, rfl, h3⟩
theorem slice_block {lo : Nat} {v : Value} {s : Nat} {cells : List Value} (hs : SlAt lo k v s cells) (hne : 0 < cells.length) : ∃ b n, v = .slice (some ⟨b, 0, none⟩) n (capOpen + s) ∧ lo ≤ b ∧ b < k.size ∧ cells.length = n * s ∧ k.get b = some (.cells cells.toArray true) := by
  rcases hs with ⟨rfl, rfl⟩ | hs
  · simp at hne
  · exact hs

/-- Appends, of one number. -/
theorem app9 (p : PH h k S v9 v10 v11) (hro : h.ro ≤ h.size) (hl : S.asked.length ≤ 1000) (x : Int) : ∃ v' k', aAppend Try.prog #[41, 41] #[v9, .slice (some ⟨k.size, 0, none⟩) 1 1] (k.push (some (.cells #[u64 x] true))) = some (v', k') ∧
    PH h k' { S with asked := S.asked ++ [x] } v' v10 v11 := by
  have e := p.size
  have q := p.push (some (.cells #[u64 x] true))
  obtain ⟨v', k', h1, h2, h3, h4, h5, h6⟩ := append_own (P := Try.prog) (t := 41) (tx := 41) (s := 1) (m := 1) (w := .slice (some ⟨k.size, 0, none⟩) 1 1) (new := #[u64 x]) (by kernel_rfl : tRow Try.prog 41 = some (1, 8, #[.int .u64 0])) (by kernel_rfl) q.s9 (by rw [q.ro]; omega) q.size rfl
    (by simp [aFirst, Hp.row, get_push_self]) rfl rfl (by omega) (by omega) (by simp; omega) (by simp [capOpen]; omega)
  have hs2 : k'.size = k.size + 2 := by rw [h4]; simp
  refine ⟨v', k', h1, by omega, h5.trans q.ro, fun b hb => ?_, ?_, ?_, by simpa using h2, ?_, ?_, ?_, ?_, q.d3⟩
  · rw [h6 b (by simp; omega) fun hb' => by have := (q.s9.lt hb').1; omega]; exact q.keep b hb
  · rw [h6 _ (by simp; omega) fun hb' => by have := (q.s9.lt hb').1; omega]; exact q.a
  · rw [h6 _ (by simp; omega) fun hb' => by have := (q.s9.lt hb').1; omega]; exact q.b
  · exact q.s10.mono (by simp; omega) fun b hb => h6 b (q.s10.lt hb).2 fun hb' => q.d1 b hb' hb
  · exact q.s11.mono (by simp; omega) fun b hb => h6 b (q.s11.lt hb).2 fun hb' => q.d2 b hb' hb
  · intro b hb hb'; rw [h3] at hb; cases hb; have := (q.s10.lt hb').2; simp at this
  · intro b hb hb'; rw [h3] at hb; cases hb; have := (q.s11.lt hb').2; simp at this
theorem app10 (p : PH h k S v9 v10 v11) (hro : h.ro ≤ h.size) (hl : S.told.length ≤ 1000) (x : Int) : ∃ v' k', aAppend Try.prog #[41, 41] #[v10, .slice (some ⟨k.size, 0, none⟩) 1 1] (k.push (some (.cells #[u64 x] true))) = some (v', k') ∧
    PH h k' { S with told := S.told ++ [x] } v9 v' v11 := by
  have e := p.size
  have q := p.push (some (.cells #[u64 x] true))
  obtain ⟨v', k', h1, h2, h3, h4, h5, h6⟩ := append_own (P := Try.prog) (t := 41) (tx := 41) (s := 1) (m := 1) (w := .slice (some ⟨k.size, 0, none⟩) 1 1) (new := #[u64 x]) (by kernel_rfl : tRow Try.prog 41 = some (1, 8, #[.int .u64 0])) (by kernel_rfl) q.s10 (by rw [q.ro]; omega) q.size rfl
    (by simp [aFirst, Hp.row, get_push_self]) rfl rfl (by omega) (by omega) (by simp; omega) (by simp [capOpen]; omega)
  have hs2 : k'.size = k.size + 2 := by rw [h4]; simp
  refine ⟨v', k', h1, by omega, h5.trans q.ro, fun b hb => ?_, ?_, ?_, ?_, by simpa using h2, ?_, ?_, q.d2, ?_⟩
  · rw [h6 b (by simp; omega) fun hb' => by have := (q.s10.lt hb').1; omega]; exact q.keep b hb
  · rw [h6 _ (by simp; omega) fun hb' => by have := (q.s10.lt hb').1; omega]; exact q.a
  · rw [h6 _ (by simp; omega) fun hb' => by have := (q.s10.lt hb').1; omega]; exact q.b
  · exact q.s9.mono (by simp; omega) fun b hb => h6 b (q.s9.lt hb).2 fun hb' => q.d1 b hb hb'
  · exact q.s11.mono (by simp; omega) fun b hb => h6 b (q.s11.lt hb).2 fun hb' => q.d3 b hb' hb
  · intro b hb hb'; rw [h3] at hb'; cases hb'; have := (q.s9.lt hb).2; simp at this
  · intro b hb hb'; rw [h3] at hb; cases hb; have := (q.s11.lt hb').2; simp at this
theorem app11 (p : PH h k S v9 v10 v11) (hro : h.ro ≤ h.size) (hl : S.gr.length ≤ 1000) (x y : Int) : ∃ v' k', aAppend Try.prog #[42, 42] #[v11, .slice (some ⟨k.size, 0, none⟩) 1 1] (k.push (some (.cells #[u64 x, u64 y] true))) = some (v', k') ∧
    PH h k' { S with gr := S.gr ++ [(x, y)] } v9 v10 v' := by
  have e := p.size
  have q := p.push (some (.cells #[u64 x, u64 y] true))
  have hfl : (S.gr.flatMap gC).length = S.gr.length * 2 := flat_len (s := 2) (fun _ => rfl) _
  obtain ⟨v', k', h1, h2, h3, h4, h5, h6⟩ := append_own (P := Try.prog) (t := 42) (tx := 42) (s := 2) (m := 1) (w := .slice (some ⟨k.size, 0, none⟩) 1 1) (new := #[u64 x, u64 y]) (by kernel_rfl : tRow Try.prog 42 = some (2, 16, #[.int .u64 0, .int .u64 0])) (by kernel_rfl) q.s11 (by rw [q.ro]; omega) q.size rfl
    (by simp [aFirst, Hp.row, get_push_self]) rfl rfl (by omega) (by omega) (by rw [hfl]; omega) (by rw [hfl]; simp [capOpen]; omega)
  have hs2 : k'.size = k.size + 2 := by rw [h4]; simp
  refine ⟨v', k', h1, by omega, h5.trans q.ro, fun b hb => ?_, ?_, ?_, ?_, ?_, by simpa using h2, q.d1, ?_, ?_⟩
  · rw [h6 b (by simp; omega) fun hb' => by have := (q.s11.lt hb').1; omega]; exact q.keep b hb
  · rw [h6 _ (by simp; omega) fun hb' => by have := (q.s11.lt hb').1; omega]; exact q.a
  · rw [h6 _ (by simp; omega) fun hb' => by have := (q.s11.lt hb').1; omega]; exact q.b
  · exact q.s9.mono (by simp; omega) fun b hb => h6 b (q.s9.lt hb).2 fun hb' => q.d2 b hb hb'
  · exact q.s10.mono (by simp; omega) fun b hb => h6 b (q.s10.lt hb).2 fun hb' => q.d3 b hb hb'
  · intro b hb hb'; rw [h3] at hb'; cases hb'; have := (q.s9.lt hb).2; simp at this
  · intro b hb hb'; rw [h3] at hb'; cases hb'; have := (q.s10.lt hb).2; simp at this
end
end Go.Abs.A1
