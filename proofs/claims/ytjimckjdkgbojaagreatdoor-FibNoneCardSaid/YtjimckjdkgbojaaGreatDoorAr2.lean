/- A number behind bytes: goes, Put32. -/
import Derived.Test.YtjimckjdkgbojaaGreatDoorAr1
import Derived.Test.YtjimckjdkgbojaaGreatDoorDc3
import Derived.Deep.CutBlock
namespace Go.Abs.D1
open Go.Proofs Go.RowKit Go.Lib
set_option maxRecDepth 100000
set_option maxHeartbeats 4000000
set_option linter.all false
/-- The byte of a number that stands s bits up. -/
def goB (x : Int) (s : Int) : Int := IntKind.u8.wrap (ibAnd .u64 (ishr .u64 x s) 255)
def goBs (x : Int) (n : Nat) (i : Nat) : List Value := (List.range i).map fun j => .int .u8 (goB x ((8 * n - 8 - 8 * j : Nat) : Int))
theorem goBs_succ (x : Int) (n i : Nat) : goBs x n (i + 1) = goBs x n i ++ [.int .u8 (goB x ((8 * n - 8 - 8 * i : Nat) : Int))] := by
  unfold goBs; rw [List.range_succ, List.map_append]; rfl
theorem goBs_len (x : Int) (n i : Nat) : (goBs x n i).length = i := by simp [goBs]
theorem textB : rowOrText (Tryz.prog.underlying 23) = true := by kernel_rfl
theorem rowB : tRow Tryz.prog 23 = some (1, 1, #[.int .u8 0]) := by kernel_rfl
theorem goes_loop {l n : Nat} {x : Int} {k : Hp} {N : Nat} {lo : Nat} {v2 : Value} {xs : List Value} {g : Nat → Value} (hS : SlAt lo k v2 1 xs) (hro : k.ro ≤ lo) (hlo : lo ≤ k.size) (hn : n ≤ 8) (hl : xs.length < 1099511627776) (hN : 20 < N) {c : Code}
    (hcode : (Tryz.f91.body.bind fun c => match c with | .seq _ (.seq _ (.seq (.seq _ (.block _ (.loop b))) _)) => some b | _ => none) = some c) :
    ∃ aa hh, evalC Tryz.prog (evalV Tryz.prog I0 N) (evalDraw Tryz.prog (evalV Tryz.prog I0 N)) none N (.loop c) { tmps := #[g 0, .int .u64 x, .int .i64 (n : Int), g 3, g 4, g 5, g 6, v2, g 8, g 9, g 10, g 11, g 12, .int .i64 (n : Int), .int .i64 0, g 15, g 16, g 17, g 18, g 19, g 20, g 21, g 22, g 23, g 24, g 25, g 26, g 27, g 28, g 29, g 30, g 31, g 32], defers := [] } k (fun e a h => match e with | .exit i => if i = 0 then some (a, h) else none | _ => none) = some (aa, hh) ∧
      ∃ v', (∃ g : Nat → Value, aa = { tmps := #[g 0, g 1, g 2, g 3, g 4, g 5, g 6, v', g 8, g 9, g 10, g 11, g 12, g 13, g 14, g 15, g 16, g 17, g 18, g 19, g 20, g 21, g 22, g 23, g 24, g 25, g 26, g 27, g 28, g 29, g 30, g 31, g 32], defers := [] }) ∧ SlAt lo hh v' 1 (xs ++ goBs x n n) ∧ (∀ c, c < lo → hh.get c = k.get c) ∧ hh.ro = k.ro ∧ k.size ≤ hh.size := by
  have hc : c = _ := (Option.some.inj hcode).symm
  subst hc
  -- evalV_call (P := Tryz.prog) (intr := I0) (f := 91) (m := 33) (rs := #[.tmp 6]) rfl Tryz.func91 rfl rfl rfl
  simp (maxDischargeDepth := 16) only [z00]
  refine loop_rule (fun r : Option (Act × Hp) => ∃ aa hh, r = some (aa, hh) ∧ ∃ v', (∃ g : Nat → Value, aa = { tmps := #[g 0, g 1, g 2, g 3, g 4, g 5, g 6, v', g 8, g 9, g 10, g 11, g 12, g 13, g 14, g 15, g 16, g 17, g 18, g 19, g 20, g 21, g 22, g 23, g 24, g 25, g 26, g 27, g 28, g 29, g 30, g 31, g 32], defers := [] }) ∧ SlAt lo hh v' 1 (xs ++ goBs x n n) ∧ (∀ c, c < lo → hh.get c = k.get c) ∧ hh.ro = k.ro ∧ k.size ≤ hh.size)
    (fun m y h => ∃ i : Nat, ∃ v', m = n - i ∧ i ≤ n ∧ SlAt lo h v' 1 (xs ++ goBs x n i) ∧ (∀ c, c < lo → h.get c = k.get c) ∧ h.ro = k.ro ∧ k.size ≤ h.size ∧ y.tmps.size = 33 ∧ y.defers = [] ∧ y.tmps.getD 1 undef = .int .u64 x ∧ y.tmps.getD 2 undef = .int .i64 (n : Int) ∧ y.tmps.getD 7 undef = v' ∧ y.tmps.getD 13 undef = .int .i64 (n : Int) ∧ y.tmps.getD 14 undef = .int .i64 (i : Int)) ?_ _ n _ _ ?_ ?_
  · intro m n' y h hI' ih
    obtain ⟨i, v', hm, hi, hS, hg1, hr1, hs1, hxs, hxd, l1, l2, l7, l13, l14⟩ := hI'
    obtain ⟨g, rfl⟩ : ∃ g : Nat → Value, y = { tmps := #[g 0, .int .u64 x, .int .i64 (n : Int), g 3, g 4, g 5, g 6, v', g 8, g 9, g 10, g 11, g 12, .int .i64 (n : Int), .int .i64 (i : Int), g 15, g 16, g 17, g 18, g 19, g 20, g 21, g 22, g 23, g 24, g 25, g 26, g 27, g 28, g 29, g 30, g 31, g 32], defers := [] } := ⟨fun k => y.tmps.getD k undef, (act_eta hxs hxd).trans (by simp only [unrollL, Nat.reduceAdd, Nat.zero_add, l1, l2, l7, l13, l14])⟩; clear hxs hxd l1 l2 l7 l13 l14
    by_cases hlt : i < n
    · have hlt' := lt_cast hlt
      have e1 : IntKind.i64.wrap (8 * (n : Int)) = ((8 * n : Nat) : Int) := by rw [i64_in (by omega) (by omega)]; omega
      have e2 : IntKind.i64.wrap (((8 * n : Nat) : Int) - 8) = ((8 * n - 8 : Nat) : Int) := by rw [i64_in (by omega) (by omega)]; omega
      have e3 : IntKind.i64.wrap (8 * (i : Int)) = ((8 * i : Nat) : Int) := by rw [i64_in (by omega) (by omega)]; omega
      have e4 : IntKind.i64.wrap (((8 * n - 8 : Nat) : Int) - ((8 * i : Nat) : Int)) = ((8 * n - 8 - 8 * i : Nat) : Int) := by rw [i64_in (by omega) (by omega)]; omega
      have hp : 0 ≤ ((8 * n - 8 - 8 * i : Nat) : Int) := by omega
      have w3 := i64_succ (i := i) (by omega)
      obtain ⟨b, hb⟩ : ∃ b, b = goB x ((8 * n - 8 - 8 * i : Nat) : Int) := ⟨_, rfl⟩
      have hb' : IntKind.u8.wrap (ibAnd .u64 (ishr .u64 x ((8 * n - 8 - 8 * i : Nat) : Int)) 255) = b := hb.symm
      have hsz : lo ≤ h.size := by omega
      obtain ⟨v2', k2, ek, s3, s4, s5, s6, s7⟩ := append_own (P := Tryz.prog) (t := 23) (tx := 23) (k := h.push (some (.cells #[.int .u8 b] true))) rowB textB (hS.mono (by simp) (fun c hc => by have := hS.lt hc; rw [get_push_ne (by omega)])) (by simp; omega) (by simp; omega) (m := 1) (w := .slice (some ⟨h.size, 0, none⟩) 1 1) (new := #[.int .u8 b]) rfl (by simp [aFirst, Hp.row, Hp.get_push]) rfl rfl (by decide) (by decide) (by simp [goBs_len]; omega) (by simp [goBs_len, capOpen]; omega)
      simp (maxDischargeDepth := 16) only [z04, z08, z09, z0a, z0b, z0d, z0e, z0h, z0k, z0p, z0q, z0s, z0t, z0v, z0w, z0z, z10, z11, z13, z15, z1i, z1m, z24, z25, z26, z27, z2d, z2m, z3b, z4e, z4f, z4g, z4h, z4i, z4j, z4k, z4l, z4p, z4q, z4r, z4z, z50, z51, z53, z5a, z7d, z7n, z7z, z88, evalC_block, Nat.reduceLeDiff, tIntx68x5, tRowx23, hlt', e1, e2, e3, e4, bin_shr hp, hb', ek, w3]
      refine ih (n - (i + 1)) _ _ (by omega) ⟨i + 1, v2', rfl, hlt, ?_, fun c hc => ?_, by simpa [hr1] using s6, by rw [s5]; simp; omega, rfl, rfl, rfl, rfl, rfl, rfl, rfl⟩
      · rw [goBs_succ, ← hb, ← List.append_assoc]; exact s3
      · rw [s7 c (by simp; omega) (fun e => by have := (hS.lt e).1; omega), get_push_ne (by omega)]; exact hg1 c hc
    · have hi' : i = n := by omega
      subst hi'
      have hlt' : ((i : Int) < (i : Int)) = False := eq_false (by omega)
      simp (maxDischargeDepth := 16) only [z06, z08, z09, z0a, z0c, z0d, z0e, z0g, z0m, z0p, z0q, z0s, z0t, z0v, z0z, z13, z2d, z3b, z4e, z4f, z4g, z4h, z4i, z5b, z7n, ↓reduceIte, hlt']
      exact ⟨_, _, rfl, v', ⟨fun q => match q with | 1 => .int .u64 x | 2 => .int .i64 (i : Int) | 13 => .int .i64 (i : Int) | 14 => .int .i64 (i : Int) | 15 => .bool false | j => g j, rfl⟩, hS, hg1, hr1, hs1⟩
  · omega
  · exact ⟨0, v2, rfl, by omega, by simpa [goBs] using hS, fun _ _ => rfl, rfl, Nat.le_refl _, rfl, rfl, rfl, rfl, rfl, rfl, rfl⟩
/-- What the machine's row is, as a number's block. -/
theorem owns_im {w : World} {lo l : Nat} {v : Value} {ys : List Value} (h : w.ownsRow lo 5 1 v l ys) (n : Nat) (β : Bm) : ∃ im u, ren (upd β n im) u = v ∧ vok (n + 1) u := by
  rcases h.2 with ⟨rfl, -⟩ | ⟨g, cap, cur, rfl, -, -, -, hcm, -, -⟩
  · exact ⟨⟨0, 0, 0⟩, .slice none 0 0, by simp, by simp⟩
  · refine ⟨⟨g, 0, cap⟩, .slice (some ⟨n, 0, none⟩) l (capOpen + 1), ?_, by simp⟩
    simp only [ren_slice, renA, renCap, upd_self]
    rw [if_pos (by omega)]
    simp
set_option maxHeartbeats 8000000 in
theorem goes_abs {l n : Nat} {x : Int} {v : Value} {xs : List Value} {β : Bm} {h : Hp} {w : World} (r : Rel Tryz.prog (CKb Tryz.prog) β h w) (hv : vok h.size v) (hx : ∀ u ∈ xs, vok h.size u) (hR : RowOf w (ren β v) l (xs.map (ren β))) (hn : n ≤ 8) (h1n : 1 ≤ n) (hl : l < 1099511627776) :
    Calls Tryz.prog 91 #[ren β v, .int .u64 x, .int .i64 n] w (Post Tryz.prog (CKb Tryz.prog) β h w (.slice (some ⟨h.size, 0, none⟩) (l + n) (l + n)) (h.push (some (.cells (xs ++ goBs x n n).toArray true)))) := by
  have hc := clone_owns hR (by omega)
  have hg : ∀ (v1 : Value) (w1 : World), w1.ownsRow w.heap.size 5 1 v1 l (xs.map (ren β)) → w.heap.size ≤ w1.heap.size → Calls Tryz.prog 147 #[v1, .int .i64 n] w1 fun e w' => ∃ v', e = .returned v' ∧ w'.ownsRow w.heap.size 5 1 v' l (xs.map (ren β)) ∧ Below w.heap.size w1 w' ∧ (1 ≤ n → v' ≠ .slice none 0 0) := fun v1 w1 ho hs => grow_owns ho hs (by omega : l + n ≤ 140737488355328)
  have hxl : xs.length = l := by have := hR.1; simpa using this
  clear hR
  obtain ⟨V, hV⟩ : ∃ V, V = ren β v := ⟨_, rfl⟩
  rw [← hV] at hc ⊢
  obtain ⟨Q, hQ⟩ : ∃ Q, Q = Post Tryz.prog (CKb Tryz.prog) β h w (.slice (some ⟨h.size, 0, none⟩) (l + n) (l + n)) (h.push (some (.cells (xs ++ goBs x n n).toArray true))) := ⟨_, rfl⟩
  rw [← hQ]
  have HV : Hid (V = ren β v) := hV
  have HQ : Hid (Q = Post Tryz.prog (CKb Tryz.prog) β h w (.slice (some ⟨h.size, 0, none⟩) (l + n) (l + n)) (h.push (some (.cells (xs ++ goBs x n n).toArray true)))) := hQ
  have HL : Hid (xs.length = l) := hxl
  clear hV hQ hxl
  go_enter Tryz.func91, Tryz.ntmps91
  go_wp2_with (first | (go_at_call 89; refine hc.mono ?_; rintro e w1 ⟨v1, rfl, ho1, hb1⟩) | (go_at_call 147; refine (hg _ _ ho1 hb1.size).mono ?_; rintro e w2 ⟨v2, rfl, ho2, hb2, hnn⟩))
  rename_i K0 hK0
  have hV := HV.out
  have hxl := HL.out
  obtain ⟨im1, u1, hu1, hvu1⟩ := owns_im ho1 h.size β
  have hb12 : Below w.heap.size w w2 := hb1.trans hb2
  obtain ⟨hl2, ho3⟩ := ho2
  rcases ho3 with ⟨h0, -⟩ | ⟨g2, cap2, cur2, rfl, hg2, hh2, hnc, hcm, hcs, htake⟩
  · exact absurd h0 (hnn h1n)
  have r1 := (St.skip r im1).rel
  have s1 := St.adopt (cs := xs.toArray) (im := ⟨g2, 0, cap2⟩) r1 (St.below r1 hb12) hg2 hh2 (fun i u hi => by
    have hm : u ∈ xs := by have := Array.mem_of_getElem? hi; simpa using this
    refine ⟨?_, vok_mono (by simp) _ (hx u hm)⟩
    rw [ren_congr (fun c hc => upd_lt hc) u (hx u hm), Nat.zero_add]
    have hlt : i < l := by have := (Array.getElem?_eq_some_iff.1 hi).1; simp at this; omega
    have : (cur2.toList.take (l * 1))[i]? = (xs.map (ren β))[i]? := by rw [htake]
    rw [List.getElem?_take, if_pos (by omega), List.getElem?_map] at this
    rw [← Array.getElem?_toList, this]
    have : xs[i]? = some u := by simpa using hi
    rw [this]; rfl) (by simp; omega) (by simp; omega)
  have st := (St.skip r im1).trans s1
  generalize hact : Act.mk _ _ = act
  obtain ⟨a0, ha0⟩ : ∃ a0 : Act, a0 = { tmps := #[v, .int .u64 x, .int .i64 (n : Int), undef, undef, undef, .slice none 0 0, .slice (some ⟨h.size + 1, 0, none⟩) l (capOpen + 1), undef, v, u1, .int .i64 (n : Int), .slice (some ⟨h.size + 1, 0, none⟩) l (capOpen + 1), .int .i64 (n : Int), .int .i64 0, undef, undef, undef, undef, undef, undef, undef, undef, undef, undef, undef, undef, undef, undef, undef, undef, undef, undef], defers := [] } := ⟨_, rfl⟩
  have hre : act = renAct (upd (upd β h.size im1) (h.push none).size ⟨g2, 0, cap2⟩) a0 := by
    rw [← hact, ha0]
    have e1 : ren (upd (upd β h.size im1) (h.push none).size ⟨g2, 0, cap2⟩) v = V := by
      rw [hV]; exact ren_congr (fun c hc => by rw [upd_lt (by simp; omega), upd_lt hc]) v hv
    have e2 : ren (upd (upd β h.size im1) (h.push none).size ⟨g2, 0, cap2⟩) u1 = v1 := by
      rw [← hu1]; exact ren_congr (fun c hc => upd_lt hc) u1 hvu1
    have e3 : ren (upd (upd β h.size im1) (h.push none).size ⟨g2, 0, cap2⟩) (.slice (some ⟨h.size + 1, 0, none⟩) l (capOpen + 1)) = .slice (some ⟨g2, 0, none⟩) l cap2 := by
      rw [ren_slice, renCap, if_pos (by omega)]
      simp [renA, upd]
    simp only [renAct, List.map_nil, e1, e2, e3, List.map_toArray, List.map_cons, ren_int, ren_slice_nil, ren_undef]
  subst hre
  have hro := r.roLe
  have hok0 : aok ((h.push none).push (some (.cells xs.toArray true))).size a0 := by
    subst ha0
    refine ⟨fun u hu => ?_, fun d hd => by cases hd⟩
    simp only [List.mem_toArray, List.mem_cons, List.not_mem_nil, or_false] at hu
    rcases hu with rfl | rfl | rfl | rfl | rfl | rfl | rfl | rfl | rfl | rfl | rfl | rfl | rfl | rfl | rfl | rfl | rfl | rfl | rfl | rfl | rfl | rfl | rfl | rfl | rfl | rfl | rfl | rfl | rfl | rfl | rfl | rfl | rfl <;> first | exact vok_mono (by simp only [Hp.size_push]; omega) _ hv | exact vok_mono (by simp only [Hp.size_push]; omega) _ hvu1 | (simp; done) | (simp; omega)
  subst ha0
  have hS0 : SlAt h.size ((h.push none).push (some (.cells xs.toArray true))) (.slice (some ⟨h.size + 1, 0, none⟩) l (capOpen + 1)) 1 xs := .inr ⟨h.size + 1, l, rfl, by omega, by simp only [Hp.size_push]; omega, by simpa using hxl, by rw [show h.size + 1 = (h.push none).size from rfl, get_push_self]⟩
  refine hybrid_loop base ok0 (n := 50) (lf := 50) (id := 0) (by kernel_rfl) st.rel hok0 (goes_loop (l := l) (lo := h.size) (xs := xs) (g := fun i => match i with | 0 => v | 6 => .slice none 0 0 | 9 => v | 10 => u1 | 11 => .int .i64 (n : Int) | 12 => .slice (some ⟨h.size + 1, 0, none⟩) l (capOpen + 1) | _ => undef) (k := (h.push none).push (some (.cells xs.toArray true))) (N := 50) hS0 hro (by simp only [Hp.size_push]; omega) hn (by omega) (by decide) rfl) ?_
  rintro aa hh β' w' ⟨v', ⟨g, rfl⟩, hS, hkg, hkr, hks⟩ haok hst
  rcases hS with ⟨-, h0⟩ | ⟨b, m, rfl, hb1, hb2, hb3, hb4⟩
  · have := congrArg List.length h0
    simp [goBs_len] at this
    omega
  have hm : m = l + n := by simp [goBs_len] at hb3; omega
  subst hm
  obtain ⟨o, ho, C, ee, fz, rfl, q1, q2, q3⟩ := hst.rel.blk b _ hb4
  obtain ⟨rfl, q4⟩ := q3 rfl
  have hall := st.trans hst
  have hkk : Keeps h hh := ⟨by simp at hks; omega, fun c hc => by rw [hkg c hc, get_push_ne (by simp; omega), get_push_ne (by omega)]⟩
  have hcs2 : (xs ++ goBs x n n).toArray.size = l + n := by simp [goBs_len, hxl]
  have hv1 : ∀ u ∈ xs ++ goBs x n n, vok h.size u := by
    intro u hu
    rcases List.mem_append.1 hu with hu | hu
    · exact hx u hu
    · unfold goBs at hu
      obtain ⟨j, -, rfl⟩ := List.mem_map.1 hu
      simp
  have hfin := St.pick (im := ⟨(β' b).B, (β' b).O, l + n⟩) (cs := (xs ++ goBs x n n).toArray) r hall hkk hb1 ⟨_, hb4, rfl⟩ rfl ho (fun i u hi => by
    have hu := hv1 u (by have := Array.mem_of_getElem? hi; simpa using this)
    exact ⟨by rw [(q1 i u hi).1, ren_congr hall.ext u hu], hu⟩) (by rw [hcs2]; exact Nat.le_refl _) (by simp only; rw [hcs2] at q2; omega)
  obtain ⟨cp, hcp⟩ : ∃ cp, cp = (β' b).av := ⟨_, rfl⟩
  have hle : l + n ≤ cp := by rw [hcp]; rw [hcs2] at q2; exact q2
  have hre2 : ren β' (.slice (some ⟨b, 0, none⟩) (l + n) (capOpen + 1)) = .slice (some ⟨(β' b).B, (β' b).O, none⟩) (l + n) cp := by
    rw [ren_slice, renCap, if_pos (by omega), hcp]
    simp [renA]
  obtain ⟨B2, hB2⟩ : ∃ B2, B2 = (β' b).B := ⟨_, rfl⟩
  obtain ⟨O2, hO2⟩ : ∃ O2, O2 = (β' b).O := ⟨_, rfl⟩
  rw [← hB2, ← hO2] at hre2 hfin
  obtain ⟨A, hA⟩ : ∃ A : Act, A = { tmps := #[g 0, g 1, g 2, g 3, g 4, g 5, g 6, .slice (some ⟨b, 0, none⟩) (l + n) (capOpen + 1), g 8, g 9, g 10, g 11, g 12, g 13, g 14, g 15, g 16, g 17, g 18, g 19, g 20, g 21, g 22, g 23, g 24, g 25, g 26, g 27, g 28, g 29, g 30, g 31, g 32], defers := [] } := ⟨_, rfl⟩
  obtain ⟨g2, hg2⟩ : ∃ g : Nat → Value, renAct β' A = { tmps := #[g 0, g 1, g 2, g 3, g 4, g 5, g 6, .slice (some ⟨B2, O2, none⟩) (l + n) cp, g 8, g 9, g 10, g 11, g 12, g 13, g 14, g 15, g 16, g 17, g 18, g 19, g 20, g 21, g 22, g 23, g 24, g 25, g 26, g 27, g 28, g 29, g 30, g 31, g 32], defers := [] } := ⟨fun i => ren β' (g i), by rw [hA]; simp only [renAct, List.map_toArray, List.map_cons, List.map_nil, hre2]⟩
  rw [← hA]
  show K0 _ _
  refine hK0 _ _ ?_
  rw [hg2]
  have HF : Hid (St Tryz.prog (CKb Tryz.prog) β h w (upd β h.size ⟨B2, O2, l + n⟩) (h.push (some (.cells (xs ++ goBs x n n).toArray true))) w') := hfin
  clear hg2 hA A hre2 hfin hB2 hO2 q1 q2 q3 q4 ho hb4 hb3 hkk hcs2 hv1 hall hst haok hkg hkr hks hK0 K0 hcp hS0 hok0 st s1 r1 hu1 hvu1 htake hcs hh2 hl2 hV hxl hnn hc hg hb1 hb2 hb12 ho1 hact
  go_wp2
  show Q (.returned (.slice (some ⟨B2, O2, none⟩) (l + n) (l + n))) w'
  rw [HQ.out]
  refine ⟨_, ?_, by simp, HF.out⟩
  rw [ren_slice, renCap, if_neg (by unfold capOpen; omega)]
  simp [renA]
/-- The cells of a slice of one-celled things. -/
def rowV (h : Hp) (v : Value) : Option (List Value) := match v with
  | .slice none n _ => if n = 0 then some [] else none
  | .slice (some ⟨b, off, none⟩) n _ => if n = 0 then some [] else match h.get b with
    | some (.cells cs _) => if off + n ≤ cs.size then (if ((cs.toList.drop off).take n).all oneC then some ((cs.toList.drop off).take n) else none) else none
    | _ => none
  | _ => none
def lenV : Value → Nat
  | .slice _ n _ => n
  | _ => 0
theorem rowV_of {P : Program} {CK : Code → Prop} {β : Bm} {h : Hp} {w : World} (r : Rel P CK β h w) {v : Value} {xs : List Value} (hx : rowV h v = some xs) : (∀ u ∈ xs, vok h.size u) ∧ RowOf w (ren β v) (lenV v) (xs.map (ren β)) := by
  unfold rowV at hx
  split at hx
  · rename_i n c
    split at hx
    · rename_i h0
      subst h0
      cases hx
      exact ⟨by simp, rfl, by simp, .inl ⟨c, by simp, rfl⟩⟩
    · cases hx
  · rename_i b off n c
    split at hx
    · rename_i h0
      subst h0
      cases hx
      exact ⟨by simp, rfl, by simp, .inr ⟨(β b).B, (β b).O + off, renCap β ⟨b, off, none⟩ c, by simp [renA, lenV], by simp⟩⟩
    · split at hx
      · rename_i cs ow hb
        split at hx
        · rename_i hle
          split at hx
          · rename_i hone
            cases hx
            have key : ∀ i u, ((cs.toList.drop off).take n)[i]? = some u → cs[off + i]? = some u := by
              intro i u hi
              rw [List.getElem?_take] at hi
              split at hi
              · rw [List.getElem?_drop] at hi
                simpa using hi
              · cases hi
            refine ⟨fun u hu => ?_, by simp [lenV]; omega, fun u hu => ?_, .inr ⟨(β b).B, (β b).O + off, renCap β ⟨b, off, none⟩ c, by simp [lenV, renA], fun j u hj => ?_⟩⟩
            · obtain ⟨i, hi⟩ := List.mem_iff_getElem?.1 hu
              exact (r.cell? hb (key i u hi)).2
            · obtain ⟨u', hu', rfl⟩ := List.mem_map.1 hu
              have h1 := List.all_eq_true.1 hone u' hu'
              have := ren_oneC (β := β) u'
              rw [h1] at this
              generalize ren β u' = z at *
              cases z <;> simp_all [oneC, Value.oneCell']
            · rw [List.getElem?_map, Option.map_eq_some_iff] at hj
              obtain ⟨u', hu', rfl⟩ := hj
              have := (r.cell? hb (key j u' hu')).1
              rw [show (β b).O + off + j = (β b).O + (off + j) by omega]
              exact this
          · cases hx
        · cases hx
      · cases hx
  · cases hx
def G91 (args : Array Value) (h : Hp) : Option (Value × Hp) := match args.toList with
  | [v, .int .u64 x, .int .i64 n] => match rowV h v with
    | some xs => if 1 ≤ n ∧ n ≤ 8 ∧ lenV v < 1099511627776 then some (.slice (some ⟨h.size, 0, none⟩) (lenV v + n.toNat) (lenV v + n.toNat), h.push (some (.cells (xs ++ goBs x n.toNat n.toNat).toArray true))) else none
    | none => none
  | _ => none
theorem con91 : Con Tryz.prog (CKb Tryz.prog) 91 G91 := by
  intro args h v h' hg β w r ha
  unfold G91 at hg
  split at hg
  · rename_i b x n hargs
    split at hg
    · rename_i xs hx
      split at hg
      · rename_i hc
        cases hg
        obtain ⟨q1, q2⟩ := rowV_of r hx
        have := goes_abs (n := n.toNat) (x := x) r (ha b (by have : b ∈ args.toList := by rw [hargs]; simp
                                                             simpa using this)) q1 q2 (by omega) (by omega) hc.2.2
        rw [Int.toNat_of_nonneg (by omega)] at this
        have ea : args.map (ren β) = #[ren β b, .int .u64 x, .int .i64 n] := by
          apply Array.ext'
          rw [Array.toList_map, hargs]
          simp
        rw [ea]
        exact callsIn_wide.2 this
      · cases hg
    · cases hg
  · cases hg
end Go.Abs.D1
