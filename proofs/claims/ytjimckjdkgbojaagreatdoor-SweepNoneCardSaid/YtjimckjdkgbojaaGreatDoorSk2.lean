/- Marked: how many places are marked. -/
import Derived.Test.YtjimckjdkgbojaaGreatDoorSk1
import Derived.RangeFuncBound
namespace Go.Abs.D1
open Go.Proofs Go.RowKit Go.Maps Go.Sort Go.Shelf
set_option maxRecDepth 100000
set_option linter.all false
theorem sortsA (m : Nat) : AnyZI.SortsIn Tryz.prog sortedA_ren Fence.wide m :=
  ⟨fun blk off cap ss W hH hblk hsz => callsIn_wide.2 (AnyM.slices_Sort_int sortA blk off cap ss W hH hblk hsz),
   fun p cap W => callsIn_wide.2 (AnyM.slices_Sort_int_none sortA p cap W)⟩
set_option maxHeartbeats 4000000 in
theorem marked_calls {H : Type} (B O b nn : Nat) (D0 : DataW H) (R : Value → Option (DataW H × List MemPlace)) (w : World) (hcell : w.cell? ⟨B, O + 6, none⟩ = some (.map (some b))) (hown : w.ownsMap Tryz.prog 3 R b nn D0) (hmax : Maps.size D0 ≤ maxLen) (hbytes : Maps.size D0 * 8 ≤ 140737488355328) :
    Calls Tryz.prog 28 #[.pointer (some ⟨B, O, none⟩)] w fun e w' => ∃ (v : Value) (ss : List Int), e = .returned v ∧ ss.Perm (intKeys D0) ∧
      w'.ownsRow w.heap.size 3 1 v ss.length ((ss.mergeSort (fun x y => decide (x ≤ y))).map encZ) ∧ (v = .slice none 0 0 ↔ ss = []) ∧ Below w.heap.size w w' := by
  refine (callsIn_wide (n := 6)).1 ?_
  have hbl := hown.lt
  have hseq : SeqGives Fence.wide 2 Tryz.prog 128 #[.pointer (some ⟨w.heap.size, 0, none⟩)] encZ (fun ss => ss.Perm (intKeys D0)) (Maps.size D0) (w.alloc (.cells #[.map (some b)] 138)) :=
    AnyZI.keys_gives (ρ := keysA_ren) { keysA with } Fence.wide _ trivial rfl (by omega) w.heap.size b nn D0 _ (by simp) (by simp) (by
      obtain ⟨es, clock, hb, Ft, hs, hD⟩ := hown
      exact ⟨es, clock, (Below.heap_alloc _ _ b hbl).trans hb, Ft, hs, hD⟩)
  have cK : ∀ mb W, CallsIn Fence.wide 5 Tryz.prog 76 #[.map mb] W fun e w' => e = .returned (.func (.func 128) #[] #[.pointer (some ⟨W.heap.size, 0, none⟩)]) ∧ w' = W.alloc (.cells #[.map mb] 138) := fun mb W => AnyZI.keys_in keysA Fence.wide 5 trivial rfl mb W
  have cS := AnyZI.sorted_in sortedA Fence.wide 5 trivial trivial trivial trivial rfl (by omega) (sortsA _) (enters_of Tryz.func56 (by kernel_rfl) rfl) 128 #[.pointer (some ⟨w.heap.size, 0, none⟩)] trivial (enters_of Tryz.func128 (by kernel_rfl) rfl) _ _ hmax hbytes _ hseq
  change CallsIn _ _ Tryz.prog 75 _ _ _ at cS
  have hfK : Fence.wide.fn 76 := trivial
  have hfS : Fence.wide.fn 75 := trivial
  refine callsIn_of_wp Tryz.func28 rfl trivial ?_ rfl
  simp only [Tryz.ntmps28, List.size_toArray, List.length_cons, List.length_nil, Nat.reduceAdd, Nat.reduceSub, Array.replicate_succ, Array.replicate_zero, List.push_toArray, List.append_toArray, List.nil_append, List.cons_append]
  gi_wp2_with (first
    | (gi_at_call 76; refine (cK _ _).mono ?_; rintro e w' ⟨rfl, rfl⟩)
    | (gi_at_call 75; refine cS.mono ?_; rintro e w' ⟨v, ss, rfl, hS, hrow, hnil, hb⟩))
  go_ret
  exact ⟨v, ss, rfl, hS, ownsRow_base_a hrow (by simp), hnil, ((Below.refl _ w).alloc (Nat.le_refl _) _).trans (hb.mono (by simp))⟩
def keyI (e : MapEntry) : Option Int := match e.key with
  | .int .i64 x => if -9223372036854775808 ≤ x ∧ x ≤ 9223372036854775807 then some x else none
  | _ => none
def keysI : List MapEntry → Option (List Int)
  | [] => some []
  | e :: l => match keyI e, keysI l with
    | some x, some xs => some (x :: xs)
    | _, _ => none
def isB (e : MapEntry) : Bool := match e.val with
  | .bool _ => true
  | _ => false
def ndI : List Int → Bool
  | [] => true
  | x :: l => l.all (fun y => decide (y ≠ x)) && ndI l
def ndN : List Nat → Bool
  | [] => true
  | x :: l => l.all (fun y => decide (y ≠ x)) && ndN l
theorem ndI_ok : ∀ l : List Int, ndI l = true → l.Nodup
  | [], _ => by simp
  | x :: l, h => by
    simp only [ndI, Bool.and_eq_true, List.all_eq_true, decide_eq_true_eq] at h
    rw [List.nodup_cons]
    exact ⟨fun hm => h.1 x hm rfl, ndI_ok l h.2⟩
theorem ndN_ok : ∀ l : List Nat, ndN l = true → l.Nodup
  | [], _ => by simp
  | x :: l, h => by
    simp only [ndN, Bool.and_eq_true, List.all_eq_true, decide_eq_true_eq] at h
    rw [List.nodup_cons]
    exact ⟨fun hm => h.1 x hm rfl, ndN_ok l h.2⟩
theorem keysI_ok : ∀ (l : List MapEntry) (xs : List Int), keysI l = some xs → l.map (·.key) = xs.map (.int .i64) ∧ ∀ x ∈ xs, -9223372036854775808 ≤ x ∧ x ≤ 9223372036854775807
  | [], xs, h => by cases h; simp
  | e :: l, xs, h => by
    simp only [keysI] at h
    split at h
    · rename_i x ys h1 h2
      cases h
      obtain ⟨h3, h4⟩ := keysI_ok l ys h2
      unfold keyI at h1
      split at h1
      · rename_i y hk
        split at h1
        · rename_i hb
          cases h1
          refine ⟨by simp [h3, hk], fun z hz => ?_⟩
          rcases List.mem_cons.1 hz with rfl | hz
          · exact hb
          · exact h4 z hz
        · cases h1
      · cases h1
    · cases h
def entOk (es : List MapEntry) (cl : Nat) : Bool := match keysI es with
  | some xs => ndI xs && (ndN (es.map (·.born)) && (es.all isB && (es.all (fun e => Nat.blt e.born cl) && Nat.blt es.length 1000000)))
  | none => false
def rdB (v : Value) : Option (DataW Unit × List MemPlace) := match v with
  | .bool x => some (.lit (.bool x), [])
  | _ => none
theorem und3 : Tryz.prog.underlying 3 = some (.int .i64) := by kernel_rfl
theorem isB_ok {e : MapEntry} (h : isB e = true) : ∃ b, e.val = .bool b := by
  unfold isB at h
  split at h
  · exact ⟨_, by assumption⟩
  · cases h
theorem key_ok {es : List MapEntry} {xs : List Int} (h : keysI es = some xs) {e : MapEntry} (he : e ∈ es) : ∃ x, e.key = .int .i64 x ∧ -9223372036854775808 ≤ x ∧ x ≤ 9223372036854775807 := by
  obtain ⟨h1, h2⟩ := keysI_ok es xs h
  have : e.key ∈ es.map (·.key) := List.mem_map.2 ⟨e, he, rfl⟩
  rw [h1] at this
  obtain ⟨x, hx, hk⟩ := List.mem_map.1 this
  exact ⟨x, hk.symm, h2 x hx⟩
theorem entOk_fit {es : Array MapEntry} {cl : Nat} (h : entOk es.toList cl = true) : Go.WideElems.Fit Tryz.prog 3 rdB es cl ∧ (∀ e ∈ es.toList, (∃ x, e.key = .int .i64 x) ∧ ∃ b, e.val = .bool b) ∧ es.size < 1000000 := by
  unfold entOk at h
  split at h
  · rename_i xs hk
    simp only [Bool.and_eq_true, List.all_eq_true] at h
    obtain ⟨h1, h2, h3, h4, h5⟩ := h
    have h5' : es.size < 1000000 := by have := Nat.le_of_ble_eq_true h5; simp at this; omega
    refine ⟨⟨by unfold maxLen; omega, ⟨fun x hx => Nat.le_of_ble_eq_true (h4 x hx), ndN_ok _ h2, ?_⟩, fun x hx => ?_⟩, fun e he => ⟨?_, isB_ok (h3 e he)⟩, h5'⟩
    · rw [(keysI_ok _ _ hk).1]
      exact List.pairwise_map.2 ((ndI_ok _ h1).imp fun hne e => hne (by simpa using e))
    · obtain ⟨k, e1, e2, e3⟩ := key_ok hk hx
      obtain ⟨b, e4⟩ := isB_ok (h3 x hx)
      have hw : (Lit.int .i64 k).wf = true := by
        have h1 : IntKind.min .i64 = -9223372036854775808 := by decide
        have h2 : IntKind.max .i64 = 9223372036854775807 := by decide
        simp only [Lit.wf, h1, h2, Bool.and_eq_true, decide_eq_true_eq]; exact ⟨e2, e3⟩
      have : keyOf Tryz.prog 3 x.key = some (.int .i64 k) := by rw [e1]; simp [keyOf, und3, mapKey, hw]
      exact ⟨(.int .i64 k, .lit (.bool b)), by unfold Go.WideElems.rd; rw [this, e4]; rfl⟩
    · obtain ⟨k, e1, -⟩ := key_ok hk he
      exact ⟨k, e1⟩
  · cases h
def G28 (args : Array Value) (h : Hp) : Option (Value × Hp) := match args.toList with
  | [.pointer (some ⟨sb, 0, none⟩)] => match h.get sb with
    | some (.cells cs _) => match (cs.toList[6]? : Option Value) with
      | some (.map (some mb)) => match h.get mb with
        | some (.map es cl) => match entOk es.toList cl && Nat.blt 0 es.toList.length with
          | true => some (.slice (some ⟨h.size, 0, none⟩) es.toList.length (capOpen + 1), h.push none)
          | false => none
        | _ => none
      | _ => none
    | _ => none
  | _ => none
theorem con28 : Con Tryz.prog (CKb Tryz.prog) 28 G28 := by
  intro args h v h' hg β w r ha
  unfold G28 at hg
  split at hg
  · rename_i sb hargs
    split at hg
    · rename_i cs ow hs
      split at hg
      · rename_i mb hmb
        split at hg
        · rename_i es cl hm
          split at hg
          · rename_i hc
            cases hg
            rw [Bool.and_eq_true] at hc
            obtain ⟨f1, f2, f3⟩ := entOk_fit hc.1
            have hn : 0 < es.size := by have := Nat.le_of_ble_eq_true hc.2; simp at this; omega
            obtain ⟨o, ho, hev, rfl⟩ := r.blk _ _ hm
            have hes : (es.map fun e => ({ key := ren β e.key, val := ren β e.val, born := e.born } : MapEntry)) = es := by
              conv => rhs; rw [← Array.map_id es]
              refine Array.map_congr_left fun e he => ?_
              obtain ⟨⟨x, e1⟩, b, e2⟩ := f2 e (by simpa using he)
              rw [e1, e2, ren_int, ren_bool, ← e1, ← e2]
              rfl
            rw [hes] at ho
            have hcell := (r.cell? hs (i := 6) (v := .map (some mb)) (by simpa using hmb)).1
            rw [ren_map] at hcell
            have hown : w.ownsMap Tryz.prog 3 rdB (β mb).B es.size (.map ((es.toList.map (Go.WideElems.rg Tryz.prog 3 rdB)).foldr DataW.insert [])) := ⟨es, cl, ho, f1, Nat.le_refl _, rfl⟩
            have hsz : Maps.size (.map ((es.toList.map (Go.WideElems.rg Tryz.prog 3 rdB)).foldr DataW.insert [])) = es.size := by
              rw [size_eq, length_sorted]; simp
            have hea : args.map (ren β) = #[.pointer (some ⟨(β sb).B, (β sb).O, none⟩)] := by
              apply Array.ext'
              rw [Array.toList_map, hargs]
              simp [renA]
            rw [hea]
            refine callsIn_wide.2 ((marked_calls _ _ _ _ _ rdB w hcell hown (by rw [hsz]; unfold maxLen; omega) (by rw [hsz]; omega)).mono ?_)
            rintro e w' ⟨v, ss, rfl, hp, hrow, hnil, hb⟩
            have hl : ss.length = es.toList.length := by
              rw [hp.length_eq]
              unfold intKeys
              rw [List.length_map, length_sorted]; simp
            rcases hrow.2 with ⟨-, h0⟩ | ⟨g, cap, cur, rfl, hge, hg, hnc, hcm, -, -⟩
            · rw [hl, Array.length_toList] at h0; omega
            · have s1 := St.below r hb
              have s2 := St.skip s1.rel ⟨g, 0, cap⟩
              refine ⟨_, ?_, by simp, s1.trans s2⟩
              rw [hl, ren_slice, renCap, if_pos (by omega)]
              simp [renA]
          · cases hg
        · cases hg
      · cases hg
    · cases hg
  · cases hg
end Go.Abs.D1
