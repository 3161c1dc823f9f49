/- The law BitmapBack, run: it gives true. -/
import Derived.Test.YtgdbkohmdflckaaBb4
namespace Go.Abs.A1
open Go.Proofs
set_option maxRecDepth 10000
set_option linter.all false
theorem moreW {k : Hp} {b : Nat} {v : Value} {len : Nat} {zs : List Int} {x y z : Int} (w : Words k v len zs) (hb : b < k.size) (hg : k.get b = some (.cells #[u32 x, u32 y, u32 z] true)) (hro : k.ro ≤ b) (hl : len ≤ 1000) (hx : (0 ≤ x ∧ x < 4294967296) ∧ (0 ≤ y ∧ y < 4294967296) ∧ (0 ≤ z ∧ z < 4294967296)) :
    ∃ v' k', aAppend Try.prog #[50, 50] #[.slice (some ⟨b, 0, none⟩) 3 (capOpen + 1), v] k = some (v', k') ∧ Words k' v' (3 + len) (x :: y :: z :: zs.take len) ∧ k.size ≤ k'.size ∧ k'.ro = k.ro ∧ ∀ c, c < k.size → c ≠ b → k'.get c = k.get c := by
  obtain ⟨o, c, rfl, h1, h2, h3⟩ := w
  have hr : ∀ m : List Int, (∀ u ∈ m, 0 ≤ u ∧ u < 4294967296) → ∀ u ∈ x :: y :: z :: m, 0 ≤ u ∧ u < 4294967296 := by
    intro m hm u hu
    simp only [List.mem_cons] at hu
    rcases hu with rfl | rfl | rfl | hu
    · exact hx.1
    · exact hx.2.1
    · exact hx.2.2
    · exact hm u hu
  by_cases h0 : len = 0
  · subst h0
    have hf : aFirst 1 0 (.slice o 0 c) k = some #[] := by cases o <;> rfl
    refine ⟨_, _, append_nothing3 row50 text50 hg (by rfl) (by omega) (by omega) (by decide) rfl hf, ⟨_, _, rfl, by simp, hr _ (by simp), fun _ => ⟨b, true, rfl, hb, by simpa using hg⟩⟩, Nat.le_refl _, rfl, fun _ _ _ => rfl⟩
  · obtain ⟨bl, own, rfl, hbl, hgl⟩ := h3 (by omega)
    have hf : aFirst 1 len (.slice (some ⟨bl, 0, none⟩) len c) k = some ((zs.take len).map u32).toArray := by
      simp only [aFirst]
      rw [if_neg (by omega)]
      simp only [Hp.row, hgl]
      rw [if_pos (by simp; omega)]
      simp [List.map_take]
    have hS : SlAt b k (.slice (some ⟨b, 0, none⟩) 3 (capOpen + 1)) 1 [u32 x, u32 y, u32 z] := .inr ⟨b, 3, rfl, Nat.le_refl _, hb, rfl, by simpa using hg⟩
    obtain ⟨v', k', q1, q2, q3, q4, q5, q6⟩ := append_own row50 text50 hS hro (by omega) (m := len) (w := .slice (some ⟨bl, 0, none⟩) len c) rfl hf (by simp; omega) (by rw [List.all_eq_true]; intro y hy; rw [List.mem_map] at hy; obtain ⟨u, -, rfl⟩ := hy; rfl) (by omega) (by omega) (by simp; omega) (by simp [capOpen]; omega)
    have hl2 : (zs.take len).length = len := by simp; omega
    rcases q2 with ⟨_, e⟩ | ⟨b', n', rfl, g1, g2, g3, g4⟩
    · simp at e
    · have hn : n' = 3 + len := by
        simp only [List.length_append, List.length_cons, List.length_nil, Nat.mul_one, List.length_map, hl2] at g3
        omega
      subst hn
      refine ⟨_, _, q1, ⟨_, _, rfl, by simp; omega, hr _ fun u hu => h2 u (List.mem_of_mem_take hu), fun _ => ⟨b', true, rfl, g2, by rw [g4]; simp⟩⟩, by omega, q5, fun c hc hne => q6 c hc fun e => hne ?_⟩
      simp only [blkOf, Option.some.injEq] at e
      exact e.symm
set_option maxHeartbeats 2000000 in
theorem run10 (i o r c : Int) (hi : 0 ≤ i) (ho : 0 ≤ o) (hr : 0 ≤ r ∧ r < 4294967296) (hc : 0 ≤ c ∧ c < 4294967296) (v : Value) (len : Nat) (zs : List Int) (h : Hp) (hro : h.ro ≤ h.size) (w : Words h v len zs) : ∃ h', evalV Try.prog IN2 (2 + 1) (.fn 10) #[vN i o r c, v] h = some (.bool true, h') := by
  rw [evalV_call (P := Try.prog) (intr := IN2) (f := 10) (m := 40) (rs := #[.tmp 4]) rfl Try.func10 rfl rfl rfl]
  have c11 := fun n h => call11 (I := IN2) rfl (n := n) (h := h)
  have c30 := fun n h => call30 (I := IN2) rfl (n := n) (i := i) (o := o) (r := r) (c := c) (h := h)
  obtain ⟨ov, cv, rfl, -⟩ : ∃ ov cv, v = .slice ov len cv ∧ True := by obtain ⟨ov, cv, e, _⟩ := w; exact ⟨ov, cv, e, trivial⟩
  by_cases h100 : (100 : Int) < (len : Int)
  · simp only [evalC_skip, evalC_ret, evalC_exit, evalC_label, evalC_region, evalC_seq, evalC_block, evalC_cond, pickC_true, pickC_false,
    Kreg_ap, Kseq_normal, Kseq_ret, Kseq_exit, Kblock_normal, Kblock_ret, Kblock_exit, Kloop_normal, Kloop_ret, Kloop_exit, Kret_normal, Kret_ret,
    evalOps_nil, evalOps_cons, evalOps_guard, Kops_some, put_some, put_none, eval_tmp, eval_const, eval_func, eval_global, liftP_some,
    op_move, op_assign, op_pick, op_bin, op_un, op_convert, op_fieldAddr, op_field, op_indexAddr, op_index, op_extract, op_build, op_nilCheck, op_makeFunc,
    op_load, op_store, op_alloc, op_box, op_buildSlice, op_makeSlice, op_slice, op_call, op_append, op_copy, op_clear, op_lenS, op_lenT, lenS_slice, lenT_string, op_max, op_min, loadV_ptr, storeV_ptr, putU_some, pickV_bool, idxA_int, idxV_int, nilV_ptr, nilV_func, nilV_yield,
    bin_add, bin_sub, bin_mul, bin_and, bin_or, bin_xor, bin_andNot, bin_eql, bin_neq, bin_lss, bin_leq, bin_gtr, bin_geq, un_not, un_neg, max2_val, max3_val, min2_val,
    cells_int, cells_bool, cells_agg, cells_pointer, cells_slice, cells_string, field_val, extract_val, indexAt_slice, indexAt_arr, fieldAt_val, loadVar_val, storeVar_val, alloc_val, pickPart_agg, pickPart_one,
    get_push_self, get_set_self, Hp.get_push, Hp.get_setB, Nat.add_left_cancel_iff, Nat.reduceEqDiff, Nat.add_eq_left, Nat.left_eq_add, Nat.one_ne_zero, Nat.add_assoc, getD_lit, finR_one, finR_two, finR_zero, aResult_tmp, aResult_cell, target_val, target_yield, yielded, gtt, gtf, gft, gff, gnt, gnf, oneC_int, oneC_bool, oneC_ptr, oneC_slice, oneC_string, oneC_func, splice_nil, splice_cons, List.extract_toArray, List.extract_eq_take_drop, List.drop_zero, List.drop_succ_cons, List.take_succ_cons, List.take_zero, List.take_nil, List.all_cons, List.all_nil, Nat.reduceLeDiff, Nat.le_refl, true_and, and_true, and_self, Hp.cell, Hp.row, Hp.wr, Hp.size_push, Hp.size_setB, Hp.ro_push, Hp.ro_setB,
    List.getD_cons_zero, List.getD_cons_succ, List.setIfInBounds_toArray, List.set_cons_zero, List.set_cons_succ, List.map_toArray, List.map_cons, List.map_nil, List.getElem?_toArray,
    List.getElem?_cons_zero, List.getElem?_cons_succ, List.size_toArray, List.length_cons, List.length_nil, List.append_toArray, List.cons_append, List.nil_append, List.append_nil,
    List.replicate_succ, List.replicate_zero, replicate_arr, Nat.reduceAdd, Nat.reduceSub, Nat.reduceMul, Option.map_some, Option.isSome_some, Option.getD_some, Option.bind_some, Nat.zero_add, Nat.add_zero,
    if_true, if_false, ite_true, ite_false, ↓reduceIte, Bool.false_eq_true, decide_true, decide_false, Bool.not_true, Bool.not_false, beq_self_eq_true, Bool.and_true, Bool.true_and, Bool.and_false, Bool.false_and, KD0_some, KD1_some, KD2_some, KDT_none, KDT_some, putU_none, liftP_none, le_self_f, false_and, and_false, evalDM_nil, evalDM_0, evalDM_1, evalDM_t, evalDM_2, evalDM_g0, evalDM_g1, evalDM_gt, evalDM_g2, vb_int, vb_bool, vb_string, vb_nil, vb_undef, vb_nilSlice, vb_nilMap, vb_map, vb_ptr, vb_slice, vb_func, vb_agg, vb_tuple, all_lit, all_litn, allow_nil, allow_cons,
    flatB_int, flatB_bool, flatB_string, flatB_nil, flatB_undef, flatB_ptr, flatB_slice, flatB_nilSlice, flatB_map, flatB_func, view_size, view_ro, view_nil, view_cons, more_view, more_push, keepBlk_cells, zip_cons, zip_nil, toList_lit,
    keepR, Nat.add_sub_cancel_left, tb, Nat.reduceDiv, Nat.reduceMod, Nat.reducePow, Bool.or_true, Bool.true_or, Bool.or_false, Bool.false_or, Nat.add_lt_add_iff_left, Nat.add_le_add_iff_left, Nat.reduceLT, Nat.le_add_right, Nat.lt_add_right_iff_pos, Nat.zero_lt_succ, Nat.reduceLeDiff, Nat.lt_irrefl, decide_not, bin_eqb, bin_neb, bin_eqnp, bin_nenp, bin_eqns, bin_nens, Option.isNone_some, Option.isNone_none, nc0, nc1, nc2, nc3, nc4, evalC_drawn, Int.reduceEq, Int.reduceNe, Int.reduceLT, Int.reduceLE, Int.reduceToNat, Nat.reduceEqDiff, eq_self, List.getElem?_toArray, hasBx11, hasBx12, hasBx13, hasBx14, hasBx15, hasBx16, hasBx17, hasBx18, hasBx19, hasBx20, hasBx21, hasBx22, hasBx23, hasBx24, hasBx25, hasBx26, hasBx27, hasBx28, hasBx29, hasBx30, hasBx31, hasBx32, hasBx33, hasBx34, hasBx35, hasBx36, hasBx37, hasBx38, hasBx39, hasBx40, hasBx41, hasBx42, tBoolx4, tElemx40, tElemx41, tElemx42, tElemx50, tFieldAx33x0, tFieldAx33x1, tFieldAx33x2, tFieldAx44x0, tFieldAx44x1, tFieldAx46x0, tFieldAx46x1, tFieldAx49x0, tFieldAx49x1, tFieldAx49x2, tFieldAx49x3, tIntx5x3, tLenx40, tLenx41, tLenx42, tLenx50, tPartx3, tPartx22, tPartx31, tPartx33, tPartx44, tPartx46, tPartx49, tRowx41, tRowx42, tRowx50, tSizex31, tSizex33, tSizex44, tSizex46, tSizex49, tZerox33, tZerox44, tZerox46, tZerox49, c11, h100]
    exact ⟨_, rfl⟩
  cases hrt : rightF i o r c
  · simp only [hrt, encR, Bool.false_eq_true, if_false] at c30
    simp only [evalC_skip, evalC_ret, evalC_exit, evalC_label, evalC_region, evalC_seq, evalC_block, evalC_cond, pickC_true, pickC_false,
    Kreg_ap, Kseq_normal, Kseq_ret, Kseq_exit, Kblock_normal, Kblock_ret, Kblock_exit, Kloop_normal, Kloop_ret, Kloop_exit, Kret_normal, Kret_ret,
    evalOps_nil, evalOps_cons, evalOps_guard, Kops_some, put_some, put_none, eval_tmp, eval_const, eval_func, eval_global, liftP_some,
    op_move, op_assign, op_pick, op_bin, op_un, op_convert, op_fieldAddr, op_field, op_indexAddr, op_index, op_extract, op_build, op_nilCheck, op_makeFunc,
    op_load, op_store, op_alloc, op_box, op_buildSlice, op_makeSlice, op_slice, op_call, op_append, op_copy, op_clear, op_lenS, op_lenT, lenS_slice, lenT_string, op_max, op_min, loadV_ptr, storeV_ptr, putU_some, pickV_bool, idxA_int, idxV_int, nilV_ptr, nilV_func, nilV_yield,
    bin_add, bin_sub, bin_mul, bin_and, bin_or, bin_xor, bin_andNot, bin_eql, bin_neq, bin_lss, bin_leq, bin_gtr, bin_geq, un_not, un_neg, max2_val, max3_val, min2_val,
    cells_int, cells_bool, cells_agg, cells_pointer, cells_slice, cells_string, field_val, extract_val, indexAt_slice, indexAt_arr, fieldAt_val, loadVar_val, storeVar_val, alloc_val, pickPart_agg, pickPart_one,
    get_push_self, get_set_self, Hp.get_push, Hp.get_setB, Nat.add_left_cancel_iff, Nat.reduceEqDiff, Nat.add_eq_left, Nat.left_eq_add, Nat.one_ne_zero, Nat.add_assoc, getD_lit, finR_one, finR_two, finR_zero, aResult_tmp, aResult_cell, target_val, target_yield, yielded, gtt, gtf, gft, gff, gnt, gnf, oneC_int, oneC_bool, oneC_ptr, oneC_slice, oneC_string, oneC_func, splice_nil, splice_cons, List.extract_toArray, List.extract_eq_take_drop, List.drop_zero, List.drop_succ_cons, List.take_succ_cons, List.take_zero, List.take_nil, List.all_cons, List.all_nil, Nat.reduceLeDiff, Nat.le_refl, true_and, and_true, and_self, Hp.cell, Hp.row, Hp.wr, Hp.size_push, Hp.size_setB, Hp.ro_push, Hp.ro_setB,
    List.getD_cons_zero, List.getD_cons_succ, List.setIfInBounds_toArray, List.set_cons_zero, List.set_cons_succ, List.map_toArray, List.map_cons, List.map_nil, List.getElem?_toArray,
    List.getElem?_cons_zero, List.getElem?_cons_succ, List.size_toArray, List.length_cons, List.length_nil, List.append_toArray, List.cons_append, List.nil_append, List.append_nil,
    List.replicate_succ, List.replicate_zero, replicate_arr, Nat.reduceAdd, Nat.reduceSub, Nat.reduceMul, Option.map_some, Option.isSome_some, Option.getD_some, Option.bind_some, Nat.zero_add, Nat.add_zero,
    if_true, if_false, ite_true, ite_false, ↓reduceIte, Bool.false_eq_true, decide_true, decide_false, Bool.not_true, Bool.not_false, beq_self_eq_true, Bool.and_true, Bool.true_and, Bool.and_false, Bool.false_and, KD0_some, KD1_some, KD2_some, KDT_none, KDT_some, putU_none, liftP_none, le_self_f, false_and, and_false, evalDM_nil, evalDM_0, evalDM_1, evalDM_t, evalDM_2, evalDM_g0, evalDM_g1, evalDM_gt, evalDM_g2, vb_int, vb_bool, vb_string, vb_nil, vb_undef, vb_nilSlice, vb_nilMap, vb_map, vb_ptr, vb_slice, vb_func, vb_agg, vb_tuple, all_lit, all_litn, allow_nil, allow_cons,
    flatB_int, flatB_bool, flatB_string, flatB_nil, flatB_undef, flatB_ptr, flatB_slice, flatB_nilSlice, flatB_map, flatB_func, view_size, view_ro, view_nil, view_cons, more_view, more_push, keepBlk_cells, zip_cons, zip_nil, toList_lit,
    keepR, Nat.add_sub_cancel_left, tb, Nat.reduceDiv, Nat.reduceMod, Nat.reducePow, Bool.or_true, Bool.true_or, Bool.or_false, Bool.false_or, Nat.add_lt_add_iff_left, Nat.add_le_add_iff_left, Nat.reduceLT, Nat.le_add_right, Nat.lt_add_right_iff_pos, Nat.zero_lt_succ, Nat.reduceLeDiff, Nat.lt_irrefl, decide_not, bin_eqb, bin_neb, bin_eqnp, bin_nenp, bin_eqns, bin_nens, Option.isNone_some, Option.isNone_none, nc0, nc1, nc2, nc3, nc4, evalC_drawn, Int.reduceEq, Int.reduceNe, Int.reduceLT, Int.reduceLE, Int.reduceToNat, Nat.reduceEqDiff, eq_self, List.getElem?_toArray, hasBx11, hasBx12, hasBx13, hasBx14, hasBx15, hasBx16, hasBx17, hasBx18, hasBx19, hasBx20, hasBx21, hasBx22, hasBx23, hasBx24, hasBx25, hasBx26, hasBx27, hasBx28, hasBx29, hasBx30, hasBx31, hasBx32, hasBx33, hasBx34, hasBx35, hasBx36, hasBx37, hasBx38, hasBx39, hasBx40, hasBx41, hasBx42, tBoolx4, tElemx40, tElemx41, tElemx42, tElemx50, tFieldAx33x0, tFieldAx33x1, tFieldAx33x2, tFieldAx44x0, tFieldAx44x1, tFieldAx46x0, tFieldAx46x1, tFieldAx49x0, tFieldAx49x1, tFieldAx49x2, tFieldAx49x3, tIntx5x3, tLenx40, tLenx41, tLenx42, tLenx50, tPartx3, tPartx22, tPartx31, tPartx33, tPartx44, tPartx46, tPartx49, tRowx41, tRowx42, tRowx50, tSizex31, tSizex33, tSizex44, tSizex46, tSizex49, tZerox33, tZerox44, tZerox46, tZerox49, c11, h100, c30]
    exact ⟨_, rfl⟩
  have hw := right_in hrt
  obtain ⟨e1, e2⟩ := word_eq i o hi (by omega) ho hw.2
  simp only [hrt, encR, if_true, e1] at c30
  -- the words, copied, and more
  have w0 : Words ((((h.push (some (.cells #[u32 i, u32 o, u32 r, u32 c] true))).push (some (.cells #[u32 i, u32 o, u32 r, u32 c] true))).push (some (.cells #[u32 (o * 65536 + i), u32 r, u32 c] true))).push (some (.cells #[] true))) (.slice (some ⟨h.size + 2, 0, none⟩) 3 3) 3 [o * 65536 + i, r, c] :=
    ⟨_, _, rfl, by simp, by simp; omega, fun _ => ⟨h.size + 2, true, rfl, by simp, by rw [get_push_ne (by simp only [Hp.size_push]; omega), Hp.get_push, if_pos (by simp only [Hp.size_push])]; rfl⟩⟩
  obtain ⟨v1, k1, ek1, wk1, hs1, hr1, hg1, b1, c1, rfl, hb1⟩ := copyW (b := h.size + 3) w0 (by simp) (by simp [Hp.get_push]) (by omega)
  simp only [Hp.size_push, Hp.ro_push] at hs1 hr1 hg1
  obtain ⟨rfl, hb2, hb3⟩ : c1 = capOpen + 1 ∧ b1 + 1 = k1.size ∧ k1.get b1 = some (.cells (([o * 65536 + i, r, c].take 3).map u32).toArray true) := by
    rcases hb1 with ⟨_, e⟩ | hb1
    · cases e
    · exact hb1
  have k0 : k1.get h.size = some (.cells #[u32 i, u32 o, u32 r, u32 c] true) := by
    rw [hg1 _ (by omega), get_push_ne (by simp only [Hp.size_push]; omega), get_push_ne (by simp only [Hp.size_push]; omega), get_push_ne (by simp only [Hp.size_push]; omega), get_push_self]
  have wk : Words k1 (.slice ov len cv) len zs := w.mono (by omega) fun b hb => by
    rw [hg1 b (by omega), get_push_ne (by simp; omega), get_push_ne (by simp; omega), get_push_ne (by simp; omega), get_push_ne (by omega)]
  obtain ⟨v2, k2, ek2, wk2, hs2, hr2, hg2⟩ := moreW (b := b1) (x := o * 65536 + i) (y := r) (z := c) wk (by omega) (by simpa using hb3) (by omega) (by omega) ⟨by omega, hr, hc⟩
  have k20 : k2.get h.size = some (.cells #[u32 i, u32 o, u32 r, u32 c] true) := by rw [hg2 _ (by omega) (by omega)]; exact k0
  have c28 := fun n => call28 (I := IN2) rfl (n := n) wk2
  have d1 : (o * 65536 + i) % 65536 = i := by omega
  have d2 : (o * 65536 + i) / 65536 = o := by omega
  have hd : decV (3 + len) ((o * 65536 + i) :: r :: c :: zs.take len) = .tuple #[vN i o r c, .int .i64 0] := by
    unfold decV
    rw [if_neg (by omega)]
    simp only [List.getD_cons_zero, List.getD_cons_succ, d1, d2, hrt, if_true]
  rw [hd] at c28
  have q0 : (h.size = k2.size) = False := by simp; omega
  have q2 : (k2.ro ≤ k2.size) = True := by simp; omega
  have eqn := (eq49 i o r c i o r c).1
  simp only [evalC_skip, evalC_ret, evalC_exit, evalC_label, evalC_region, evalC_seq, evalC_block, evalC_cond, pickC_true, pickC_false,
    Kreg_ap, Kseq_normal, Kseq_ret, Kseq_exit, Kblock_normal, Kblock_ret, Kblock_exit, Kloop_normal, Kloop_ret, Kloop_exit, Kret_normal, Kret_ret,
    evalOps_nil, evalOps_cons, evalOps_guard, Kops_some, put_some, put_none, eval_tmp, eval_const, eval_func, eval_global, liftP_some,
    op_move, op_assign, op_pick, op_bin, op_un, op_convert, op_fieldAddr, op_field, op_indexAddr, op_index, op_extract, op_build, op_nilCheck, op_makeFunc,
    op_load, op_store, op_alloc, op_box, op_buildSlice, op_makeSlice, op_slice, op_call, op_append, op_copy, op_clear, op_lenS, op_lenT, lenS_slice, lenT_string, op_max, op_min, loadV_ptr, storeV_ptr, putU_some, pickV_bool, idxA_int, idxV_int, nilV_ptr, nilV_func, nilV_yield,
    bin_add, bin_sub, bin_mul, bin_and, bin_or, bin_xor, bin_andNot, bin_eql, bin_neq, bin_lss, bin_leq, bin_gtr, bin_geq, un_not, un_neg, max2_val, max3_val, min2_val,
    cells_int, cells_bool, cells_agg, cells_pointer, cells_slice, cells_string, field_val, extract_val, indexAt_slice, indexAt_arr, fieldAt_val, loadVar_val, storeVar_val, alloc_val, pickPart_agg, pickPart_one,
    get_push_self, get_set_self, Hp.get_push, Hp.get_setB, Nat.add_left_cancel_iff, Nat.reduceEqDiff, Nat.add_eq_left, Nat.left_eq_add, Nat.one_ne_zero, Nat.add_assoc, getD_lit, finR_one, finR_two, finR_zero, aResult_tmp, aResult_cell, target_val, target_yield, yielded, gtt, gtf, gft, gff, gnt, gnf, oneC_int, oneC_bool, oneC_ptr, oneC_slice, oneC_string, oneC_func, splice_nil, splice_cons, List.extract_toArray, List.extract_eq_take_drop, List.drop_zero, List.drop_succ_cons, List.take_succ_cons, List.take_zero, List.take_nil, List.all_cons, List.all_nil, Nat.reduceLeDiff, Nat.le_refl, true_and, and_true, and_self, Hp.cell, Hp.row, Hp.wr, Hp.size_push, Hp.size_setB, Hp.ro_push, Hp.ro_setB,
    List.getD_cons_zero, List.getD_cons_succ, List.setIfInBounds_toArray, List.set_cons_zero, List.set_cons_succ, List.map_toArray, List.map_cons, List.map_nil, List.getElem?_toArray,
    List.getElem?_cons_zero, List.getElem?_cons_succ, List.size_toArray, List.length_cons, List.length_nil, List.append_toArray, List.cons_append, List.nil_append, List.append_nil,
    List.replicate_succ, List.replicate_zero, replicate_arr, Nat.reduceAdd, Nat.reduceSub, Nat.reduceMul, Option.map_some, Option.isSome_some, Option.getD_some, Option.bind_some, Nat.zero_add, Nat.add_zero,
    if_true, if_false, ite_true, ite_false, ↓reduceIte, Bool.false_eq_true, decide_true, decide_false, Bool.not_true, Bool.not_false, beq_self_eq_true, Bool.and_true, Bool.true_and, Bool.and_false, Bool.false_and, KD0_some, KD1_some, KD2_some, KDT_none, KDT_some, putU_none, liftP_none, le_self_f, false_and, and_false, evalDM_nil, evalDM_0, evalDM_1, evalDM_t, evalDM_2, evalDM_g0, evalDM_g1, evalDM_gt, evalDM_g2, vb_int, vb_bool, vb_string, vb_nil, vb_undef, vb_nilSlice, vb_nilMap, vb_map, vb_ptr, vb_slice, vb_func, vb_agg, vb_tuple, all_lit, all_litn, allow_nil, allow_cons,
    flatB_int, flatB_bool, flatB_string, flatB_nil, flatB_undef, flatB_ptr, flatB_slice, flatB_nilSlice, flatB_map, flatB_func, view_size, view_ro, view_nil, view_cons, more_view, more_push, keepBlk_cells, zip_cons, zip_nil, toList_lit,
    keepR, Nat.add_sub_cancel_left, tb, Nat.reduceDiv, Nat.reduceMod, Nat.reducePow, Bool.or_true, Bool.true_or, Bool.or_false, Bool.false_or, Nat.add_lt_add_iff_left, Nat.add_le_add_iff_left, Nat.reduceLT, Nat.le_add_right, Nat.lt_add_right_iff_pos, Nat.zero_lt_succ, Nat.reduceLeDiff, Nat.lt_irrefl, decide_not, bin_eqb, bin_neb, bin_eqnp, bin_nenp, bin_eqns, bin_nens, Option.isNone_some, Option.isNone_none, nc0, nc1, nc2, nc3, nc4, evalC_drawn, Int.reduceEq, Int.reduceNe, Int.reduceLT, Int.reduceLE, Int.reduceToNat, Nat.reduceEqDiff, eq_self, List.getElem?_toArray, hasBx11, hasBx12, hasBx13, hasBx14, hasBx15, hasBx16, hasBx17, hasBx18, hasBx19, hasBx20, hasBx21, hasBx22, hasBx23, hasBx24, hasBx25, hasBx26, hasBx27, hasBx28, hasBx29, hasBx30, hasBx31, hasBx32, hasBx33, hasBx34, hasBx35, hasBx36, hasBx37, hasBx38, hasBx39, hasBx40, hasBx41, hasBx42, tBoolx4, tElemx40, tElemx41, tElemx42, tElemx50, tFieldAx33x0, tFieldAx33x1, tFieldAx33x2, tFieldAx44x0, tFieldAx44x1, tFieldAx46x0, tFieldAx46x1, tFieldAx49x0, tFieldAx49x1, tFieldAx49x2, tFieldAx49x3, tIntx5x3, tLenx40, tLenx41, tLenx42, tLenx50, tPartx3, tPartx22, tPartx31, tPartx33, tPartx44, tPartx46, tPartx49, tRowx41, tRowx42, tRowx50, tSizex31, tSizex33, tSizex44, tSizex46, tSizex49, tZerox33, tZerox44, tZerox46, tZerox49, c11, h100, c30, lit50z, ek1, ek2, c28, k20, q0, q2, eqn]
  exact ⟨_, rfl⟩
end Go.Abs.A1
