/- The law LeaseDoes, run: it gives true. -/
import Derived.Test.YtgdbkohmdflckaaLa5
namespace Go.Abs.A1
open Go.Proofs
set_option maxRecDepth 10000
set_option linter.all false
theorem wrap_u64 (x : Int) : IntKind.u64.wrap x = x % 18446744073709551616 := by simp [IntKind.wrap, IntKind.bits, IntKind.signed]
theorem f22_eq (a b c : Int) : f22 a b c = f23 a b c := by
  unfold f22 f23 f39
  rw [f18_eq]
  cases f19 a b c
  · simp
  · by_cases h : 4611686018427387804 < a <;> simp [h]
theorem f24_eq (a b c : Int) (h0 : 0 ≤ a) : f24 a b c = f25 a b c := by
  unfold f24 f25 f39
  rw [f18_eq]
  cases f19 a b c
  · simp
  · by_cases h : 4611686018427387804 < a
    · simp [h]
    · simp only [h, if_true, if_false, wrap_u64]
      simp only [Prod.mk.injEq, true_and, and_true]
      split <;> omega
theorem f26_eq (a b c s : Int) (h0 : 0 ≤ a) (h1 : 0 ≤ s) : f26 a b c s = f27 a b c s := by
  unfold f26 f27 f39
  rw [f18_eq]
  cases f19 a b c
  · simp
  · by_cases h : 4611686018427387804 < a
    · simp [h]
    · by_cases h2 : a < s
      · simp [h, h2]
      · simp only [h, h2, if_true, if_false, wrap_u64]
        simp only [Prod.mk.injEq, true_and, and_true]
        split <;> omega

theorem run6 (a b c s : Int) (h0 : 0 ≤ a) (h1 : 0 ≤ s) (h : Hp) (hro : h.ro ≤ h.size) : ∃ h', evalV Try.prog I3 (2 + 1) (.fn 6) #[vL a b c, .int .u64 s] h = some (.bool true, h') := by
  rw [evalV_call (P := Try.prog) (intr := I3) (f := 6) (m := 79) (rs := #[.tmp 4]) rfl Try.func6 rfl rfl rfl]
  have c17 := fun n h => call17 (I := I3) rfl (n := n) (h := h)
  have c22 := fun n h => call22 (I := I3) rfl (n := n) (a := a) (b := b) (c := c) (h := h)
  have c23 := fun n h => call23 (I := I3) rfl (n := n) (a := a) (b := b) (c := c) (h := h)
  have c24 := fun n h => call24 (I := I3) rfl (n := n) (a := a) (b := b) (c := c) (h := h)
  have c25 := fun n h => call25 (I := I3) rfl (n := n) (a := a) (b := b) (c := c) (h := h)
  have c26 := fun n h => call26 (I := I3) rfl (n := n) (a := a) (b := b) (c := c) (s := s) (h := h)
  have c27 := fun n h => call27 (I := I3) rfl (n := n) (a := a) (b := b) (c := c) (s := s) (h := h)
  simp only [f22_eq] at c22
  simp only [f24_eq a b c h0] at c24
  simp only [f26_eq a b c s h0 h1] at c26
  generalize f23 a b c = x at c22 c23
  generalize f25 a b c = y at c24 c25
  generalize f27 a b c s = z at c26 c27
  obtain ⟨x1, x2, x3, x4⟩ := x
  obtain ⟨y1, y2, y3, y4⟩ := y
  obtain ⟨z1, z2, z3, z4⟩ := z
  simp only [vE] at c22 c23 c24 c25 c26 c27
  simp only [evalC_skip, evalC_ret, evalC_exit, evalC_label, evalC_region, evalC_seq, evalC_block, evalC_cond, pickC_true, pickC_false,
    Kreg_ap, Kseq_normal, Kseq_ret, Kseq_exit, Kblock_normal, Kblock_ret, Kblock_exit, Kloop_normal, Kloop_ret, Kloop_exit, Kret_normal, Kret_ret,
    evalOps_nil, evalOps_cons, evalOps_guard, Kops_some, put_some, put_none, eval_tmp, eval_const, eval_func, eval_global, liftP_some,
    op_move, op_assign, op_pick, op_bin, op_un, op_convert, op_fieldAddr, op_field, op_indexAddr, op_index, op_extract, op_build, op_nilCheck, op_makeFunc,
    op_load, op_store, op_alloc, op_box, op_buildSlice, op_makeSlice, op_slice, op_call, op_append, op_copy, op_clear, op_lenS, op_lenT, lenS_slice, lenT_string, op_max, op_min, loadV_ptr, storeV_ptr, putU_some, pickV_bool, idxA_int, idxV_int, nilV_ptr, nilV_func, nilV_yield,
    bin_add, bin_sub, bin_mul, bin_and, bin_or, bin_xor, bin_andNot, bin_eql, bin_neq, bin_lss, bin_leq, bin_gtr, bin_geq, un_not, un_neg, max2_val, max3_val, min2_val,
    cells_int, cells_bool, cells_agg, cells_pointer, cells_slice, cells_string, field_val, extract_val, indexAt_slice, indexAt_arr, fieldAt_val, loadVar_val, storeVar_val, alloc_val, pickPart_agg, pickPart_one,
    get_push_self, get_set_self, Hp.get_push, Hp.get_setB, Nat.add_left_cancel_iff, Nat.reduceEqDiff, Nat.add_eq_left, Nat.left_eq_add, Nat.one_ne_zero, Nat.add_assoc, getD_lit, finR_one, finR_two, finR_zero, aResult_tmp, aResult_cell, target_val, target_yield, yielded, gtt, gtf, gft, gff, gnt, gnf, oneC_int, oneC_bool, oneC_ptr, oneC_slice, oneC_string, oneC_func, splice_nil, splice_cons, List.extract_toArray, List.extract_eq_take_drop, List.drop_zero, List.drop_succ_cons, List.take_succ_cons, List.take_zero, List.take_nil, List.all_cons, List.all_nil, Nat.reduceLeDiff, Nat.le_refl, true_and, and_true, and_self, Hp.cell, Hp.row, Hp.wr, Hp.size_push, Hp.size_setB, Hp.ro_push, Hp.ro_setB,
    List.getD_cons_zero, List.getD_cons_succ, List.setIfInBounds_toArray, List.set_cons_zero, List.set_cons_succ, List.map_toArray, List.map_cons, List.map_nil, List.getElem?_toArray,
    List.getElem?_cons_zero, List.getElem?_cons_succ, List.size_toArray, List.length_cons, List.length_nil, List.append_toArray, List.cons_append, List.nil_append, List.append_nil,
    List.replicate_succ, List.replicate_zero, replicate_arr, Nat.reduceAdd, Nat.reduceSub, Nat.reduceMul, Option.map_some, Option.isSome_some, Option.getD_some, Option.bind_some, Nat.zero_add, Nat.add_zero,
    if_true, if_false, ite_true, ite_false, ↓reduceIte, Bool.false_eq_true, decide_true, decide_false, Bool.not_true, Bool.not_false, beq_self_eq_true, Bool.and_true, Bool.true_and, Bool.and_false, Bool.false_and, KD0_some, KD1_some, KD2_some, evalDM_nil, evalDM_0, evalDM_1, evalDM_2, evalDM_g0, evalDM_g1, evalDM_g2, vb_int, vb_bool, vb_string, vb_nil, vb_undef, vb_nilSlice, vb_nilMap, vb_map, vb_ptr, vb_slice, vb_func, vb_agg, vb_tuple, all_lit, all_litn, allow_nil, allow_cons,
    flatB_int, flatB_bool, flatB_string, flatB_nil, flatB_undef, flatB_ptr, flatB_slice, flatB_nilSlice, flatB_map, flatB_func, view_size, view_ro, view_nil, view_cons, more_view, more_push, keepBlk_cells, zip_cons, zip_nil, toList_lit,
    keepR_same, keepR_add, Nat.add_sub_cancel_left, tb, Nat.reduceDiv, Nat.reduceMod, Nat.reducePow, Bool.or_true, Bool.true_or, Bool.or_false, Bool.false_or, Nat.add_lt_add_iff_left, Nat.add_le_add_iff_left, Nat.reduceLT, Nat.le_add_right, Nat.lt_add_right_iff_pos, Nat.zero_lt_succ, Nat.reduceLeDiff, Nat.lt_irrefl, decide_not, bin_eqb, bin_neb, bin_eqnp, bin_nenp, bin_eqns, bin_nens, Option.isNone_some, Option.isNone_none, evalC_drawn, Int.reduceEq, Int.reduceNe, Int.reduceLT, Int.reduceLE, Int.reduceToNat, Nat.reduceEqDiff, eq_self, List.getElem?_toArray, hasBx11, hasBx12, hasBx13, hasBx14, hasBx15, hasBx16, hasBx17, hasBx18, hasBx19, hasBx20, hasBx21, hasBx22, hasBx23, hasBx24, hasBx25, hasBx26, hasBx27, hasBx28, hasBx29, hasBx30, hasBx31, hasBx32, hasBx33, hasBx34, hasBx35, hasBx36, hasBx37, hasBx38, hasBx39, hasBx40, hasBx41, hasBx42, tBoolx4, tElemx40, tElemx41, tElemx42, tElemx50, tFieldAx33x0, tFieldAx33x1, tFieldAx33x2, tFieldAx44x0, tFieldAx44x1, tFieldAx46x0, tFieldAx46x1, tFieldAx49x0, tFieldAx49x1, tFieldAx49x2, tFieldAx49x3, tIntx5x3, tLenx40, tLenx41, tLenx42, tLenx50, tPartx3, tPartx22, tPartx31, tPartx33, tPartx44, tPartx46, tPartx49, tRowx41, tRowx42, tRowx50, tSizex31, tSizex33, tSizex44, tSizex46, tSizex49, tZerox33, tZerox44, tZerox46, tZerox49, c17, c22, c23, c24, c25, c26, c27, eq33, hro, ro_le hro]
  exact ⟨_, rfl⟩
end Go.Abs.A1
