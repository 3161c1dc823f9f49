/- Ranks; the layer is awake. -/
import Derived.Test.YtgdbkohmdflckaaDoorDa4
namespace Go.Abs.A1d
open Go.Proofs
set_option maxRecDepth 10000
set_option linter.all false
theorem call19 {I : Intr} (hI : I 19 = some g19) {n : Nat} {s : Int} {h : Hp} (hs : 0 ≤ s ∧ s < 4294967296) : evalV Tryd.prog I (n + 1) (.fn 19) #[.int .u32 s] h = some (.int .i64 ((popN s.toNat 32 : Nat) : Int), h) := by
  rw [evalV_intr hI]
  simp [g19, gOf, Dec1.cons, Dec1.sub, Dec1.int, Dec.nil, hs]
def TS2 : List (FuncId × (Array Value → Hp → Option (Value × Hp))) := [(19, g19)]
abbrev IS2 : Intr := fun f => TS2.lookup f
theorem okS2 : IntrOk Tryd.prog (CKb Tryd.prog) IS2 := Con.table fun x hx => by
  simp only [TS2, List.mem_cons, List.not_mem_nil, or_false] at hx
  rcases hx with rfl
  · exact con19
theorem and_low {N b : Nat} (hb : b < 32) : ibAnd .u32 (N : Int) (IntKind.u32.wrap (((2 ^ b : Nat) : Int) - 1)) = ((N % 2 ^ b : Nat) : Int) := by
  have h1 : (2 : Nat) ^ b < 2 ^ 32 := Nat.pow_lt_pow_right (by decide) hb
  have h2 : 0 < (2 : Nat) ^ b := Nat.pow_pos (by decide)
  have h3 : ((2 ^ b : Nat) : Int) < 4294967296 := Int.ofNat_lt.2 (show 2 ^ b < 4294967296 from h1)
  have h4 : (0 : Int) < ((2 ^ b : Nat) : Int) := Int.ofNat_lt.2 h2
  rw [u32_in (by omega) (by omega)]
  unfold ibAnd
  have := mask_nat 32 b (N : Int) (by omega)
  have e : ((2 ^ b : Nat) : Int) = (2 : Int) ^ b := by simp
  have e2 : ((N : Int) % 2 ^ b).toNat = N % 2 ^ b := by rw [← e]; omega
  rw [e, show IntKind.u32.bits = 32 from rfl, this, e2]
  have : N % 2 ^ b < 2 ^ b := Nat.mod_lt _ h2
  rw [u32_in (by omega) (by omega)]
theorem con6 : Con Tryd.prog (CKb Tryd.prog) 6 gRank := by
  refine Con.flat base okS2 _ (fun a => by simp [flatB]) ?_
  rintro ⟨⟨s, hs⟩, b, -⟩ h hro
  refine ⟨2, ?_⟩
  show ∃ h', evalV Tryd.prog IS2 (1 + 1) (.fn 6) #[.int .u32 s, .int .i64 b] h = some (.int .i64 (rankF s b), h') ∧ _
  rw [evalV_call (P := Tryd.prog) (intr := IS2) (f := 6) (m := 19) (rs := #[.tmp 4]) rfl Tryd.func6 rfl rfl rfl]
  obtain ⟨N, rfl⟩ := Int.eq_ofNat_of_zero_le hs.1
  by_cases h1 : b ≤ 0
  · have e : rankF N b = 0 := by
      unfold rankF
      rw [show min b.toNat 32 = 0 by omega]; rfl
    simp only [evalC_skip, evalC_ret, evalC_exit, evalC_label, evalC_region, evalC_seq, evalC_block, evalC_cond, pickC_true, pickC_false,
    Kreg_ap, Kseq_normal, Kseq_ret, Kseq_exit, Kblock_normal, Kblock_ret, Kblock_exit, Kloop_normal, Kloop_ret, Kloop_exit, Kret_normal, Kret_ret,
    evalOps_nil, evalOps_cons, evalOps_guard, Kops_some, put_some, put_none, eval_tmp, eval_const, eval_func, eval_global, liftP_some,
    op_move, op_assign, op_pick, op_bin, op_un, op_convert, op_fieldAddr, op_field, op_indexAddr, op_index, op_extract, op_build, op_nilCheck, op_makeFunc,
    op_load, op_store, op_alloc, op_box, op_buildSlice, op_makeSlice, op_slice, op_call, op_append, op_copy, op_clear, op_lenS, op_lenT, lenS_slice, lenT_string, op_max, op_min, loadV_ptr, storeV_ptr, putU_some, pickV_bool, idxA_int, idxV_int, nilV_ptr, nilV_func, nilV_yield,
    bin_add, bin_sub, bin_mul, bin_and, bin_or, bin_xor, bin_andNot, bin_eql, bin_neq, bin_lss, bin_leq, bin_gtr, bin_geq, un_not, un_neg, max2_val, max3_val, min2_val,
    cells_int, cells_bool, cells_agg, cells_pointer, cells_slice, cells_string, field_val, extract_val, indexAt_slice, indexAt_arr, fieldAt_val, loadVar_val, storeVar_val, alloc_val, pickPart_agg, pickPart_one,
    get_push_self, get_set_self, Hp.get_push, Hp.get_setB, Nat.add_left_cancel_iff, Nat.reduceEqDiff, Nat.add_eq_left, Nat.left_eq_add, Nat.one_ne_zero, Nat.add_assoc, getD_lit, finR_one, finR_two, finR_zero, aResult_tmp, aResult_cell, target_val, target_yield, yielded, gtt, gtf, gft, gff, gnt, gnf, oneC_int, oneC_bool, oneC_ptr, oneC_slice, oneC_string, oneC_func, splice_nil, splice_cons, List.extract_toArray, List.extract_eq_take_drop, List.drop_zero, List.drop_succ_cons, List.take_succ_cons, List.take_zero, List.take_nil, List.all_cons, List.all_nil, Nat.reduceLeDiff, Nat.le_refl, true_and, and_true, and_self, Hp.cell, Hp.row, Hp.wr, Hp.size_push, Hp.size_setB, Hp.ro_push, Hp.ro_setB,
    List.getD_cons_zero, List.getD_cons_succ, List.setIfInBounds_toArray, List.set_cons_zero, List.set_cons_succ, List.map_toArray, List.map_cons, List.map_nil, List.getElem?_toArray,
    List.getElem?_cons_zero, List.getElem?_cons_succ, List.size_toArray, List.length_cons, List.length_nil, List.append_toArray, List.cons_append, List.nil_append, List.append_nil,
    List.replicate_succ, List.replicate_zero, replicate_arr, Nat.reduceAdd, Nat.reduceSub, Nat.reduceMul, Option.map_some, Option.isSome_some, Option.getD_some, Option.bind_some, Nat.zero_add, Nat.add_zero,
    if_true, if_false, ite_true, ite_false, ↓reduceIte, Bool.false_eq_true, decide_true, decide_false, Bool.not_true, Bool.not_false, beq_self_eq_true, Bool.and_true, Bool.true_and, Bool.and_false, Bool.false_and, KD0_some, KD1_some, KD2_some, KDT_none, KDT_some, putU_none, liftP_none, le_self_f, false_and, and_false, evalDM_nil, evalDM_0, evalDM_1, evalDM_t, evalDM_2, evalDM_g0, evalDM_g1, evalDM_gt, evalDM_g2, vb_int, vb_bool, vb_string, vb_nil, vb_undef, vb_nilSlice, vb_nilMap, vb_map, vb_ptr, vb_slice, vb_func, vb_agg, vb_tuple, all_lit, all_litn, allow_nil, allow_cons,
    flatB_int, flatB_bool, flatB_string, flatB_nil, flatB_undef, flatB_ptr, flatB_slice, flatB_nilSlice, flatB_map, flatB_func, view_size, view_ro, view_nil, view_cons, more_view, more_push, keepBlk_cells, zip_cons, zip_nil, toList_lit,
    keepR, Nat.add_sub_cancel_left, tb, Nat.reduceDiv, Nat.reduceMod, Nat.reducePow, Bool.or_true, Bool.true_or, Bool.or_false, Bool.false_or, Nat.add_lt_add_iff_left, Nat.add_le_add_iff_left, Nat.reduceLT, Nat.le_add_right, Nat.lt_add_right_iff_pos, Nat.zero_lt_succ, Nat.reduceLeDiff, Nat.lt_irrefl, decide_not, bin_eqb, bin_neb, bin_eqnp, bin_nenp, bin_eqns, bin_nens, Option.isNone_some, Option.isNone_none, nc0, nc1, nc2, nc3, nc4, evalC_drawn, Int.reduceEq, Int.reduceNe, Int.reduceLT, Int.reduceLE, Int.reduceToNat, Nat.reduceEqDiff, eq_self, List.getElem?_toArray, hasBx5, hasBx6, hasBx7, hasBx8, hasBx9, hasBx10, hasBx11, hasBx12, hasBx13, hasBx14, hasBx15, hasBx16, hasBx17, hasBx18, hasBx19, hasBx20, hasBx21, hasBx22, hasBx23, hasBx24, tArrx49, tBoolx4, tElemx29, tElemx31, tFieldAx36x0, tFieldAx36x1, tFieldAx36x2, tFieldAx36x3, tIntx5x3, tLenx29, tLenx31, tPartx3, tPartx5, tPartx22, tPartx29, tPartx36, tRowx29, tRowx31, tSizex22, tSizex29, tZerox29, h1, e]
    exact ⟨_, rfl, (Keeps.get (by repeat (first | exact Keeps.refl _ | refine Keeps.push ?_ _ | refine Keeps.set ?_ (by first | omega | (simp only [Hp.size_push, Hp.size_setB]; omega)) _)))⟩
  by_cases h2 : 32 ≤ b
  · have c19 := fun n h => call19 (I := IS2) rfl (n := n) (h := h) hs
    have e : rankF N b = ((popN N 32 : Nat) : Int) := by
      unfold rankF
      rw [show min b.toNat 32 = 32 by omega]; rfl
    simp only [evalC_skip, evalC_ret, evalC_exit, evalC_label, evalC_region, evalC_seq, evalC_block, evalC_cond, pickC_true, pickC_false,
    Kreg_ap, Kseq_normal, Kseq_ret, Kseq_exit, Kblock_normal, Kblock_ret, Kblock_exit, Kloop_normal, Kloop_ret, Kloop_exit, Kret_normal, Kret_ret,
    evalOps_nil, evalOps_cons, evalOps_guard, Kops_some, put_some, put_none, eval_tmp, eval_const, eval_func, eval_global, liftP_some,
    op_move, op_assign, op_pick, op_bin, op_un, op_convert, op_fieldAddr, op_field, op_indexAddr, op_index, op_extract, op_build, op_nilCheck, op_makeFunc,
    op_load, op_store, op_alloc, op_box, op_buildSlice, op_makeSlice, op_slice, op_call, op_append, op_copy, op_clear, op_lenS, op_lenT, lenS_slice, lenT_string, op_max, op_min, loadV_ptr, storeV_ptr, putU_some, pickV_bool, idxA_int, idxV_int, nilV_ptr, nilV_func, nilV_yield,
    bin_add, bin_sub, bin_mul, bin_and, bin_or, bin_xor, bin_andNot, bin_eql, bin_neq, bin_lss, bin_leq, bin_gtr, bin_geq, un_not, un_neg, max2_val, max3_val, min2_val,
    cells_int, cells_bool, cells_agg, cells_pointer, cells_slice, cells_string, field_val, extract_val, indexAt_slice, indexAt_arr, fieldAt_val, loadVar_val, storeVar_val, alloc_val, pickPart_agg, pickPart_one,
    get_push_self, get_set_self, Hp.get_push, Hp.get_setB, Nat.add_left_cancel_iff, Nat.reduceEqDiff, Nat.add_eq_left, Nat.left_eq_add, Nat.one_ne_zero, Nat.add_assoc, getD_lit, finR_one, finR_two, finR_zero, aResult_tmp, aResult_cell, target_val, target_yield, yielded, gtt, gtf, gft, gff, gnt, gnf, oneC_int, oneC_bool, oneC_ptr, oneC_slice, oneC_string, oneC_func, splice_nil, splice_cons, List.extract_toArray, List.extract_eq_take_drop, List.drop_zero, List.drop_succ_cons, List.take_succ_cons, List.take_zero, List.take_nil, List.all_cons, List.all_nil, Nat.reduceLeDiff, Nat.le_refl, true_and, and_true, and_self, Hp.cell, Hp.row, Hp.wr, Hp.size_push, Hp.size_setB, Hp.ro_push, Hp.ro_setB,
    List.getD_cons_zero, List.getD_cons_succ, List.setIfInBounds_toArray, List.set_cons_zero, List.set_cons_succ, List.map_toArray, List.map_cons, List.map_nil, List.getElem?_toArray,
    List.getElem?_cons_zero, List.getElem?_cons_succ, List.size_toArray, List.length_cons, List.length_nil, List.append_toArray, List.cons_append, List.nil_append, List.append_nil,
    List.replicate_succ, List.replicate_zero, replicate_arr, Nat.reduceAdd, Nat.reduceSub, Nat.reduceMul, Option.map_some, Option.isSome_some, Option.getD_some, Option.bind_some, Nat.zero_add, Nat.add_zero,
    if_true, if_false, ite_true, ite_false, ↓reduceIte, Bool.false_eq_true, decide_true, decide_false, Bool.not_true, Bool.not_false, beq_self_eq_true, Bool.and_true, Bool.true_and, Bool.and_false, Bool.false_and, KD0_some, KD1_some, KD2_some, KDT_none, KDT_some, putU_none, liftP_none, le_self_f, false_and, and_false, evalDM_nil, evalDM_0, evalDM_1, evalDM_t, evalDM_2, evalDM_g0, evalDM_g1, evalDM_gt, evalDM_g2, vb_int, vb_bool, vb_string, vb_nil, vb_undef, vb_nilSlice, vb_nilMap, vb_map, vb_ptr, vb_slice, vb_func, vb_agg, vb_tuple, all_lit, all_litn, allow_nil, allow_cons,
    flatB_int, flatB_bool, flatB_string, flatB_nil, flatB_undef, flatB_ptr, flatB_slice, flatB_nilSlice, flatB_map, flatB_func, view_size, view_ro, view_nil, view_cons, more_view, more_push, keepBlk_cells, zip_cons, zip_nil, toList_lit,
    keepR, Nat.add_sub_cancel_left, tb, Nat.reduceDiv, Nat.reduceMod, Nat.reducePow, Bool.or_true, Bool.true_or, Bool.or_false, Bool.false_or, Nat.add_lt_add_iff_left, Nat.add_le_add_iff_left, Nat.reduceLT, Nat.le_add_right, Nat.lt_add_right_iff_pos, Nat.zero_lt_succ, Nat.reduceLeDiff, Nat.lt_irrefl, decide_not, bin_eqb, bin_neb, bin_eqnp, bin_nenp, bin_eqns, bin_nens, Option.isNone_some, Option.isNone_none, nc0, nc1, nc2, nc3, nc4, evalC_drawn, Int.reduceEq, Int.reduceNe, Int.reduceLT, Int.reduceLE, Int.reduceToNat, Nat.reduceEqDiff, eq_self, List.getElem?_toArray, hasBx5, hasBx6, hasBx7, hasBx8, hasBx9, hasBx10, hasBx11, hasBx12, hasBx13, hasBx14, hasBx15, hasBx16, hasBx17, hasBx18, hasBx19, hasBx20, hasBx21, hasBx22, hasBx23, hasBx24, tArrx49, tBoolx4, tElemx29, tElemx31, tFieldAx36x0, tFieldAx36x1, tFieldAx36x2, tFieldAx36x3, tIntx5x3, tLenx29, tLenx31, tPartx3, tPartx5, tPartx22, tPartx29, tPartx36, tRowx29, tRowx31, tSizex22, tSizex29, tZerox29, h1, h2, c19, e, Int.toNat_natCast]
    exact ⟨_, rfl, (Keeps.get (by repeat (first | exact Keeps.refl _ | refine Keeps.push ?_ _ | refine Keeps.set ?_ (by first | omega | (simp only [Hp.size_push, Hp.size_setB]; omega)) _)))⟩
  obtain ⟨c, rfl⟩ := Int.eq_ofNat_of_zero_le (show 0 ≤ b by omega)
  have hc : c < 32 := by omega
  have h3 : (0 : Int) ≤ (c : Int) := by omega
  have hm : N % 2 ^ c ≤ N := Nat.mod_le _ _
  have c19 := fun n h => call19 (I := IS2) rfl (n := n) (h := h) (s := ((N % 2 ^ c : Nat) : Int)) ⟨Int.natCast_nonneg _, by omega⟩
  have e : rankF N c = ((popN (N % 2 ^ c) 32 : Nat) : Int) := by
    unfold rankF
    rw [popN_mod _ _ _ (by omega), show min (c : Int).toNat 32 = c by omega]; rfl
  simp only [evalC_skip, evalC_ret, evalC_exit, evalC_label, evalC_region, evalC_seq, evalC_block, evalC_cond, pickC_true, pickC_false,
    Kreg_ap, Kseq_normal, Kseq_ret, Kseq_exit, Kblock_normal, Kblock_ret, Kblock_exit, Kloop_normal, Kloop_ret, Kloop_exit, Kret_normal, Kret_ret,
    evalOps_nil, evalOps_cons, evalOps_guard, Kops_some, put_some, put_none, eval_tmp, eval_const, eval_func, eval_global, liftP_some,
    op_move, op_assign, op_pick, op_bin, op_un, op_convert, op_fieldAddr, op_field, op_indexAddr, op_index, op_extract, op_build, op_nilCheck, op_makeFunc,
    op_load, op_store, op_alloc, op_box, op_buildSlice, op_makeSlice, op_slice, op_call, op_append, op_copy, op_clear, op_lenS, op_lenT, lenS_slice, lenT_string, op_max, op_min, loadV_ptr, storeV_ptr, putU_some, pickV_bool, idxA_int, idxV_int, nilV_ptr, nilV_func, nilV_yield,
    bin_add, bin_sub, bin_mul, bin_and, bin_or, bin_xor, bin_andNot, bin_eql, bin_neq, bin_lss, bin_leq, bin_gtr, bin_geq, un_not, un_neg, max2_val, max3_val, min2_val,
    cells_int, cells_bool, cells_agg, cells_pointer, cells_slice, cells_string, field_val, extract_val, indexAt_slice, indexAt_arr, fieldAt_val, loadVar_val, storeVar_val, alloc_val, pickPart_agg, pickPart_one,
    get_push_self, get_set_self, Hp.get_push, Hp.get_setB, Nat.add_left_cancel_iff, Nat.reduceEqDiff, Nat.add_eq_left, Nat.left_eq_add, Nat.one_ne_zero, Nat.add_assoc, getD_lit, finR_one, finR_two, finR_zero, aResult_tmp, aResult_cell, target_val, target_yield, yielded, gtt, gtf, gft, gff, gnt, gnf, oneC_int, oneC_bool, oneC_ptr, oneC_slice, oneC_string, oneC_func, splice_nil, splice_cons, List.extract_toArray, List.extract_eq_take_drop, List.drop_zero, List.drop_succ_cons, List.take_succ_cons, List.take_zero, List.take_nil, List.all_cons, List.all_nil, Nat.reduceLeDiff, Nat.le_refl, true_and, and_true, and_self, Hp.cell, Hp.row, Hp.wr, Hp.size_push, Hp.size_setB, Hp.ro_push, Hp.ro_setB,
    List.getD_cons_zero, List.getD_cons_succ, List.setIfInBounds_toArray, List.set_cons_zero, List.set_cons_succ, List.map_toArray, List.map_cons, List.map_nil, List.getElem?_toArray,
    List.getElem?_cons_zero, List.getElem?_cons_succ, List.size_toArray, List.length_cons, List.length_nil, List.append_toArray, List.cons_append, List.nil_append, List.append_nil,
    List.replicate_succ, List.replicate_zero, replicate_arr, Nat.reduceAdd, Nat.reduceSub, Nat.reduceMul, Option.map_some, Option.isSome_some, Option.getD_some, Option.bind_some, Nat.zero_add, Nat.add_zero,
    if_true, if_false, ite_true, ite_false, ↓reduceIte, Bool.false_eq_true, decide_true, decide_false, Bool.not_true, Bool.not_false, beq_self_eq_true, Bool.and_true, Bool.true_and, Bool.and_false, Bool.false_and, KD0_some, KD1_some, KD2_some, KDT_none, KDT_some, putU_none, liftP_none, le_self_f, false_and, and_false, evalDM_nil, evalDM_0, evalDM_1, evalDM_t, evalDM_2, evalDM_g0, evalDM_g1, evalDM_gt, evalDM_g2, vb_int, vb_bool, vb_string, vb_nil, vb_undef, vb_nilSlice, vb_nilMap, vb_map, vb_ptr, vb_slice, vb_func, vb_agg, vb_tuple, all_lit, all_litn, allow_nil, allow_cons,
    flatB_int, flatB_bool, flatB_string, flatB_nil, flatB_undef, flatB_ptr, flatB_slice, flatB_nilSlice, flatB_map, flatB_func, view_size, view_ro, view_nil, view_cons, more_view, more_push, keepBlk_cells, zip_cons, zip_nil, toList_lit,
    keepR, Nat.add_sub_cancel_left, tb, Nat.reduceDiv, Nat.reduceMod, Nat.reducePow, Bool.or_true, Bool.true_or, Bool.or_false, Bool.false_or, Nat.add_lt_add_iff_left, Nat.add_le_add_iff_left, Nat.reduceLT, Nat.le_add_right, Nat.lt_add_right_iff_pos, Nat.zero_lt_succ, Nat.reduceLeDiff, Nat.lt_irrefl, decide_not, bin_eqb, bin_neb, bin_eqnp, bin_nenp, bin_eqns, bin_nens, Option.isNone_some, Option.isNone_none, nc0, nc1, nc2, nc3, nc4, evalC_drawn, Int.reduceEq, Int.reduceNe, Int.reduceLT, Int.reduceLE, Int.reduceToNat, Nat.reduceEqDiff, eq_self, List.getElem?_toArray, hasBx5, hasBx6, hasBx7, hasBx8, hasBx9, hasBx10, hasBx11, hasBx12, hasBx13, hasBx14, hasBx15, hasBx16, hasBx17, hasBx18, hasBx19, hasBx20, hasBx21, hasBx22, hasBx23, hasBx24, tArrx49, tBoolx4, tElemx29, tElemx31, tFieldAx36x0, tFieldAx36x1, tFieldAx36x2, tFieldAx36x3, tIntx5x3, tLenx29, tLenx31, tPartx3, tPartx5, tPartx22, tPartx29, tPartx36, tRowx29, tRowx31, tSizex22, tSizex29, tZerox29, h1, h2, bin_shl h3, shl1 hc, and_low hc, c19, e, Int.toNat_natCast]
  exact ⟨_, rfl, (Keeps.get (by repeat (first | exact Keeps.refl _ | refine Keeps.push ?_ _ | refine Keeps.set ?_ (by first | omega | (simp only [Hp.size_push, Hp.size_setB]; omega)) _)))⟩
theorem call6 {I : Intr} (hI : I 6 = some gRank) {n : Nat} {s b : Int} {h : Hp} (hs : 0 ≤ s ∧ s < 4294967296) : evalV Tryd.prog I (n + 1) (.fn 6) #[.int .u32 s, .int .i64 b] h = some (.int .i64 (rankF s b), h) := by
  rw [evalV_intr hI]
  simp [gRank, gOf, Dec1.cons, Dec1.sub, Dec1.int, Dec.nil, hs]
def g5 := gOf Dec.nil fun _ => .bool true
theorem con5 : Con Tryd.prog (CKb Tryd.prog) 5 g5 := Con.closed base ok0 60 (by simp [flatB]) (by kernel_rfl)
theorem call5 {I : Intr} (hI : I 5 = some g5) {n : Nat} {h : Hp} : evalV Tryd.prog I (n + 1) (.fn 5) #[] h = some (.bool true, h) := (evalV_intr hI).trans rfl
end Go.Abs.A1d
