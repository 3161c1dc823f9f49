/- The law BitmapRanks, run: it gives true. -/
import Derived.Test.YtgdbkohmdflckaaDoorDa11
import Derived.Test.YtgdbkohmdflckaaDoorDp2
namespace Go.Abs.A1d
open Go.Proofs
set_option maxRecDepth 10000
set_option linter.all false
theorem setF_nat {n b : Nat} {is : Bool} (hb : b < 32) : setF (n : Int) (b : Int) is = (setN n b is : Nat) := by
  unfold setF
  rw [if_neg (by omega)]
  simp only [Int.toNat_natCast]
theorem rankF_nat {n b : Nat} (hb : b ≤ 32) : rankF (n : Int) (b : Int) = (popN n b : Nat) := by
  unfold rankF
  simp only [Int.toNat_natCast]
  rw [Nat.min_eq_left hb]
theorem run4 {tab : Array Value} {own : Bool} (ht : tabOk tab = true) (s b : Int) (hs : 0 ≤ s ∧ s < 4294967296) (h : Hp) (hg : h.get 0 = some (.cells tab own)) (h0 : 0 < h.size) (hro : h.ro ≤ h.size) :
    ∃ h', evalV Tryd.prog IS3 (43 + 1) (.fn 4) #[.int .u32 s, .int .i64 b] h = some (.bool true, h') := by
  rw [evalV_call (P := Tryd.prog) (intr := IS3) (f := 4) (m := 103) (rs := #[.tmp 4]) rfl Tryd.func4 rfl rfl rfl]
  have c5 := fun n h => call5 (I := IS3) rfl (n := n) (h := h)
  obtain ⟨N, rfl⟩ := Int.eq_ofNat_of_zero_le hs.1
  have hN : N < 2 ^ 32 := by omega
  obtain ⟨u, k, e14, u1, u2, u3, u4⟩ := run14 (I := IS3) rfl rfl rfl rfl rfl rfl ht N hN h hg h0 hro
  obtain ⟨o, c, rfl, hu⟩ := SlAt.view u1
  have hlen : (bitsN N).length ≤ 32 := by rw [bitsN_len]; exact popN_le _ _
  simp only [evalC_skip, evalC_ret, evalC_exit, evalC_label, evalC_region, evalC_seq, evalC_block, evalC_cond, pickC_true, pickC_false,
    Kreg_ap, Kseq_normal, Kseq_ret, Kseq_exit, Kblock_normal, Kblock_ret, Kblock_exit, Kloop_normal, Kloop_ret, Kloop_exit, Kret_normal, Kret_ret,
    evalOps_nil, evalOps_cons, evalOps_guard, Kops_some, put_some, put_none, eval_tmp, eval_const, eval_func, eval_global, liftP_some,
    op_move, op_assign, op_pick, op_bin, op_un, op_convert, op_fieldAddr, op_field, op_indexAddr, op_index, op_extract, op_build, op_nilCheck, op_makeFunc,
    op_load, op_store, op_alloc, op_box, op_buildSlice, op_makeSlice, op_slice, op_call, op_append, op_copy, op_clear, op_lenS, op_lenT, lenS_slice, lenT_string, op_max, op_min, loadV_ptr, storeV_ptr, putU_some, pickV_bool, idxA_int, idxV_int, nilV_ptr, nilV_func, nilV_yield,
    bin_add, bin_sub, bin_mul, bin_and, bin_or, bin_xor, bin_andNot, bin_eql, bin_neq, bin_lss, bin_leq, bin_gtr, bin_geq, un_not, un_neg, max2_val, max3_val, min2_val,
    cells_int, cells_bool, cells_agg, cells_pointer, cells_slice, cells_string, field_val, extract_val, indexAt_slice, indexAt_arr, fieldAt_val, loadVar_val, storeVar_val, alloc_val, pickPart_agg, pickPart_one,
    get_push_self, get_set_self, Hp.get_push, Hp.get_setB, Nat.add_left_cancel_iff, Nat.reduceEqDiff, Nat.add_eq_left, Nat.left_eq_add, Nat.one_ne_zero, Nat.add_assoc, getD_lit, finR_one, finR_two, finR_zero, aResult_tmp, aResult_cell, target_val, target_yield, yielded, gtt, gtf, gft, gff, gnt, gnf, oneC_int, oneC_bool, oneC_ptr, oneC_slice, oneC_string, oneC_func, splice_nil, splice_cons, List.extract_toArray, List.extract_eq_take_drop, List.drop_zero, List.drop_succ_cons, List.take_succ_cons, List.take_zero, List.take_nil, List.all_cons, List.all_nil, Nat.reduceLeDiff, Nat.le_refl, true_and, and_true, and_self, Hp.cell, Hp.row, Hp.wr, Hp.size_push, Hp.size_setB, Hp.ro_push, Hp.ro_setB,
    List.getD_cons_zero, List.getD_cons_succ, List.setIfInBounds_toArray, List.set_cons_zero, List.set_cons_succ, List.map_toArray, List.map_cons, List.map_nil, List.getElem?_toArray,
    List.getElem?_cons_zero, List.getElem?_cons_succ, List.size_toArray, List.length_cons, List.length_nil, List.append_toArray, List.cons_append, List.nil_append, List.append_nil,
    List.replicate_succ, List.replicate_zero, replicate_arr, Nat.reduceAdd, Nat.reduceSub, Nat.reduceMul, Option.map_some, Option.isSome_some, Option.getD_some, Option.bind_some, Nat.zero_add, Nat.add_zero,
    if_true, if_false, ite_true, ite_false, ↓reduceIte, Bool.false_eq_true, decide_true, decide_false, Bool.not_true, Bool.not_false, beq_self_eq_true, Bool.and_true, Bool.true_and, Bool.and_false, Bool.false_and, KD0_some, KD1_some, KD2_some, KDT_none, KDT_some, putU_none, liftP_none, le_self_f, false_and, and_false, evalDM_nil, evalDM_0, evalDM_1, evalDM_t, evalDM_2, evalDM_g0, evalDM_g1, evalDM_gt, evalDM_g2, vb_int, vb_bool, vb_string, vb_nil, vb_undef, vb_nilSlice, vb_nilMap, vb_map, vb_ptr, vb_slice, vb_func, vb_agg, vb_tuple, all_lit, all_litn, allow_nil, allow_cons,
    flatB_int, flatB_bool, flatB_string, flatB_nil, flatB_undef, flatB_ptr, flatB_slice, flatB_nilSlice, flatB_map, flatB_func, view_size, view_ro, view_nil, view_cons, more_view, more_push, keepBlk_cells, zip_cons, zip_nil, toList_lit,
    keepR, Nat.add_sub_cancel_left, tb, Nat.reduceDiv, Nat.reduceMod, Nat.reducePow, Bool.or_true, Bool.true_or, Bool.or_false, Bool.false_or, Nat.add_lt_add_iff_left, Nat.add_le_add_iff_left, Nat.reduceLT, Nat.le_add_right, Nat.lt_add_right_iff_pos, Nat.zero_lt_succ, Nat.reduceLeDiff, Nat.lt_irrefl, decide_not, bin_eqb, bin_neb, bin_eqnp, bin_nenp, bin_eqns, bin_nens, Option.isNone_some, Option.isNone_none, nc0, nc1, nc2, nc3, nc4, evalC_drawn, Int.reduceEq, Int.reduceNe, Int.reduceLT, Int.reduceLE, Int.reduceToNat, Nat.reduceEqDiff, eq_self, List.getElem?_toArray, hasBx5, hasBx6, hasBx7, hasBx8, hasBx9, hasBx10, hasBx11, hasBx12, hasBx13, hasBx14, hasBx15, hasBx16, hasBx17, hasBx18, hasBx19, hasBx20, hasBx21, hasBx22, hasBx23, hasBx24, tArrx49, tBoolx4, tElemx29, tElemx31, tFieldAx36x0, tFieldAx36x1, tFieldAx36x2, tFieldAx36x3, tIntx5x3, tLenx29, tLenx31, tPartx3, tPartx5, tPartx22, tPartx29, tPartx36, tRowx29, tRowx31, tSizex22, tSizex29, tZerox29, c5, e14]
  refine loop_rule (fun r : Option (Value × Hp) => ∃ h', r = some (.bool true, h')) (fun m x k' => ∃ i B : Nat, m = (bitsN N).length - i ∧ i ≤ (bitsN N).length ∧ k' = k ∧ Back N i B ∧
    x.tmps.size = 103 ∧ x.defers = [] ∧ x.tmps.getD 0 undef = .int .u32 (N : Int) ∧ x.tmps.getD 1 undef = .int .i64 b ∧ x.tmps.getD 5 undef = .slice o (bitsN N).length c ∧ x.tmps.getD 6 undef = .int .u32 (B : Int) ∧ x.tmps.getD 15 undef = .slice o (bitsN N).length c ∧ x.tmps.getD 16 undef = .int .i64 ((bitsN N).length : Int) ∧ x.tmps.getD 17 undef = .int .i64 (i : Int)) ?_ _ (bitsN N).length _ _ ?_ ?_
  · intro m n' x k' hI ih
    obtain ⟨i, B, hm, hi, rfl, hB, hxs, hxd, l0, l1, l5, l6, l15, l16, l17⟩ := hI
    obtain ⟨g, rfl⟩ : ∃ g : Nat → Value, x = { tmps := #[.int .u32 (N : Int), .int .i64 b, g 2, g 3, g 4, .slice o (bitsN N).length c, .int .u32 (B : Int), g 7, g 8, g 9, g 10, g 11, g 12, g 13, g 14, .slice o (bitsN N).length c, .int .i64 ((bitsN N).length : Int), .int .i64 (i : Int), g 18, g 19, g 20, g 21, g 22, g 23, g 24, g 25, g 26, g 27, g 28, g 29, g 30, g 31, g 32, g 33, g 34, g 35, g 36, g 37, g 38, g 39, g 40, g 41, g 42, g 43, g 44, g 45, g 46, g 47, g 48, g 49, g 50, g 51, g 52, g 53, g 54, g 55, g 56, g 57, g 58, g 59, g 60, g 61, g 62, g 63, g 64, g 65, g 66, g 67, g 68, g 69, g 70, g 71, g 72, g 73, g 74, g 75, g 76, g 77, g 78, g 79, g 80, g 81, g 82, g 83, g 84, g 85, g 86, g 87, g 88, g 89, g 90, g 91, g 92, g 93, g 94, g 95, g 96, g 97, g 98, g 99, g 100, g 101, g 102], defers := [] } := ⟨fun k => x.tmps.getD k undef, (act_eta hxs hxd).trans (by simp only [unrollL, Nat.reduceAdd, Nat.zero_add, l0, l1, l5, l6, l15, l16, l17])⟩; clear hxs hxd l0 l1 l5 l6 l15 l16 l17
    by_cases hlt : i < (bitsN N).length
    · have hlt' : (i : Int) < ((bitsN N).length : Int) := by omega
      obtain ⟨q1, q2, q3⟩ : m - 1 < m ∧ m - 1 = (bitsN N).length - (i + 1) ∧ i + 1 ≤ (bitsN N).length := by clear ih hu; omega
      obtain ⟨b0, rfl, hbs, hgb⟩ := hu (by omega)
      obtain ⟨x, hx⟩ : ∃ y, (bitsN N)[i]? = some y := ⟨_, List.getElem?_eq_getElem hlt⟩
      obtain ⟨hx1, hx2⟩ := bits_lt hx
      have hc := cell_at hx
      have hrk := bits_rank hx
      have w3 : IntKind.i64.wrap ((i : Int) + 1) = ((i + 1 : Nat) : Int) := by rw [i64_in] <;> omega
      have hB1 := hB.1
      have hB2 := back_step hB hx
      have c6 := fun n h => call6 (I := IS3) rfl (n := n) (s := (N : Int)) (b := (x : Int)) (h := h) hs
      have c8 := fun n h => call8 (I := IS3) rfl (n := n) (s := (N : Int)) (b := (x : Int)) (h := h) hs
      have c10 := fun n h => call10 (I := IS3) rfl (n := n) (s := (B : Int)) (b := (x : Int)) (h := h) ⟨by omega, by omega⟩
      rw [rankF_nat (by omega), hrk] at c6
      rw [hasF_bit _ _ hx1, hx2] at c8
      rw [setF_nat hx1] at c10
      have hnn : (0 ≤ (i : Int)) = True := by simp
      by_cases hi0 : i = 0
      · have hz : ¬ (0 : Int) < (i : Int) := by omega
        simp only [evalC_skip, evalC_ret, evalC_exit, evalC_label, evalC_region, evalC_seq, evalC_block, evalC_cond, pickC_true, pickC_false,
    Kreg_ap, Kseq_normal, Kseq_ret, Kseq_exit, Kblock_normal, Kblock_ret, Kblock_exit, Kloop_normal, Kloop_ret, Kloop_exit, Kret_normal, Kret_ret,
    evalOps_nil, evalOps_cons, evalOps_guard, Kops_some, put_some, put_none, eval_tmp, eval_const, eval_func, eval_global, liftP_some,
    op_move, op_assign, op_pick, op_bin, op_un, op_convert, op_fieldAddr, op_field, op_indexAddr, op_index, op_extract, op_build, op_nilCheck, op_makeFunc,
    op_load, op_store, op_alloc, op_box, op_buildSlice, op_makeSlice, op_slice, op_call, op_append, op_copy, op_clear, op_lenS, op_lenT, lenS_slice, lenT_string, op_max, op_min, loadV_ptr, storeV_ptr, putU_some, pickV_bool, idxA_int, idxV_int, nilV_ptr, nilV_func, nilV_yield,
    bin_add, bin_sub, bin_mul, bin_and, bin_or, bin_xor, bin_andNot, bin_eql, bin_neq, bin_lss, bin_leq, bin_gtr, bin_geq, un_not, un_neg, max2_val, max3_val, min2_val,
    cells_int, cells_bool, cells_agg, cells_pointer, cells_slice, cells_string, field_val, extract_val, indexAt_slice, indexAt_arr, fieldAt_val, loadVar_val, storeVar_val, alloc_val, pickPart_agg, pickPart_one,
    get_push_self, get_set_self, Hp.get_push, Hp.get_setB, Nat.add_left_cancel_iff, Nat.reduceEqDiff, Nat.add_eq_left, Nat.left_eq_add, Nat.one_ne_zero, Nat.add_assoc, getD_lit, finR_one, finR_two, finR_zero, aResult_tmp, aResult_cell, target_val, target_yield, yielded, gtt, gtf, gft, gff, gnt, gnf, oneC_int, oneC_bool, oneC_ptr, oneC_slice, oneC_string, oneC_func, splice_nil, splice_cons, List.extract_toArray, List.extract_eq_take_drop, List.drop_zero, List.drop_succ_cons, List.take_succ_cons, List.take_zero, List.take_nil, List.all_cons, List.all_nil, Nat.reduceLeDiff, Nat.le_refl, true_and, and_true, and_self, Hp.cell, Hp.row, Hp.wr, Hp.size_push, Hp.size_setB, Hp.ro_push, Hp.ro_setB,
    List.getD_cons_zero, List.getD_cons_succ, List.setIfInBounds_toArray, List.set_cons_zero, List.set_cons_succ, List.map_toArray, List.map_cons, List.map_nil, List.getElem?_toArray,
    List.getElem?_cons_zero, List.getElem?_cons_succ, List.size_toArray, List.length_cons, List.length_nil, List.append_toArray, List.cons_append, List.nil_append, List.append_nil,
    List.replicate_succ, List.replicate_zero, replicate_arr, Nat.reduceAdd, Nat.reduceSub, Nat.reduceMul, Option.map_some, Option.isSome_some, Option.getD_some, Option.bind_some, Nat.zero_add, Nat.add_zero,
    if_true, if_false, ite_true, ite_false, ↓reduceIte, Bool.false_eq_true, decide_true, decide_false, Bool.not_true, Bool.not_false, beq_self_eq_true, Bool.and_true, Bool.true_and, Bool.and_false, Bool.false_and, KD0_some, KD1_some, KD2_some, KDT_none, KDT_some, putU_none, liftP_none, le_self_f, false_and, and_false, evalDM_nil, evalDM_0, evalDM_1, evalDM_t, evalDM_2, evalDM_g0, evalDM_g1, evalDM_gt, evalDM_g2, vb_int, vb_bool, vb_string, vb_nil, vb_undef, vb_nilSlice, vb_nilMap, vb_map, vb_ptr, vb_slice, vb_func, vb_agg, vb_tuple, all_lit, all_litn, allow_nil, allow_cons,
    flatB_int, flatB_bool, flatB_string, flatB_nil, flatB_undef, flatB_ptr, flatB_slice, flatB_nilSlice, flatB_map, flatB_func, view_size, view_ro, view_nil, view_cons, more_view, more_push, keepBlk_cells, zip_cons, zip_nil, toList_lit,
    keepR, Nat.add_sub_cancel_left, tb, Nat.reduceDiv, Nat.reduceMod, Nat.reducePow, Bool.or_true, Bool.true_or, Bool.or_false, Bool.false_or, Nat.add_lt_add_iff_left, Nat.add_le_add_iff_left, Nat.reduceLT, Nat.le_add_right, Nat.lt_add_right_iff_pos, Nat.zero_lt_succ, Nat.reduceLeDiff, Nat.lt_irrefl, decide_not, bin_eqb, bin_neb, bin_eqnp, bin_nenp, bin_eqns, bin_nens, Option.isNone_some, Option.isNone_none, nc0, nc1, nc2, nc3, nc4, evalC_drawn, Int.reduceEq, Int.reduceNe, Int.reduceLT, Int.reduceLE, Int.reduceToNat, Nat.reduceEqDiff, eq_self, List.getElem?_toArray, hasBx5, hasBx6, hasBx7, hasBx8, hasBx9, hasBx10, hasBx11, hasBx12, hasBx13, hasBx14, hasBx15, hasBx16, hasBx17, hasBx18, hasBx19, hasBx20, hasBx21, hasBx22, hasBx23, hasBx24, tArrx49, tBoolx4, tElemx29, tElemx31, tFieldAx36x0, tFieldAx36x1, tFieldAx36x2, tFieldAx36x3, tIntx5x3, tLenx29, tLenx31, tPartx3, tPartx5, tPartx22, tPartx29, tPartx36, tRowx29, tRowx31, tSizex22, tSizex29, tZerox29, hlt', hz, hnn, hgb, hc, Int.toNat_natCast, Nat.mul_one, c6, c8, c10, w3]
        exact ih (m - 1) _ _ q1 ⟨i + 1, _, q2, q3, rfl, hB2, rfl, rfl, rfl, rfl, rfl, rfl, rfl, rfl, rfl⟩
      · obtain ⟨j, hj⟩ : ∃ j, i = j + 1 := ⟨i - 1, by omega⟩
        have hz : (0 : Int) < (i : Int) := by omega
        have w4 : IntKind.i64.wrap ((i : Int) - 1) = (j : Int) := by rw [i64_in] <;> omega
        obtain ⟨y, hy⟩ : ∃ y, (bitsN N)[j]? = some y := ⟨_, List.getElem?_eq_getElem (by omega)⟩
        have hyx : ¬ (x : Int) ≤ (y : Int) := by have := bits_less hy hx (by omega); omega
        have hcy := cell_at hy
        have hjlt : (j : Int) < ((bitsN N).length : Int) := by omega
        have hjn : (0 ≤ (j : Int)) = True := by simp
        simp only [evalC_skip, evalC_ret, evalC_exit, evalC_label, evalC_region, evalC_seq, evalC_block, evalC_cond, pickC_true, pickC_false,
    Kreg_ap, Kseq_normal, Kseq_ret, Kseq_exit, Kblock_normal, Kblock_ret, Kblock_exit, Kloop_normal, Kloop_ret, Kloop_exit, Kret_normal, Kret_ret,
    evalOps_nil, evalOps_cons, evalOps_guard, Kops_some, put_some, put_none, eval_tmp, eval_const, eval_func, eval_global, liftP_some,
    op_move, op_assign, op_pick, op_bin, op_un, op_convert, op_fieldAddr, op_field, op_indexAddr, op_index, op_extract, op_build, op_nilCheck, op_makeFunc,
    op_load, op_store, op_alloc, op_box, op_buildSlice, op_makeSlice, op_slice, op_call, op_append, op_copy, op_clear, op_lenS, op_lenT, lenS_slice, lenT_string, op_max, op_min, loadV_ptr, storeV_ptr, putU_some, pickV_bool, idxA_int, idxV_int, nilV_ptr, nilV_func, nilV_yield,
    bin_add, bin_sub, bin_mul, bin_and, bin_or, bin_xor, bin_andNot, bin_eql, bin_neq, bin_lss, bin_leq, bin_gtr, bin_geq, un_not, un_neg, max2_val, max3_val, min2_val,
    cells_int, cells_bool, cells_agg, cells_pointer, cells_slice, cells_string, field_val, extract_val, indexAt_slice, indexAt_arr, fieldAt_val, loadVar_val, storeVar_val, alloc_val, pickPart_agg, pickPart_one,
    get_push_self, get_set_self, Hp.get_push, Hp.get_setB, Nat.add_left_cancel_iff, Nat.reduceEqDiff, Nat.add_eq_left, Nat.left_eq_add, Nat.one_ne_zero, Nat.add_assoc, getD_lit, finR_one, finR_two, finR_zero, aResult_tmp, aResult_cell, target_val, target_yield, yielded, gtt, gtf, gft, gff, gnt, gnf, oneC_int, oneC_bool, oneC_ptr, oneC_slice, oneC_string, oneC_func, splice_nil, splice_cons, List.extract_toArray, List.extract_eq_take_drop, List.drop_zero, List.drop_succ_cons, List.take_succ_cons, List.take_zero, List.take_nil, List.all_cons, List.all_nil, Nat.reduceLeDiff, Nat.le_refl, true_and, and_true, and_self, Hp.cell, Hp.row, Hp.wr, Hp.size_push, Hp.size_setB, Hp.ro_push, Hp.ro_setB,
    List.getD_cons_zero, List.getD_cons_succ, List.setIfInBounds_toArray, List.set_cons_zero, List.set_cons_succ, List.map_toArray, List.map_cons, List.map_nil, List.getElem?_toArray,
    List.getElem?_cons_zero, List.getElem?_cons_succ, List.size_toArray, List.length_cons, List.length_nil, List.append_toArray, List.cons_append, List.nil_append, List.append_nil,
    List.replicate_succ, List.replicate_zero, replicate_arr, Nat.reduceAdd, Nat.reduceSub, Nat.reduceMul, Option.map_some, Option.isSome_some, Option.getD_some, Option.bind_some, Nat.zero_add, Nat.add_zero,
    if_true, if_false, ite_true, ite_false, ↓reduceIte, Bool.false_eq_true, decide_true, decide_false, Bool.not_true, Bool.not_false, beq_self_eq_true, Bool.and_true, Bool.true_and, Bool.and_false, Bool.false_and, KD0_some, KD1_some, KD2_some, KDT_none, KDT_some, putU_none, liftP_none, le_self_f, false_and, and_false, evalDM_nil, evalDM_0, evalDM_1, evalDM_t, evalDM_2, evalDM_g0, evalDM_g1, evalDM_gt, evalDM_g2, vb_int, vb_bool, vb_string, vb_nil, vb_undef, vb_nilSlice, vb_nilMap, vb_map, vb_ptr, vb_slice, vb_func, vb_agg, vb_tuple, all_lit, all_litn, allow_nil, allow_cons,
    flatB_int, flatB_bool, flatB_string, flatB_nil, flatB_undef, flatB_ptr, flatB_slice, flatB_nilSlice, flatB_map, flatB_func, view_size, view_ro, view_nil, view_cons, more_view, more_push, keepBlk_cells, zip_cons, zip_nil, toList_lit,
    keepR, Nat.add_sub_cancel_left, tb, Nat.reduceDiv, Nat.reduceMod, Nat.reducePow, Bool.or_true, Bool.true_or, Bool.or_false, Bool.false_or, Nat.add_lt_add_iff_left, Nat.add_le_add_iff_left, Nat.reduceLT, Nat.le_add_right, Nat.lt_add_right_iff_pos, Nat.zero_lt_succ, Nat.reduceLeDiff, Nat.lt_irrefl, decide_not, bin_eqb, bin_neb, bin_eqnp, bin_nenp, bin_eqns, bin_nens, Option.isNone_some, Option.isNone_none, nc0, nc1, nc2, nc3, nc4, evalC_drawn, Int.reduceEq, Int.reduceNe, Int.reduceLT, Int.reduceLE, Int.reduceToNat, Nat.reduceEqDiff, eq_self, List.getElem?_toArray, hasBx5, hasBx6, hasBx7, hasBx8, hasBx9, hasBx10, hasBx11, hasBx12, hasBx13, hasBx14, hasBx15, hasBx16, hasBx17, hasBx18, hasBx19, hasBx20, hasBx21, hasBx22, hasBx23, hasBx24, tArrx49, tBoolx4, tElemx29, tElemx31, tFieldAx36x0, tFieldAx36x1, tFieldAx36x2, tFieldAx36x3, tIntx5x3, tLenx29, tLenx31, tPartx3, tPartx5, tPartx22, tPartx29, tPartx36, tRowx29, tRowx31, tSizex22, tSizex29, tZerox29, hlt', hz, hnn, hgb, hc, hcy, hyx, hjlt, hjn, Int.toNat_natCast, Nat.mul_one, c6, c8, c10, w3, w4]
        exact ih (m - 1) _ _ q1 ⟨i + 1, _, q2, q3, rfl, hB2, rfl, rfl, rfl, rfl, rfl, rfl, rfl, rfl, rfl⟩
    · have hlt' : ¬ (i : Int) < ((bitsN N).length : Int) := by omega
      obtain rfl : i = (bitsN N).length := by omega
      obtain rfl := back_all hN hB
      have c6 := fun n h => call6 (I := IS3) rfl (n := n) (s := (B : Int)) (b := (32 : Int)) (h := h) hs
      have r32 : rankF (B : Int) 32 = ((bitsN B).length : Int) := by
        rw [bitsN_len]; exact rankF_nat (b := 32) (by omega)
      rw [r32] at c6
      have c10 := fun n h => call10 (I := IS3) rfl (n := n) (s := (B : Int)) (b := b) (h := h) hs
      have c12 := fun n h => call12 (I := IS3) rfl (n := n) (s := (B : Int)) (b := b) (h := h) hs
      by_cases hb1 : b < 0
      · have e : ∀ is, setF (B : Int) b is = (B : Int) := fun is => by unfold setF; rw [if_pos (.inl hb1)]
        rw [e] at c10 c12
        simp only [evalC_skip, evalC_ret, evalC_exit, evalC_label, evalC_region, evalC_seq, evalC_block, evalC_cond, pickC_true, pickC_false,
    Kreg_ap, Kseq_normal, Kseq_ret, Kseq_exit, Kblock_normal, Kblock_ret, Kblock_exit, Kloop_normal, Kloop_ret, Kloop_exit, Kret_normal, Kret_ret,
    evalOps_nil, evalOps_cons, evalOps_guard, Kops_some, put_some, put_none, eval_tmp, eval_const, eval_func, eval_global, liftP_some,
    op_move, op_assign, op_pick, op_bin, op_un, op_convert, op_fieldAddr, op_field, op_indexAddr, op_index, op_extract, op_build, op_nilCheck, op_makeFunc,
    op_load, op_store, op_alloc, op_box, op_buildSlice, op_makeSlice, op_slice, op_call, op_append, op_copy, op_clear, op_lenS, op_lenT, lenS_slice, lenT_string, op_max, op_min, loadV_ptr, storeV_ptr, putU_some, pickV_bool, idxA_int, idxV_int, nilV_ptr, nilV_func, nilV_yield,
    bin_add, bin_sub, bin_mul, bin_and, bin_or, bin_xor, bin_andNot, bin_eql, bin_neq, bin_lss, bin_leq, bin_gtr, bin_geq, un_not, un_neg, max2_val, max3_val, min2_val,
    cells_int, cells_bool, cells_agg, cells_pointer, cells_slice, cells_string, field_val, extract_val, indexAt_slice, indexAt_arr, fieldAt_val, loadVar_val, storeVar_val, alloc_val, pickPart_agg, pickPart_one,
    get_push_self, get_set_self, Hp.get_push, Hp.get_setB, Nat.add_left_cancel_iff, Nat.reduceEqDiff, Nat.add_eq_left, Nat.left_eq_add, Nat.one_ne_zero, Nat.add_assoc, getD_lit, finR_one, finR_two, finR_zero, aResult_tmp, aResult_cell, target_val, target_yield, yielded, gtt, gtf, gft, gff, gnt, gnf, oneC_int, oneC_bool, oneC_ptr, oneC_slice, oneC_string, oneC_func, splice_nil, splice_cons, List.extract_toArray, List.extract_eq_take_drop, List.drop_zero, List.drop_succ_cons, List.take_succ_cons, List.take_zero, List.take_nil, List.all_cons, List.all_nil, Nat.reduceLeDiff, Nat.le_refl, true_and, and_true, and_self, Hp.cell, Hp.row, Hp.wr, Hp.size_push, Hp.size_setB, Hp.ro_push, Hp.ro_setB,
    List.getD_cons_zero, List.getD_cons_succ, List.setIfInBounds_toArray, List.set_cons_zero, List.set_cons_succ, List.map_toArray, List.map_cons, List.map_nil, List.getElem?_toArray,
    List.getElem?_cons_zero, List.getElem?_cons_succ, List.size_toArray, List.length_cons, List.length_nil, List.append_toArray, List.cons_append, List.nil_append, List.append_nil,
    List.replicate_succ, List.replicate_zero, replicate_arr, Nat.reduceAdd, Nat.reduceSub, Nat.reduceMul, Option.map_some, Option.isSome_some, Option.getD_some, Option.bind_some, Nat.zero_add, Nat.add_zero,
    if_true, if_false, ite_true, ite_false, ↓reduceIte, Bool.false_eq_true, decide_true, decide_false, Bool.not_true, Bool.not_false, beq_self_eq_true, Bool.and_true, Bool.true_and, Bool.and_false, Bool.false_and, KD0_some, KD1_some, KD2_some, KDT_none, KDT_some, putU_none, liftP_none, le_self_f, false_and, and_false, evalDM_nil, evalDM_0, evalDM_1, evalDM_t, evalDM_2, evalDM_g0, evalDM_g1, evalDM_gt, evalDM_g2, vb_int, vb_bool, vb_string, vb_nil, vb_undef, vb_nilSlice, vb_nilMap, vb_map, vb_ptr, vb_slice, vb_func, vb_agg, vb_tuple, all_lit, all_litn, allow_nil, allow_cons,
    flatB_int, flatB_bool, flatB_string, flatB_nil, flatB_undef, flatB_ptr, flatB_slice, flatB_nilSlice, flatB_map, flatB_func, view_size, view_ro, view_nil, view_cons, more_view, more_push, keepBlk_cells, zip_cons, zip_nil, toList_lit,
    keepR, Nat.add_sub_cancel_left, tb, Nat.reduceDiv, Nat.reduceMod, Nat.reducePow, Bool.or_true, Bool.true_or, Bool.or_false, Bool.false_or, Nat.add_lt_add_iff_left, Nat.add_le_add_iff_left, Nat.reduceLT, Nat.le_add_right, Nat.lt_add_right_iff_pos, Nat.zero_lt_succ, Nat.reduceLeDiff, Nat.lt_irrefl, decide_not, bin_eqb, bin_neb, bin_eqnp, bin_nenp, bin_eqns, bin_nens, Option.isNone_some, Option.isNone_none, nc0, nc1, nc2, nc3, nc4, evalC_drawn, Int.reduceEq, Int.reduceNe, Int.reduceLT, Int.reduceLE, Int.reduceToNat, Nat.reduceEqDiff, eq_self, List.getElem?_toArray, hasBx5, hasBx6, hasBx7, hasBx8, hasBx9, hasBx10, hasBx11, hasBx12, hasBx13, hasBx14, hasBx15, hasBx16, hasBx17, hasBx18, hasBx19, hasBx20, hasBx21, hasBx22, hasBx23, hasBx24, tArrx49, tBoolx4, tElemx29, tElemx31, tFieldAx36x0, tFieldAx36x1, tFieldAx36x2, tFieldAx36x3, tIntx5x3, tLenx29, tLenx31, tPartx3, tPartx5, tPartx22, tPartx29, tPartx36, tRowx29, tRowx31, tSizex22, tSizex29, tZerox29, hlt', c6, c10, c12, hb1]
        exact ⟨_, rfl⟩
      by_cases hb2 : 31 < b
      · have e : ∀ is, setF (B : Int) b is = (B : Int) := fun is => by unfold setF; rw [if_pos (.inr hb2)]
        rw [e] at c10 c12
        simp only [evalC_skip, evalC_ret, evalC_exit, evalC_label, evalC_region, evalC_seq, evalC_block, evalC_cond, pickC_true, pickC_false,
    Kreg_ap, Kseq_normal, Kseq_ret, Kseq_exit, Kblock_normal, Kblock_ret, Kblock_exit, Kloop_normal, Kloop_ret, Kloop_exit, Kret_normal, Kret_ret,
    evalOps_nil, evalOps_cons, evalOps_guard, Kops_some, put_some, put_none, eval_tmp, eval_const, eval_func, eval_global, liftP_some,
    op_move, op_assign, op_pick, op_bin, op_un, op_convert, op_fieldAddr, op_field, op_indexAddr, op_index, op_extract, op_build, op_nilCheck, op_makeFunc,
    op_load, op_store, op_alloc, op_box, op_buildSlice, op_makeSlice, op_slice, op_call, op_append, op_copy, op_clear, op_lenS, op_lenT, lenS_slice, lenT_string, op_max, op_min, loadV_ptr, storeV_ptr, putU_some, pickV_bool, idxA_int, idxV_int, nilV_ptr, nilV_func, nilV_yield,
    bin_add, bin_sub, bin_mul, bin_and, bin_or, bin_xor, bin_andNot, bin_eql, bin_neq, bin_lss, bin_leq, bin_gtr, bin_geq, un_not, un_neg, max2_val, max3_val, min2_val,
    cells_int, cells_bool, cells_agg, cells_pointer, cells_slice, cells_string, field_val, extract_val, indexAt_slice, indexAt_arr, fieldAt_val, loadVar_val, storeVar_val, alloc_val, pickPart_agg, pickPart_one,
    get_push_self, get_set_self, Hp.get_push, Hp.get_setB, Nat.add_left_cancel_iff, Nat.reduceEqDiff, Nat.add_eq_left, Nat.left_eq_add, Nat.one_ne_zero, Nat.add_assoc, getD_lit, finR_one, finR_two, finR_zero, aResult_tmp, aResult_cell, target_val, target_yield, yielded, gtt, gtf, gft, gff, gnt, gnf, oneC_int, oneC_bool, oneC_ptr, oneC_slice, oneC_string, oneC_func, splice_nil, splice_cons, List.extract_toArray, List.extract_eq_take_drop, List.drop_zero, List.drop_succ_cons, List.take_succ_cons, List.take_zero, List.take_nil, List.all_cons, List.all_nil, Nat.reduceLeDiff, Nat.le_refl, true_and, and_true, and_self, Hp.cell, Hp.row, Hp.wr, Hp.size_push, Hp.size_setB, Hp.ro_push, Hp.ro_setB,
    List.getD_cons_zero, List.getD_cons_succ, List.setIfInBounds_toArray, List.set_cons_zero, List.set_cons_succ, List.map_toArray, List.map_cons, List.map_nil, List.getElem?_toArray,
    List.getElem?_cons_zero, List.getElem?_cons_succ, List.size_toArray, List.length_cons, List.length_nil, List.append_toArray, List.cons_append, List.nil_append, List.append_nil,
    List.replicate_succ, List.replicate_zero, replicate_arr, Nat.reduceAdd, Nat.reduceSub, Nat.reduceMul, Option.map_some, Option.isSome_some, Option.getD_some, Option.bind_some, Nat.zero_add, Nat.add_zero,
    if_true, if_false, ite_true, ite_false, ↓reduceIte, Bool.false_eq_true, decide_true, decide_false, Bool.not_true, Bool.not_false, beq_self_eq_true, Bool.and_true, Bool.true_and, Bool.and_false, Bool.false_and, KD0_some, KD1_some, KD2_some, KDT_none, KDT_some, putU_none, liftP_none, le_self_f, false_and, and_false, evalDM_nil, evalDM_0, evalDM_1, evalDM_t, evalDM_2, evalDM_g0, evalDM_g1, evalDM_gt, evalDM_g2, vb_int, vb_bool, vb_string, vb_nil, vb_undef, vb_nilSlice, vb_nilMap, vb_map, vb_ptr, vb_slice, vb_func, vb_agg, vb_tuple, all_lit, all_litn, allow_nil, allow_cons,
    flatB_int, flatB_bool, flatB_string, flatB_nil, flatB_undef, flatB_ptr, flatB_slice, flatB_nilSlice, flatB_map, flatB_func, view_size, view_ro, view_nil, view_cons, more_view, more_push, keepBlk_cells, zip_cons, zip_nil, toList_lit,
    keepR, Nat.add_sub_cancel_left, tb, Nat.reduceDiv, Nat.reduceMod, Nat.reducePow, Bool.or_true, Bool.true_or, Bool.or_false, Bool.false_or, Nat.add_lt_add_iff_left, Nat.add_le_add_iff_left, Nat.reduceLT, Nat.le_add_right, Nat.lt_add_right_iff_pos, Nat.zero_lt_succ, Nat.reduceLeDiff, Nat.lt_irrefl, decide_not, bin_eqb, bin_neb, bin_eqnp, bin_nenp, bin_eqns, bin_nens, Option.isNone_some, Option.isNone_none, nc0, nc1, nc2, nc3, nc4, evalC_drawn, Int.reduceEq, Int.reduceNe, Int.reduceLT, Int.reduceLE, Int.reduceToNat, Nat.reduceEqDiff, eq_self, List.getElem?_toArray, hasBx5, hasBx6, hasBx7, hasBx8, hasBx9, hasBx10, hasBx11, hasBx12, hasBx13, hasBx14, hasBx15, hasBx16, hasBx17, hasBx18, hasBx19, hasBx20, hasBx21, hasBx22, hasBx23, hasBx24, tArrx49, tBoolx4, tElemx29, tElemx31, tFieldAx36x0, tFieldAx36x1, tFieldAx36x2, tFieldAx36x3, tIntx5x3, tLenx29, tLenx31, tPartx3, tPartx5, tPartx22, tPartx29, tPartx36, tRowx29, tRowx31, tSizex22, tSizex29, tZerox29, hlt', c6, c10, c12, hb1, hb2]
        exact ⟨_, rfl⟩
      obtain ⟨d, rfl⟩ := Int.eq_ofNat_of_zero_le (show 0 ≤ b by omega)
      have hd : d < 32 := by omega
      rw [setF_nat hd] at c10 c12
      have hT := setN_lt (is := true) hN hd
      have hF := setN_lt (is := false) hN hd
      have c10' := fun n h => call10 (I := IS3) rfl (n := n) (s := ((setN B d false : Nat) : Int)) (b := (d : Int)) (h := h) ⟨by omega, by omega⟩
      have c12' := fun n h => call12 (I := IS3) rfl (n := n) (s := ((setN B d true : Nat) : Int)) (b := (d : Int)) (h := h) ⟨by omega, by omega⟩
      have c8 := fun n h => call8 (I := IS3) rfl (n := n) (s := ((setN B d true : Nat) : Int)) (b := (d : Int)) (h := h) ⟨by omega, by omega⟩
      have c8' := fun n h => call8 (I := IS3) rfl (n := n) (s := ((setN B d false : Nat) : Int)) (b := (d : Int)) (h := h) ⟨by omega, by omega⟩
      rw [setF_nat hd, set_set hN hd] at c10' c12'
      rw [has_set hN hd] at c8 c8'
      simp only [evalC_skip, evalC_ret, evalC_exit, evalC_label, evalC_region, evalC_seq, evalC_block, evalC_cond, pickC_true, pickC_false,
    Kreg_ap, Kseq_normal, Kseq_ret, Kseq_exit, Kblock_normal, Kblock_ret, Kblock_exit, Kloop_normal, Kloop_ret, Kloop_exit, Kret_normal, Kret_ret,
    evalOps_nil, evalOps_cons, evalOps_guard, Kops_some, put_some, put_none, eval_tmp, eval_const, eval_func, eval_global, liftP_some,
    op_move, op_assign, op_pick, op_bin, op_un, op_convert, op_fieldAddr, op_field, op_indexAddr, op_index, op_extract, op_build, op_nilCheck, op_makeFunc,
    op_load, op_store, op_alloc, op_box, op_buildSlice, op_makeSlice, op_slice, op_call, op_append, op_copy, op_clear, op_lenS, op_lenT, lenS_slice, lenT_string, op_max, op_min, loadV_ptr, storeV_ptr, putU_some, pickV_bool, idxA_int, idxV_int, nilV_ptr, nilV_func, nilV_yield,
    bin_add, bin_sub, bin_mul, bin_and, bin_or, bin_xor, bin_andNot, bin_eql, bin_neq, bin_lss, bin_leq, bin_gtr, bin_geq, un_not, un_neg, max2_val, max3_val, min2_val,
    cells_int, cells_bool, cells_agg, cells_pointer, cells_slice, cells_string, field_val, extract_val, indexAt_slice, indexAt_arr, fieldAt_val, loadVar_val, storeVar_val, alloc_val, pickPart_agg, pickPart_one,
    get_push_self, get_set_self, Hp.get_push, Hp.get_setB, Nat.add_left_cancel_iff, Nat.reduceEqDiff, Nat.add_eq_left, Nat.left_eq_add, Nat.one_ne_zero, Nat.add_assoc, getD_lit, finR_one, finR_two, finR_zero, aResult_tmp, aResult_cell, target_val, target_yield, yielded, gtt, gtf, gft, gff, gnt, gnf, oneC_int, oneC_bool, oneC_ptr, oneC_slice, oneC_string, oneC_func, splice_nil, splice_cons, List.extract_toArray, List.extract_eq_take_drop, List.drop_zero, List.drop_succ_cons, List.take_succ_cons, List.take_zero, List.take_nil, List.all_cons, List.all_nil, Nat.reduceLeDiff, Nat.le_refl, true_and, and_true, and_self, Hp.cell, Hp.row, Hp.wr, Hp.size_push, Hp.size_setB, Hp.ro_push, Hp.ro_setB,
    List.getD_cons_zero, List.getD_cons_succ, List.setIfInBounds_toArray, List.set_cons_zero, List.set_cons_succ, List.map_toArray, List.map_cons, List.map_nil, List.getElem?_toArray,
    List.getElem?_cons_zero, List.getElem?_cons_succ, List.size_toArray, List.length_cons, List.length_nil, List.append_toArray, List.cons_append, List.nil_append, List.append_nil,
    List.replicate_succ, List.replicate_zero, replicate_arr, Nat.reduceAdd, Nat.reduceSub, Nat.reduceMul, Option.map_some, Option.isSome_some, Option.getD_some, Option.bind_some, Nat.zero_add, Nat.add_zero,
    if_true, if_false, ite_true, ite_false, ↓reduceIte, Bool.false_eq_true, decide_true, decide_false, Bool.not_true, Bool.not_false, beq_self_eq_true, Bool.and_true, Bool.true_and, Bool.and_false, Bool.false_and, KD0_some, KD1_some, KD2_some, KDT_none, KDT_some, putU_none, liftP_none, le_self_f, false_and, and_false, evalDM_nil, evalDM_0, evalDM_1, evalDM_t, evalDM_2, evalDM_g0, evalDM_g1, evalDM_gt, evalDM_g2, vb_int, vb_bool, vb_string, vb_nil, vb_undef, vb_nilSlice, vb_nilMap, vb_map, vb_ptr, vb_slice, vb_func, vb_agg, vb_tuple, all_lit, all_litn, allow_nil, allow_cons,
    flatB_int, flatB_bool, flatB_string, flatB_nil, flatB_undef, flatB_ptr, flatB_slice, flatB_nilSlice, flatB_map, flatB_func, view_size, view_ro, view_nil, view_cons, more_view, more_push, keepBlk_cells, zip_cons, zip_nil, toList_lit,
    keepR, Nat.add_sub_cancel_left, tb, Nat.reduceDiv, Nat.reduceMod, Nat.reducePow, Bool.or_true, Bool.true_or, Bool.or_false, Bool.false_or, Nat.add_lt_add_iff_left, Nat.add_le_add_iff_left, Nat.reduceLT, Nat.le_add_right, Nat.lt_add_right_iff_pos, Nat.zero_lt_succ, Nat.reduceLeDiff, Nat.lt_irrefl, decide_not, bin_eqb, bin_neb, bin_eqnp, bin_nenp, bin_eqns, bin_nens, Option.isNone_some, Option.isNone_none, nc0, nc1, nc2, nc3, nc4, evalC_drawn, Int.reduceEq, Int.reduceNe, Int.reduceLT, Int.reduceLE, Int.reduceToNat, Nat.reduceEqDiff, eq_self, List.getElem?_toArray, hasBx5, hasBx6, hasBx7, hasBx8, hasBx9, hasBx10, hasBx11, hasBx12, hasBx13, hasBx14, hasBx15, hasBx16, hasBx17, hasBx18, hasBx19, hasBx20, hasBx21, hasBx22, hasBx23, hasBx24, tArrx49, tBoolx4, tElemx29, tElemx31, tFieldAx36x0, tFieldAx36x1, tFieldAx36x2, tFieldAx36x3, tIntx5x3, tLenx29, tLenx31, tPartx3, tPartx5, tPartx22, tPartx29, tPartx36, tRowx29, tRowx31, tSizex22, tSizex29, tZerox29, hlt', c6, c10, c12, c10', c12', c8, c8', hb1, hb2]
      exact ⟨_, rfl⟩
  · omega
  · exact ⟨0, 0, rfl, by omega, rfl, back_zero N, rfl, rfl, rfl, rfl, rfl, rfl, rfl, rfl, rfl⟩
end Go.Abs.A1d
