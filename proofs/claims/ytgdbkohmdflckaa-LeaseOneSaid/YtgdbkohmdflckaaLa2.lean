/- Leases: what they turn to. -/
import Derived.Test.YtgdbkohmdflckaaLa1
namespace Go.Abs.A1
open Go.Proofs
set_option maxRecDepth 10000
set_option linter.all false

def f21 (a b c : Int) : Bool := decide (f18 a b c = 0) && decide (c ≤ a)
def g21 := gOf D1 fun x => .bool (f21 x.1.1 x.1.2.1 x.1.2.2.1)
theorem con21 : Con Try.prog (CKb Try.prog) 21 g21 := by
  refine Con.flat base ok1 _ (fun a => by simp [flatB]) ?_
  rintro ⟨⟨a, b, c, -⟩, -⟩ h hro
  refine ⟨2, ?_⟩
  show ∃ h', evalV Try.prog I1 (1 + 1) (.fn 21) #[vL a b c] h = some (.bool (f21 a b c), h') ∧ _
  rw [evalV_call (P := Try.prog) (intr := I1) (f := 21) (m := 13) (rs := #[.tmp 2]) rfl Try.func21 rfl rfl rfl]
  have c18 := fun h => call18 (I := I1) rfl (n := 0) (a := a) (b := b) (c := c) (h := h)
  by_cases h1 : f18 a b c = 0 <;> by_cases h2 : c ≤ a <;>
    simp only [evalC_skip, evalC_ret, evalC_exit, evalC_label, evalC_region, evalC_seq, evalC_block, evalC_cond, pickC_true, pickC_false,
    Kreg_ap, Kseq_normal, Kseq_ret, Kseq_exit, Kblock_normal, Kblock_ret, Kblock_exit, Kloop_normal, Kloop_ret, Kloop_exit, Kret_normal, Kret_ret,
    evalOps_nil, evalOps_cons, evalOps_guard, Kops_some, put_some, put_none, eval_tmp, eval_const, eval_func, eval_global, liftP_some,
    op_move, op_assign, op_pick, op_bin, op_un, op_convert, op_fieldAddr, op_field, op_indexAddr, op_index, op_extract, op_build, op_nilCheck, op_makeFunc,
    op_load, op_store, op_alloc, op_box, op_buildSlice, op_makeSlice, op_slice, op_call, op_append, op_copy, op_clear, op_lenS, op_lenT, lenS_slice, lenT_string, op_max, op_min, loadV_ptr, storeV_ptr, putU_some, pickV_bool, idxA_int, idxV_int, nilV_ptr, nilV_func, nilV_yield,
    bin_add, bin_sub, bin_mul, bin_and, bin_or, bin_xor, bin_andNot, bin_eql, bin_neq, bin_lss, bin_leq, bin_gtr, bin_geq, un_not, un_neg, max2_val, max3_val, min2_val,
    cells_int, cells_bool, cells_agg, cells_pointer, cells_slice, cells_string, field_val, extract_val, indexAt_slice, indexAt_arr, fieldAt_val, loadVar_val, storeVar_val, alloc_val, pickPart_agg, pickPart_one,
    get_push_self, get_set_self, Hp.get_push, Hp.get_setB, Nat.add_left_cancel_iff, Nat.reduceEqDiff, Nat.add_eq_left, Nat.left_eq_add, Nat.one_ne_zero, Nat.add_assoc, getD_lit, finR_one, finR_two, finR_zero, aResult_tmp, aResult_cell, target_val, target_yield, yielded, gtt, gtf, gft, gff, gnt, gnf, oneC_int, oneC_bool, oneC_ptr, oneC_slice, oneC_string, oneC_func, splice_nil, splice_cons, List.extract_toArray, List.extract_eq_take_drop, List.drop_zero, List.drop_succ_cons, List.take_succ_cons, List.take_zero, List.take_nil, List.all_cons, List.all_nil, Nat.reduceLeDiff, Nat.le_refl, true_and, and_true, and_self, Hp.cell, Hp.row, Hp.wr, Hp.size_push, Hp.size_setB, Hp.ro_push, Hp.ro_setB,
    List.getD_cons_zero, List.getD_cons_succ, List.setIfInBounds_toArray, List.set_cons_zero, List.set_cons_succ, List.map_toArray, List.map_cons, List.map_nil, List.getElem?_toArray,
    List.getElem?_cons_zero, List.getElem?_cons_succ, List.size_toArray, List.length_cons, List.length_nil, List.append_toArray, List.cons_append, List.nil_append, List.append_nil,
    List.replicate_succ, List.replicate_zero, replicate_arr, Nat.reduceAdd, Nat.reduceSub, Nat.reduceMul, Option.map_some, Option.isSome_some, Option.getD_some, Option.bind_some, Nat.zero_add, Nat.add_zero,
    if_true, if_false, ite_true, ite_false, ↓reduceIte, Bool.false_eq_true, decide_true, decide_false, Bool.not_true, Bool.not_false, beq_self_eq_true, Bool.and_true, Bool.true_and, Bool.and_false, Bool.false_and, KD0_some, KD1_some, KD2_some, evalDM_nil, evalDM_0, evalDM_1, evalDM_2, evalDM_g0, evalDM_g1, evalDM_g2, vb_int, vb_bool, vb_string, vb_nil, vb_undef, vb_nilSlice, vb_nilMap, vb_map, vb_ptr, vb_slice, vb_func, vb_agg, vb_tuple, all_lit, all_litn, allow_nil, allow_cons,
    flatB_int, flatB_bool, flatB_string, flatB_nil, flatB_undef, flatB_ptr, flatB_slice, flatB_nilSlice, flatB_map, flatB_func, view_size, view_ro, view_nil, view_cons, more_view, more_push, keepBlk_cells, zip_cons, zip_nil, toList_lit,
    keepR_same, keepR_add, Nat.add_sub_cancel_left, tb, Nat.reduceDiv, Nat.reduceMod, Nat.reducePow, Bool.or_true, Bool.true_or, Bool.or_false, Bool.false_or, Nat.add_lt_add_iff_left, Nat.add_le_add_iff_left, Nat.reduceLT, Nat.le_add_right, Nat.lt_add_right_iff_pos, Nat.zero_lt_succ, Nat.reduceLeDiff, Nat.lt_irrefl, decide_not, bin_eqb, bin_neb, bin_eqnp, bin_nenp, bin_eqns, bin_nens, Option.isNone_some, Option.isNone_none, evalC_drawn, Int.reduceEq, Int.reduceNe, Int.reduceLT, Int.reduceLE, Int.reduceToNat, Nat.reduceEqDiff, eq_self, List.getElem?_toArray, hasBx11, hasBx12, hasBx13, hasBx14, hasBx15, hasBx16, hasBx17, hasBx18, hasBx19, hasBx20, hasBx21, hasBx22, hasBx23, hasBx24, hasBx25, hasBx26, hasBx27, hasBx28, hasBx29, hasBx30, hasBx31, hasBx32, hasBx33, hasBx34, hasBx35, hasBx36, hasBx37, hasBx38, hasBx39, hasBx40, hasBx41, hasBx42, tBoolx4, tElemx40, tElemx41, tElemx42, tElemx50, tFieldAx33x0, tFieldAx33x1, tFieldAx33x2, tFieldAx44x0, tFieldAx44x1, tFieldAx46x0, tFieldAx46x1, tFieldAx49x0, tFieldAx49x1, tFieldAx49x2, tFieldAx49x3, tIntx5x3, tLenx40, tLenx41, tLenx42, tLenx50, tPartx3, tPartx22, tPartx31, tPartx33, tPartx44, tPartx46, tPartx49, tRowx41, tRowx42, tRowx50, tSizex31, tSizex33, tSizex44, tSizex46, tSizex49, tZerox33, tZerox44, tZerox46, tZerox49, c18, h1, h2, f21] <;> exact ⟨_, rfl, ((Keeps.refl h).push _).get⟩
theorem call21 {I : Intr} (hI : I 21 = some g21) {n : Nat} {a b c : Int} {h : Hp} : evalV Try.prog I (n + 1) (.fn 21) #[vL a b c] h = some (.bool (f21 a b c), h) := (evalV_intr hI).trans rfl

def f39 (a b c : Int) : Int := if f19 a b c = true then (if 4611686018427387804 < a then 6 else 0) else 230
def g39 := gOf D1 fun x => .int .i64 (f39 x.1.1 x.1.2.1 x.1.2.2.1)
theorem con39 : Con Try.prog (CKb Try.prog) 39 g39 := by
  refine Con.flat base ok1 _ (fun a => by simp [flatB]) ?_
  rintro ⟨⟨a, b, c, -⟩, -⟩ h hro
  refine ⟨2, ?_⟩
  show ∃ h', evalV Try.prog I1 (1 + 1) (.fn 39) #[vL a b c] h = some (.int .i64 (f39 a b c), h') ∧ _
  rw [evalV_call (P := Try.prog) (intr := I1) (f := 39) (m := 9) (rs := #[.tmp 2]) rfl Try.func39 rfl rfl rfl]
  have c19 := fun h => call19 (I := I1) rfl (n := 0) (a := a) (b := b) (c := c) (h := h)
  cases h1 : f19 a b c <;> by_cases h2 : 4611686018427387804 < a <;>
    simp only [evalC_skip, evalC_ret, evalC_exit, evalC_label, evalC_region, evalC_seq, evalC_block, evalC_cond, pickC_true, pickC_false,
    Kreg_ap, Kseq_normal, Kseq_ret, Kseq_exit, Kblock_normal, Kblock_ret, Kblock_exit, Kloop_normal, Kloop_ret, Kloop_exit, Kret_normal, Kret_ret,
    evalOps_nil, evalOps_cons, evalOps_guard, Kops_some, put_some, put_none, eval_tmp, eval_const, eval_func, eval_global, liftP_some,
    op_move, op_assign, op_pick, op_bin, op_un, op_convert, op_fieldAddr, op_field, op_indexAddr, op_index, op_extract, op_build, op_nilCheck, op_makeFunc,
    op_load, op_store, op_alloc, op_box, op_buildSlice, op_makeSlice, op_slice, op_call, op_append, op_copy, op_clear, op_lenS, op_lenT, lenS_slice, lenT_string, op_max, op_min, loadV_ptr, storeV_ptr, putU_some, pickV_bool, idxA_int, idxV_int, nilV_ptr, nilV_func, nilV_yield,
    bin_add, bin_sub, bin_mul, bin_and, bin_or, bin_xor, bin_andNot, bin_eql, bin_neq, bin_lss, bin_leq, bin_gtr, bin_geq, un_not, un_neg, max2_val, max3_val, min2_val,
    cells_int, cells_bool, cells_agg, cells_pointer, cells_slice, cells_string, field_val, extract_val, indexAt_slice, indexAt_arr, fieldAt_val, loadVar_val, storeVar_val, alloc_val, pickPart_agg, pickPart_one,
    get_push_self, get_set_self, Hp.get_push, Hp.get_setB, Nat.add_left_cancel_iff, Nat.reduceEqDiff, Nat.add_eq_left, Nat.left_eq_add, Nat.one_ne_zero, Nat.add_assoc, getD_lit, finR_one, finR_two, finR_zero, aResult_tmp, aResult_cell, target_val, target_yield, yielded, gtt, gtf, gft, gff, gnt, gnf, oneC_int, oneC_bool, oneC_ptr, oneC_slice, oneC_string, oneC_func, splice_nil, splice_cons, List.extract_toArray, List.extract_eq_take_drop, List.drop_zero, List.drop_succ_cons, List.take_succ_cons, List.take_zero, List.take_nil, List.all_cons, List.all_nil, Nat.reduceLeDiff, Nat.le_refl, true_and, and_true, and_self, Hp.cell, Hp.row, Hp.wr, Hp.size_push, Hp.size_setB, Hp.ro_push, Hp.ro_setB,
    List.getD_cons_zero, List.getD_cons_succ, List.setIfInBounds_toArray, List.set_cons_zero, List.set_cons_succ, List.map_toArray, List.map_cons, List.map_nil, List.getElem?_toArray,
    List.getElem?_cons_zero, List.getElem?_cons_succ, List.size_toArray, List.length_cons, List.length_nil, List.append_toArray, List.cons_append, List.nil_append, List.append_nil,
    List.replicate_succ, List.replicate_zero, replicate_arr, Nat.reduceAdd, Nat.reduceSub, Nat.reduceMul, Option.map_some, Option.isSome_some, Option.getD_some, Option.bind_some, Nat.zero_add, Nat.add_zero,
    if_true, if_false, ite_true, ite_false, ↓reduceIte, Bool.false_eq_true, decide_true, decide_false, Bool.not_true, Bool.not_false, beq_self_eq_true, Bool.and_true, Bool.true_and, Bool.and_false, Bool.false_and, KD0_some, KD1_some, KD2_some, evalDM_nil, evalDM_0, evalDM_1, evalDM_2, evalDM_g0, evalDM_g1, evalDM_g2, vb_int, vb_bool, vb_string, vb_nil, vb_undef, vb_nilSlice, vb_nilMap, vb_map, vb_ptr, vb_slice, vb_func, vb_agg, vb_tuple, all_lit, all_litn, allow_nil, allow_cons,
    flatB_int, flatB_bool, flatB_string, flatB_nil, flatB_undef, flatB_ptr, flatB_slice, flatB_nilSlice, flatB_map, flatB_func, view_size, view_ro, view_nil, view_cons, more_view, more_push, keepBlk_cells, zip_cons, zip_nil, toList_lit,
    keepR_same, keepR_add, Nat.add_sub_cancel_left, tb, Nat.reduceDiv, Nat.reduceMod, Nat.reducePow, Bool.or_true, Bool.true_or, Bool.or_false, Bool.false_or, Nat.add_lt_add_iff_left, Nat.add_le_add_iff_left, Nat.reduceLT, Nat.le_add_right, Nat.lt_add_right_iff_pos, Nat.zero_lt_succ, Nat.reduceLeDiff, Nat.lt_irrefl, decide_not, bin_eqb, bin_neb, bin_eqnp, bin_nenp, bin_eqns, bin_nens, Option.isNone_some, Option.isNone_none, evalC_drawn, Int.reduceEq, Int.reduceNe, Int.reduceLT, Int.reduceLE, Int.reduceToNat, Nat.reduceEqDiff, eq_self, List.getElem?_toArray, hasBx11, hasBx12, hasBx13, hasBx14, hasBx15, hasBx16, hasBx17, hasBx18, hasBx19, hasBx20, hasBx21, hasBx22, hasBx23, hasBx24, hasBx25, hasBx26, hasBx27, hasBx28, hasBx29, hasBx30, hasBx31, hasBx32, hasBx33, hasBx34, hasBx35, hasBx36, hasBx37, hasBx38, hasBx39, hasBx40, hasBx41, hasBx42, tBoolx4, tElemx40, tElemx41, tElemx42, tElemx50, tFieldAx33x0, tFieldAx33x1, tFieldAx33x2, tFieldAx44x0, tFieldAx44x1, tFieldAx46x0, tFieldAx46x1, tFieldAx49x0, tFieldAx49x1, tFieldAx49x2, tFieldAx49x3, tIntx5x3, tLenx40, tLenx41, tLenx42, tLenx50, tPartx3, tPartx22, tPartx31, tPartx33, tPartx44, tPartx46, tPartx49, tRowx41, tRowx42, tRowx50, tSizex31, tSizex33, tSizex44, tSizex46, tSizex49, tZerox33, tZerox44, tZerox46, tZerox49, c19, h1, h2, f39] <;> exact ⟨_, rfl, ((Keeps.refl h).push _).get⟩
theorem call39 {I : Intr} (hI : I 39 = some g39) {n : Nat} {a b c : Int} {h : Hp} : evalV Try.prog I (n + 1) (.fn 39) #[vL a b c] h = some (.int .i64 (f39 a b c), h) := (evalV_intr hI).trans rfl

def T2 : List (FuncId × (Array Value → Hp → Option (Value × Hp))) := [(18, g18), (19, g19), (20, g20), (21, g21), (39, g39)]
abbrev I2 : Intr := fun f => T2.lookup f
theorem ok2 : IntrOk Try.prog (CKb Try.prog) I2 := Con.table fun x hx => by
  simp only [T2, List.mem_cons, List.not_mem_nil, or_false] at hx
  rcases hx with rfl | rfl | rfl | rfl | rfl
  · exact con18
  · exact con19
  · exact con20
  · exact con21
  · exact con39

theorem build33z : pureP Try.prog (Instr.build 33 #[]) = some (vL 0 0 0) := by kernel_rfl
theorem build33p (x y z : Int) : pureP Try.prog (Instr.build 33 #[(0, .int .u64 x), (1, .int .u64 y), (2, .int .u64 z)]) = some (vL x y z) := by kernel_rfl

/-- A lease and an error. -/
def vE (p : Int × Int × Int × Int) : Value := .tuple #[vL p.1 p.2.1 p.2.2.1, .int .i64 p.2.2.2]
theorem vE_flat (p : Int × Int × Int × Int) : flatB (vE p) = true := by simp [vE, flatB]

def f23 (a b c : Int) : Int × Int × Int × Int := if f39 a b c = 0 then (IntKind.u64.wrap (a + 1), b, c, 0) else (0, 0, 0, f39 a b c)
def g23 := gOf D1 fun x => vE (f23 x.1.1 x.1.2.1 x.1.2.2.1)
theorem con23 : Con Try.prog (CKb Try.prog) 23 g23 := by
  refine Con.flat base ok2 _ (fun a => vE_flat _) ?_
  rintro ⟨⟨a, b, c, -⟩, -⟩ h hro
  refine ⟨2, ?_⟩
  show ∃ h', evalV Try.prog I2 (1 + 1) (.fn 23) #[vL a b c] h = some (vE (f23 a b c), h') ∧ _
  rw [evalV_call (P := Try.prog) (intr := I2) (f := 23) (m := 19) (rs := #[.cell 2 33, .tmp 3]) rfl Try.func23 rfl rfl rfl]
  have c39 := fun h => call39 (I := I2) rfl (n := 0) (a := a) (b := b) (c := c) (h := h)
  by_cases h1 : f39 a b c = 0 <;> 
    simp only [evalC_skip, evalC_ret, evalC_exit, evalC_label, evalC_region, evalC_seq, evalC_block, evalC_cond, pickC_true, pickC_false,
    Kreg_ap, Kseq_normal, Kseq_ret, Kseq_exit, Kblock_normal, Kblock_ret, Kblock_exit, Kloop_normal, Kloop_ret, Kloop_exit, Kret_normal, Kret_ret,
    evalOps_nil, evalOps_cons, evalOps_guard, Kops_some, put_some, put_none, eval_tmp, eval_const, eval_func, eval_global, liftP_some,
    op_move, op_assign, op_pick, op_bin, op_un, op_convert, op_fieldAddr, op_field, op_indexAddr, op_index, op_extract, op_build, op_nilCheck, op_makeFunc,
    op_load, op_store, op_alloc, op_box, op_buildSlice, op_makeSlice, op_slice, op_call, op_append, op_copy, op_clear, op_lenS, op_lenT, lenS_slice, lenT_string, op_max, op_min, loadV_ptr, storeV_ptr, putU_some, pickV_bool, idxA_int, idxV_int, nilV_ptr, nilV_func, nilV_yield,
    bin_add, bin_sub, bin_mul, bin_and, bin_or, bin_xor, bin_andNot, bin_eql, bin_neq, bin_lss, bin_leq, bin_gtr, bin_geq, un_not, un_neg, max2_val, max3_val, min2_val,
    cells_int, cells_bool, cells_agg, cells_pointer, cells_slice, cells_string, field_val, extract_val, indexAt_slice, indexAt_arr, fieldAt_val, loadVar_val, storeVar_val, alloc_val, pickPart_agg, pickPart_one,
    get_push_self, get_set_self, Hp.get_push, Hp.get_setB, Nat.add_left_cancel_iff, Nat.reduceEqDiff, Nat.add_eq_left, Nat.left_eq_add, Nat.one_ne_zero, Nat.add_assoc, getD_lit, finR_one, finR_two, finR_zero, aResult_tmp, aResult_cell, target_val, target_yield, yielded, gtt, gtf, gft, gff, gnt, gnf, oneC_int, oneC_bool, oneC_ptr, oneC_slice, oneC_string, oneC_func, splice_nil, splice_cons, List.extract_toArray, List.extract_eq_take_drop, List.drop_zero, List.drop_succ_cons, List.take_succ_cons, List.take_zero, List.take_nil, List.all_cons, List.all_nil, Nat.reduceLeDiff, Nat.le_refl, true_and, and_true, and_self, Hp.cell, Hp.row, Hp.wr, Hp.size_push, Hp.size_setB, Hp.ro_push, Hp.ro_setB,
    List.getD_cons_zero, List.getD_cons_succ, List.setIfInBounds_toArray, List.set_cons_zero, List.set_cons_succ, List.map_toArray, List.map_cons, List.map_nil, List.getElem?_toArray,
    List.getElem?_cons_zero, List.getElem?_cons_succ, List.size_toArray, List.length_cons, List.length_nil, List.append_toArray, List.cons_append, List.nil_append, List.append_nil,
    List.replicate_succ, List.replicate_zero, replicate_arr, Nat.reduceAdd, Nat.reduceSub, Nat.reduceMul, Option.map_some, Option.isSome_some, Option.getD_some, Option.bind_some, Nat.zero_add, Nat.add_zero,
    if_true, if_false, ite_true, ite_false, ↓reduceIte, Bool.false_eq_true, decide_true, decide_false, Bool.not_true, Bool.not_false, beq_self_eq_true, Bool.and_true, Bool.true_and, Bool.and_false, Bool.false_and, KD0_some, KD1_some, KD2_some, evalDM_nil, evalDM_0, evalDM_1, evalDM_2, evalDM_g0, evalDM_g1, evalDM_g2, vb_int, vb_bool, vb_string, vb_nil, vb_undef, vb_nilSlice, vb_nilMap, vb_map, vb_ptr, vb_slice, vb_func, vb_agg, vb_tuple, all_lit, all_litn, allow_nil, allow_cons,
    flatB_int, flatB_bool, flatB_string, flatB_nil, flatB_undef, flatB_ptr, flatB_slice, flatB_nilSlice, flatB_map, flatB_func, view_size, view_ro, view_nil, view_cons, more_view, more_push, keepBlk_cells, zip_cons, zip_nil, toList_lit,
    keepR_same, keepR_add, Nat.add_sub_cancel_left, tb, Nat.reduceDiv, Nat.reduceMod, Nat.reducePow, Bool.or_true, Bool.true_or, Bool.or_false, Bool.false_or, Nat.add_lt_add_iff_left, Nat.add_le_add_iff_left, Nat.reduceLT, Nat.le_add_right, Nat.lt_add_right_iff_pos, Nat.zero_lt_succ, Nat.reduceLeDiff, Nat.lt_irrefl, decide_not, bin_eqb, bin_neb, bin_eqnp, bin_nenp, bin_eqns, bin_nens, Option.isNone_some, Option.isNone_none, evalC_drawn, Int.reduceEq, Int.reduceNe, Int.reduceLT, Int.reduceLE, Int.reduceToNat, Nat.reduceEqDiff, eq_self, List.getElem?_toArray, hasBx11, hasBx12, hasBx13, hasBx14, hasBx15, hasBx16, hasBx17, hasBx18, hasBx19, hasBx20, hasBx21, hasBx22, hasBx23, hasBx24, hasBx25, hasBx26, hasBx27, hasBx28, hasBx29, hasBx30, hasBx31, hasBx32, hasBx33, hasBx34, hasBx35, hasBx36, hasBx37, hasBx38, hasBx39, hasBx40, hasBx41, hasBx42, tBoolx4, tElemx40, tElemx41, tElemx42, tElemx50, tFieldAx33x0, tFieldAx33x1, tFieldAx33x2, tFieldAx44x0, tFieldAx44x1, tFieldAx46x0, tFieldAx46x1, tFieldAx49x0, tFieldAx49x1, tFieldAx49x2, tFieldAx49x3, tIntx5x3, tLenx40, tLenx41, tLenx42, tLenx50, tPartx3, tPartx22, tPartx31, tPartx33, tPartx44, tPartx46, tPartx49, tRowx41, tRowx42, tRowx50, tSizex31, tSizex33, tSizex44, tSizex46, tSizex49, tZerox33, tZerox44, tZerox46, tZerox49, c39, h1, f23, build33z, build33p, vE, hro, ro_le hro]
  · exact ⟨_, rfl, (Keeps.get (by repeat (first | exact Keeps.refl _ | refine Keeps.push ?_ _ | refine Keeps.set ?_ (by first | omega | (simp only [Hp.size_push, Hp.size_setB]; omega)) _)))⟩
  · exact ⟨_, rfl, (Keeps.get (by repeat (first | exact Keeps.refl _ | refine Keeps.push ?_ _ | refine Keeps.set ?_ (by first | omega | (simp only [Hp.size_push, Hp.size_setB]; omega)) _)))⟩
theorem call23 {I : Intr} (hI : I 23 = some g23) {n : Nat} {a b c : Int} {h : Hp} : evalV Try.prog I (n + 1) (.fn 23) #[vL a b c] h = some (vE (f23 a b c), h) := (evalV_intr hI).trans rfl

def f25 (a b c : Int) : Int × Int × Int × Int := if f39 a b c = 0 then (a, b, (if c < IntKind.u64.wrap (a + 12) then IntKind.u64.wrap (a + 12) else c), 0) else (0, 0, 0, f39 a b c)
def g25 := gOf D1 fun x => vE (f25 x.1.1 x.1.2.1 x.1.2.2.1)
theorem con25 : Con Try.prog (CKb Try.prog) 25 g25 := by
  refine Con.flat base ok2 _ (fun a => vE_flat _) ?_
  rintro ⟨⟨a, b, c, -⟩, -⟩ h hro
  refine ⟨2, ?_⟩
  show ∃ h', evalV Try.prog I2 (1 + 1) (.fn 25) #[vL a b c] h = some (vE (f25 a b c), h') ∧ _
  rw [evalV_call (P := Try.prog) (intr := I2) (f := 25) (m := 22) (rs := #[.cell 2 33, .tmp 3]) rfl Try.func25 rfl rfl rfl]
  have c39 := fun h => call39 (I := I2) rfl (n := 0) (a := a) (b := b) (c := c) (h := h)
  by_cases h1 : f39 a b c = 0 <;> by_cases h2 : c < IntKind.u64.wrap (a + 12) <;>
    simp only [evalC_skip, evalC_ret, evalC_exit, evalC_label, evalC_region, evalC_seq, evalC_block, evalC_cond, pickC_true, pickC_false,
    Kreg_ap, Kseq_normal, Kseq_ret, Kseq_exit, Kblock_normal, Kblock_ret, Kblock_exit, Kloop_normal, Kloop_ret, Kloop_exit, Kret_normal, Kret_ret,
    evalOps_nil, evalOps_cons, evalOps_guard, Kops_some, put_some, put_none, eval_tmp, eval_const, eval_func, eval_global, liftP_some,
    op_move, op_assign, op_pick, op_bin, op_un, op_convert, op_fieldAddr, op_field, op_indexAddr, op_index, op_extract, op_build, op_nilCheck, op_makeFunc,
    op_load, op_store, op_alloc, op_box, op_buildSlice, op_makeSlice, op_slice, op_call, op_append, op_copy, op_clear, op_lenS, op_lenT, lenS_slice, lenT_string, op_max, op_min, loadV_ptr, storeV_ptr, putU_some, pickV_bool, idxA_int, idxV_int, nilV_ptr, nilV_func, nilV_yield,
    bin_add, bin_sub, bin_mul, bin_and, bin_or, bin_xor, bin_andNot, bin_eql, bin_neq, bin_lss, bin_leq, bin_gtr, bin_geq, un_not, un_neg, max2_val, max3_val, min2_val,
    cells_int, cells_bool, cells_agg, cells_pointer, cells_slice, cells_string, field_val, extract_val, indexAt_slice, indexAt_arr, fieldAt_val, loadVar_val, storeVar_val, alloc_val, pickPart_agg, pickPart_one,
    get_push_self, get_set_self, Hp.get_push, Hp.get_setB, Nat.add_left_cancel_iff, Nat.reduceEqDiff, Nat.add_eq_left, Nat.left_eq_add, Nat.one_ne_zero, Nat.add_assoc, getD_lit, finR_one, finR_two, finR_zero, aResult_tmp, aResult_cell, target_val, target_yield, yielded, gtt, gtf, gft, gff, gnt, gnf, oneC_int, oneC_bool, oneC_ptr, oneC_slice, oneC_string, oneC_func, splice_nil, splice_cons, List.extract_toArray, List.extract_eq_take_drop, List.drop_zero, List.drop_succ_cons, List.take_succ_cons, List.take_zero, List.take_nil, List.all_cons, List.all_nil, Nat.reduceLeDiff, Nat.le_refl, true_and, and_true, and_self, Hp.cell, Hp.row, Hp.wr, Hp.size_push, Hp.size_setB, Hp.ro_push, Hp.ro_setB,
    List.getD_cons_zero, List.getD_cons_succ, List.setIfInBounds_toArray, List.set_cons_zero, List.set_cons_succ, List.map_toArray, List.map_cons, List.map_nil, List.getElem?_toArray,
    List.getElem?_cons_zero, List.getElem?_cons_succ, List.size_toArray, List.length_cons, List.length_nil, List.append_toArray, List.cons_append, List.nil_append, List.append_nil,
    List.replicate_succ, List.replicate_zero, replicate_arr, Nat.reduceAdd, Nat.reduceSub, Nat.reduceMul, Option.map_some, Option.isSome_some, Option.getD_some, Option.bind_some, Nat.zero_add, Nat.add_zero,
    if_true, if_false, ite_true, ite_false, ↓reduceIte, Bool.false_eq_true, decide_true, decide_false, Bool.not_true, Bool.not_false, beq_self_eq_true, Bool.and_true, Bool.true_and, Bool.and_false, Bool.false_and, KD0_some, KD1_some, KD2_some, evalDM_nil, evalDM_0, evalDM_1, evalDM_2, evalDM_g0, evalDM_g1, evalDM_g2, vb_int, vb_bool, vb_string, vb_nil, vb_undef, vb_nilSlice, vb_nilMap, vb_map, vb_ptr, vb_slice, vb_func, vb_agg, vb_tuple, all_lit, all_litn, allow_nil, allow_cons,
    flatB_int, flatB_bool, flatB_string, flatB_nil, flatB_undef, flatB_ptr, flatB_slice, flatB_nilSlice, flatB_map, flatB_func, view_size, view_ro, view_nil, view_cons, more_view, more_push, keepBlk_cells, zip_cons, zip_nil, toList_lit,
    keepR_same, keepR_add, Nat.add_sub_cancel_left, tb, Nat.reduceDiv, Nat.reduceMod, Nat.reducePow, Bool.or_true, Bool.true_or, Bool.or_false, Bool.false_or, Nat.add_lt_add_iff_left, Nat.add_le_add_iff_left, Nat.reduceLT, Nat.le_add_right, Nat.lt_add_right_iff_pos, Nat.zero_lt_succ, Nat.reduceLeDiff, Nat.lt_irrefl, decide_not, bin_eqb, bin_neb, bin_eqnp, bin_nenp, bin_eqns, bin_nens, Option.isNone_some, Option.isNone_none, evalC_drawn, Int.reduceEq, Int.reduceNe, Int.reduceLT, Int.reduceLE, Int.reduceToNat, Nat.reduceEqDiff, eq_self, List.getElem?_toArray, hasBx11, hasBx12, hasBx13, hasBx14, hasBx15, hasBx16, hasBx17, hasBx18, hasBx19, hasBx20, hasBx21, hasBx22, hasBx23, hasBx24, hasBx25, hasBx26, hasBx27, hasBx28, hasBx29, hasBx30, hasBx31, hasBx32, hasBx33, hasBx34, hasBx35, hasBx36, hasBx37, hasBx38, hasBx39, hasBx40, hasBx41, hasBx42, tBoolx4, tElemx40, tElemx41, tElemx42, tElemx50, tFieldAx33x0, tFieldAx33x1, tFieldAx33x2, tFieldAx44x0, tFieldAx44x1, tFieldAx46x0, tFieldAx46x1, tFieldAx49x0, tFieldAx49x1, tFieldAx49x2, tFieldAx49x3, tIntx5x3, tLenx40, tLenx41, tLenx42, tLenx50, tPartx3, tPartx22, tPartx31, tPartx33, tPartx44, tPartx46, tPartx49, tRowx41, tRowx42, tRowx50, tSizex31, tSizex33, tSizex44, tSizex46, tSizex49, tZerox33, tZerox44, tZerox46, tZerox49, c39, h1, h2, f25, build33z, build33p, vE, hro, ro_le hro] <;> exact ⟨_, rfl, (Keeps.get (by repeat (first | exact Keeps.refl _ | refine Keeps.push ?_ _ | refine Keeps.set ?_ (by first | omega | (simp only [Hp.size_push, Hp.size_setB]; omega)) _)))⟩
theorem call25 {I : Intr} (hI : I 25 = some g25) {n : Nat} {a b c : Int} {h : Hp} : evalV Try.prog I (n + 1) (.fn 25) #[vL a b c] h = some (vE (f25 a b c), h) := (evalV_intr hI).trans rfl

def f27 (a b c s : Int) : Int × Int × Int × Int := if f39 a b c = 0 then (if a < s then (0, 0, 0, 2) else (a, (if b < IntKind.u64.wrap (s + 8) then IntKind.u64.wrap (s + 8) else b), c, 0)) else (0, 0, 0, f39 a b c)
def g27 := gOf D2 fun x => vE (f27 x.1.1 x.1.2.1 x.1.2.2.1 x.2.1)
theorem con27 : Con Try.prog (CKb Try.prog) 27 g27 := by
  refine Con.flat base ok2 _ (fun a => vE_flat _) ?_
  rintro ⟨⟨a, b, c, -⟩, s, -⟩ h hro
  refine ⟨2, ?_⟩
  show ∃ h', evalV Try.prog I2 (1 + 1) (.fn 27) #[vL a b c, .int .u64 s] h = some (vE (f27 a b c s), h') ∧ _
  rw [evalV_call (P := Try.prog) (intr := I2) (f := 27) (m := 27) (rs := #[.cell 4 33, .tmp 5]) rfl Try.func27 rfl rfl rfl]
  have c39 := fun h => call39 (I := I2) rfl (n := 0) (a := a) (b := b) (c := c) (h := h)
  by_cases h1 : f39 a b c = 0 <;> by_cases h3 : a < s <;> by_cases h2 : b < IntKind.u64.wrap (s + 8) <;>
    simp only [evalC_skip, evalC_ret, evalC_exit, evalC_label, evalC_region, evalC_seq, evalC_block, evalC_cond, pickC_true, pickC_false,
    Kreg_ap, Kseq_normal, Kseq_ret, Kseq_exit, Kblock_normal, Kblock_ret, Kblock_exit, Kloop_normal, Kloop_ret, Kloop_exit, Kret_normal, Kret_ret,
    evalOps_nil, evalOps_cons, evalOps_guard, Kops_some, put_some, put_none, eval_tmp, eval_const, eval_func, eval_global, liftP_some,
    op_move, op_assign, op_pick, op_bin, op_un, op_convert, op_fieldAddr, op_field, op_indexAddr, op_index, op_extract, op_build, op_nilCheck, op_makeFunc,
    op_load, op_store, op_alloc, op_box, op_buildSlice, op_makeSlice, op_slice, op_call, op_append, op_copy, op_clear, op_lenS, op_lenT, lenS_slice, lenT_string, op_max, op_min, loadV_ptr, storeV_ptr, putU_some, pickV_bool, idxA_int, idxV_int, nilV_ptr, nilV_func, nilV_yield,
    bin_add, bin_sub, bin_mul, bin_and, bin_or, bin_xor, bin_andNot, bin_eql, bin_neq, bin_lss, bin_leq, bin_gtr, bin_geq, un_not, un_neg, max2_val, max3_val, min2_val,
    cells_int, cells_bool, cells_agg, cells_pointer, cells_slice, cells_string, field_val, extract_val, indexAt_slice, indexAt_arr, fieldAt_val, loadVar_val, storeVar_val, alloc_val, pickPart_agg, pickPart_one,
    get_push_self, get_set_self, Hp.get_push, Hp.get_setB, Nat.add_left_cancel_iff, Nat.reduceEqDiff, Nat.add_eq_left, Nat.left_eq_add, Nat.one_ne_zero, Nat.add_assoc, getD_lit, finR_one, finR_two, finR_zero, aResult_tmp, aResult_cell, target_val, target_yield, yielded, gtt, gtf, gft, gff, gnt, gnf, oneC_int, oneC_bool, oneC_ptr, oneC_slice, oneC_string, oneC_func, splice_nil, splice_cons, List.extract_toArray, List.extract_eq_take_drop, List.drop_zero, List.drop_succ_cons, List.take_succ_cons, List.take_zero, List.take_nil, List.all_cons, List.all_nil, Nat.reduceLeDiff, Nat.le_refl, true_and, and_true, and_self, Hp.cell, Hp.row, Hp.wr, Hp.size_push, Hp.size_setB, Hp.ro_push, Hp.ro_setB,
    List.getD_cons_zero, List.getD_cons_succ, List.setIfInBounds_toArray, List.set_cons_zero, List.set_cons_succ, List.map_toArray, List.map_cons, List.map_nil, List.getElem?_toArray,
    List.getElem?_cons_zero, List.getElem?_cons_succ, List.size_toArray, List.length_cons, List.length_nil, List.append_toArray, List.cons_append, List.nil_append, List.append_nil,
    List.replicate_succ, List.replicate_zero, replicate_arr, Nat.reduceAdd, Nat.reduceSub, Nat.reduceMul, Option.map_some, Option.isSome_some, Option.getD_some, Option.bind_some, Nat.zero_add, Nat.add_zero,
    if_true, if_false, ite_true, ite_false, ↓reduceIte, Bool.false_eq_true, decide_true, decide_false, Bool.not_true, Bool.not_false, beq_self_eq_true, Bool.and_true, Bool.true_and, Bool.and_false, Bool.false_and, KD0_some, KD1_some, KD2_some, evalDM_nil, evalDM_0, evalDM_1, evalDM_2, evalDM_g0, evalDM_g1, evalDM_g2, vb_int, vb_bool, vb_string, vb_nil, vb_undef, vb_nilSlice, vb_nilMap, vb_map, vb_ptr, vb_slice, vb_func, vb_agg, vb_tuple, all_lit, all_litn, allow_nil, allow_cons,
    flatB_int, flatB_bool, flatB_string, flatB_nil, flatB_undef, flatB_ptr, flatB_slice, flatB_nilSlice, flatB_map, flatB_func, view_size, view_ro, view_nil, view_cons, more_view, more_push, keepBlk_cells, zip_cons, zip_nil, toList_lit,
    keepR_same, keepR_add, Nat.add_sub_cancel_left, tb, Nat.reduceDiv, Nat.reduceMod, Nat.reducePow, Bool.or_true, Bool.true_or, Bool.or_false, Bool.false_or, Nat.add_lt_add_iff_left, Nat.add_le_add_iff_left, Nat.reduceLT, Nat.le_add_right, Nat.lt_add_right_iff_pos, Nat.zero_lt_succ, Nat.reduceLeDiff, Nat.lt_irrefl, decide_not, bin_eqb, bin_neb, bin_eqnp, bin_nenp, bin_eqns, bin_nens, Option.isNone_some, Option.isNone_none, evalC_drawn, Int.reduceEq, Int.reduceNe, Int.reduceLT, Int.reduceLE, Int.reduceToNat, Nat.reduceEqDiff, eq_self, List.getElem?_toArray, hasBx11, hasBx12, hasBx13, hasBx14, hasBx15, hasBx16, hasBx17, hasBx18, hasBx19, hasBx20, hasBx21, hasBx22, hasBx23, hasBx24, hasBx25, hasBx26, hasBx27, hasBx28, hasBx29, hasBx30, hasBx31, hasBx32, hasBx33, hasBx34, hasBx35, hasBx36, hasBx37, hasBx38, hasBx39, hasBx40, hasBx41, hasBx42, tBoolx4, tElemx40, tElemx41, tElemx42, tElemx50, tFieldAx33x0, tFieldAx33x1, tFieldAx33x2, tFieldAx44x0, tFieldAx44x1, tFieldAx46x0, tFieldAx46x1, tFieldAx49x0, tFieldAx49x1, tFieldAx49x2, tFieldAx49x3, tIntx5x3, tLenx40, tLenx41, tLenx42, tLenx50, tPartx3, tPartx22, tPartx31, tPartx33, tPartx44, tPartx46, tPartx49, tRowx41, tRowx42, tRowx50, tSizex31, tSizex33, tSizex44, tSizex46, tSizex49, tZerox33, tZerox44, tZerox46, tZerox49, c39, h1, h2, h3, f27, build33z, build33p, vE, hro, ro_le hro] <;> exact ⟨_, rfl, (Keeps.get (by repeat (first | exact Keeps.refl _ | refine Keeps.push ?_ _ | refine Keeps.set ?_ (by first | omega | (simp only [Hp.size_push, Hp.size_setB]; omega)) _)))⟩
theorem call27 {I : Intr} (hI : I 27 = some g27) {n : Nat} {a b c s : Int} {h : Hp} : evalV Try.prog I (n + 1) (.fn 27) #[vL a b c, .int .u64 s] h = some (vE (f27 a b c s), h) := (evalV_intr hI).trans rfl

end Go.Abs.A1
