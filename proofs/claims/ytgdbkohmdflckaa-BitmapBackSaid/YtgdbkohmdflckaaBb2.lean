/- Nodes and their words: reading words. -/
import Derived.Test.YtgdbkohmdflckaaBb1
namespace Go.Abs.A1
open Go.Proofs
set_option maxRecDepth 10000
set_option linter.all false
def three (cs : Array Value) : Option (List Int) := match cs[0]?, cs[1]?, cs[2]? with
  | some (Value.int IntKind.u32 x), some (Value.int IntKind.u32 y), some (Value.int IntKind.u32 z) => if 0 ≤ x ∧ x < 4294967296 then some [x, y, z] else none
  | _, _, _ => none
def decOf (v : Value) (h : Hp) : Option Value := match v with
  | .slice o n _ => if n < 3 then some (decV n []) else match o with
    | some ⟨b, 0, none⟩ => match h.get b with
      | some (.cells cs _) => (three cs).map fun zs => decV n zs
      | _ => none
    | _ => none
  | _ => none
def decA (args : Array Value) (h : Hp) : Option Value := match args.toList with
  | [v] => decOf v h
  | _ => none
theorem decOf_words {h : Hp} {v : Value} {len : Nat} {zs : List Int} (w : Words h v len zs) : decOf v h = some (decV len zs) := by
  obtain ⟨o, c, rfl, h1, h2, h3⟩ := w
  unfold decOf
  by_cases hn : len < 3
  · simp only [hn, if_true, decV]
  · obtain ⟨b, own, rfl, _, hg⟩ := h3 (by omega)
    simp only [hn, if_false, hg]
    match zs, h1, h2 with
    | x :: y :: z :: l, h1, h2 =>
      have hx := h2 x (by simp)
      simp [three, hx, decV, hn]
    | [x, y], h1, h2 => simp at h1; omega
    | [x], h1, h2 => simp at h1; omega
    | [], h1, h2 => simp at h1; omega
theorem three_some {cs : Array Value} {zs : List Int} (h : three cs = some zs) : ∃ x y z, zs = [x, y, z] ∧ cs[0]? = some (u32 x) ∧ cs[1]? = some (u32 y) ∧ cs[2]? = some (u32 z) ∧ 0 ≤ x ∧ x < 4294967296 := by
  unfold three at h
  split at h
  · rename_i x y z h0 h1 h2
    split at h
    · rename_i hc
      cases h
      exact ⟨x, y, z, rfl, h0, h1, h2, hc.1, hc.2⟩
    · cases h
  · cases h
theorem decOf_some {v V : Value} {h : Hp} (hd : decOf v h = some V) : ∃ o n c, v = .slice o n c ∧ ((n < 3 ∧ V = .tuple #[vN 0 0 0 0, .int .i64 7]) ∨ (¬ n < 3 ∧ ∃ b cs own x y z, o = some ⟨b, 0, none⟩ ∧ h.get b = some (.cells cs own) ∧ V = decV n [x, y, z] ∧
    cs[0]? = some (u32 x) ∧ cs[1]? = some (u32 y) ∧ cs[2]? = some (u32 z) ∧ 0 ≤ x ∧ x < 4294967296)) := by
  unfold decOf at hd
  split at hd
  · rename_i o n c
    refine ⟨o, n, c, rfl, ?_⟩
    by_cases hn : n < 3
    · rw [if_pos hn] at hd
      cases hd
      left; exact ⟨hn, by unfold decV; rw [if_pos hn]⟩
    · rw [if_neg hn] at hd
      right
      refine ⟨hn, ?_⟩
      split at hd
      · rename_i b
        split at hd
        · rename_i cs own hg
          rw [Option.map_eq_some_iff] at hd
          obtain ⟨zs, h3, rfl⟩ := hd
          obtain ⟨x, y, z, rfl, q⟩ := three_some h3
          exact ⟨b, cs, own, x, y, z, rfl, hg, rfl, q⟩
        · cases hd
      · cases hd
  · cases hd
theorem decV_flat (n : Nat) (zs : List Int) : flatB (decV n zs) = true := by
  unfold decV
  split
  · simp [flatB]
  · simp only []
    split <;> simp [flatB]

def g28 : Array Value → Hp → Option (Value × Hp) := fun args h => (decA args h).map fun v => (v, h)
theorem con28 : Con Try.prog (CKb Try.prog) 28 g28 := by
  refine Con.clean base okN1 fun args h V hV hro ha => ?_
  unfold decA at hV
  split at hV
  · rename_i v hargs
    have hargs' : args = #[v] := by cases args; simp_all
    subst hargs'
    obtain ⟨o, n, c, rfl, ⟨hn, rfl⟩ | ⟨hn, b, cs, own, x, y, z, rfl, hg, rfl, h0, h1, h2, hx0, hx1⟩⟩ := decOf_some hV
    · refine ⟨2, ?_⟩
      have hn' : (n : Int) < 3 := by omega
      show ∃ h', evalV Try.prog IN1 (1 + 1) (.fn 28) _ h = _ ∧ _ ∧ _
      rw [evalV_call (P := Try.prog) (intr := IN1) (f := 28) (m := 29) (rs := #[.cell 2 49, .tmp 3]) rfl Try.func28 rfl rfl rfl]
      simp only [evalC_skip, evalC_ret, evalC_exit, evalC_label, evalC_region, evalC_seq, evalC_block, evalC_cond, pickC_true, pickC_false,
    Kreg_ap, Kseq_normal, Kseq_ret, Kseq_exit, Kblock_normal, Kblock_ret, Kblock_exit, Kloop_normal, Kloop_ret, Kloop_exit, Kret_normal, Kret_ret,
    evalOps_nil, evalOps_cons, evalOps_guard, Kops_some, put_some, put_none, eval_tmp, eval_const, eval_func, eval_global, liftP_some,
    op_move, op_assign, op_pick, op_bin, op_un, op_convert, op_fieldAddr, op_field, op_indexAddr, op_index, op_extract, op_build, op_nilCheck, op_makeFunc,
    op_load, op_store, op_alloc, op_box, op_buildSlice, op_makeSlice, op_slice, op_call, op_append, op_copy, op_clear, op_lenS, op_lenT, lenS_slice, lenT_string, op_max, op_min, loadV_ptr, storeV_ptr, putU_some, pickV_bool, idxA_int, idxV_int, nilV_ptr, nilV_func, nilV_yield,
    bin_add, bin_sub, bin_mul, bin_and, bin_or, bin_xor, bin_andNot, bin_eql, bin_neq, bin_lss, bin_leq, bin_gtr, bin_geq, un_not, un_neg, max2_val, max3_val, min2_val,
    cells_int, cells_bool, cells_agg, cells_pointer, cells_slice, cells_string, field_val, extract_val, indexAt_slice, indexAt_arr, fieldAt_val, loadVar_val, storeVar_val, alloc_val, pickPart_agg, pickPart_one,
    get_push_self, get_set_self, Hp.get_push, Hp.get_setB, Nat.add_left_cancel_iff, Nat.reduceEqDiff, Nat.add_eq_left, Nat.left_eq_add, Nat.one_ne_zero, Nat.add_assoc, getD_lit, finR_one, finR_two, finR_zero, aResult_tmp, aResult_cell, target_val, target_yield, yielded, gtt, gtf, gft, gff, gnt, gnf, oneC_int, oneC_bool, oneC_ptr, oneC_slice, oneC_string, oneC_func, splice_nil, splice_cons, List.extract_toArray, List.extract_eq_take_drop, List.drop_zero, List.drop_succ_cons, List.take_succ_cons, List.take_zero, List.take_nil, List.all_cons, List.all_nil, Nat.reduceLeDiff, Nat.le_refl, true_and, and_true, and_self, Hp.cell, Hp.row, Hp.wr, Hp.size_push, Hp.size_setB, Hp.ro_push, Hp.ro_setB,
    List.getD_cons_zero, List.getD_cons_succ, List.setIfInBounds_toArray, List.set_cons_zero, List.set_cons_succ, List.map_toArray, List.map_cons, List.map_nil, List.getElem?_toArray,
    List.getElem?_cons_zero, List.getElem?_cons_succ, List.size_toArray, List.length_cons, List.length_nil, List.append_toArray, List.cons_append, List.nil_append, List.append_nil,
    List.replicate_succ, List.replicate_zero, replicate_arr, Nat.reduceAdd, Nat.reduceSub, Nat.reduceMul, Option.map_some, Option.isSome_some, Option.getD_some, Option.bind_some, Nat.zero_add, Nat.add_zero,
    if_true, if_false, ite_true, ite_false, ↓reduceIte, Bool.false_eq_true, decide_true, decide_false, Bool.not_true, Bool.not_false, beq_self_eq_true, Bool.and_true, Bool.true_and, Bool.and_false, Bool.false_and, KD0_some, KD1_some, KD2_some, KDT_none, KDT_some, putU_none, liftP_none, le_self_f, false_and, and_false, evalDM_nil, evalDM_0, evalDM_1, evalDM_t, evalDM_2, evalDM_g0, evalDM_g1, evalDM_gt, evalDM_g2, vb_int, vb_bool, vb_string, vb_nil, vb_undef, vb_nilSlice, vb_nilMap, vb_map, vb_ptr, vb_slice, vb_func, vb_agg, vb_tuple, all_lit, all_litn, allow_nil, allow_cons,
    flatB_int, flatB_bool, flatB_string, flatB_nil, flatB_undef, flatB_ptr, flatB_slice, flatB_nilSlice, flatB_map, flatB_func, view_size, view_ro, view_nil, view_cons, more_view, more_push, keepBlk_cells, zip_cons, zip_nil, toList_lit,
    keepR, Nat.add_sub_cancel_left, tb, Nat.reduceDiv, Nat.reduceMod, Nat.reducePow, Bool.or_true, Bool.true_or, Bool.or_false, Bool.false_or, Nat.add_lt_add_iff_left, Nat.add_le_add_iff_left, Nat.reduceLT, Nat.le_add_right, Nat.lt_add_right_iff_pos, Nat.zero_lt_succ, Nat.reduceLeDiff, Nat.lt_irrefl, decide_not, bin_eqb, bin_neb, bin_eqnp, bin_nenp, bin_eqns, bin_nens, Option.isNone_some, Option.isNone_none, nc0, nc1, nc2, nc3, nc4, evalC_drawn, Int.reduceEq, Int.reduceNe, Int.reduceLT, Int.reduceLE, Int.reduceToNat, Nat.reduceEqDiff, eq_self, List.getElem?_toArray, hasBx11, hasBx12, hasBx13, hasBx14, hasBx15, hasBx16, hasBx17, hasBx18, hasBx19, hasBx20, hasBx21, hasBx22, hasBx23, hasBx24, hasBx25, hasBx26, hasBx27, hasBx28, hasBx29, hasBx30, hasBx31, hasBx32, hasBx33, hasBx34, hasBx35, hasBx36, hasBx37, hasBx38, hasBx39, hasBx40, hasBx41, hasBx42, tBoolx4, tElemx40, tElemx41, tElemx42, tElemx50, tFieldAx33x0, tFieldAx33x1, tFieldAx33x2, tFieldAx44x0, tFieldAx44x1, tFieldAx46x0, tFieldAx46x1, tFieldAx49x0, tFieldAx49x1, tFieldAx49x2, tFieldAx49x3, tIntx5x3, tLenx40, tLenx41, tLenx42, tLenx50, tPartx3, tPartx22, tPartx31, tPartx33, tPartx44, tPartx46, tPartx49, tRowx41, tRowx42, tRowx50, tSizex31, tSizex33, tSizex44, tSizex46, tSizex49, tZerox33, tZerox44, tZerox46, tZerox49, hn', hro, ro_le hro, build49z]
      exact ⟨_, rfl, (Keeps.get (by repeat (first | exact Keeps.refl _ | refine Keeps.push ?_ _ | refine Keeps.set ?_ (by first | omega | (simp only [Hp.size_push, Hp.size_setB]; omega)) _))), flat_vok _ (by simp [flatB])⟩
    · have hb : b < h.size := by
        have := ha _ (by simp : Value.slice (some ⟨b, 0, none⟩) n c ∈ #[Value.slice (some ⟨b, 0, none⟩) n c])
        simpa using this
      have hne : b ≠ h.size := by omega
      have hb2 : b < h.size + 1 := by omega
      have hn' : ¬ (n : Int) < 3 := by omega
      have k0 : (0 : Int) < (n : Int) := by omega
      have k1 : (1 : Int) < (n : Int) := by omega
      have k2 : (2 : Int) < (n : Int) := by omega
      have e : ishr .u32 x 16 = x / 65536 := shr_nat (n := 16) (by decide)
      have c32 := fun n h => call32 (I := IN1) rfl (n := n) (i := x % 65536) (o := x / 65536) (r := y) (c := z) (h := h)
      refine ⟨2, ?_⟩
      show ∃ h', evalV Try.prog IN1 (1 + 1) (.fn 28) _ h = _ ∧ _ ∧ _
      rw [evalV_call (P := Try.prog) (intr := IN1) (f := 28) (m := 29) (rs := #[.cell 2 49, .tmp 3]) rfl Try.func28 rfl rfl rfl]
      unfold decV
      simp only [hn, if_false, List.getD_cons_zero, List.getD_cons_succ]
      cases hr : rightF (x % 65536) (x / 65536) y z
      · simp only [hr, chkF] at c32
        simp only [evalC_skip, evalC_ret, evalC_exit, evalC_label, evalC_region, evalC_seq, evalC_block, evalC_cond, pickC_true, pickC_false,
    Kreg_ap, Kseq_normal, Kseq_ret, Kseq_exit, Kblock_normal, Kblock_ret, Kblock_exit, Kloop_normal, Kloop_ret, Kloop_exit, Kret_normal, Kret_ret,
    evalOps_nil, evalOps_cons, evalOps_guard, Kops_some, put_some, put_none, eval_tmp, eval_const, eval_func, eval_global, liftP_some,
    op_move, op_assign, op_pick, op_bin, op_un, op_convert, op_fieldAddr, op_field, op_indexAddr, op_index, op_extract, op_build, op_nilCheck, op_makeFunc,
    op_load, op_store, op_alloc, op_box, op_buildSlice, op_makeSlice, op_slice, op_call, op_append, op_copy, op_clear, op_lenS, op_lenT, lenS_slice, lenT_string, op_max, op_min, loadV_ptr, storeV_ptr, putU_some, pickV_bool, idxA_int, idxV_int, nilV_ptr, nilV_func, nilV_yield,
    bin_add, bin_sub, bin_mul, bin_and, bin_or, bin_xor, bin_andNot, bin_eql, bin_neq, bin_lss, bin_leq, bin_gtr, bin_geq, un_not, un_neg, max2_val, max3_val, min2_val,
    cells_int, cells_bool, cells_agg, cells_pointer, cells_slice, cells_string, field_val, extract_val, indexAt_slice, indexAt_arr, fieldAt_val, loadVar_val, storeVar_val, alloc_val, pickPart_agg, pickPart_one,
    get_push_self, get_set_self, Hp.get_push, Hp.get_setB, Nat.add_left_cancel_iff, Nat.reduceEqDiff, Nat.add_eq_left, Nat.left_eq_add, Nat.one_ne_zero, Nat.add_assoc, getD_lit, finR_one, finR_two, finR_zero, aResult_tmp, aResult_cell, target_val, target_yield, yielded, gtt, gtf, gft, gff, gnt, gnf, oneC_int, oneC_bool, oneC_ptr, oneC_slice, oneC_string, oneC_func, splice_nil, splice_cons, List.extract_toArray, List.extract_eq_take_drop, List.drop_zero, List.drop_succ_cons, List.take_succ_cons, List.take_zero, List.take_nil, List.all_cons, List.all_nil, Nat.reduceLeDiff, Nat.le_refl, true_and, and_true, and_self, Hp.cell, Hp.row, Hp.wr, Hp.size_push, Hp.size_setB, Hp.ro_push, Hp.ro_setB,
    List.getD_cons_zero, List.getD_cons_succ, List.setIfInBounds_toArray, List.set_cons_zero, List.set_cons_succ, List.map_toArray, List.map_cons, List.map_nil, List.getElem?_toArray,
    List.getElem?_cons_zero, List.getElem?_cons_succ, List.size_toArray, List.length_cons, List.length_nil, List.append_toArray, List.cons_append, List.nil_append, List.append_nil,
    List.replicate_succ, List.replicate_zero, replicate_arr, Nat.reduceAdd, Nat.reduceSub, Nat.reduceMul, Option.map_some, Option.isSome_some, Option.getD_some, Option.bind_some, Nat.zero_add, Nat.add_zero,
    if_true, if_false, ite_true, ite_false, ↓reduceIte, Bool.false_eq_true, decide_true, decide_false, Bool.not_true, Bool.not_false, beq_self_eq_true, Bool.and_true, Bool.true_and, Bool.and_false, Bool.false_and, KD0_some, KD1_some, KD2_some, KDT_none, KDT_some, putU_none, liftP_none, le_self_f, false_and, and_false, evalDM_nil, evalDM_0, evalDM_1, evalDM_t, evalDM_2, evalDM_g0, evalDM_g1, evalDM_gt, evalDM_g2, vb_int, vb_bool, vb_string, vb_nil, vb_undef, vb_nilSlice, vb_nilMap, vb_map, vb_ptr, vb_slice, vb_func, vb_agg, vb_tuple, all_lit, all_litn, allow_nil, allow_cons,
    flatB_int, flatB_bool, flatB_string, flatB_nil, flatB_undef, flatB_ptr, flatB_slice, flatB_nilSlice, flatB_map, flatB_func, view_size, view_ro, view_nil, view_cons, more_view, more_push, keepBlk_cells, zip_cons, zip_nil, toList_lit,
    keepR, Nat.add_sub_cancel_left, tb, Nat.reduceDiv, Nat.reduceMod, Nat.reducePow, Bool.or_true, Bool.true_or, Bool.or_false, Bool.false_or, Nat.add_lt_add_iff_left, Nat.add_le_add_iff_left, Nat.reduceLT, Nat.le_add_right, Nat.lt_add_right_iff_pos, Nat.zero_lt_succ, Nat.reduceLeDiff, Nat.lt_irrefl, decide_not, bin_eqb, bin_neb, bin_eqnp, bin_nenp, bin_eqns, bin_nens, Option.isNone_some, Option.isNone_none, nc0, nc1, nc2, nc3, nc4, evalC_drawn, Int.reduceEq, Int.reduceNe, Int.reduceLT, Int.reduceLE, Int.reduceToNat, Nat.reduceEqDiff, eq_self, List.getElem?_toArray, hasBx11, hasBx12, hasBx13, hasBx14, hasBx15, hasBx16, hasBx17, hasBx18, hasBx19, hasBx20, hasBx21, hasBx22, hasBx23, hasBx24, hasBx25, hasBx26, hasBx27, hasBx28, hasBx29, hasBx30, hasBx31, hasBx32, hasBx33, hasBx34, hasBx35, hasBx36, hasBx37, hasBx38, hasBx39, hasBx40, hasBx41, hasBx42, tBoolx4, tElemx40, tElemx41, tElemx42, tElemx50, tFieldAx33x0, tFieldAx33x1, tFieldAx33x2, tFieldAx44x0, tFieldAx44x1, tFieldAx46x0, tFieldAx46x1, tFieldAx49x0, tFieldAx49x1, tFieldAx49x2, tFieldAx49x3, tIntx5x3, tLenx40, tLenx41, tLenx42, tLenx50, tPartx3, tPartx22, tPartx31, tPartx33, tPartx44, tPartx46, tPartx49, tRowx41, tRowx42, tRowx50, tSizex31, tSizex33, tSizex44, tSizex46, tSizex49, tZerox33, tZerox44, tZerox46, tZerox49, hn']
        rw [evalDraw_modes _ _ [(0, 0, 1), (0, 1, 3), (2, 3, 7), (0, 7, 15), (0, 0, 16), (0, 16, 48), (2, 48, 112), (0, 112, 240), (0, 0, 256), (0, 256, 768), (2, 768, 1792), (0, 0, 2048), (0, 2048, 6144), (2, 6144, 14336), (0, 16383, 32767), (2, 0, 32768), (1, 65535, 131071)] (by kernel_rfl)]
        simp only [evalC_skip, evalC_ret, evalC_exit, evalC_label, evalC_region, evalC_seq, evalC_block, evalC_cond, pickC_true, pickC_false,
    Kreg_ap, Kseq_normal, Kseq_ret, Kseq_exit, Kblock_normal, Kblock_ret, Kblock_exit, Kloop_normal, Kloop_ret, Kloop_exit, Kret_normal, Kret_ret,
    evalOps_nil, evalOps_cons, evalOps_guard, Kops_some, put_some, put_none, eval_tmp, eval_const, eval_func, eval_global, liftP_some,
    op_move, op_assign, op_pick, op_bin, op_un, op_convert, op_fieldAddr, op_field, op_indexAddr, op_index, op_extract, op_build, op_nilCheck, op_makeFunc,
    op_load, op_store, op_alloc, op_box, op_buildSlice, op_makeSlice, op_slice, op_call, op_append, op_copy, op_clear, op_lenS, op_lenT, lenS_slice, lenT_string, op_max, op_min, loadV_ptr, storeV_ptr, putU_some, pickV_bool, idxA_int, idxV_int, nilV_ptr, nilV_func, nilV_yield,
    bin_add, bin_sub, bin_mul, bin_and, bin_or, bin_xor, bin_andNot, bin_eql, bin_neq, bin_lss, bin_leq, bin_gtr, bin_geq, un_not, un_neg, max2_val, max3_val, min2_val,
    cells_int, cells_bool, cells_agg, cells_pointer, cells_slice, cells_string, field_val, extract_val, indexAt_slice, indexAt_arr, fieldAt_val, loadVar_val, storeVar_val, alloc_val, pickPart_agg, pickPart_one,
    get_push_self, get_set_self, Hp.get_push, Hp.get_setB, Nat.add_left_cancel_iff, Nat.reduceEqDiff, Nat.add_eq_left, Nat.left_eq_add, Nat.one_ne_zero, Nat.add_assoc, getD_lit, finR_one, finR_two, finR_zero, aResult_tmp, aResult_cell, target_val, target_yield, yielded, gtt, gtf, gft, gff, gnt, gnf, oneC_int, oneC_bool, oneC_ptr, oneC_slice, oneC_string, oneC_func, splice_nil, splice_cons, List.extract_toArray, List.extract_eq_take_drop, List.drop_zero, List.drop_succ_cons, List.take_succ_cons, List.take_zero, List.take_nil, List.all_cons, List.all_nil, Nat.reduceLeDiff, Nat.le_refl, true_and, and_true, and_self, Hp.cell, Hp.row, Hp.wr, Hp.size_push, Hp.size_setB, Hp.ro_push, Hp.ro_setB,
    List.getD_cons_zero, List.getD_cons_succ, List.setIfInBounds_toArray, List.set_cons_zero, List.set_cons_succ, List.map_toArray, List.map_cons, List.map_nil, List.getElem?_toArray,
    List.getElem?_cons_zero, List.getElem?_cons_succ, List.size_toArray, List.length_cons, List.length_nil, List.append_toArray, List.cons_append, List.nil_append, List.append_nil,
    List.replicate_succ, List.replicate_zero, replicate_arr, Nat.reduceAdd, Nat.reduceSub, Nat.reduceMul, Option.map_some, Option.isSome_some, Option.getD_some, Option.bind_some, Nat.zero_add, Nat.add_zero,
    if_true, if_false, ite_true, ite_false, ↓reduceIte, Bool.false_eq_true, decide_true, decide_false, Bool.not_true, Bool.not_false, beq_self_eq_true, Bool.and_true, Bool.true_and, Bool.and_false, Bool.false_and, KD0_some, KD1_some, KD2_some, KDT_none, KDT_some, putU_none, liftP_none, le_self_f, false_and, and_false, evalDM_nil, evalDM_0, evalDM_1, evalDM_t, evalDM_2, evalDM_g0, evalDM_g1, evalDM_gt, evalDM_g2, vb_int, vb_bool, vb_string, vb_nil, vb_undef, vb_nilSlice, vb_nilMap, vb_map, vb_ptr, vb_slice, vb_func, vb_agg, vb_tuple, all_lit, all_litn, allow_nil, allow_cons,
    flatB_int, flatB_bool, flatB_string, flatB_nil, flatB_undef, flatB_ptr, flatB_slice, flatB_nilSlice, flatB_map, flatB_func, view_size, view_ro, view_nil, view_cons, more_view, more_push, keepBlk_cells, zip_cons, zip_nil, toList_lit,
    keepR, Nat.add_sub_cancel_left, tb, Nat.reduceDiv, Nat.reduceMod, Nat.reducePow, Bool.or_true, Bool.true_or, Bool.or_false, Bool.false_or, Nat.add_lt_add_iff_left, Nat.add_le_add_iff_left, Nat.reduceLT, Nat.le_add_right, Nat.lt_add_right_iff_pos, Nat.zero_lt_succ, Nat.reduceLeDiff, Nat.lt_irrefl, decide_not, bin_eqb, bin_neb, bin_eqnp, bin_nenp, bin_eqns, bin_nens, Option.isNone_some, Option.isNone_none, nc0, nc1, nc2, nc3, nc4, evalC_drawn, Int.reduceEq, Int.reduceNe, Int.reduceLT, Int.reduceLE, Int.reduceToNat, Nat.reduceEqDiff, eq_self, List.getElem?_toArray, hasBx11, hasBx12, hasBx13, hasBx14, hasBx15, hasBx16, hasBx17, hasBx18, hasBx19, hasBx20, hasBx21, hasBx22, hasBx23, hasBx24, hasBx25, hasBx26, hasBx27, hasBx28, hasBx29, hasBx30, hasBx31, hasBx32, hasBx33, hasBx34, hasBx35, hasBx36, hasBx37, hasBx38, hasBx39, hasBx40, hasBx41, hasBx42, tBoolx4, tElemx40, tElemx41, tElemx42, tElemx50, tFieldAx33x0, tFieldAx33x1, tFieldAx33x2, tFieldAx44x0, tFieldAx44x1, tFieldAx46x0, tFieldAx46x1, tFieldAx49x0, tFieldAx49x1, tFieldAx49x2, tFieldAx49x3, tIntx5x3, tLenx40, tLenx41, tLenx42, tLenx50, tPartx3, tPartx22, tPartx31, tPartx33, tPartx44, tPartx46, tPartx49, tRowx41, tRowx42, tRowx50, tSizex31, tSizex33, tSizex44, tSizex46, tSizex49, tZerox33, tZerox44, tZerox46, tZerox49, hn', k0, k1, k2, hne, hb2, hg, h0, h1, h2, and_u32_65535, bin_shr (show (0 : Int) ≤ 16 by decide), e, build49, build49z, c32, hro, ro_le hro]
        exact ⟨_, rfl, (Keeps.get (by repeat (first | exact Keeps.refl _ | refine Keeps.push ?_ _ | refine Keeps.set ?_ (by first | omega | (simp only [Hp.size_push, Hp.size_setB]; omega)) _))), flat_vok _ (by simp [flatB])⟩
      · simp only [hr, chkF] at c32
        simp only [evalC_skip, evalC_ret, evalC_exit, evalC_label, evalC_region, evalC_seq, evalC_block, evalC_cond, pickC_true, pickC_false,
    Kreg_ap, Kseq_normal, Kseq_ret, Kseq_exit, Kblock_normal, Kblock_ret, Kblock_exit, Kloop_normal, Kloop_ret, Kloop_exit, Kret_normal, Kret_ret,
    evalOps_nil, evalOps_cons, evalOps_guard, Kops_some, put_some, put_none, eval_tmp, eval_const, eval_func, eval_global, liftP_some,
    op_move, op_assign, op_pick, op_bin, op_un, op_convert, op_fieldAddr, op_field, op_indexAddr, op_index, op_extract, op_build, op_nilCheck, op_makeFunc,
    op_load, op_store, op_alloc, op_box, op_buildSlice, op_makeSlice, op_slice, op_call, op_append, op_copy, op_clear, op_lenS, op_lenT, lenS_slice, lenT_string, op_max, op_min, loadV_ptr, storeV_ptr, putU_some, pickV_bool, idxA_int, idxV_int, nilV_ptr, nilV_func, nilV_yield,
    bin_add, bin_sub, bin_mul, bin_and, bin_or, bin_xor, bin_andNot, bin_eql, bin_neq, bin_lss, bin_leq, bin_gtr, bin_geq, un_not, un_neg, max2_val, max3_val, min2_val,
    cells_int, cells_bool, cells_agg, cells_pointer, cells_slice, cells_string, field_val, extract_val, indexAt_slice, indexAt_arr, fieldAt_val, loadVar_val, storeVar_val, alloc_val, pickPart_agg, pickPart_one,
    get_push_self, get_set_self, Hp.get_push, Hp.get_setB, Nat.add_left_cancel_iff, Nat.reduceEqDiff, Nat.add_eq_left, Nat.left_eq_add, Nat.one_ne_zero, Nat.add_assoc, getD_lit, finR_one, finR_two, finR_zero, aResult_tmp, aResult_cell, target_val, target_yield, yielded, gtt, gtf, gft, gff, gnt, gnf, oneC_int, oneC_bool, oneC_ptr, oneC_slice, oneC_string, oneC_func, splice_nil, splice_cons, List.extract_toArray, List.extract_eq_take_drop, List.drop_zero, List.drop_succ_cons, List.take_succ_cons, List.take_zero, List.take_nil, List.all_cons, List.all_nil, Nat.reduceLeDiff, Nat.le_refl, true_and, and_true, and_self, Hp.cell, Hp.row, Hp.wr, Hp.size_push, Hp.size_setB, Hp.ro_push, Hp.ro_setB,
    List.getD_cons_zero, List.getD_cons_succ, List.setIfInBounds_toArray, List.set_cons_zero, List.set_cons_succ, List.map_toArray, List.map_cons, List.map_nil, List.getElem?_toArray,
    List.getElem?_cons_zero, List.getElem?_cons_succ, List.size_toArray, List.length_cons, List.length_nil, List.append_toArray, List.cons_append, List.nil_append, List.append_nil,
    List.replicate_succ, List.replicate_zero, replicate_arr, Nat.reduceAdd, Nat.reduceSub, Nat.reduceMul, Option.map_some, Option.isSome_some, Option.getD_some, Option.bind_some, Nat.zero_add, Nat.add_zero,
    if_true, if_false, ite_true, ite_false, ↓reduceIte, Bool.false_eq_true, decide_true, decide_false, Bool.not_true, Bool.not_false, beq_self_eq_true, Bool.and_true, Bool.true_and, Bool.and_false, Bool.false_and, KD0_some, KD1_some, KD2_some, KDT_none, KDT_some, putU_none, liftP_none, le_self_f, false_and, and_false, evalDM_nil, evalDM_0, evalDM_1, evalDM_t, evalDM_2, evalDM_g0, evalDM_g1, evalDM_gt, evalDM_g2, vb_int, vb_bool, vb_string, vb_nil, vb_undef, vb_nilSlice, vb_nilMap, vb_map, vb_ptr, vb_slice, vb_func, vb_agg, vb_tuple, all_lit, all_litn, allow_nil, allow_cons,
    flatB_int, flatB_bool, flatB_string, flatB_nil, flatB_undef, flatB_ptr, flatB_slice, flatB_nilSlice, flatB_map, flatB_func, view_size, view_ro, view_nil, view_cons, more_view, more_push, keepBlk_cells, zip_cons, zip_nil, toList_lit,
    keepR, Nat.add_sub_cancel_left, tb, Nat.reduceDiv, Nat.reduceMod, Nat.reducePow, Bool.or_true, Bool.true_or, Bool.or_false, Bool.false_or, Nat.add_lt_add_iff_left, Nat.add_le_add_iff_left, Nat.reduceLT, Nat.le_add_right, Nat.lt_add_right_iff_pos, Nat.zero_lt_succ, Nat.reduceLeDiff, Nat.lt_irrefl, decide_not, bin_eqb, bin_neb, bin_eqnp, bin_nenp, bin_eqns, bin_nens, Option.isNone_some, Option.isNone_none, nc0, nc1, nc2, nc3, nc4, evalC_drawn, Int.reduceEq, Int.reduceNe, Int.reduceLT, Int.reduceLE, Int.reduceToNat, Nat.reduceEqDiff, eq_self, List.getElem?_toArray, hasBx11, hasBx12, hasBx13, hasBx14, hasBx15, hasBx16, hasBx17, hasBx18, hasBx19, hasBx20, hasBx21, hasBx22, hasBx23, hasBx24, hasBx25, hasBx26, hasBx27, hasBx28, hasBx29, hasBx30, hasBx31, hasBx32, hasBx33, hasBx34, hasBx35, hasBx36, hasBx37, hasBx38, hasBx39, hasBx40, hasBx41, hasBx42, tBoolx4, tElemx40, tElemx41, tElemx42, tElemx50, tFieldAx33x0, tFieldAx33x1, tFieldAx33x2, tFieldAx44x0, tFieldAx44x1, tFieldAx46x0, tFieldAx46x1, tFieldAx49x0, tFieldAx49x1, tFieldAx49x2, tFieldAx49x3, tIntx5x3, tLenx40, tLenx41, tLenx42, tLenx50, tPartx3, tPartx22, tPartx31, tPartx33, tPartx44, tPartx46, tPartx49, tRowx41, tRowx42, tRowx50, tSizex31, tSizex33, tSizex44, tSizex46, tSizex49, tZerox33, tZerox44, tZerox46, tZerox49, hn']
        rw [evalDraw_modes _ _ [(0, 0, 1), (0, 1, 3), (2, 3, 7), (0, 7, 15), (0, 0, 16), (0, 16, 48), (2, 48, 112), (0, 112, 240), (0, 0, 256), (0, 256, 768), (2, 768, 1792), (0, 0, 2048), (0, 2048, 6144), (2, 6144, 14336), (0, 16383, 32767), (2, 0, 32768), (1, 65535, 131071)] (by kernel_rfl)]
        simp only [evalC_skip, evalC_ret, evalC_exit, evalC_label, evalC_region, evalC_seq, evalC_block, evalC_cond, pickC_true, pickC_false,
    Kreg_ap, Kseq_normal, Kseq_ret, Kseq_exit, Kblock_normal, Kblock_ret, Kblock_exit, Kloop_normal, Kloop_ret, Kloop_exit, Kret_normal, Kret_ret,
    evalOps_nil, evalOps_cons, evalOps_guard, Kops_some, put_some, put_none, eval_tmp, eval_const, eval_func, eval_global, liftP_some,
    op_move, op_assign, op_pick, op_bin, op_un, op_convert, op_fieldAddr, op_field, op_indexAddr, op_index, op_extract, op_build, op_nilCheck, op_makeFunc,
    op_load, op_store, op_alloc, op_box, op_buildSlice, op_makeSlice, op_slice, op_call, op_append, op_copy, op_clear, op_lenS, op_lenT, lenS_slice, lenT_string, op_max, op_min, loadV_ptr, storeV_ptr, putU_some, pickV_bool, idxA_int, idxV_int, nilV_ptr, nilV_func, nilV_yield,
    bin_add, bin_sub, bin_mul, bin_and, bin_or, bin_xor, bin_andNot, bin_eql, bin_neq, bin_lss, bin_leq, bin_gtr, bin_geq, un_not, un_neg, max2_val, max3_val, min2_val,
    cells_int, cells_bool, cells_agg, cells_pointer, cells_slice, cells_string, field_val, extract_val, indexAt_slice, indexAt_arr, fieldAt_val, loadVar_val, storeVar_val, alloc_val, pickPart_agg, pickPart_one,
    get_push_self, get_set_self, Hp.get_push, Hp.get_setB, Nat.add_left_cancel_iff, Nat.reduceEqDiff, Nat.add_eq_left, Nat.left_eq_add, Nat.one_ne_zero, Nat.add_assoc, getD_lit, finR_one, finR_two, finR_zero, aResult_tmp, aResult_cell, target_val, target_yield, yielded, gtt, gtf, gft, gff, gnt, gnf, oneC_int, oneC_bool, oneC_ptr, oneC_slice, oneC_string, oneC_func, splice_nil, splice_cons, List.extract_toArray, List.extract_eq_take_drop, List.drop_zero, List.drop_succ_cons, List.take_succ_cons, List.take_zero, List.take_nil, List.all_cons, List.all_nil, Nat.reduceLeDiff, Nat.le_refl, true_and, and_true, and_self, Hp.cell, Hp.row, Hp.wr, Hp.size_push, Hp.size_setB, Hp.ro_push, Hp.ro_setB,
    List.getD_cons_zero, List.getD_cons_succ, List.setIfInBounds_toArray, List.set_cons_zero, List.set_cons_succ, List.map_toArray, List.map_cons, List.map_nil, List.getElem?_toArray,
    List.getElem?_cons_zero, List.getElem?_cons_succ, List.size_toArray, List.length_cons, List.length_nil, List.append_toArray, List.cons_append, List.nil_append, List.append_nil,
    List.replicate_succ, List.replicate_zero, replicate_arr, Nat.reduceAdd, Nat.reduceSub, Nat.reduceMul, Option.map_some, Option.isSome_some, Option.getD_some, Option.bind_some, Nat.zero_add, Nat.add_zero,
    if_true, if_false, ite_true, ite_false, ↓reduceIte, Bool.false_eq_true, decide_true, decide_false, Bool.not_true, Bool.not_false, beq_self_eq_true, Bool.and_true, Bool.true_and, Bool.and_false, Bool.false_and, KD0_some, KD1_some, KD2_some, KDT_none, KDT_some, putU_none, liftP_none, le_self_f, false_and, and_false, evalDM_nil, evalDM_0, evalDM_1, evalDM_t, evalDM_2, evalDM_g0, evalDM_g1, evalDM_gt, evalDM_g2, vb_int, vb_bool, vb_string, vb_nil, vb_undef, vb_nilSlice, vb_nilMap, vb_map, vb_ptr, vb_slice, vb_func, vb_agg, vb_tuple, all_lit, all_litn, allow_nil, allow_cons,
    flatB_int, flatB_bool, flatB_string, flatB_nil, flatB_undef, flatB_ptr, flatB_slice, flatB_nilSlice, flatB_map, flatB_func, view_size, view_ro, view_nil, view_cons, more_view, more_push, keepBlk_cells, zip_cons, zip_nil, toList_lit,
    keepR, Nat.add_sub_cancel_left, tb, Nat.reduceDiv, Nat.reduceMod, Nat.reducePow, Bool.or_true, Bool.true_or, Bool.or_false, Bool.false_or, Nat.add_lt_add_iff_left, Nat.add_le_add_iff_left, Nat.reduceLT, Nat.le_add_right, Nat.lt_add_right_iff_pos, Nat.zero_lt_succ, Nat.reduceLeDiff, Nat.lt_irrefl, decide_not, bin_eqb, bin_neb, bin_eqnp, bin_nenp, bin_eqns, bin_nens, Option.isNone_some, Option.isNone_none, nc0, nc1, nc2, nc3, nc4, evalC_drawn, Int.reduceEq, Int.reduceNe, Int.reduceLT, Int.reduceLE, Int.reduceToNat, Nat.reduceEqDiff, eq_self, List.getElem?_toArray, hasBx11, hasBx12, hasBx13, hasBx14, hasBx15, hasBx16, hasBx17, hasBx18, hasBx19, hasBx20, hasBx21, hasBx22, hasBx23, hasBx24, hasBx25, hasBx26, hasBx27, hasBx28, hasBx29, hasBx30, hasBx31, hasBx32, hasBx33, hasBx34, hasBx35, hasBx36, hasBx37, hasBx38, hasBx39, hasBx40, hasBx41, hasBx42, tBoolx4, tElemx40, tElemx41, tElemx42, tElemx50, tFieldAx33x0, tFieldAx33x1, tFieldAx33x2, tFieldAx44x0, tFieldAx44x1, tFieldAx46x0, tFieldAx46x1, tFieldAx49x0, tFieldAx49x1, tFieldAx49x2, tFieldAx49x3, tIntx5x3, tLenx40, tLenx41, tLenx42, tLenx50, tPartx3, tPartx22, tPartx31, tPartx33, tPartx44, tPartx46, tPartx49, tRowx41, tRowx42, tRowx50, tSizex31, tSizex33, tSizex44, tSizex46, tSizex49, tZerox33, tZerox44, tZerox46, tZerox49, hn', k0, k1, k2, hne, hb2, hg, h0, h1, h2, and_u32_65535, bin_shr (show (0 : Int) ≤ 16 by decide), e, build49, build49z, c32, hro, ro_le hro]
        exact ⟨_, rfl, (Keeps.get (by repeat (first | exact Keeps.refl _ | refine Keeps.push ?_ _ | refine Keeps.set ?_ (by first | omega | (simp only [Hp.size_push, Hp.size_setB]; omega)) _))), flat_vok _ (by simp [flatB])⟩
  · cases hV
end Go.Abs.A1
