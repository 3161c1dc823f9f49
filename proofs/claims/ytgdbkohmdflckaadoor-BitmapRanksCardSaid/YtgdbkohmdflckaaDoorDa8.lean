/- All the bits that are set, as a row. -/
import Derived.Test.YtgdbkohmdflckaaDoorDa7
namespace Go.Abs.A1d
open Go.Proofs
set_option maxRecDepth 10000
set_option linter.all false
abbrev i64 (x : Nat) : Value := .int .i64 (x : Int)
theorem text29 : rowOrText (Tryd.prog.underlying 29) = true := by kernel_rfl
theorem zip_one {t : Tmp} {v : Value} {tm : Array Value} : (#[t].zip #[v]).foldl (fun tmps x => tmps.setIfInBounds x.1 x.2) tm = tm.setIfInBounds t v := by simp
theorem lit29 (x : Value) (hx : x.cells.size = 1) (hx2 : x.cells = #[x]) (h : Hp) : aBuildSlice Tryd.prog 29 1 #[(0, x)] h = some (.slice (some ⟨h.size, 0, none⟩) 1 1, h.push (some (.cells #[x] true))) := by
  have := build_lit (h := h) tRowx29 [x] (n := 1) rfl (by simpa using hx) (by decide) (by decide)
  rw [show ([x].zipIdx.map fun x => (x.2, x.1)).toArray = #[(0, x)] from rfl] at this
  rw [this]
  simp [hx2]
theorem call21 {I : Intr} (h21 : I 21 = none) {n N : Nat} {h : Hp} : evalV Tryd.prog I (n + 1) (.fn 21) #[.int .u32 (N : Int)] h = some (.func (.func 23) #[] #[.pointer (some ⟨h.size, 0, none⟩)], h.push (some (.cells #[.int .u32 (N : Int)] true))) := by
  rw [evalV_call (P := Tryd.prog) (f := 21) (m := 4) (rs := #[.tmp 2]) h21 Tryd.func21 rfl rfl rfl]
  simp only [evalC_skip, evalC_ret, evalC_exit, evalC_label, evalC_region, evalC_seq, evalC_block, evalC_cond, pickC_true, pickC_false,
    Kreg_ap, Kseq_normal, Kseq_ret, Kseq_exit, Kblock_normal, Kblock_ret, Kblock_exit, Kloop_normal, Kloop_ret, Kloop_exit, Kret_normal, Kret_ret,
    evalOps_nil, evalOps_cons, evalOps_guard, Kops_some, put_some, put_none, eval_tmp, eval_const, eval_func, eval_global, liftP_some,
    op_move, op_assign, op_pick, op_bin, op_un, op_convert, op_fieldAddr, op_field, op_indexAddr, op_index, op_extract, op_build, op_nilCheck, op_makeFunc,
    op_load, op_store, op_alloc, op_box, op_buildSlice, op_makeSlice, op_slice, op_call, op_append, op_copy, op_clear, op_lenS, op_lenT, lenS_slice, lenT_string, op_max, op_min, loadV_ptr, storeV_ptr, putU_some, pickV_bool, idxA_int, idxV_int, nilV_ptr, nilV_func, nilV_yield,
    bin_add, bin_sub, bin_mul, bin_and, bin_or, bin_xor, bin_andNot, bin_eql, bin_neq, bin_lss, bin_leq, bin_gtr, bin_geq, un_not, un_neg, max2_val, max3_val, min2_val,
    cells_int, cells_bool, cells_agg, cells_pointer, cells_slice, cells_string, field_val, extract_val, indexAt_slice, indexAt_arr, fieldAt_val, loadVar_val, storeVar_val, alloc_val, pickPart_agg, pickPart_one,
    get_push_self, get_set_self, Hp.get_push, Hp.get_setB, Nat.add_left_cancel_iff, Nat.reduceEqDiff, Nat.add_eq_left, Nat.left_eq_add, Nat.one_ne_zero, Nat.add_assoc, getD_lit, finR_one, finR_two, finR_zero, aResult_tmp, aResult_cell, target_val, target_yield, yielded, gtt, gtf, gft, gff, gnt, gnf, oneC_int, oneC_bool, oneC_ptr, oneC_slice, oneC_string, oneC_func, splice_nil, splice_cons, List.extract_toArray, List.extract_eq_take_drop, List.drop_zero, List.drop_succ_cons, List.take_succ_cons, List.take_zero, List.take_nil, List.all_cons, List.all_nil, Nat.reduceLeDiff, Nat.le_refl, true_and, and_true, and_self, Hp.cell, Hp.row, Hp.wr, Hp.size_push, Hp.size_setB, Hp.ro_push, Hp.ro_setB,
    List.getD_cons_zero, List.getD_cons_succ, List.setIfInBounds_toArray, List.set_cons_zero, List.set_cons_succ, List.map_toArray, List.map_cons, List.map_nil, List.getElem?_toArray,
    List.getElem?_cons_zero, List.getElem?_cons_succ, List.size_toArray, List.length_cons, List.length_nil, List.append_toArray, List.cons_append, List.nil_append, List.append_nil,
    List.replicate_succ, List.replicate_zero, replicate_arr, Nat.reduceAdd, Nat.reduceSub, Nat.reduceMul, Option.map_some, Option.isSome_some, Option.getD_some, Option.bind_some, Nat.zero_add, Nat.add_zero,
    if_true, if_false, ite_true, ite_false, ↓reduceIte, Bool.false_eq_true, decide_true, decide_false, Bool.not_true, Bool.not_false, beq_self_eq_true, Bool.and_true, Bool.true_and, Bool.and_false, Bool.false_and, KD0_some, KD1_some, KD2_some, KDT_none, KDT_some, putU_none, liftP_none, le_self_f, false_and, and_false, evalDM_nil, evalDM_0, evalDM_1, evalDM_t, evalDM_2, evalDM_g0, evalDM_g1, evalDM_gt, evalDM_g2, vb_int, vb_bool, vb_string, vb_nil, vb_undef, vb_nilSlice, vb_nilMap, vb_map, vb_ptr, vb_slice, vb_func, vb_agg, vb_tuple, all_lit, all_litn, allow_nil, allow_cons,
    flatB_int, flatB_bool, flatB_string, flatB_nil, flatB_undef, flatB_ptr, flatB_slice, flatB_nilSlice, flatB_map, flatB_func, view_size, view_ro, view_nil, view_cons, more_view, more_push, keepBlk_cells, zip_cons, zip_nil, toList_lit,
    keepR, Nat.add_sub_cancel_left, tb, Nat.reduceDiv, Nat.reduceMod, Nat.reducePow, Bool.or_true, Bool.true_or, Bool.or_false, Bool.false_or, Nat.add_lt_add_iff_left, Nat.add_le_add_iff_left, Nat.reduceLT, Nat.le_add_right, Nat.lt_add_right_iff_pos, Nat.zero_lt_succ, Nat.reduceLeDiff, Nat.lt_irrefl, decide_not, bin_eqb, bin_neb, bin_eqnp, bin_nenp, bin_eqns, bin_nens, Option.isNone_some, Option.isNone_none, nc0, nc1, nc2, nc3, nc4, evalC_drawn, Int.reduceEq, Int.reduceNe, Int.reduceLT, Int.reduceLE, Int.reduceToNat, Nat.reduceEqDiff, eq_self, List.getElem?_toArray, hasBx5, hasBx6, hasBx7, hasBx8, hasBx9, hasBx10, hasBx11, hasBx12, hasBx13, hasBx14, hasBx15, hasBx16, hasBx17, hasBx18, hasBx19, hasBx20, hasBx21, hasBx22, hasBx23, hasBx24, tArrx49, tBoolx4, tElemx29, tElemx31, tFieldAx36x0, tFieldAx36x1, tFieldAx36x2, tFieldAx36x3, tIntx5x3, tLenx29, tLenx31, tPartx3, tPartx5, tPartx22, tPartx29, tPartx36, tRowx29, tRowx31, tSizex22, tSizex29, tZerox29]
theorem run20 {I : Intr} (h20 : I 20 = none) (h23 : I 23 = none) (h24 : I 24 = none) (h12 : I 12 = some (gSet false)) {p : Nat} {tab : Array Value} {own : Bool} (ht : tabOk tab = true) (N : Nat) (hN : N < 2 ^ 32) (h : Hp)
    (hg : h.get 0 = some (.cells tab own)) (hp : h.get p = some (.cells #[.int .u32 (N : Int)] true)) (hlt : p < h.size) (h0 : 0 < p) (hro : h.ro ≤ p) :
    ∃ v k', evalV Tryd.prog I (41 + 1) (.fn 20) #[.func (.func 23) #[] #[.pointer (some ⟨p, 0, none⟩)]] h = some (v, k') ∧ SlAt (h.size + 3) k' v 1 ((bitsN N).map i64) ∧ h.size ≤ k'.size ∧ k'.ro = h.ro ∧ ∀ c, c < h.size → c ≠ p → k'.get c = h.get c := by
  rw [evalV_call (P := Tryd.prog) (f := 20) (m := 12) (rs := #[.tmp 2]) h20 Tryd.func20 rfl rfl rfl]
  simp only [evalC_skip, evalC_ret, evalC_exit, evalC_label, evalC_region, evalC_seq, evalC_block, evalC_cond, pickC_true, pickC_false,
    Kreg_ap, Kseq_normal, Kseq_ret, Kseq_exit, Kblock_normal, Kblock_ret, Kblock_exit, Kloop_normal, Kloop_ret, Kloop_exit, Kret_normal, Kret_ret,
    evalOps_nil, evalOps_cons, evalOps_guard, Kops_some, put_some, put_none, eval_tmp, eval_const, eval_func, eval_global, liftP_some,
    op_move, op_assign, op_pick, op_bin, op_un, op_convert, op_fieldAddr, op_field, op_indexAddr, op_index, op_extract, op_build, op_nilCheck, op_makeFunc,
    op_load, op_store, op_alloc, op_box, op_buildSlice, op_makeSlice, op_slice, op_call, op_append, op_copy, op_clear, op_lenS, op_lenT, lenS_slice, lenT_string, op_max, op_min, loadV_ptr, storeV_ptr, putU_some, pickV_bool, idxA_int, idxV_int, nilV_ptr, nilV_func, nilV_yield,
    bin_add, bin_sub, bin_mul, bin_and, bin_or, bin_xor, bin_andNot, bin_eql, bin_neq, bin_lss, bin_leq, bin_gtr, bin_geq, un_not, un_neg, max2_val, max3_val, min2_val,
    cells_int, cells_bool, cells_agg, cells_pointer, cells_slice, cells_string, field_val, extract_val, indexAt_slice, indexAt_arr, fieldAt_val, loadVar_val, storeVar_val, alloc_val, pickPart_agg, pickPart_one,
    get_push_self, get_set_self, Hp.get_push, Hp.get_setB, Nat.add_left_cancel_iff, Nat.reduceEqDiff, Nat.add_eq_left, Nat.left_eq_add, Nat.one_ne_zero, Nat.add_assoc, getD_lit, finR_one, finR_two, finR_zero, aResult_tmp, aResult_cell, target_val, target_yield, yielded, gtt, gtf, gft, gff, gnt, gnf, oneC_int, oneC_bool, oneC_ptr, oneC_slice, oneC_string, oneC_func, splice_nil, splice_cons, List.extract_toArray, List.extract_eq_take_drop, List.drop_zero, List.drop_succ_cons, List.take_succ_cons, List.take_zero, List.take_nil, List.all_cons, List.all_nil, Nat.reduceLeDiff, Nat.le_refl, true_and, and_true, and_self, Hp.cell, Hp.row, Hp.wr, Hp.size_push, Hp.size_setB, Hp.ro_push, Hp.ro_setB,
    List.getD_cons_zero, List.getD_cons_succ, List.setIfInBounds_toArray, List.set_cons_zero, List.set_cons_succ, List.map_toArray, List.map_cons, List.map_nil, List.getElem?_toArray,
    List.getElem?_cons_zero, List.getElem?_cons_succ, List.size_toArray, List.length_cons, List.length_nil, List.append_toArray, List.cons_append, List.nil_append, List.append_nil,
    List.replicate_succ, List.replicate_zero, replicate_arr, Nat.reduceAdd, Nat.reduceSub, Nat.reduceMul, Option.map_some, Option.isSome_some, Option.getD_some, Option.bind_some, Nat.zero_add, Nat.add_zero,
    if_true, if_false, ite_true, ite_false, ↓reduceIte, Bool.false_eq_true, decide_true, decide_false, Bool.not_true, Bool.not_false, beq_self_eq_true, Bool.and_true, Bool.true_and, Bool.and_false, Bool.false_and, KD0_some, KD1_some, KD2_some, KDT_none, KDT_some, putU_none, liftP_none, le_self_f, false_and, and_false, evalDM_nil, evalDM_0, evalDM_1, evalDM_t, evalDM_2, evalDM_g0, evalDM_g1, evalDM_gt, evalDM_g2, vb_int, vb_bool, vb_string, vb_nil, vb_undef, vb_nilSlice, vb_nilMap, vb_map, vb_ptr, vb_slice, vb_func, vb_agg, vb_tuple, all_lit, all_litn, allow_nil, allow_cons,
    flatB_int, flatB_bool, flatB_string, flatB_nil, flatB_undef, flatB_ptr, flatB_slice, flatB_nilSlice, flatB_map, flatB_func, view_size, view_ro, view_nil, view_cons, more_view, more_push, keepBlk_cells, zip_cons, zip_nil, toList_lit,
    keepR, Nat.add_sub_cancel_left, tb, Nat.reduceDiv, Nat.reduceMod, Nat.reducePow, Bool.or_true, Bool.true_or, Bool.or_false, Bool.false_or, Nat.add_lt_add_iff_left, Nat.add_le_add_iff_left, Nat.reduceLT, Nat.le_add_right, Nat.lt_add_right_iff_pos, Nat.zero_lt_succ, Nat.reduceLeDiff, Nat.lt_irrefl, decide_not, bin_eqb, bin_neb, bin_eqnp, bin_nenp, bin_eqns, bin_nens, Option.isNone_some, Option.isNone_none, nc0, nc1, nc2, nc3, nc4, evalC_drawn, Int.reduceEq, Int.reduceNe, Int.reduceLT, Int.reduceLE, Int.reduceToNat, Nat.reduceEqDiff, eq_self, List.getElem?_toArray, hasBx5, hasBx6, hasBx7, hasBx8, hasBx9, hasBx10, hasBx11, hasBx12, hasBx13, hasBx14, hasBx15, hasBx16, hasBx17, hasBx18, hasBx19, hasBx20, hasBx21, hasBx22, hasBx23, hasBx24, tArrx49, tBoolx4, tElemx29, tElemx31, tFieldAx36x0, tFieldAx36x1, tFieldAx36x2, tFieldAx36x3, tIntx5x3, tLenx29, tLenx31, tPartx3, tPartx5, tPartx22, tPartx29, tPartx36, tRowx29, tRowx31, tSizex22, tSizex29, tZerox29]
  refine range_rule (fun r : Option (Value × Hp) => ∃ v k', r = some (v, k') ∧ SlAt (h.size + 3) k' v 1 ((bitsN N).map i64) ∧ h.size ≤ k'.size ∧ k'.ro = h.ro ∧ ∀ c, c < h.size → c ≠ p → k'.get c = h.get c) fun asg' body' ea eb => ?_
  obtain ⟨tm, htm⟩ : ∃ tm, tm = #[Value.func (Fn.func 23) #[] #[Value.pointer (some { block := p, off := 0 })], undef,
                Value.slice none 0 0, Value.pointer (some { block := h.size, off := 0 }), undef,
                Value.func (Fn.func 23) #[] #[Value.pointer (some { block := p, off := 0 })], undef, undef, undef,
                undef, undef, undef] := ⟨_, rfl⟩
  rw [← htm]
  have r23 := run23 (I := I) h23 h24 h12 (l := h.size + 2) (p := p) (own := own) ht (fun xs k => (k.ro = h.ro ∧ h.size + 3 ≤ k.size ∧ k.get (h.size + 1) = some (.defd false) ∧ k.get (h.size + 2) = some (.loop .ready none tm #[6] asg' body' (h.size + 1))) ∧ (∃ v, k.get h.size = some (.cells #[v] true) ∧ SlAt (h.size + 3) k v 1 (xs.map i64)) ∧ ∀ c, c < h.size → c ≠ p → k.get c = h.get c)
    (by
      rintro xs k ⟨⟨k1, k2, k3, k4⟩, _, k5⟩
      exact ⟨by rw [k5 0 (by omega) (by omega)]; exact hg, by omega⟩)
    (by
      rintro n k x xs ⟨⟨k1, k2, k3, k4⟩, ⟨v, k5, k6⟩, k7⟩ hx
      have hsl : ∀ b, blkOf v = some b → h.size + 3 ≤ b ∧ b < k.size := fun b hb => k6.lt hb
      have s2 : SlAt (h.size + 3) ((k.setB (h.size + 2) (some (.loop .busy none tm #[6] asg' body' (h.size + 1)))).push (some (.cells #[i64 x] true))) v 1 (xs.map i64) :=
        k6.mono (by simp) fun b hb => by
          have := hsl b hb
          rw [get_push_ne (by simp only [Hp.size_setB]; omega), get_set_ne (by omega)]
      obtain ⟨v', k', ek, s3, s4, s5, s6, s7⟩ := append_own tRowx29 text29 s2 (by simp; omega) (by simp; omega) (m := 1) (w := .slice (some ⟨k.size, 0, none⟩) 1 1) (new := #[i64 x]) rfl (by
        simp only [aFirst]
        rw [if_neg (by omega)]
        simp only [Hp.row, Hp.get_push, Hp.size_setB, if_true]
        rfl) (by rfl) (by rfl) (by omega) (by omega) (by simp; omega) (by simp [capOpen]; omega)
      obtain ⟨b', n', rfl⟩ : ∃ b' n', v' = .slice (some ⟨b', 0, none⟩) n' (capOpen + 1) := by
        rcases s3 with ⟨_, e⟩ | ⟨b', n', e, _⟩
        · simp at e
        · exact ⟨b', n', e⟩
      have e6 : tm.setIfInBounds 6 (i64 x) = #[Value.func (Fn.func 23) #[] #[Value.pointer (some { block := p, off := 0 })], undef,
                Value.slice none 0 0, Value.pointer (some { block := h.size, off := 0 }), undef,
                Value.func (Fn.func 23) #[] #[Value.pointer (some { block := p, off := 0 })], i64 x, undef, undef,
                undef, undef, undef] := by rw [htm]; rfl
      rw [evalV_yield k4 rfl ea eb, zip_one, e6]
      simp only [evalC_skip, evalC_ret, evalC_exit, evalC_label, evalC_region, evalC_seq, evalC_block, evalC_cond, pickC_true, pickC_false,
    Kreg_ap, Kseq_normal, Kseq_ret, Kseq_exit, Kblock_normal, Kblock_ret, Kblock_exit, Kloop_normal, Kloop_ret, Kloop_exit, Kret_normal, Kret_ret,
    evalOps_nil, evalOps_cons, evalOps_guard, Kops_some, put_some, put_none, eval_tmp, eval_const, eval_func, eval_global, liftP_some,
    op_move, op_assign, op_pick, op_bin, op_un, op_convert, op_fieldAddr, op_field, op_indexAddr, op_index, op_extract, op_build, op_nilCheck, op_makeFunc,
    op_load, op_store, op_alloc, op_box, op_buildSlice, op_makeSlice, op_slice, op_call, op_append, op_copy, op_clear, op_lenS, op_lenT, lenS_slice, lenT_string, op_max, op_min, loadV_ptr, storeV_ptr, putU_some, pickV_bool, idxA_int, idxV_int, nilV_ptr, nilV_func, nilV_yield,
    bin_add, bin_sub, bin_mul, bin_and, bin_or, bin_xor, bin_andNot, bin_eql, bin_neq, bin_lss, bin_leq, bin_gtr, bin_geq, un_not, un_neg, max2_val, max3_val, min2_val,
    cells_int, cells_bool, cells_agg, cells_pointer, cells_slice, cells_string, field_val, extract_val, indexAt_slice, indexAt_arr, fieldAt_val, loadVar_val, storeVar_val, alloc_val, pickPart_agg, pickPart_one,
    get_push_self, get_set_self, Hp.get_push, Hp.get_setB, Nat.add_left_cancel_iff, Nat.reduceEqDiff, Nat.add_eq_left, Nat.left_eq_add, Nat.one_ne_zero, Nat.add_assoc, getD_lit, finR_one, finR_two, finR_zero, aResult_tmp, aResult_cell, target_val, target_yield, yielded, gtt, gtf, gft, gff, gnt, gnf, oneC_int, oneC_bool, oneC_ptr, oneC_slice, oneC_string, oneC_func, splice_nil, splice_cons, List.extract_toArray, List.extract_eq_take_drop, List.drop_zero, List.drop_succ_cons, List.take_succ_cons, List.take_zero, List.take_nil, List.all_cons, List.all_nil, Nat.reduceLeDiff, Nat.le_refl, true_and, and_true, and_self, Hp.cell, Hp.row, Hp.wr, Hp.size_push, Hp.size_setB, Hp.ro_push, Hp.ro_setB,
    List.getD_cons_zero, List.getD_cons_succ, List.setIfInBounds_toArray, List.set_cons_zero, List.set_cons_succ, List.map_toArray, List.map_cons, List.map_nil, List.getElem?_toArray,
    List.getElem?_cons_zero, List.getElem?_cons_succ, List.size_toArray, List.length_cons, List.length_nil, List.append_toArray, List.cons_append, List.nil_append, List.append_nil,
    List.replicate_succ, List.replicate_zero, replicate_arr, Nat.reduceAdd, Nat.reduceSub, Nat.reduceMul, Option.map_some, Option.isSome_some, Option.getD_some, Option.bind_some, Nat.zero_add, Nat.add_zero,
    if_true, if_false, ite_true, ite_false, ↓reduceIte, Bool.false_eq_true, decide_true, decide_false, Bool.not_true, Bool.not_false, beq_self_eq_true, Bool.and_true, Bool.true_and, Bool.and_false, Bool.false_and, KD0_some, KD1_some, KD2_some, KDT_none, KDT_some, putU_none, liftP_none, le_self_f, false_and, and_false, evalDM_nil, evalDM_0, evalDM_1, evalDM_t, evalDM_2, evalDM_g0, evalDM_g1, evalDM_gt, evalDM_g2, vb_int, vb_bool, vb_string, vb_nil, vb_undef, vb_nilSlice, vb_nilMap, vb_map, vb_ptr, vb_slice, vb_func, vb_agg, vb_tuple, all_lit, all_litn, allow_nil, allow_cons,
    flatB_int, flatB_bool, flatB_string, flatB_nil, flatB_undef, flatB_ptr, flatB_slice, flatB_nilSlice, flatB_map, flatB_func, view_size, view_ro, view_nil, view_cons, more_view, more_push, keepBlk_cells, zip_cons, zip_nil, toList_lit,
    keepR, Nat.add_sub_cancel_left, tb, Nat.reduceDiv, Nat.reduceMod, Nat.reducePow, Bool.or_true, Bool.true_or, Bool.or_false, Bool.false_or, Nat.add_lt_add_iff_left, Nat.add_le_add_iff_left, Nat.reduceLT, Nat.le_add_right, Nat.lt_add_right_iff_pos, Nat.zero_lt_succ, Nat.reduceLeDiff, Nat.lt_irrefl, decide_not, bin_eqb, bin_neb, bin_eqnp, bin_nenp, bin_eqns, bin_nens, Option.isNone_some, Option.isNone_none, nc0, nc1, nc2, nc3, nc4, evalC_drawn, Int.reduceEq, Int.reduceNe, Int.reduceLT, Int.reduceLE, Int.reduceToNat, Nat.reduceEqDiff, eq_self, List.getElem?_toArray, hasBx5, hasBx6, hasBx7, hasBx8, hasBx9, hasBx10, hasBx11, hasBx12, hasBx13, hasBx14, hasBx15, hasBx16, hasBx17, hasBx18, hasBx19, hasBx20, hasBx21, hasBx22, hasBx23, hasBx24, tArrx49, tBoolx4, tElemx29, tElemx31, tFieldAx36x0, tFieldAx36x1, tFieldAx36x2, tFieldAx36x3, tIntx5x3, tLenx29, tLenx31, tPartx3, tPartx5, tPartx22, tPartx29, tPartx36, tRowx29, tRowx31, tSizex22, tSizex29, tZerox29]
      rw [Kasg_normal k4 (by omega)]
      have lx := fun h => lit29 (i64 x) rfl rfl h
      have gq : k'.get h.size = some (.cells #[v] true) := by
        rw [s7 _ (by simp; omega) (fun e => by have := hsl _ e; omega), get_push_ne (by simp; omega), get_set_ne (by omega)]
        exact k5
      have gl : k'.get (h.size + 2) = some (.loop .busy none tm #[6] asg' body' (h.size + 1)) := by
        rw [s7 _ (by simp; omega) (fun e => by have := hsl _ e; omega), get_push_ne (by simp; omega), get_set_self]
      have ro : (k'.ro ≤ h.size) = True := by rw [s6]; simp; omega
      have kq : (h.size = k.size) = False := by simp; omega
      simp only [evalC_skip, evalC_ret, evalC_exit, evalC_label, evalC_region, evalC_seq, evalC_block, evalC_cond, pickC_true, pickC_false,
    Kreg_ap, Kseq_normal, Kseq_ret, Kseq_exit, Kblock_normal, Kblock_ret, Kblock_exit, Kloop_normal, Kloop_ret, Kloop_exit, Kret_normal, Kret_ret,
    evalOps_nil, evalOps_cons, evalOps_guard, Kops_some, put_some, put_none, eval_tmp, eval_const, eval_func, eval_global, liftP_some,
    op_move, op_assign, op_pick, op_bin, op_un, op_convert, op_fieldAddr, op_field, op_indexAddr, op_index, op_extract, op_build, op_nilCheck, op_makeFunc,
    op_load, op_store, op_alloc, op_box, op_buildSlice, op_makeSlice, op_slice, op_call, op_append, op_copy, op_clear, op_lenS, op_lenT, lenS_slice, lenT_string, op_max, op_min, loadV_ptr, storeV_ptr, putU_some, pickV_bool, idxA_int, idxV_int, nilV_ptr, nilV_func, nilV_yield,
    bin_add, bin_sub, bin_mul, bin_and, bin_or, bin_xor, bin_andNot, bin_eql, bin_neq, bin_lss, bin_leq, bin_gtr, bin_geq, un_not, un_neg, max2_val, max3_val, min2_val,
    cells_int, cells_bool, cells_agg, cells_pointer, cells_slice, cells_string, field_val, extract_val, indexAt_slice, indexAt_arr, fieldAt_val, loadVar_val, storeVar_val, alloc_val, pickPart_agg, pickPart_one,
    get_push_self, get_set_self, Hp.get_push, Hp.get_setB, Nat.add_left_cancel_iff, Nat.reduceEqDiff, Nat.add_eq_left, Nat.left_eq_add, Nat.one_ne_zero, Nat.add_assoc, getD_lit, finR_one, finR_two, finR_zero, aResult_tmp, aResult_cell, target_val, target_yield, yielded, gtt, gtf, gft, gff, gnt, gnf, oneC_int, oneC_bool, oneC_ptr, oneC_slice, oneC_string, oneC_func, splice_nil, splice_cons, List.extract_toArray, List.extract_eq_take_drop, List.drop_zero, List.drop_succ_cons, List.take_succ_cons, List.take_zero, List.take_nil, List.all_cons, List.all_nil, Nat.reduceLeDiff, Nat.le_refl, true_and, and_true, and_self, Hp.cell, Hp.row, Hp.wr, Hp.size_push, Hp.size_setB, Hp.ro_push, Hp.ro_setB,
    List.getD_cons_zero, List.getD_cons_succ, List.setIfInBounds_toArray, List.set_cons_zero, List.set_cons_succ, List.map_toArray, List.map_cons, List.map_nil, List.getElem?_toArray,
    List.getElem?_cons_zero, List.getElem?_cons_succ, List.size_toArray, List.length_cons, List.length_nil, List.append_toArray, List.cons_append, List.nil_append, List.append_nil,
    List.replicate_succ, List.replicate_zero, replicate_arr, Nat.reduceAdd, Nat.reduceSub, Nat.reduceMul, Option.map_some, Option.isSome_some, Option.getD_some, Option.bind_some, Nat.zero_add, Nat.add_zero,
    if_true, if_false, ite_true, ite_false, ↓reduceIte, Bool.false_eq_true, decide_true, decide_false, Bool.not_true, Bool.not_false, beq_self_eq_true, Bool.and_true, Bool.true_and, Bool.and_false, Bool.false_and, KD0_some, KD1_some, KD2_some, KDT_none, KDT_some, putU_none, liftP_none, le_self_f, false_and, and_false, evalDM_nil, evalDM_0, evalDM_1, evalDM_t, evalDM_2, evalDM_g0, evalDM_g1, evalDM_gt, evalDM_g2, vb_int, vb_bool, vb_string, vb_nil, vb_undef, vb_nilSlice, vb_nilMap, vb_map, vb_ptr, vb_slice, vb_func, vb_agg, vb_tuple, all_lit, all_litn, allow_nil, allow_cons,
    flatB_int, flatB_bool, flatB_string, flatB_nil, flatB_undef, flatB_ptr, flatB_slice, flatB_nilSlice, flatB_map, flatB_func, view_size, view_ro, view_nil, view_cons, more_view, more_push, keepBlk_cells, zip_cons, zip_nil, toList_lit,
    keepR, Nat.add_sub_cancel_left, tb, Nat.reduceDiv, Nat.reduceMod, Nat.reducePow, Bool.or_true, Bool.true_or, Bool.or_false, Bool.false_or, Nat.add_lt_add_iff_left, Nat.add_le_add_iff_left, Nat.reduceLT, Nat.le_add_right, Nat.lt_add_right_iff_pos, Nat.zero_lt_succ, Nat.reduceLeDiff, Nat.lt_irrefl, decide_not, bin_eqb, bin_neb, bin_eqnp, bin_nenp, bin_eqns, bin_nens, Option.isNone_some, Option.isNone_none, nc0, nc1, nc2, nc3, nc4, evalC_drawn, Int.reduceEq, Int.reduceNe, Int.reduceLT, Int.reduceLE, Int.reduceToNat, Nat.reduceEqDiff, eq_self, List.getElem?_toArray, hasBx5, hasBx6, hasBx7, hasBx8, hasBx9, hasBx10, hasBx11, hasBx12, hasBx13, hasBx14, hasBx15, hasBx16, hasBx17, hasBx18, hasBx19, hasBx20, hasBx21, hasBx22, hasBx23, hasBx24, tArrx49, tBoolx4, tElemx29, tElemx31, tFieldAx36x0, tFieldAx36x1, tFieldAx36x2, tFieldAx36x3, tIntx5x3, tLenx29, tLenx31, tPartx3, tPartx5, tPartx22, tPartx29, tPartx36, tRowx29, tRowx31, tSizex22, tSizex29, tZerox29, lx, k5, kq, ek, gq, ro]
      rw [Kbody_normal (by rw [get_set_ne (by omega)]; exact gl) (by rw [Hp.ro_setB, s6]; simp; omega)]
      have hpp : k'.get p = k.get p := by
        rw [s7 _ (by simp; omega) (fun e => by have := hsl _ e; omega), get_push_ne (by simp; omega), get_set_ne (by omega)]
      refine ⟨_, rfl, ⟨⟨?_, ?_, ?_, get_set_self⟩, ⟨.slice (some ⟨b', 0, none⟩) n' (capOpen + 1), ?_, ?_⟩, fun c hc hne => ?_⟩, ?_⟩
      · simp only [Hp.ro_setB, s6, Hp.ro_push]; exact k1
      · simp only [Hp.size_setB, s5, Hp.size_push]; omega
      · rw [get_set_ne (by omega), get_set_ne (by omega), s7 _ (by simp; omega) (fun e => by have := hsl _ e; omega), get_push_ne (by simp; omega), get_set_ne (by omega)]
        exact k3
      · rw [get_set_ne (by omega), get_set_self]
      · rw [List.map_append]
        refine s3.mono (by simp) fun b hb => ?_
        have := s3.lt hb
        rw [get_set_ne (by omega), get_set_ne (by omega)]
      · rw [get_set_ne (by omega), get_set_ne (by omega), s7 _ (by simp; omega) (fun e => by have := hsl _ e; omega), get_push_ne (by simp; omega), get_set_ne (by omega)]
        exact k7 c hc hne
      · rw [get_set_ne (by omega), get_set_ne (by omega)]
        exact hpp)
    (by
      rintro xs k v ⟨⟨k1, k2, k3, k4⟩, ⟨u, k5, k6⟩, k7⟩
      refine ⟨⟨k1, by simpa using k2, ?_, ?_⟩, ⟨u, ?_, k6.mono (by simp) fun b hb => ?_⟩, fun c hc hne => ?_⟩
      · rw [get_set_ne (by omega)]; exact k3
      · rw [get_set_ne (by omega)]; exact k4
      · rw [get_set_ne (by omega)]; exact k5
      · have := k6.lt hb
        rw [get_set_ne (by omega)]
      · rw [get_set_ne (by omega)]; exact k7 c hc hne) N hN
  have hs1 : (h.push (some (.cells #[.slice none 0 0] true))).size = h.size + 1 := by simp
  obtain ⟨k', er, ⟨⟨f1, f2, f3, f4⟩, ⟨v, f5, f6⟩, f7⟩⟩ := r23 (enterH (h.push (some (.cells #[.slice none 0 0] true))) tm #[6] asg' body')
    (by
      unfold enterH
      rw [hs1]
      refine ⟨⟨rfl, by simp, ?_, ?_⟩, ⟨_, ?_, .inl ⟨rfl, rfl⟩⟩, fun c hc hne => ?_⟩
      · rw [get_push_ne (by simp), ← hs1, get_push_self]
      · rw [Hp.get_push, if_pos (by simp)]
      · rw [get_push_ne (by simp; omega), get_push_ne (by simp), get_push_self]
      · rw [get_push_ne (by simp; omega), get_push_ne (by simp; omega), get_push_ne (by omega)])
    (by
      unfold enterH
      rw [get_push_ne (by simp; omega), get_push_ne (by simp; omega), get_push_ne (by omega)]; exact hp)
  refine ⟨23, #[.func (.yield (h.size + 2)) #[] #[], .pointer (some ⟨p, 0, none⟩)], _, k', .normal, _, ?_, er, leave_normal f4 (by simp) (by omega), ?_⟩
  · simp only [evalC_skip, evalC_ret, evalC_exit, evalC_label, evalC_region, evalC_seq, evalC_block, evalC_cond, pickC_true, pickC_false,
    Kreg_ap, Kseq_normal, Kseq_ret, Kseq_exit, Kblock_normal, Kblock_ret, Kblock_exit, Kloop_normal, Kloop_ret, Kloop_exit, Kret_normal, Kret_ret,
    evalOps_nil, evalOps_cons, evalOps_guard, Kops_some, put_some, put_none, eval_tmp, eval_const, eval_func, eval_global, liftP_some,
    op_move, op_assign, op_pick, op_bin, op_un, op_convert, op_fieldAddr, op_field, op_indexAddr, op_index, op_extract, op_build, op_nilCheck, op_makeFunc,
    op_load, op_store, op_alloc, op_box, op_buildSlice, op_makeSlice, op_slice, op_call, op_append, op_copy, op_clear, op_lenS, op_lenT, lenS_slice, lenT_string, op_max, op_min, loadV_ptr, storeV_ptr, putU_some, pickV_bool, idxA_int, idxV_int, nilV_ptr, nilV_func, nilV_yield,
    bin_add, bin_sub, bin_mul, bin_and, bin_or, bin_xor, bin_andNot, bin_eql, bin_neq, bin_lss, bin_leq, bin_gtr, bin_geq, un_not, un_neg, max2_val, max3_val, min2_val,
    cells_int, cells_bool, cells_agg, cells_pointer, cells_slice, cells_string, field_val, extract_val, indexAt_slice, indexAt_arr, fieldAt_val, loadVar_val, storeVar_val, alloc_val, pickPart_agg, pickPart_one,
    get_push_self, get_set_self, Hp.get_push, Hp.get_setB, Nat.add_left_cancel_iff, Nat.reduceEqDiff, Nat.add_eq_left, Nat.left_eq_add, Nat.one_ne_zero, Nat.add_assoc, getD_lit, finR_one, finR_two, finR_zero, aResult_tmp, aResult_cell, target_val, target_yield, yielded, gtt, gtf, gft, gff, gnt, gnf, oneC_int, oneC_bool, oneC_ptr, oneC_slice, oneC_string, oneC_func, splice_nil, splice_cons, List.extract_toArray, List.extract_eq_take_drop, List.drop_zero, List.drop_succ_cons, List.take_succ_cons, List.take_zero, List.take_nil, List.all_cons, List.all_nil, Nat.reduceLeDiff, Nat.le_refl, true_and, and_true, and_self, Hp.cell, Hp.row, Hp.wr, Hp.size_push, Hp.size_setB, Hp.ro_push, Hp.ro_setB,
    List.getD_cons_zero, List.getD_cons_succ, List.setIfInBounds_toArray, List.set_cons_zero, List.set_cons_succ, List.map_toArray, List.map_cons, List.map_nil, List.getElem?_toArray,
    List.getElem?_cons_zero, List.getElem?_cons_succ, List.size_toArray, List.length_cons, List.length_nil, List.append_toArray, List.cons_append, List.nil_append, List.append_nil,
    List.replicate_succ, List.replicate_zero, replicate_arr, Nat.reduceAdd, Nat.reduceSub, Nat.reduceMul, Option.map_some, Option.isSome_some, Option.getD_some, Option.bind_some, Nat.zero_add, Nat.add_zero,
    if_true, if_false, ite_true, ite_false, ↓reduceIte, Bool.false_eq_true, decide_true, decide_false, Bool.not_true, Bool.not_false, beq_self_eq_true, Bool.and_true, Bool.true_and, Bool.and_false, Bool.false_and, KD0_some, KD1_some, KD2_some, KDT_none, KDT_some, putU_none, liftP_none, le_self_f, false_and, and_false, evalDM_nil, evalDM_0, evalDM_1, evalDM_t, evalDM_2, evalDM_g0, evalDM_g1, evalDM_gt, evalDM_g2, vb_int, vb_bool, vb_string, vb_nil, vb_undef, vb_nilSlice, vb_nilMap, vb_map, vb_ptr, vb_slice, vb_func, vb_agg, vb_tuple, all_lit, all_litn, allow_nil, allow_cons,
    flatB_int, flatB_bool, flatB_string, flatB_nil, flatB_undef, flatB_ptr, flatB_slice, flatB_nilSlice, flatB_map, flatB_func, view_size, view_ro, view_nil, view_cons, more_view, more_push, keepBlk_cells, zip_cons, zip_nil, toList_lit,
    keepR, Nat.add_sub_cancel_left, tb, Nat.reduceDiv, Nat.reduceMod, Nat.reducePow, Bool.or_true, Bool.true_or, Bool.or_false, Bool.false_or, Nat.add_lt_add_iff_left, Nat.add_le_add_iff_left, Nat.reduceLT, Nat.le_add_right, Nat.lt_add_right_iff_pos, Nat.zero_lt_succ, Nat.reduceLeDiff, Nat.lt_irrefl, decide_not, bin_eqb, bin_neb, bin_eqnp, bin_nenp, bin_eqns, bin_nens, Option.isNone_some, Option.isNone_none, nc0, nc1, nc2, nc3, nc4, evalC_drawn, Int.reduceEq, Int.reduceNe, Int.reduceLT, Int.reduceLE, Int.reduceToNat, Nat.reduceEqDiff, eq_self, List.getElem?_toArray, hasBx5, hasBx6, hasBx7, hasBx8, hasBx9, hasBx10, hasBx11, hasBx12, hasBx13, hasBx14, hasBx15, hasBx16, hasBx17, hasBx18, hasBx19, hasBx20, hasBx21, hasBx22, hasBx23, hasBx24, tArrx49, tBoolx4, tElemx29, tElemx31, tFieldAx36x0, tFieldAx36x1, tFieldAx36x2, tFieldAx36x3, tIntx5x3, tLenx29, tLenx31, tPartx3, tPartx5, tPartx22, tPartx29, tPartx36, tRowx29, tRowx31, tSizex22, tSizex29, tZerox29, hs1, htm]
  · have hq : (h.size = h.size + 2) = False := by simp
    simp only [evalC_skip, evalC_ret, evalC_exit, evalC_label, evalC_region, evalC_seq, evalC_block, evalC_cond, pickC_true, pickC_false,
    Kreg_ap, Kseq_normal, Kseq_ret, Kseq_exit, Kblock_normal, Kblock_ret, Kblock_exit, Kloop_normal, Kloop_ret, Kloop_exit, Kret_normal, Kret_ret,
    evalOps_nil, evalOps_cons, evalOps_guard, Kops_some, put_some, put_none, eval_tmp, eval_const, eval_func, eval_global, liftP_some,
    op_move, op_assign, op_pick, op_bin, op_un, op_convert, op_fieldAddr, op_field, op_indexAddr, op_index, op_extract, op_build, op_nilCheck, op_makeFunc,
    op_load, op_store, op_alloc, op_box, op_buildSlice, op_makeSlice, op_slice, op_call, op_append, op_copy, op_clear, op_lenS, op_lenT, lenS_slice, lenT_string, op_max, op_min, loadV_ptr, storeV_ptr, putU_some, pickV_bool, idxA_int, idxV_int, nilV_ptr, nilV_func, nilV_yield,
    bin_add, bin_sub, bin_mul, bin_and, bin_or, bin_xor, bin_andNot, bin_eql, bin_neq, bin_lss, bin_leq, bin_gtr, bin_geq, un_not, un_neg, max2_val, max3_val, min2_val,
    cells_int, cells_bool, cells_agg, cells_pointer, cells_slice, cells_string, field_val, extract_val, indexAt_slice, indexAt_arr, fieldAt_val, loadVar_val, storeVar_val, alloc_val, pickPart_agg, pickPart_one,
    get_push_self, get_set_self, Hp.get_push, Hp.get_setB, Nat.add_left_cancel_iff, Nat.reduceEqDiff, Nat.add_eq_left, Nat.left_eq_add, Nat.one_ne_zero, Nat.add_assoc, getD_lit, finR_one, finR_two, finR_zero, aResult_tmp, aResult_cell, target_val, target_yield, yielded, gtt, gtf, gft, gff, gnt, gnf, oneC_int, oneC_bool, oneC_ptr, oneC_slice, oneC_string, oneC_func, splice_nil, splice_cons, List.extract_toArray, List.extract_eq_take_drop, List.drop_zero, List.drop_succ_cons, List.take_succ_cons, List.take_zero, List.take_nil, List.all_cons, List.all_nil, Nat.reduceLeDiff, Nat.le_refl, true_and, and_true, and_self, Hp.cell, Hp.row, Hp.wr, Hp.size_push, Hp.size_setB, Hp.ro_push, Hp.ro_setB,
    List.getD_cons_zero, List.getD_cons_succ, List.setIfInBounds_toArray, List.set_cons_zero, List.set_cons_succ, List.map_toArray, List.map_cons, List.map_nil, List.getElem?_toArray,
    List.getElem?_cons_zero, List.getElem?_cons_succ, List.size_toArray, List.length_cons, List.length_nil, List.append_toArray, List.cons_append, List.nil_append, List.append_nil,
    List.replicate_succ, List.replicate_zero, replicate_arr, Nat.reduceAdd, Nat.reduceSub, Nat.reduceMul, Option.map_some, Option.isSome_some, Option.getD_some, Option.bind_some, Nat.zero_add, Nat.add_zero,
    if_true, if_false, ite_true, ite_false, ↓reduceIte, Bool.false_eq_true, decide_true, decide_false, Bool.not_true, Bool.not_false, beq_self_eq_true, Bool.and_true, Bool.true_and, Bool.and_false, Bool.false_and, KD0_some, KD1_some, KD2_some, KDT_none, KDT_some, putU_none, liftP_none, le_self_f, false_and, and_false, evalDM_nil, evalDM_0, evalDM_1, evalDM_t, evalDM_2, evalDM_g0, evalDM_g1, evalDM_gt, evalDM_g2, vb_int, vb_bool, vb_string, vb_nil, vb_undef, vb_nilSlice, vb_nilMap, vb_map, vb_ptr, vb_slice, vb_func, vb_agg, vb_tuple, all_lit, all_litn, allow_nil, allow_cons,
    flatB_int, flatB_bool, flatB_string, flatB_nil, flatB_undef, flatB_ptr, flatB_slice, flatB_nilSlice, flatB_map, flatB_func, view_size, view_ro, view_nil, view_cons, more_view, more_push, keepBlk_cells, zip_cons, zip_nil, toList_lit,
    keepR, Nat.add_sub_cancel_left, tb, Nat.reduceDiv, Nat.reduceMod, Nat.reducePow, Bool.or_true, Bool.true_or, Bool.or_false, Bool.false_or, Nat.add_lt_add_iff_left, Nat.add_le_add_iff_left, Nat.reduceLT, Nat.le_add_right, Nat.lt_add_right_iff_pos, Nat.zero_lt_succ, Nat.reduceLeDiff, Nat.lt_irrefl, decide_not, bin_eqb, bin_neb, bin_eqnp, bin_nenp, bin_eqns, bin_nens, Option.isNone_some, Option.isNone_none, nc0, nc1, nc2, nc3, nc4, evalC_drawn, Int.reduceEq, Int.reduceNe, Int.reduceLT, Int.reduceLE, Int.reduceToNat, Nat.reduceEqDiff, eq_self, List.getElem?_toArray, hasBx5, hasBx6, hasBx7, hasBx8, hasBx9, hasBx10, hasBx11, hasBx12, hasBx13, hasBx14, hasBx15, hasBx16, hasBx17, hasBx18, hasBx19, hasBx20, hasBx21, hasBx22, hasBx23, hasBx24, tArrx49, tBoolx4, tElemx29, tElemx31, tFieldAx36x0, tFieldAx36x1, tFieldAx36x2, tFieldAx36x3, tIntx5x3, tLenx29, tLenx31, tPartx3, tPartx5, tPartx22, tPartx29, tPartx36, tRowx29, tRowx31, tSizex22, tSizex29, tZerox29, hs1, f5, hq, htm]
    rw [finR_mark (by rw [get_set_ne (by omega)]; exact f3) (by rw [Hp.ro_setB]; omega)]
    simp only [evalC_skip, evalC_ret, evalC_exit, evalC_label, evalC_region, evalC_seq, evalC_block, evalC_cond, pickC_true, pickC_false,
    Kreg_ap, Kseq_normal, Kseq_ret, Kseq_exit, Kblock_normal, Kblock_ret, Kblock_exit, Kloop_normal, Kloop_ret, Kloop_exit, Kret_normal, Kret_ret,
    evalOps_nil, evalOps_cons, evalOps_guard, Kops_some, put_some, put_none, eval_tmp, eval_const, eval_func, eval_global, liftP_some,
    op_move, op_assign, op_pick, op_bin, op_un, op_convert, op_fieldAddr, op_field, op_indexAddr, op_index, op_extract, op_build, op_nilCheck, op_makeFunc,
    op_load, op_store, op_alloc, op_box, op_buildSlice, op_makeSlice, op_slice, op_call, op_append, op_copy, op_clear, op_lenS, op_lenT, lenS_slice, lenT_string, op_max, op_min, loadV_ptr, storeV_ptr, putU_some, pickV_bool, idxA_int, idxV_int, nilV_ptr, nilV_func, nilV_yield,
    bin_add, bin_sub, bin_mul, bin_and, bin_or, bin_xor, bin_andNot, bin_eql, bin_neq, bin_lss, bin_leq, bin_gtr, bin_geq, un_not, un_neg, max2_val, max3_val, min2_val,
    cells_int, cells_bool, cells_agg, cells_pointer, cells_slice, cells_string, field_val, extract_val, indexAt_slice, indexAt_arr, fieldAt_val, loadVar_val, storeVar_val, alloc_val, pickPart_agg, pickPart_one,
    get_push_self, get_set_self, Hp.get_push, Hp.get_setB, Nat.add_left_cancel_iff, Nat.reduceEqDiff, Nat.add_eq_left, Nat.left_eq_add, Nat.one_ne_zero, Nat.add_assoc, getD_lit, finR_one, finR_two, finR_zero, aResult_tmp, aResult_cell, target_val, target_yield, yielded, gtt, gtf, gft, gff, gnt, gnf, oneC_int, oneC_bool, oneC_ptr, oneC_slice, oneC_string, oneC_func, splice_nil, splice_cons, List.extract_toArray, List.extract_eq_take_drop, List.drop_zero, List.drop_succ_cons, List.take_succ_cons, List.take_zero, List.take_nil, List.all_cons, List.all_nil, Nat.reduceLeDiff, Nat.le_refl, true_and, and_true, and_self, Hp.cell, Hp.row, Hp.wr, Hp.size_push, Hp.size_setB, Hp.ro_push, Hp.ro_setB,
    List.getD_cons_zero, List.getD_cons_succ, List.setIfInBounds_toArray, List.set_cons_zero, List.set_cons_succ, List.map_toArray, List.map_cons, List.map_nil, List.getElem?_toArray,
    List.getElem?_cons_zero, List.getElem?_cons_succ, List.size_toArray, List.length_cons, List.length_nil, List.append_toArray, List.cons_append, List.nil_append, List.append_nil,
    List.replicate_succ, List.replicate_zero, replicate_arr, Nat.reduceAdd, Nat.reduceSub, Nat.reduceMul, Option.map_some, Option.isSome_some, Option.getD_some, Option.bind_some, Nat.zero_add, Nat.add_zero,
    if_true, if_false, ite_true, ite_false, ↓reduceIte, Bool.false_eq_true, decide_true, decide_false, Bool.not_true, Bool.not_false, beq_self_eq_true, Bool.and_true, Bool.true_and, Bool.and_false, Bool.false_and, KD0_some, KD1_some, KD2_some, KDT_none, KDT_some, putU_none, liftP_none, le_self_f, false_and, and_false, evalDM_nil, evalDM_0, evalDM_1, evalDM_t, evalDM_2, evalDM_g0, evalDM_g1, evalDM_gt, evalDM_g2, vb_int, vb_bool, vb_string, vb_nil, vb_undef, vb_nilSlice, vb_nilMap, vb_map, vb_ptr, vb_slice, vb_func, vb_agg, vb_tuple, all_lit, all_litn, allow_nil, allow_cons,
    flatB_int, flatB_bool, flatB_string, flatB_nil, flatB_undef, flatB_ptr, flatB_slice, flatB_nilSlice, flatB_map, flatB_func, view_size, view_ro, view_nil, view_cons, more_view, more_push, keepBlk_cells, zip_cons, zip_nil, toList_lit,
    keepR, Nat.add_sub_cancel_left, tb, Nat.reduceDiv, Nat.reduceMod, Nat.reducePow, Bool.or_true, Bool.true_or, Bool.or_false, Bool.false_or, Nat.add_lt_add_iff_left, Nat.add_le_add_iff_left, Nat.reduceLT, Nat.le_add_right, Nat.lt_add_right_iff_pos, Nat.zero_lt_succ, Nat.reduceLeDiff, Nat.lt_irrefl, decide_not, bin_eqb, bin_neb, bin_eqnp, bin_nenp, bin_eqns, bin_nens, Option.isNone_some, Option.isNone_none, nc0, nc1, nc2, nc3, nc4, evalC_drawn, Int.reduceEq, Int.reduceNe, Int.reduceLT, Int.reduceLE, Int.reduceToNat, Nat.reduceEqDiff, eq_self, List.getElem?_toArray]
    refine ⟨_, _, rfl, f6.mono (by simp) fun b hb => ?_, by simp; omega, by simpa using f1, fun c hc hne => ?_⟩
    · have := f6.lt hb
      rw [get_set_ne (by omega), get_set_ne (by omega)]
    · rw [get_set_ne (by omega), get_set_ne (by omega)]
      exact f7 c hc hne
end Go.Abs.A1d
