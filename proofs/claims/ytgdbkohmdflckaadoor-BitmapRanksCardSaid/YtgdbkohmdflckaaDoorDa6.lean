/- The lowest bit that is set, out of the table. -/
import Derived.Test.YtgdbkohmdflckaaDoorDa5
namespace Go.Abs.A1d
open Go.Proofs
set_option maxRecDepth 10000
set_option linter.all false
def deB (c : Nat) : Nat := 2 ^ c * 125613361 % 4294967296 / 134217728
def tabOk (tab : Array Value) : Bool := tab.size == 32 && (List.range 32).all fun c => match tab[deB c]? with
  | some (.int .u8 x) => decide (x = (c : Int))
  | _ => false
theorem deB_lt (c : Nat) : deB c < 32 := by
  unfold deB
  have : 2 ^ c * 125613361 % 4294967296 < 4294967296 := Nat.mod_lt _ (by decide)
  omega
theorem tab_at {tab : Array Value} (h : tabOk tab = true) {c : Nat} (hc : c < 32) : tab[deB c]? = some (.int .u8 (c : Int)) := by
  simp only [tabOk, Bool.and_eq_true] at h
  have := List.all_eq_true.1 h.2 c (List.mem_range.2 hc)
  split at this
  · rename_i x hx
    rw [hx, of_decide_eq_true this]
  · cases this
theorem neg_low {N : Nat} (h0 : N ≠ 0) (hN : N < 2 ^ 32) : ibAnd .u32 (N : Int) (IntKind.u32.wrap (0 - (N : Int))) = ((2 ^ ctzN N : Nat) : Int) := by
  have hc := (ctz_spec h0 hN).1
  have h1 : (2 : Nat) ^ ctzN N < 2 ^ 32 := Nat.pow_lt_pow_right (by decide) hc
  have e : BitVec.ofInt 32 (IntKind.u32.wrap (0 - (N : Int))) = -BitVec.ofNat 32 N := by
    apply BitVec.eq_of_toNat_eq
    rw [ofInt_nat, BitVec.toNat_neg, BitVec.toNat_ofNat, wrapU32]
    omega
  unfold ibAnd
  rw [show IntKind.u32.bits = 32 from rfl, e, BitVec.ofInt_natCast, low_bit h0 hN, BitVec.toNat_twoPow, Nat.mod_eq_of_lt h1]
  have h3 : ((2 ^ ctzN N : Nat) : Int) < 4294967296 := Int.ofNat_lt.2 (show 2 ^ ctzN N < 4294967296 from h1)
  rw [u32_in (Int.natCast_nonneg _) h3]
theorem indexAt_tab {b o : Nat} {k : IntKind} {d : Nat} (hd : d < 32) : pureP Tryd.prog (Instr.indexAt 49 (.pointer (some ⟨b, o, none⟩)) (.int k (d : Int))) = some (.pointer (some ⟨b, o + d, none⟩)) := by
  have h := indexAt_arr (P := Tryd.prog) 49 b o k (d : Int) (by rw [tArrx49]; rfl) (by omega) (by rw [tArrx49]; show (d : Int) < ((32 : Nat) : Int); omega)
  rw [tArrx49] at h
  rw [h, Int.toNat_natCast, Option.getD_some, Nat.mul_one]
theorem call24 {I : Intr} (hI : I 24 = none) {n N : Nat} {h : Hp} {tab : Array Value} {own : Bool} (hg : h.get 0 = some (.cells tab own)) (ht : tabOk tab = true) (h0 : N ≠ 0) (hN : N < 2 ^ 32) :
    evalV Tryd.prog I (n + 1) (.fn 24) #[.int .u32 (N : Int)] h = some (.int .i64 (ctzN N : Int), h) := by
  rw [evalV_call (P := Tryd.prog) (f := 24) (m := 14) (rs := #[.tmp 2]) hI Tryd.func24 rfl rfl rfl]
  have hc := (ctz_spec h0 hN).1
  have w1 := neg_low h0 hN
  generalize ctzN N = c at hc w1 ⊢
  have hz : ¬ (N : Int) = 0 := by omega
  have w2 : IntKind.u32.wrap (((2 ^ c : Nat) : Int) * 125613361) = ((2 ^ c * 125613361 % 4294967296 : Nat) : Int) := by rw [wrapU32]; omega
  have w3 : ishr .u32 ((2 ^ c * 125613361 % 4294967296 : Nat) : Int) 27 = ((deB c : Nat) : Int) := by
    rw [show (27 : Int) = ((27 : Nat) : Int) from rfl, shr_nat (by decide)]; unfold deB; omega
  generalize 2 ^ c * 125613361 % 4294967296 = p2 at w2 w3
  generalize 2 ^ c = p1 at w1 w2
  have hd := deB_lt c
  have ha := tab_at ht hc
  generalize deB c = d at w3 hd ha
  have w4 : IntKind.i64.wrap (c : Int) = c := by rw [i64_in] <;> omega
  simp only [evalC_skip, evalC_ret, evalC_exit, evalC_label, evalC_region, evalC_seq, evalC_block, evalC_cond, pickC_true, pickC_false,
    Kreg_ap, Kseq_normal, Kseq_ret, Kseq_exit, Kblock_normal, Kblock_ret, Kblock_exit, Kloop_normal, Kloop_ret, Kloop_exit, Kret_normal, Kret_ret,
    evalOps_nil, evalOps_cons, evalOps_guard, Kops_some, put_some, put_none, eval_tmp, eval_const, eval_func, eval_global, liftP_some,
    op_move, op_assign, op_pick, op_bin, op_un, op_convert, op_fieldAddr, op_field, op_indexAddr, op_index, op_extract, op_build, op_nilCheck, op_makeFunc,
    op_load, op_store, op_alloc, op_box, op_buildSlice, op_makeSlice, op_slice, op_call, op_append, op_copy, op_clear, op_lenS, op_lenT, lenS_slice, lenT_string, op_max, op_min, loadV_ptr, storeV_ptr, putU_some, pickV_bool, idxA_int, idxV_int, nilV_ptr, nilV_func, nilV_yield,
    bin_add, bin_sub, bin_mul, bin_and, bin_or, bin_xor, bin_andNot, bin_eql, bin_neq, bin_lss, bin_leq, bin_gtr, bin_geq, un_not, un_neg, max2_val, max3_val, min2_val,
    cells_int, cells_bool, cells_agg, cells_pointer, cells_slice, cells_string, field_val, extract_val, indexAt_slice, indexAt_arr, fieldAt_val, loadVar_val, storeVar_val, alloc_val, pickPart_agg, pickPart_one,
    get_push_self, get_set_self, Hp.get_push, Hp.get_setB, Nat.add_left_cancel_iff, Nat.reduceEqDiff, Nat.add_eq_left, Nat.left_eq_add, Nat.one_ne_zero, Nat.add_assoc, getD_lit, finR_one, finR_two, finR_zero, aResult_tmp, aResult_cell, target_val, target_yield, yielded, gtt, gtf, gft, gff, gnt, gnf, oneC_int, oneC_bool, oneC_ptr, oneC_slice, oneC_string, oneC_func, splice_nil, splice_cons, List.extract_toArray, List.extract_eq_take_drop, List.drop_zero, List.drop_succ_cons, List.take_succ_cons, List.take_zero, List.take_nil, List.all_cons, List.all_nil, Nat.reduceLeDiff, Nat.le_refl, true_and, and_true, and_self, Hp.cell, Hp.row, Hp.wr, Hp.size_push, Hp.size_setB, Hp.ro_push, Hp.ro_setB,
    List.getD_cons_zero, List.getD_cons_succ, List.setIfInBounds_toArray, List.set_cons_zero, List.set_cons_succ, List.map_toArray, List.map_cons, List.map_nil, List.getElem?_toArray,
    List.getElem?_cons_zero, List.getElem?_cons_succ, List.size_toArray, List.length_cons, List.length_nil, List.append_toArray, List.cons_append, List.nil_append, List.append_nil,
    List.replicate_succ, List.replicate_zero, replicate_arr, Nat.reduceAdd, Nat.reduceSub, Nat.reduceMul, Option.map_some, Option.isSome_some, Option.getD_some, Option.bind_some, Nat.zero_add, Nat.add_zero,
    if_true, if_false, ite_true, ite_false, ↓reduceIte, Bool.false_eq_true, decide_true, decide_false, Bool.not_true, Bool.not_false, beq_self_eq_true, Bool.and_true, Bool.true_and, Bool.and_false, Bool.false_and, KD0_some, KD1_some, KD2_some, KDT_none, KDT_some, putU_none, liftP_none, le_self_f, false_and, and_false, evalDM_nil, evalDM_0, evalDM_1, evalDM_t, evalDM_2, evalDM_g0, evalDM_g1, evalDM_gt, evalDM_g2, vb_int, vb_bool, vb_string, vb_nil, vb_undef, vb_nilSlice, vb_nilMap, vb_map, vb_ptr, vb_slice, vb_func, vb_agg, vb_tuple, all_lit, all_litn, allow_nil, allow_cons,
    flatB_int, flatB_bool, flatB_string, flatB_nil, flatB_undef, flatB_ptr, flatB_slice, flatB_nilSlice, flatB_map, flatB_func, view_size, view_ro, view_nil, view_cons, more_view, more_push, keepBlk_cells, zip_cons, zip_nil, toList_lit,
    keepR, Nat.add_sub_cancel_left, tb, Nat.reduceDiv, Nat.reduceMod, Nat.reducePow, Bool.or_true, Bool.true_or, Bool.or_false, Bool.false_or, Nat.add_lt_add_iff_left, Nat.add_le_add_iff_left, Nat.reduceLT, Nat.le_add_right, Nat.lt_add_right_iff_pos, Nat.zero_lt_succ, Nat.reduceLeDiff, Nat.lt_irrefl, decide_not, bin_eqb, bin_neb, bin_eqnp, bin_nenp, bin_eqns, bin_nens, Option.isNone_some, Option.isNone_none, nc0, nc1, nc2, nc3, nc4, evalC_drawn, Int.reduceEq, Int.reduceNe, Int.reduceLT, Int.reduceLE, Int.reduceToNat, Nat.reduceEqDiff, eq_self, List.getElem?_toArray, hasBx5, hasBx6, hasBx7, hasBx8, hasBx9, hasBx10, hasBx11, hasBx12, hasBx13, hasBx14, hasBx15, hasBx16, hasBx17, hasBx18, hasBx19, hasBx20, hasBx21, hasBx22, hasBx23, hasBx24, tArrx49, tBoolx4, tElemx29, tElemx31, tFieldAx36x0, tFieldAx36x1, tFieldAx36x2, tFieldAx36x3, tIntx5x3, tLenx29, tLenx31, tPartx3, tPartx5, tPartx22, tPartx29, tPartx36, tRowx29, tRowx31, tSizex22, tSizex29, tZerox29, hz, w1, w2, bin_shr (show (0 : Int) ≤ 27 by decide), w3, indexAt_tab hd, hg, ha, Int.toNat_natCast, conv_int, w4, Nat.mul_one]
end Go.Abs.A1d
