/- The law BitmapSets, run: it gives true. -/
import Derived.Test.YtgdbkohmdflckaaDoorDa10
namespace Go.Abs.A1d
open Go.Proofs
set_option maxRecDepth 10000
set_option linter.all false
def g11 := gOf (Dec1.cons dS (Dec1.cons dI (Dec1.cons Dec1.bool .nil))) fun x => .int .u32 (setF x.1.1 x.2.1 x.2.2.1)
def TS3 : List (FuncId × (Array Value → Hp → Option (Value × Hp))) := [(5, g5), (6, gRank), (7, gRank), (8, g8), (9, g9), (10, gSet true), (11, g11), (12, gSet false)]
abbrev IS3 : Intr := fun f => TS3.lookup f
theorem okS3 : IntrOk Tryd.prog (CKb Tryd.prog) IS3 := Con.table fun x hx => by
  simp only [TS3, List.mem_cons, List.not_mem_nil, or_false] at hx
  rcases hx with rfl | rfl | rfl | rfl | rfl | rfl | rfl | rfl
  · exact con5
  · exact con6
  · exact con7
  · exact con8
  · exact con9
  · exact con10
  · exact con11
  · exact con12
theorem SlAt.low {lo lo' : Nat} {k : Hp} {v : Value} {s : Nat} {cs : List Value} (h : SlAt lo k v s cs) (hl : lo' ≤ lo) : SlAt lo' k v s cs := by
  rcases h with h | ⟨b, n, e1, e2, e3⟩
  · exact .inl h
  · exact .inr ⟨b, n, e1, by omega, e3⟩
theorem run3 {tab : Array Value} {own : Bool} (ht : tabOk tab = true) (s b : Int) (hs : 0 ≤ s ∧ s < 4294967296) (h : Hp) (hg : h.get 0 = some (.cells tab own)) (h0 : 0 < h.size) (hro : h.ro ≤ h.size) :
    ∃ h', evalV Tryd.prog IS3 (43 + 1) (.fn 3) #[.int .u32 s, .int .i64 b] h = some (.bool true, h') := by
  rw [evalV_call (P := Tryd.prog) (intr := IS3) (f := 3) (m := 48) (rs := #[.tmp 4]) rfl Tryd.func3 rfl rfl rfl]
  have c5 := fun n h => call5 (I := IS3) rfl (n := n) (h := h)
  have c6 := fun n h => call6 (I := IS3) rfl (n := n) (s := s) (b := b) (h := h) hs
  have c7 := fun n h => call7 (I := IS3) rfl (n := n) (s := s) (b := b) (h := h) hs
  have c8 := fun n h => call8 (I := IS3) rfl (n := n) (s := s) (b := b) (h := h) hs
  have c9 := fun n h => call9 (I := IS3) rfl (n := n) (s := s) (b := b) (h := h) hs
  have c10 := fun n h => call10 (I := IS3) rfl (n := n) (s := s) (b := b) (h := h) hs
  have c11 := fun n h is => call11 (I := IS3) rfl (n := n) (s := s) (b := b) (is := is) (h := h) hs
  have c12 := fun n h => call12 (I := IS3) rfl (n := n) (s := s) (b := b) (h := h) hs
  obtain ⟨N, rfl⟩ := Int.eq_ofNat_of_zero_le hs.1
  have hN : N < 2 ^ 32 := by omega
  obtain ⟨u, k1, e14, u1, u2, u3, u4⟩ := run14 (I := IS3) rfl rfl rfl rfl rfl rfl ht N hN h hg h0 hro
  obtain ⟨v, k2, e15, v1, v2, v3, v4⟩ := run15 (I := IS3) rfl rfl N hN k1 (by omega)
  have u5 : SlAt h.size k2 u 1 ((bitsN N).map i64) := u1.mono v2 fun c hc => v4 c (u1.lt hc).2
  obtain ⟨k3, e13, -⟩ := run13 (I := IS3) rfl (L := bitsN N) (by rw [bitsN_len]; exact popN_le _ _) u5 (SlAt.low v1 u2)
  simp only [evalC_skip, evalC_ret, evalC_exit, evalC_label, evalC_region, evalC_seq, evalC_block, evalC_cond, pickC_true, pickC_false,
    Kreg_ap, Kseq_normal, Kseq_ret, Kseq_exit, Kblock_normal, Kblock_ret, Kblock_exit, Kloop_normal, Kloop_ret, Kloop_exit, Kret_normal, Kret_ret,
    evalOps_nil, evalOps_cons, evalOps_guard, Kops_some, put_some, put_none, eval_tmp, eval_const, eval_func, eval_global, liftP_some,
    op_move, op_assign, op_pick, op_bin, op_un, op_convert, op_fieldAddr, op_field, op_indexAddr, op_index, op_extract, op_build, op_nilCheck, op_makeFunc,
    op_load, op_store, op_alloc, op_box, op_buildSlice, op_makeSlice, op_slice, op_call, op_append, op_copy, op_clear, op_lenS, op_lenT, lenS_slice, lenT_string, op_max, op_min, loadV_ptr, storeV_ptr, putU_some, pickV_bool, idxA_int, idxV_int, nilV_ptr, nilV_func, nilV_yield,
    bin_add, bin_sub, bin_mul, bin_and, bin_or, bin_xor, bin_andNot, bin_eql, bin_neq, bin_lss, bin_leq, bin_gtr, bin_geq, un_not, un_neg, max2_val, max3_val, min2_val,
    cells_int, cells_bool, cells_agg, cells_pointer, cells_slice, cells_string, field_val, extract_val, indexAt_slice, indexAt_arr, fieldAt_val, loadVar_val, storeVar_val, alloc_val, pickPart_agg, pickPart_one,
    get_push_self, get_set_self, Hp.get_push, Hp.get_setB, Nat.add_left_cancel_iff, Nat.reduceEqDiff, Nat.add_eq_left, Nat.left_eq_add, Nat.one_ne_zero, Nat.add_assoc, getD_lit, finR_one, finR_two, finR_zero, aResult_tmp, aResult_cell, target_val, target_yield, yielded, gtt, gtf, gft, gff, gnt, gnf, oneC_int, oneC_bool, oneC_ptr, oneC_slice, oneC_string, oneC_func, splice_nil, splice_cons, List.extract_toArray, List.extract_eq_take_drop, List.drop_zero, List.drop_succ_cons, List.take_succ_cons, List.take_zero, List.take_nil, List.all_cons, List.all_nil, Nat.reduceLeDiff, Nat.le_refl, true_and, and_true, and_self, Hp.cell, Hp.row, Hp.wr, Hp.size_push, Hp.size_setB, Hp.ro_push, Hp.ro_setB,
    List.getD_cons_zero, List.getD_cons_succ, List.setIfInBounds_toArray, List.set_cons_zero, List.set_cons_succ, List.map_toArray, List.map_cons, List.map_nil, List.getElem?_toArray,
    List.getElem?_cons_zero, List.getElem?_cons_succ, List.size_toArray, List.length_cons, List.length_nil, List.append_toArray, List.cons_append, List.nil_append, List.append_nil,
    List.replicate_succ, List.replicate_zero, replicate_arr, Nat.reduceAdd, Nat.reduceSub, Nat.reduceMul, Option.map_some, Option.isSome_some, Option.getD_some, Option.bind_some, Nat.zero_add, Nat.add_zero,
    if_true, if_false, ite_true, ite_false, ↓reduceIte, Bool.false_eq_true, decide_true, decide_false, Bool.not_true, Bool.not_false, beq_self_eq_true, Bool.and_true, Bool.true_and, Bool.and_false, Bool.false_and, KD0_some, KD1_some, KD2_some, KDT_none, KDT_some, putU_none, liftP_none, le_self_f, false_and, and_false, evalDM_nil, evalDM_0, evalDM_1, evalDM_t, evalDM_2, evalDM_g0, evalDM_g1, evalDM_gt, evalDM_g2, vb_int, vb_bool, vb_string, vb_nil, vb_undef, vb_nilSlice, vb_nilMap, vb_map, vb_ptr, vb_slice, vb_func, vb_agg, vb_tuple, all_lit, all_litn, allow_nil, allow_cons,
    flatB_int, flatB_bool, flatB_string, flatB_nil, flatB_undef, flatB_ptr, flatB_slice, flatB_nilSlice, flatB_map, flatB_func, view_size, view_ro, view_nil, view_cons, more_view, more_push, keepBlk_cells, zip_cons, zip_nil, toList_lit,
    keepR, Nat.add_sub_cancel_left, tb, Nat.reduceDiv, Nat.reduceMod, Nat.reducePow, Bool.or_true, Bool.true_or, Bool.or_false, Bool.false_or, Nat.add_lt_add_iff_left, Nat.add_le_add_iff_left, Nat.reduceLT, Nat.le_add_right, Nat.lt_add_right_iff_pos, Nat.zero_lt_succ, Nat.reduceLeDiff, Nat.lt_irrefl, decide_not, bin_eqb, bin_neb, bin_eqnp, bin_nenp, bin_eqns, bin_nens, Option.isNone_some, Option.isNone_none, nc0, nc1, nc2, nc3, nc4, evalC_drawn, Int.reduceEq, Int.reduceNe, Int.reduceLT, Int.reduceLE, Int.reduceToNat, Nat.reduceEqDiff, eq_self, List.getElem?_toArray, hasBx5, hasBx6, hasBx7, hasBx8, hasBx9, hasBx10, hasBx11, hasBx12, hasBx13, hasBx14, hasBx15, hasBx16, hasBx17, hasBx18, hasBx19, hasBx20, hasBx21, hasBx22, hasBx23, hasBx24, tArrx49, tBoolx4, tElemx29, tElemx31, tFieldAx36x0, tFieldAx36x1, tFieldAx36x2, tFieldAx36x3, tIntx5x3, tLenx29, tLenx31, tPartx3, tPartx5, tPartx22, tPartx29, tPartx36, tRowx29, tRowx31, tSizex22, tSizex29, tZerox29, c5, c6, c7, c8, c9, c10, c11, c12, e14, e15, e13]
  exact ⟨_, rfl⟩
end Go.Abs.A1d
