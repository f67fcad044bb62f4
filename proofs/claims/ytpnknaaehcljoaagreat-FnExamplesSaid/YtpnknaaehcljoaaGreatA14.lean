/- DERIVED by an AI agent. -/
import Derived.Test.YtpnknaaehcljoaaGreatA13
/- DERIVED by an AI agent. The rules in heaps. No program in sight. -/
namespace Go.Abs
theorem ai {a b : Prop} (h : a) (k : b) : a ∧ b := ⟨h, k⟩
theorem gp0 : type_of% (ai @c1_tt <| ai @c1_ff <| ai @c2_tt <| ai @c2_ff <| ai @d1_tt <| ai @d1_ff <| ai @d2_tt <| ai @d2_ff <| ai @cwp_skip <| ai @cwp_region_f <| ai @cwp_region_t <| ai @cwp_seq <| ai @cwp_cond <| ai @cwp_block <| ai @cwp_loop <| @cwp_exit) := ai @c1_tt <| ai @c1_ff <| ai @c2_tt <| ai @c2_ff <| ai @d1_tt <| ai @d1_ff <| ai @d2_tt <| ai @d2_ff <| ai @cwp_skip <| ai @cwp_region_f <| ai @cwp_region_t <| ai @cwp_seq <| ai @cwp_cond <| ai @cwp_block <| ai @cwp_loop <| @cwp_exit
theorem gp1 : type_of% (ai @cwp_ret <| ai @cwp_label <| ai @seq_norm <| ai @seq_ret <| ai @seq_exit <| ai @blk_norm <| ai @blk_ret <| ai @blk_exit_same <| ai @blk_exit_ne <| ai @endK_ret <| ai @endK_norm <| ai @opsK_nil <| ai @drawK_nil <| ai @opsK_cons <| ai @opsK_guard <| @drawK_cons) := ai @cwp_ret <| ai @cwp_label <| ai @seq_norm <| ai @seq_ret <| ai @seq_exit <| ai @blk_norm <| ai @blk_ret <| ai @blk_exit_same <| ai @blk_exit_ne <| ai @endK_ret <| ai @endK_norm <| ai @opsK_nil <| ai @drawK_nil <| ai @opsK_cons <| ai @opsK_guard <| @drawK_cons
theorem gp2 : type_of% (ai @drawK_guard <| ai @opK_move <| ai @opK_assign_tmp <| ai @opK_assign_int <| ai @opK_assign_bool <| ai @opK_assign_string <| ai @opK_assign_agg <| ai @opK_assign_nil <| ai @opK_pick <| ai @opK_bin <| ai @opK_un <| ai @opK_convert <| ai @opK_load <| ai @opK_fieldAddr <| ai @opK_field <| @opK_indexAddr) := ai @drawK_guard <| ai @opK_move <| ai @opK_assign_tmp <| ai @opK_assign_int <| ai @opK_assign_bool <| ai @opK_assign_string <| ai @opK_assign_agg <| ai @opK_assign_nil <| ai @opK_pick <| ai @opK_bin <| ai @opK_un <| ai @opK_convert <| ai @opK_load <| ai @opK_fieldAddr <| ai @opK_field <| @opK_indexAddr
theorem gp3 : type_of% (ai @opK_index <| ai @opK_extract <| ai @opK_nilCheck <| ai @opK_makeFunc <| ai @opK_len <| ai @opK_max <| ai @opK_min <| ai @opK_append <| ai @op2_callV <| ai @op2_callV_none <| ai @op2_callB <| ai @op2_append <| ai @op2_build0 <| ai @op2_build1 <| ai @op2_build2 <| @opK_alloc) := ai @opK_index <| ai @opK_extract <| ai @opK_nilCheck <| ai @opK_makeFunc <| ai @opK_len <| ai @opK_max <| ai @opK_min <| ai @opK_append <| ai @op2_callV <| ai @op2_callV_none <| ai @op2_callB <| ai @op2_append <| ai @op2_build0 <| ai @op2_build1 <| ai @op2_build2 <| @opK_alloc
theorem gp4 : type_of% (ai @opK_box <| ai @opK_buildSlice <| ai @opK_store <| ai @opK_make <| ai @opK_slice <| ai @retK_one <| ai @retK_cell <| ai @retK_two <| ai @retK_three <| ai @op2_eql_nil <| ai @op2_neq_nil <| ai @op2_move <| ai @op2_assign <| ai @op2_pick <| ai @op2_un <| @op2_convert) := ai @opK_box <| ai @opK_buildSlice <| ai @opK_store <| ai @opK_make <| ai @opK_slice <| ai @retK_one <| ai @retK_cell <| ai @retK_two <| ai @retK_three <| ai @op2_eql_nil <| ai @op2_neq_nil <| ai @op2_move <| ai @op2_assign <| ai @op2_pick <| ai @op2_un <| @op2_convert
theorem gp5 : type_of% (ai @op2_load <| ai @op2_fieldAddr <| ai @op2_field <| ai @op2_indexAddr <| ai @op2_index <| ai @op2_extract <| ai @op2_nilCheck <| ai @op2_makeFunc <| ai @op2_alloc <| ai @op2_box <| ai @op2_build <| ai @op2_store <| ai @op2_make <| ai @op2_slice <| ai @op2_bin_tmp <| @op2_bin_int) := ai @op2_load <| ai @op2_fieldAddr <| ai @op2_field <| ai @op2_indexAddr <| ai @op2_index <| ai @op2_extract <| ai @op2_nilCheck <| ai @op2_makeFunc <| ai @op2_alloc <| ai @op2_box <| ai @op2_build <| ai @op2_store <| ai @op2_make <| ai @op2_slice <| ai @op2_bin_tmp <| @op2_bin_int
theorem gp6 : type_of% (ai @op2_bin_bool <| ai @op2_bin_string <| ai @opK_build <| ai @endG_ret <| ai @endG_norm <| ai @retG_one <| ai @retG_cell <| ai @retG_none <| ai @retG_two <| ai @endM_ret <| ai @endM_norm <| ai @endT_ret <| ai @endT_norm <| ai @retT_self <| ai @retT_selfx <| @retT_rv) := ai @op2_bin_bool <| ai @op2_bin_string <| ai @opK_build <| ai @endG_ret <| ai @endG_norm <| ai @retG_one <| ai @retG_cell <| ai @retG_none <| ai @retG_two <| ai @endM_ret <| ai @endM_norm <| ai @endT_ret <| ai @endT_norm <| ai @retT_self <| ai @retT_selfx <| @retT_rv
theorem gp7 : type_of% (ai @retM_one <| ai @retM_none <| ai @dO_move <| ai @dO_assign <| ai @dO_pick <| ai @dO_bin <| ai @dO_un <| ai @dO_convert <| ai @dO_load <| ai @dO_fieldAddr <| ai @dO_field <| ai @dO_indexAddr <| ai @dO_index <| ai @dO_extract <| ai @dO_makeFunc <| @dO_nilCheck) := ai @retM_one <| ai @retM_none <| ai @dO_move <| ai @dO_assign <| ai @dO_pick <| ai @dO_bin <| ai @dO_un <| ai @dO_convert <| ai @dO_load <| ai @dO_fieldAddr <| ai @dO_field <| ai @dO_indexAddr <| ai @dO_index <| ai @dO_extract <| ai @dO_makeFunc <| @dO_nilCheck
theorem gp8 : type_of% (ai @dO_len <| ai @dO_max <| ai @dO_min <| ai @dO_slice0 <| ai @dO_slice1 <| ai @dO_slice2 <| ai @cutX_own <| ai @cutX_sl <| ai @cutX_v <| ai @cutRow_fz <| ai @cutRow_live <| ai @dO_slice3 <| ai @dO_build <| ai @dO_call <| ai @dO_call_none <| @dO_append) := ai @dO_len <| ai @dO_max <| ai @dO_min <| ai @dO_slice0 <| ai @dO_slice1 <| ai @dO_slice2 <| ai @cutX_own <| ai @cutX_sl <| ai @cutX_v <| ai @cutRow_fz <| ai @cutRow_live <| ai @dO_slice3 <| ai @dO_build <| ai @dO_call <| ai @dO_call_none <| @dO_append
theorem gp9 : type_of% (ai @dO_alloc <| ai @dO_box <| ai @dO_buildSlice <| ai @dO_store <| ai @dO_make <| @kk_eq) := ai @dO_alloc <| ai @dO_box <| ai @dO_buildSlice <| ai @dO_store <| ai @dO_make <| @kk_eq
theorem gp : type_of% (ai @gp0 <| ai @gp1 <| ai @gp2 <| ai @gp3 <| ai @gp4 <| ai @gp5 <| ai @gp6 <| ai @gp7 <| ai @gp8 <| @gp9) := ai @gp0 <| ai @gp1 <| ai @gp2 <| ai @gp3 <| ai @gp4 <| ai @gp5 <| ai @gp6 <| ai @gp7 <| ai @gp8 <| @gp9
theorem gq0 : type_of% (ai @evK_v <| ai @evK_sl <| ai @evK_own <| ai @evK_ref <| ai @evK_eref <| ai @evK_ag <| ai @evK_tup <| ai @evK_clo <| ai @evK_junk <| ai @put_sl_same <| ai @put_sl_ne <| ai @put_none <| ai @put_rw <| ai @row_sl <| ai @row_rw_same <| @row_rw_ne) := ai @evK_v <| ai @evK_sl <| ai @evK_own <| ai @evK_ref <| ai @evK_eref <| ai @evK_ag <| ai @evK_tup <| ai @evK_clo <| ai @evK_junk <| ai @put_sl_same <| ai @put_sl_ne <| ai @put_none <| ai @put_rw <| ai @row_sl <| ai @row_rw_same <| @row_rw_ne
theorem gq1 : type_of% (ai @freeze_sl <| ai @freeze_rw <| ai @frz_sli <| ai @ev_tmp <| ai @ev_func <| ai @ev_int <| ai @ev_bool <| ai @ev_string <| ai @ev_slice <| ai @ev_agg <| ai @init_sl <| ai @init_rw <| ai @getD_zero <| ai @getD_succ <| ai @getD_nil <| @newSt_eq) := ai @freeze_sl <| ai @freeze_rw <| ai @frz_sli <| ai @ev_tmp <| ai @ev_func <| ai @ev_int <| ai @ev_bool <| ai @ev_string <| ai @ev_slice <| ai @ev_agg <| ai @init_sl <| ai @init_rw <| ai @getD_zero <| ai @getD_succ <| ai @getD_nil <| @newSt_eq
theorem gq2 : type_of% (ai @appSt_eq <| ai @condK_bool <| ai @c1_any <| ai @c2_any <| ai @d1_any <| ai @d2_any <| ai @gK_some <| ai @gK1_undef <| ai @gK1_true <| ai @gK1_false <| ai @ops_at <| ai @getElem?_zero <| ai @getElem?_succ <| ai @some_bind <| ai @bin_add <| @bin_sub) := ai @appSt_eq <| ai @condK_bool <| ai @c1_any <| ai @c2_any <| ai @d1_any <| ai @d2_any <| ai @gK_some <| ai @gK1_undef <| ai @gK1_true <| ai @gK1_false <| ai @ops_at <| ai @getElem?_zero <| ai @getElem?_succ <| ai @some_bind <| ai @bin_add <| @bin_sub
theorem gq3 : type_of% (ai @bin_mul <| ai @bin_quo <| ai @bin_rem <| ai @bin_and <| ai @bin_or <| ai @bin_xor <| ai @bin_andnot <| ai @bin_shl <| ai @bin_shr <| ai @bin_eql <| ai @bin_neq <| ai @bin_lss <| ai @bin_leq <| ai @bin_gtr <| ai @bin_geq <| @bin_str_eql) := ai @bin_mul <| ai @bin_quo <| ai @bin_rem <| ai @bin_and <| ai @bin_or <| ai @bin_xor <| ai @bin_andnot <| ai @bin_shl <| ai @bin_shr <| ai @bin_eql <| ai @bin_neq <| ai @bin_lss <| ai @bin_leq <| ai @bin_gtr <| ai @bin_geq <| @bin_str_eql
theorem gq4 : type_of% (ai @bin_str_neq <| ai @bin_str_add <| ai @bin_bool_eql <| ai @bin_bool_neq <| ai @un_not <| ai @un_neg <| ai @ptr_eref <| ai @ptr_ref <| ai @ptrRow_box <| ai @ptrRow_sli <| ai @ptrRow_tab <| ai @len_eq <| ai @len_str <| ai @len_sl <| ai @len_own <| @lenRow_sli) := ai @bin_str_neq <| ai @bin_str_add <| ai @bin_bool_eql <| ai @bin_bool_neq <| ai @un_not <| ai @un_neg <| ai @ptr_eref <| ai @ptr_ref <| ai @ptrRow_box <| ai @ptrRow_sli <| ai @ptrRow_tab <| ai @len_eq <| ai @len_str <| ai @len_sl <| ai @len_own <| @lenRow_sli
theorem gq5 : type_of% (ai @lenRow_tab <| ai @lenRow_nil <| ai @ia_eq <| ai @ia_sl <| ai @ia_own <| ai @ia_arr0 <| ai @ia_arr <| ai @iaRow_sli <| ai @iaRow_tab <| ai @ld_iL <| ai @ld_kL <| ai @ld_bL <| ai @ld_sL <| ai @ld_iLL <| ai @ld_c0 <| @ld_c1) := ai @lenRow_tab <| ai @lenRow_nil <| ai @ia_eq <| ai @ia_sl <| ai @ia_own <| ai @ia_arr0 <| ai @ia_arr <| ai @iaRow_sli <| ai @iaRow_tab <| ai @ld_iL <| ai @ld_kL <| ai @ld_bL <| ai @ld_sL <| ai @ld_iLL <| ai @ld_c0 <| @ld_c1
theorem gq6 : type_of% (ai @ld_c2 <| ai @ld_c3 <| ai @ld_many <| ai @List.drop_succ_cons.{0} <| ai @List.drop_zero.{0} <| ai @List.take_succ_cons.{0} <| ai @List.take_zero.{0} <| ai @fix_v <| ai @fix_sl <| ai @fix_asis <| ai @field_eq <| ai @field_struct <| ai @field_struct2 <| ai @optF_some <| ai @sure_eref <| @sure_clo) := ai @ld_c2 <| ai @ld_c3 <| ai @ld_many <| ai @List.drop_succ_cons.{0} <| ai @List.drop_zero.{0} <| ai @List.take_succ_cons.{0} <| ai @List.take_zero.{0} <| ai @fix_v <| ai @fix_sl <| ai @fix_asis <| ai @field_eq <| ai @field_struct <| ai @field_struct2 <| ai @optF_some <| ai @sure_eref <| @sure_clo
theorem gq7 : type_of% (ai @sure_ref <| ai @sureRow_box <| ai @isPtr_ref <| ai @isPtr_eref <| ai @shift_ref <| ai @shift_eref <| ai @conv_int <| ai @convD_int <| ai @conv_str <| ai @index_str <| ai @intK_int <| ai @sli_eq <| ai @sli_from <| ai @sli_upto <| ai @iL_drop <| @iL_take) := ai @sure_ref <| ai @sureRow_box <| ai @isPtr_ref <| ai @isPtr_eref <| ai @shift_ref <| ai @shift_eref <| ai @conv_int <| ai @convD_int <| ai @conv_str <| ai @index_str <| ai @intK_int <| ai @sli_eq <| ai @sli_from <| ai @sli_upto <| ai @iL_drop <| @iL_take
theorem gq8 : type_of% (ai @sL_drop <| ai @sL_take <| ai @iLL_drop <| ai @iLL_take <| ai @minmax_max <| ai @minmax_min <| ai @cells_v <| ai @cells_ag <| ai @cells_sl <| ai @cells_clo <| ai @cells_own <| ai @ownRow_sli <| ai @ownRow_tab <| ai @cells_ref <| ai @pure_v <| @pure_sl) := ai @sL_drop <| ai @sL_take <| ai @iLL_drop <| ai @iLL_take <| ai @minmax_max <| ai @minmax_min <| ai @cells_v <| ai @cells_ag <| ai @cells_sl <| ai @cells_clo <| ai @cells_own <| ai @ownRow_sli <| ai @ownRow_tab <| ai @cells_ref <| ai @pure_v <| @pure_sl
theorem gq9 : type_of% (ai @pure_ag <| ai @pure_own <| ai @pureRow_sli <| ai @freeze_none <| ai @store_eq <| ai @store_sli <| ai @store_tab <| ai @store_box1 <| ai @store_box2 <| ai @store_box3 <| ai @store_box4 <| ai @allP_eq <| ai @allP_nil <| ai @allP_cons <| ai @oneP_v <| @oneP_sl) := ai @pure_ag <| ai @pure_own <| ai @pureRow_sli <| ai @freeze_none <| ai @store_eq <| ai @store_sli <| ai @store_tab <| ai @store_box1 <| ai @store_box2 <| ai @store_box3 <| ai @store_box4 <| ai @allP_eq <| ai @allP_nil <| ai @allP_cons <| ai @oneP_v <| @oneP_sl
theorem gq10 : type_of% (ai @oneP_eref <| ai @oneP_clo <| ai @oneP_own <| ai @oneP_ref <| ai @List.length_cons.{0} <| ai @List.length_nil.{0} <| ai @List.not_mem_nil.{0} <| ai @List.mem_cons.{0} <| ai @or_false <| ai @append_eq <| ai @appD_sli <| ai @buildD_sli <| ai @appX_own <| ai @appX_nil <| ai @appRow_sli <| @appRow_nil) := ai @oneP_eref <| ai @oneP_clo <| ai @oneP_own <| ai @oneP_ref <| ai @List.length_cons.{0} <| ai @List.length_nil.{0} <| ai @List.not_mem_nil.{0} <| ai @List.mem_cons.{0} <| ai @or_false <| ai @append_eq <| ai @appD_sli <| ai @buildD_sli <| ai @appX_own <| ai @appX_nil <| ai @appRow_sli <| @appRow_nil
theorem gq11 : type_of% (ai @news_iL <| ai @news_kL <| ai @news_sL <| ai @news_iLL <| ai @out_v <| ai @out_own <| ai @outRow_sli <| ai @adopt_im <| ai @adopt_fr <| ai @adopt_ag1 <| ai @adopt_ag2 <| ai @adopt_ag4 <| ai @adopt_tvv <| ai @adopt_tfv <| ai @imm_ag <| @imm_tup) := ai @news_iL <| ai @news_kL <| ai @news_sL <| ai @news_iLL <| ai @out_v <| ai @out_own <| ai @outRow_sli <| ai @adopt_im <| ai @adopt_fr <| ai @adopt_ag1 <| ai @adopt_ag2 <| ai @adopt_ag4 <| ai @adopt_tvv <| ai @adopt_tfv <| ai @imm_ag <| @imm_tup
theorem gq12 : type_of% (ai @out2_ag <| ai @out2_tup <| ai @out1_ag <| ai @outL_nil <| ai @outL_cons <| ai @out1_v <| ai @out0_v <| ai @out0_tbnil <| ai @out1_own <| ai @out0_own <| ai @imm_im <| ai @imm_fr <| ai @lend_int <| ai @lend_bool <| ai @lend_string <| @lend_nil) := ai @out2_ag <| ai @out2_tup <| ai @out1_ag <| ai @outL_nil <| ai @outL_cons <| ai @out1_v <| ai @out0_v <| ai @out0_tbnil <| ai @out1_own <| ai @out0_own <| ai @imm_im <| ai @imm_fr <| ai @lend_int <| ai @lend_bool <| ai @lend_string <| @lend_nil
theorem gq13 : type_of% (ai @lend_sl <| ai @lend_ag <| ai @lend_clo <| ai @lend_own <| ai @lendRow_sli <| ai @lendRow_tab <| ai @lendRow_nil <| ai @lends_nil <| ai @lends_cons <| ai @evs_nil <| ai @evs_cons <| ai @agK_ag <| ai @tupK_tup <| ai @cloK_clo <| ai @make_eq <| @makeD_sli) := ai @lend_sl <| ai @lend_ag <| ai @lend_clo <| ai @lend_own <| ai @lendRow_sli <| ai @lendRow_tab <| ai @lendRow_nil <| ai @lends_nil <| ai @lends_cons <| ai @evs_nil <| ai @evs_cons <| ai @agK_ag <| ai @tupK_tup <| ai @cloK_clo <| ai @make_eq <| @makeD_sli
theorem gq14 : type_of% (ai @makeZ_one <| ai @nilRow_sli <| ai @iL_length <| ai @kL_length <| ai @sL_length <| ai @bL_length <| ai @iLL_length <| ai @iL_append <| ai @iL_snoc <| ai @sL_snoc <| ai @sL_append <| ai @iLL_snoc <| ai @iLL_append <| ai @kL_append <| ai @kL_snoc <| @spl_c0) := ai @makeZ_one <| ai @nilRow_sli <| ai @iL_length <| ai @kL_length <| ai @sL_length <| ai @bL_length <| ai @iLL_length <| ai @iL_append <| ai @iL_snoc <| ai @sL_snoc <| ai @sL_append <| ai @iLL_snoc <| ai @iLL_append <| ai @kL_append <| ai @kL_snoc <| @spl_c0
theorem gq15 : type_of% (ai @spl_c1 <| ai @spl_c2 <| ai @spl_c3 <| ai @spl_22 <| ai @spl_42 <| ai @spl_422 <| ai @spl_44 <| ai @iL_spl <| ai @bL_spl <| ai @iLL_spl <| ai @iL_replicate <| ai @bL_replicate <| ai @one_int <| ai @one_bool <| ai @one_string <| @one_slice) := ai @spl_c1 <| ai @spl_c2 <| ai @spl_c3 <| ai @spl_22 <| ai @spl_42 <| ai @spl_422 <| ai @spl_44 <| ai @iL_spl <| ai @bL_spl <| ai @iLL_spl <| ai @iL_replicate <| ai @bL_replicate <| ai @one_int <| ai @one_bool <| ai @one_string <| @one_slice
theorem gq16 : type_of% (ai @List.map_nil.{0, 0} <| ai @List.map_cons.{0, 0} <| ai @List.append_nil.{0} <| ai @List.nil_append.{0} <| ai @List.cons_append.{0} <| ai @List.getElem?_cons_zero.{0} <| ai @List.getElem?_cons_succ.{0} <| ai @ne_eq.{1} <| ai @not_false_eq_true <| ai @not_true_eq_false <| ai @true_and <| ai @and_true <| ai @false_and <| ai @and_false <| ai @and_self <| @true_implies) := ai @List.map_nil.{0, 0} <| ai @List.map_cons.{0, 0} <| ai @List.append_nil.{0} <| ai @List.nil_append.{0} <| ai @List.cons_append.{0} <| ai @List.getElem?_cons_zero.{0} <| ai @List.getElem?_cons_succ.{0} <| ai @ne_eq.{1} <| ai @not_false_eq_true <| ai @not_true_eq_false <| ai @true_and <| ai @and_true <| ai @false_and <| ai @and_false <| ai @and_self <| @true_implies
theorem gq17 : type_of% (ai @Bool.not_true <| ai @Bool.not_false <| ai @eq_self.{1} <| ai @Bool.true_eq_false <| ai @Bool.false_eq_true <| ai @false_implies <| ai @implies_true.{0} <| ai @implies_true.{1} <| ai @lt_lent <| ai @Int.le_refl <| ai @Nat.le_refl <| ai @Int.toNat_natCast <| ai @Int.natCast_nonneg <| ai @Int.ofNat_lt <| ai @Int.ofNat_le <| @PV.v.injEq) := ai @Bool.not_true <| ai @Bool.not_false <| ai @eq_self.{1} <| ai @Bool.true_eq_false <| ai @Bool.false_eq_true <| ai @false_implies <| ai @implies_true.{0} <| ai @implies_true.{1} <| ai @lt_lent <| ai @Int.le_refl <| ai @Nat.le_refl <| ai @Int.toNat_natCast <| ai @Int.natCast_nonneg <| ai @Int.ofNat_lt <| ai @Int.ofNat_le <| @PV.v.injEq
theorem gq18 : type_of% (ai @Value.bool.injEq <| ai @Value.int.injEq <| ai @Value.string.injEq <| ai @List.nodup_nil.{0} <| ai @nodup_one <| ai @nodup_two <| ai @beq_self_eq_true.{0} <| ai @decide_eq_true_eq <| ai @decide_eq_false_iff_not <| ai @prts_nil <| ai @prts_cons <| ai @bldD_struct <| ai @allPos_nil <| ai @allPos_cons <| ai @fillK_nil <| @fillK_cons) := ai @Value.bool.injEq <| ai @Value.int.injEq <| ai @Value.string.injEq <| ai @List.nodup_nil.{0} <| ai @nodup_one <| ai @nodup_two <| ai @beq_self_eq_true.{0} <| ai @decide_eq_true_eq <| ai @decide_eq_false_iff_not <| ai @prts_nil <| ai @prts_cons <| ai @bldD_struct <| ai @allPos_nil <| ai @allPos_cons <| ai @fillK_nil <| @fillK_cons
theorem gq19 : type_of% (ai @fil1_some <| ai @ncD_sl <| ai @ncD_own <| ai @ncRow_sli <| ai @ncRow_nil <| ai @raws_nil <| ai @raws_cons <| ai @initM_sl <| ai @initM_rw <| ai @inR_lo <| ai @inR_0 <| ai @inR_1 <| ai @rowsM_1 <| ai @rowsM_2 <| ai @wrote_1 <| @wrote_2) := ai @fil1_some <| ai @ncD_sl <| ai @ncD_own <| ai @ncRow_sli <| ai @ncRow_nil <| ai @raws_nil <| ai @raws_cons <| ai @initM_sl <| ai @initM_rw <| ai @inR_lo <| ai @inR_0 <| ai @inR_1 <| ai @rowsM_1 <| ai @rowsM_2 <| ai @wrote_1 <| @wrote_2
theorem gq20 : type_of% (ai @resL_nil <| ai @resL_tmp <| ai @resL_cell <| ai @out2_nil <| ai @out1_nil <| ai @out0_nil <| ai @adopt_tagv <| ai @adopt_tafv <| ai @adopt_tgv <| ai @idxOk_nil <| ai @idxOk_cons <| ai @pureL_nil <| ai @pureL_cons <| ai @if_true.{1} <| ai @if_false.{1} <| @Nat.zero_le) := ai @resL_nil <| ai @resL_tmp <| ai @resL_cell <| ai @out2_nil <| ai @out1_nil <| ai @out0_nil <| ai @adopt_tagv <| ai @adopt_tafv <| ai @adopt_tgv <| ai @idxOk_nil <| ai @idxOk_cons <| ai @pureL_nil <| ai @pureL_cons <| ai @if_true.{1} <| ai @if_false.{1} <| @Nat.zero_le
theorem gq21 : type_of% (ai @Bool.true_and <| ai @Bool.and_true <| ai @Bool.and_self <| ai @lit_nil <| ai @lit_int <| ai @lit_str <| ai @lit_bool <| ai @lit_sl <| ai @litI_nil <| ai @litS_nil <| ai @litB_nil <| ai @litL_nil <| ai @litI_cons <| ai @litS_cons <| ai @litB_cons <| @litL_cons) := ai @Bool.true_and <| ai @Bool.and_true <| ai @Bool.and_self <| ai @lit_nil <| ai @lit_int <| ai @lit_str <| ai @lit_bool <| ai @lit_sl <| ai @litI_nil <| ai @litS_nil <| ai @litB_nil <| ai @litL_nil <| ai @litI_cons <| ai @litS_cons <| ai @litB_cons <| @litL_cons
theorem gq22 : type_of% (ai @linesK_eq <| ai @lnK_t <| ai @lnK_f <| ai @idsG_nil <| ai @idsG_v <| ai @idsG_sl <| ai @idsG_eref <| ai @idsG_clo <| ai @idsG_tup <| ai @idsG_junk <| ai @idsG_own <| ai @idsG_ref <| ai @idsG_ag <| ai @idsP_nil <| ai @idsP_v <| @idsP_sl) := ai @linesK_eq <| ai @lnK_t <| ai @lnK_f <| ai @idsG_nil <| ai @idsG_v <| ai @idsG_sl <| ai @idsG_eref <| ai @idsG_clo <| ai @idsG_tup <| ai @idsG_junk <| ai @idsG_own <| ai @idsG_ref <| ai @idsG_ag <| ai @idsP_nil <| ai @idsP_v <| @idsP_sl
theorem gq23 : type_of% (ai @idsP_eref <| ai @idsP_clo <| ai @idsP_own <| ai @idsP_ref <| ai @lidG_nil <| ai @lidG_zero <| ai @lidG_v <| ai @lidG_sl <| ai @lidG_eref <| ai @lidG_junk <| ai @lidG_own <| ai @lidOwn_sli <| ai @lidOwn_nil <| ai @lidOwn_tab <| ai @lidG_ag <| @lidG_clo) := ai @idsP_eref <| ai @idsP_clo <| ai @idsP_own <| ai @idsP_ref <| ai @lidG_nil <| ai @lidG_zero <| ai @lidG_v <| ai @lidG_sl <| ai @lidG_eref <| ai @lidG_junk <| ai @lidG_own <| ai @lidOwn_sli <| ai @lidOwn_nil <| ai @lidOwn_tab <| ai @lidG_ag <| @lidG_clo
theorem gq24 : type_of% (ai @lidG_ref <| ai @lidRow_box <| ai @lidRow_sli <| ai @lidRow_nil <| ai @nc_nil <| ai @nc_cons <| ai @clr_nil <| ai @clr_cons <| ai @hitL_nil <| ai @hitL_cons <| ai @has_nil <| ai @has_cons <| ai @has_res <| ai @conf_q <| ai @conf_ii <| @conf_ir) := ai @lidG_ref <| ai @lidRow_box <| ai @lidRow_sli <| ai @lidRow_nil <| ai @nc_nil <| ai @nc_cons <| ai @clr_nil <| ai @clr_cons <| ai @hitL_nil <| ai @hitL_cons <| ai @has_nil <| ai @has_cons <| ai @has_res <| ai @conf_q <| ai @conf_ii <| @conf_ir
theorem gq25 : type_of% (ai @conf_ri <| ai @conf_rr <| ai @Bool.or_false <| ai @Bool.false_or <| ai @Bool.or_self <| ai @Bool.or_true <| ai @Bool.true_or <| ai @Bool.false_and <| ai @Bool.and_false <| ai @sli_both <| ai @sli_all <| ai @str_from <| ai @str_upto <| ai @str_both <| ai @sli_own <| @sliOwn_sli) := ai @conf_ri <| ai @conf_rr <| ai @Bool.or_false <| ai @Bool.false_or <| ai @Bool.or_self <| ai @Bool.or_true <| ai @Bool.true_or <| ai @Bool.false_and <| ai @Bool.and_false <| ai @sli_both <| ai @sli_all <| ai @str_from <| ai @str_upto <| ai @str_both <| ai @sli_own <| @sliOwn_sli
theorem gq26 : type_of% (ai @sliK_sl <| ai @sliK_v <| ai @sliK_own <| ai @sliRow_live <| ai @sliRow_fz <| ai @news_ownR <| ai @nwRow_sli <| ai @nwRow_nil <| ai @allQ_nil <| ai @allQ_iL <| ai @allQ_kL <| ai @allQ_sL <| ai @allQ_bL <| ai @allQ_iLL <| ai @lend_eref <| @lend_ref) := ai @sliK_sl <| ai @sliK_v <| ai @sliK_own <| ai @sliRow_live <| ai @sliRow_fz <| ai @news_ownR <| ai @nwRow_sli <| ai @nwRow_nil <| ai @allQ_nil <| ai @allQ_iL <| ai @allQ_kL <| ai @allQ_sL <| ai @allQ_bL <| ai @allQ_iLL <| ai @lend_eref <| @lend_ref
theorem gq27 : type_of% (ai @lendRef_box <| ai @lendRef_sli <| ai @bld1_v <| ai @bld1_sl <| ai @bld1_ag <| ai @bld1_eref <| ai @bld1_ref <| ai @bld1_own <| ai @bldRow_sli <| ai @bldRow_nil <| ai @bldRow_tab <| ai @buildTD_sli <| ai @buildTD_row <| ai @app0_own <| ai @app0_sl <| @app0_slice) := ai @lendRef_box <| ai @lendRef_sli <| ai @bld1_v <| ai @bld1_sl <| ai @bld1_ag <| ai @bld1_eref <| ai @bld1_ref <| ai @bld1_own <| ai @bldRow_sli <| ai @bldRow_nil <| ai @bldRow_tab <| ai @buildTD_sli <| ai @buildTD_row <| ai @app0_own <| ai @app0_sl <| @app0_slice
theorem gq28 : type_of% (ai @app0_str <| ai @appSD_sli <| ai @appSD_nil <| ai @app1_v <| ai @app1_sl <| ai @app1_own <| ai @app1Row_sli <| ai @app1Row_nil <| ai @app1Row_tab <| ai @appTD_sli <| ai @newsT_own <| ai @newsTR_iL <| ai @newsTR_tab <| ai @ld_cellsT <| ai @splT <| @snocT) := ai @app0_str <| ai @appSD_sli <| ai @appSD_nil <| ai @app1_v <| ai @app1_sl <| ai @app1_own <| ai @app1Row_sli <| ai @app1Row_nil <| ai @app1Row_tab <| ai @appTD_sli <| ai @newsT_own <| ai @newsTR_iL <| ai @newsTR_tab <| ai @ld_cellsT <| ai @splT <| @snocT
theorem gq29 : type_of% (ai @cellsT_length <| ai @tabbed_sl <| ai @tabbed_top <| ai @tabbed_rw <| ai @next_self <| ai @next_selfx <| ai @next_rv <| ai @next_none <| ai @initT_sl <| ai @initT_rw <| ai @inT_low <| ai @inT_1000000 <| ai @adoptT_sl <| ai @adoptT_slne <| ai @adoptT_rw <| @adoptT_top) := ai @cellsT_length <| ai @tabbed_sl <| ai @tabbed_top <| ai @tabbed_rw <| ai @next_self <| ai @next_selfx <| ai @next_rv <| ai @next_none <| ai @initT_sl <| ai @initT_rw <| ai @inT_low <| ai @inT_1000000 <| ai @adoptT_sl <| ai @adoptT_slne <| ai @adoptT_rw <| @adoptT_top
theorem gq30 : type_of% (ai @List.length_set.{0} <| ai @List.length_range <| ai @killed_sl <| ai @killed_rw <| ai @lidsT_cells <| ai @lidsT_tab <| ai @adoptT_lend <| @mapT_I) := ai @List.length_set.{0} <| ai @List.length_range <| ai @killed_sl <| ai @killed_rw <| ai @lidsT_cells <| ai @lidsT_tab <| ai @adoptT_lend <| @mapT_I
theorem gq : type_of% (ai @gq0 <| ai @gq1 <| ai @gq2 <| ai @gq3 <| ai @gq4 <| ai @gq5 <| ai @gq6 <| ai @gq7 <| ai @gq8 <| ai @gq9 <| ai @gq10 <| ai @gq11 <| ai @gq12 <| ai @gq13 <| ai @gq14 <| ai @gq15 <| ai @gq16 <| ai @gq17 <| ai @gq18 <| ai @gq19 <| ai @gq20 <| ai @gq21 <| ai @gq22 <| ai @gq23 <| ai @gq24 <| ai @gq25 <| ai @gq26 <| ai @gq27 <| ai @gq28 <| ai @gq29 <| @gq30) := ai @gq0 <| ai @gq1 <| ai @gq2 <| ai @gq3 <| ai @gq4 <| ai @gq5 <| ai @gq6 <| ai @gq7 <| ai @gq8 <| ai @gq9 <| ai @gq10 <| ai @gq11 <| ai @gq12 <| ai @gq13 <| ai @gq14 <| ai @gq15 <| ai @gq16 <| ai @gq17 <| ai @gq18 <| ai @gq19 <| ai @gq20 <| ai @gq21 <| ai @gq22 <| ai @gq23 <| ai @gq24 <| ai @gq25 <| ai @gq26 <| ai @gq27 <| ai @gq28 <| ai @gq29 <| @gq30
theorem gr0 : type_of% (ai @put_sl_same <| ai @put_sl_ne <| ai @put_none <| ai @put_rw <| ai @row_sl <| ai @row_rw_same <| ai @row_rw_ne <| ai @freeze_sl <| ai @freeze_rw <| ai @frz_sli <| ai @newSt_eq <| ai @appSt_eq <| ai @adopt_im <| ai @adopt_fr <| ai @init_sl <| @init_rw) := ai @put_sl_same <| ai @put_sl_ne <| ai @put_none <| ai @put_rw <| ai @row_sl <| ai @row_rw_same <| ai @row_rw_ne <| ai @freeze_sl <| ai @freeze_rw <| ai @frz_sli <| ai @newSt_eq <| ai @appSt_eq <| ai @adopt_im <| ai @adopt_fr <| ai @init_sl <| @init_rw
theorem gr1 : type_of% (ai @getD_zero <| ai @getD_succ <| ai @getD_nil <| ai @ev_tmp <| ai @ev_int <| ai @ev_bool <| ai @ev_string <| ai @ne_eq.{1} <| ai @not_false_eq_true <| ai @not_true_eq_false <| ai @List.mem_cons.{0} <| ai @List.not_mem_nil.{0} <| ai @or_false <| ai @if_true.{1} <| ai @if_false.{1} <| @initM_sl) := ai @getD_zero <| ai @getD_succ <| ai @getD_nil <| ai @ev_tmp <| ai @ev_int <| ai @ev_bool <| ai @ev_string <| ai @ne_eq.{1} <| ai @not_false_eq_true <| ai @not_true_eq_false <| ai @List.mem_cons.{0} <| ai @List.not_mem_nil.{0} <| ai @or_false <| ai @if_true.{1} <| ai @if_false.{1} <| @initM_sl
theorem gr2 : type_of% (ai @initM_rw <| ai @inR_lo <| ai @inR_0 <| ai @inR_1 <| ai @wrote_1 <| ai @wrote_2 <| ai @List.nil_append.{0} <| ai @List.cons_append.{0} <| ai @List.append_nil.{0} <| ai @lit_nil <| ai @lit_int <| ai @lit_str <| ai @lit_bool <| ai @lit_sl <| ai @litI_nil <| @litS_nil) := ai @initM_rw <| ai @inR_lo <| ai @inR_0 <| ai @inR_1 <| ai @wrote_1 <| ai @wrote_2 <| ai @List.nil_append.{0} <| ai @List.cons_append.{0} <| ai @List.append_nil.{0} <| ai @lit_nil <| ai @lit_int <| ai @lit_str <| ai @lit_bool <| ai @lit_sl <| ai @litI_nil <| @litS_nil
theorem gr3 : type_of% (ai @litB_nil <| ai @litL_nil <| ai @litI_cons <| ai @litS_cons <| ai @litB_cons <| ai @litL_cons <| ai @splT <| ai @snocT <| ai @cellsT_length <| ai @tabbed_sl <| ai @tabbed_top <| ai @tabbed_rw <| ai @initT_sl <| ai @initT_rw <| ai @inT_low <| @inT_1000000) := ai @litB_nil <| ai @litL_nil <| ai @litI_cons <| ai @litS_cons <| ai @litB_cons <| ai @litL_cons <| ai @splT <| ai @snocT <| ai @cellsT_length <| ai @tabbed_sl <| ai @tabbed_top <| ai @tabbed_rw <| ai @initT_sl <| ai @initT_rw <| ai @inT_low <| @inT_1000000
theorem gr4 : type_of% (ai @adoptT_sl <| ai @adoptT_slne <| ai @adoptT_rw <| ai @adoptT_top <| ai @List.length_set.{0} <| ai @List.length_range <| ai @killed_sl <| @killed_rw) := ai @adoptT_sl <| ai @adoptT_slne <| ai @adoptT_rw <| ai @adoptT_top <| ai @List.length_set.{0} <| ai @List.length_range <| ai @killed_sl <| @killed_rw
theorem gr : type_of% (ai @gr0 <| ai @gr1 <| ai @gr2 <| ai @gr3 <| @gr4) := ai @gr0 <| ai @gr1 <| ai @gr2 <| ai @gr3 <| @gr4
end Go.Abs

/- DERIVED by an AI agent. Tables: numbers of inner rows, their cells; a row that becomes a table's. No program in sight. -/
namespace Go.Abs
set_option linter.unusedSimpArgs false
def tabC (k n i : Nat) : List PV := (List.range n).map fun t => if t < i then .own (sid k t) 1 else .v (.slice none 0 0)
theorem tabC_zero (k n : Nat) : List.replicate n (PV.v (.slice none 0 0)) = tabC k n 0 := by
  refine List.ext_getElem (by simp [tabC]) fun t a b => by simp [tabC]
theorem tabC_length (k n i : Nat) : (tabC k n i).length = n := by simp [tabC]
theorem tabC_end (k n : Nat) : tabC k n n = cellsT k (List.range n) := by
  refine List.ext_getElem (by simp [tabC, cellsT]) fun t a b => ?_
  have : t < n := by simpa [tabC] using a
  simp [tabC, cellsT, this]
theorem tabC_ren [Held] {k n i d v : Nat} (h : i < n) : (tabC k n (i + 1)).length = (spl (tabC k n i) i [.own d v]).length ∧
    ∀ t (a : t < (spl (tabC k n i) i [PV.own d v]).length) (b : t < (tabC k n (i + 1)).length), (tabC k n (i + 1))[t] = (spl (tabC k n i) i [PV.own d v])[t] ∨ ((spl (tabC k n i) i [PV.own d v])[t] = .own d v ∧ (tabC k n (i + 1))[t] = .own (sid k i) 1) := by
  rw [spl_one (by rw [tabC_length]; exact h)]
  refine ⟨by simp [tabC_length], fun t a b => ?_⟩
  rw [List.getElem_set]
  by_cases he : i = t
  · subst he
    rw [if_pos rfl]
    refine .inr ⟨rfl, ?_⟩
    simp [tabC]
  · rw [if_neg he]
    refine .inl ?_
    simp only [tabC, List.getElem_map, List.getElem_range]
    by_cases ht : t < i
    · rw [if_pos ht, if_pos (by omega)]
    · rw [if_neg ht, if_neg (by omega)]
section
variable {P : Program} {T : Tab} {s : St}
theorem Wk.tab [Held] {k v e : Nat} {c : List PV} (hk : s.rw k = ⟨v, .sli e 1 false c⟩) (hc : plain c) : Wk s (s.row k ⟨v, .tab e c⟩) := by
  intro G a w ⟨E, hs⟩
  have hR : E.R k = ⟨v, .sli e 1 false c⟩ := by rw [hs.rw]; exact hk
  have ht : OneTurn E w w k ⟨v, .tab e c⟩ (E.rm k) (E.rv k) :=
    ⟨fun _ _ _ => rfl, fun b hb _ => .inr ⟨hb, by rw [hR]; rfl, fun _ => by rw [hR]; rfl⟩, by rw [hR]; exact Nat.le_refl _,
      fun _ _ => ⟨by rw [hR]; rfl, rfl⟩, fun _ _ => ⟨by rw [hR]; rfl, rfl⟩, fun _ => by have := hs.wok.pos k (by rw [hR]; rfl); rw [hR] at this; exact this, Nat.le_refl _, rfl, rfl, ⟨rfl, fun _ => by first | exact Nat.le_refl _ | exact Nat.le_succ _⟩⟩
  have hturn := ht.turn (fz := []) hs.wok
  have hrows := ht.rows (fz := []) hs.wok (fun j hj => by cases hj) (fun hl => by
    have hrow := hs.wok.rows k
    unfold RowOk at hrow ⊢
    rw [hR] at hrow
    simp only [Env.turn, updF_same]
    rcases hrow with h | ⟨b, n, cap, vs, rest, h1, h2, h3, h4, h5, h6, h7, h8, h9⟩
    · exact .inl h
    · exact .inr ⟨b, n, cap, vs, rest, h1, h2, h3, h4, by omega, h6, h7, by omega, plain_rep hc h9⟩)
  have := hturn.sim hs hrows
  refine ⟨E.turn [] k ⟨v, .tab e c⟩ (E.rm k) (E.rv k), ?_⟩
  have e : ({ s with rw := (E.turn [] k ⟨v, .tab e c⟩ (E.rm k) (E.rv k)).R } : St) = s.row k ⟨v, .tab e c⟩ := by
    have hf : frzF E.R [] = E.R := frzF_nil E.R
    simp only [Env.turn, hf, hs.rw]
    rfl
  rw [e] at this
  exact this
theorem Wk.ren [Held] {d k k' v vk e et sz : Nat} {c cs cs' : List PV} (hd : s.rw d = ⟨v, .sli e sz false c⟩) (hk : s.rw k = ⟨vk, .tab et cs⟩) (hk' : s.rw k' = ⟨0, .dead⟩) (hdl : d < lent)
    (hcs : cs'.length = cs.length ∧ ∀ i (a : i < cs.length) (b : i < cs'.length), cs'[i] = cs[i] ∨ (cs[i] = .own d v ∧ cs'[i] = .own k' 1)) :
    Wk s (((s.row d ⟨v + 1, .dead⟩).row k' ⟨1, .sli e sz false c⟩).row k ⟨vk, .tab et cs'⟩) := by
  intro G a w ⟨E, hs⟩
  have hRd : E.R d = ⟨v, .sli e sz false c⟩ := by rw [hs.rw]; exact hd
  have hRk : E.R k = ⟨vk, .tab et cs⟩ := by rw [hs.rw]; exact hk
  have hRk' : E.R k' = ⟨0, .dead⟩ := by rw [hs.rw]; exact hk'
  have ndk : d ≠ k := fun e => by rw [e, hRk] at hRd; cases hRd
  have ndk' : d ≠ k' := fun e => by rw [e, hRk'] at hRd; cases hRd
  have nkk' : k ≠ k' := fun e => by rw [e, hRk'] at hRk; cases hRk
  let R' : Nat → Row := updF (updF (updF E.R d ⟨v + 1, .dead⟩) k' ⟨1, .sli e sz false c⟩) k ⟨vk, .tab et cs'⟩
  let rm' : Nat → Option Nat := updF (updF E.rm d none) k' (E.rm d)
  let rv' : Nat → Value := updF E.rv k' (E.rv d)
  let E' : Env := { R := R', rm := rm', rv := rv', L := mkL E.X R' rm', B := E.B, X := E.X }
  have Rk : E'.R k = ⟨vk, .tab et cs'⟩ := updF_same _ _ _
  have Rk' : E'.R k' = ⟨1, .sli e sz false c⟩ := by show R' k' = _; simp only [R']; rw [updF_other _ _ (Ne.symm nkk'), updF_same]
  have Rd : E'.R d = ⟨v + 1, .dead⟩ := by show R' d = _; simp only [R']; rw [updF_other _ _ ndk, updF_other _ _ ndk', updF_same]
  have Ro : ∀ j, j ≠ d → j ≠ k → j ≠ k' → E'.R j = E.R j := fun j h1 h2 h3 => by show R' j = _; simp only [R']; rw [updF_other _ _ h2, updF_other _ _ h3, updF_other _ _ h1]
  have Mk' : E'.rm k' = E.rm d := updF_same _ _ _
  have Md : E'.rm d = none := by show rm' d = _; simp only [rm']; rw [updF_other _ _ ndk', updF_same]
  have Mo : ∀ j, j ≠ d → j ≠ k' → E'.rm j = E.rm j := fun j h1 h3 => by show rm' j = _; simp only [rm']; rw [updF_other _ _ h3, updF_other _ _ h1]
  have Vk' : E'.rv k' = E.rv d := updF_same _ _ _
  have Vo : ∀ j, j ≠ k' → E'.rv j = E.rv j := fun j h => updF_other _ _ h
  have hL : ∀ b, E'.L b ↔ E.L b := by
    intro b
    rw [hs.wok.live]
    constructor
    · rintro (⟨j, h1, h2⟩ | hX)
      rotate_left
      · exact .inr hX
      refine .inl ?_
      have h1 : E'.rm j = some b := h1
      have h2 : (E'.R j).kind.live = true := h2
      by_cases jk' : j = k'
      · subst jk'; rw [Mk'] at h1; exact ⟨d, h1, by rw [hRd]; rfl⟩
      · by_cases jd : j = d
        · subst jd; rw [Md] at h1; cases h1
        · rw [Mo j jd jk'] at h1
          by_cases jk : j = k
          · subst jk; exact ⟨j, h1, by rw [hRk]; rfl⟩
          · rw [Ro j jd jk jk'] at h2; exact ⟨j, h1, h2⟩
    · rintro (⟨j, h1, h2⟩ | hX)
      rotate_left
      · exact .inr hX
      refine .inl ?_
      by_cases jk' : j = k'
      · subst jk'; rw [hRk'] at h2; cases h2
      · by_cases jd : j = d
        · subst jd; exact ⟨k', by show E'.rm k' = some b; rw [Mk']; exact h1, by show (E'.R k').kind.live = true; rw [Rk']; rfl⟩
        · by_cases jk : j = k
          · subst jk; exact ⟨j, by show E'.rm j = some b; rw [Mo j jd jk']; exact h1, by show (E'.R j).kind.live = true; rw [Rk]; rfl⟩
          · exact ⟨j, by show E'.rm j = some b; rw [Mo j jd jk']; exact h1, by show (E'.R j).kind.live = true; rw [Ro j jd jk jk']; exact h2⟩
  have hl : Lasts w w E E' := by
    refine ⟨fun b _ h => ⟨rfl, fun h' => h ((hL b).1 h')⟩, fun j => ?_, fun j he hs' => ?_, fun j he hs' => ?_, Nat.le_refl _⟩
    all_goals
      by_cases jk' : j = k'
      · subst jk'
        first
          | (rw [hRk']; exact Nat.zero_le _)
          | (rw [Rk', hRk'] at he; cases he)
      · by_cases jd : j = d
        · subst jd
          first
            | (rw [Rd, hRd]; exact Nat.le_succ _)
            | (rw [Rd] at hs'; cases hs')
        · by_cases jk : j = k
          · subst jk
            first
              | (rw [Rk, hRk]; exact Nat.le_refl _)
              | exact ⟨by rw [hRk]; rfl, Vo j jk'⟩
              | exact ⟨by rw [hRk]; rfl, Mo j jd jk'⟩
          · first
              | (rw [Ro j jd jk jk']; exact Nat.le_refl _)
              | (rw [Ro j jd jk jk'] at hs'; exact ⟨hs', Vo j jk'⟩)
              | (rw [Ro j jd jk jk'] at hs'; exact ⟨hs', Mo j jd jk'⟩)
  have hwok : WOk G E' w := by
    refine ⟨fun j => ?_, fun j j' b n1 n2 e1 e2 => ?_, fun b => Iff.rfl, fun j hn => ?_, hs.wok.base, hs.wok.xs, hs.wok.fx, fun j b hn hb => ?_, hs.wok.kept, fun j => ?_⟩
    · by_cases jk' : j = k'
      · subst jk'
        have hrow := hs.wok.rows d
        unfold RowOk at hrow ⊢
        rw [hRd] at hrow
        rw [Rk', Mk', Vk']
        rcases hrow with h | ⟨b, n, cap, vs, rest, h1, h2, h3, h4, h5, h6, h7, h8, h9⟩
        · exact .inl h
        · refine .inr ⟨b, n, cap, vs, rest, h1, ?_, h3, h4, h5, h6, h7, h8, h9.mono hl.bare (Nat.le_refl _)⟩
          rcases h2 with h2 | h2
          · exact .inl h2
          · exact absurd h2.1 (by omega)
      · by_cases jd : j = d
        · subst jd; unfold RowOk; rw [Rd]; trivial
        · by_cases jk : j = k
          · subst jk
            have hrow := hs.wok.rows j
            unfold RowOk at hrow ⊢
            rw [hRk] at hrow
            rw [Rk, Mo j jd jk', Vo j jk']
            rcases hrow with ⟨g1, g2, g3⟩ | ⟨b, n, cap, vs, rest, h1, h2, h3, h4, h5, h6, h7, h8, h9⟩
            · refine .inl ⟨g1, g2, List.eq_nil_of_length_eq_zero (by rw [hcs.1, g3]; rfl)⟩
            · refine .inr ⟨b, n, cap, vs, rest, h1, h2, h3, h4, h5, h6, h7, h8, by rw [hcs.1]; exact h9.1, fun i a' b' => ?_⟩
              have ha : i < cs.length := by rw [← hcs.1]; exact a'
              have h0 := h9.2 i ha b'
              rcases hcs.2 i ha a' with he | ⟨he1, he2⟩
              · rw [he]; exact h0.mono hl (Nat.le_refl _)
              · rw [he1] at h0
                rw [he2]
                cases h0 with
                | own hv hx =>
                  refine .own (by rw [Rk']; exact Nat.le_refl _) fun _ _ => ?_
                  rw [Vk']
                  exact hx (by rw [hRd]) (by rw [hRd]; rfl)
          · have hrow := hs.wok.rows j
            unfold RowOk at hrow ⊢
            rw [Ro j jd jk jk', Mo j jd jk', Vo j jk']
            cases hkd : (E.R j).kind with
            | dead => trivial
            | nil => simpa only [hkd] using hrow
            | box t cells =>
              simp only [hkd] at hrow ⊢
              obtain ⟨b, vs, h1, h2, h3, h4⟩ := hrow
              exact ⟨b, vs, h1, h2, h3, h4.mono hl (Nat.le_refl _)⟩
            | sli e sz fz cells =>
              simp only [hkd] at hrow ⊢
              rcases hrow with h | ⟨b, n, cap, vs, rest, h1, h2, h3, h4, h5, h6, h7, h8, h9⟩
              · exact .inl h
              · exact .inr ⟨b, n, cap, vs, rest, h1, h2, h3, h4, h5, h6, h7, h8, h9.mono hl.bare (Nat.le_refl _)⟩
            | tab e cells =>
              simp only [hkd] at hrow ⊢
              rcases hrow with h | ⟨b, n, cap, vs, rest, h1, h2, h3, h4, h5, h6, h7, h8, h9⟩
              · exact .inl h
              · exact .inr ⟨b, n, cap, vs, rest, h1, h2, h3, h4, h5, h6, h7, h8, h9.mono hl (Nat.le_refl _)⟩
    ·
      have back : ∀ j b, (E'.R j).kind.nd = true → E'.rm j = some b → (if j = k' then d else j) = (if j = k' then d else j) ∧ (E.R (if j = k' then d else j)).kind.nd = true ∧ E.rm (if j = k' then d else j) = some b ∧ j ≠ d := by
        intro j b hn hm
        by_cases jk' : j = k'
        · subst jk'; rw [if_pos rfl]; rw [Mk'] at hm; exact ⟨rfl, by rw [hRd]; rfl, hm, Ne.symm ndk'⟩
        · rw [if_neg jk']
          have jd : j ≠ d := fun e => by subst e; rw [Md] at hm; cases hm
          rw [Mo j jd jk'] at hm
          refine ⟨rfl, ?_, hm, jd⟩
          by_cases jk : j = k
          · subst jk; rw [hRk]; rfl
          · rw [← Ro j jd jk jk']; exact hn
      obtain ⟨_, a1, a2, a3⟩ := back j b n1 e1
      obtain ⟨_, b1, b2, b3⟩ := back j' b n2 e2
      have := hs.wok.inj _ _ b a1 b1 a2 b2
      by_cases jk : j = k'
      · by_cases jk2 : j' = k'
        · rw [jk, jk2]
        · rw [if_pos jk, if_neg jk2] at this; exact absurd this.symm b3
      · by_cases jk2 : j' = k'
        · rw [if_neg jk, if_pos jk2] at this; exact absurd this a3
        · rw [if_neg jk, if_neg jk2] at this; exact this
    · by_cases jk' : j = k'
      · subst jk'; rw [Rk']; exact Nat.one_pos
      · by_cases jd : j = d
        · subst jd; rw [Rd]; exact Nat.succ_pos _
        · by_cases jk : j = k
          · subst jk; rw [Rk]; have := hs.wok.pos j (by rw [hRk]; rfl); rw [hRk] at this; exact this
          · rw [Ro j jd jk jk'] at hn ⊢; exact hs.wok.pos j hn
    · by_cases jk' : j = k'
      · subst jk'; rw [Mk'] at hb; exact hs.wok.apart d b (by rw [hRd]; rfl) hb
      · by_cases jd : j = d
        · subst jd; rw [Md] at hb; cases hb
        · rw [Mo j jd jk'] at hb
          by_cases jk : j = k
          · subst jk; exact hs.wok.apart j b (by rw [hRk]; rfl) hb
          · rw [Ro j jd jk jk'] at hn; exact hs.wok.apart j b hn hb
    · obtain ⟨p1, p2⟩ := hs.wok.pin j
      by_cases jk' : j = k'
      · subst jk'
        rw [hRk'] at p1
        have p1 : (G.pR j).ver = 0 := Nat.le_zero.1 p1
        rw [Rk']
        exact ⟨by rw [p1]; exact Nat.zero_le _, fun h => by rw [p1] at h; cases h⟩
      · by_cases jd : j = d
        · subst jd
          rw [Rd]
          rw [hRd] at p1
          exact ⟨Nat.le_succ_of_le p1, fun h h' => by cases h'⟩
        · by_cases jk : j = k
          · subst jk
            rw [Rk, Mo j jd jk', Vo j jk']
            rw [hRk] at p1 p2
            exact ⟨p1, fun h _ => p2 h rfl⟩
          · rw [Ro j jd jk jk', Mo j jd jk', Vo j jk']; exact ⟨p1, p2⟩
  refine ⟨E', ?_, hwok, hs.size, hs.defers, fun i => (hs.slots i).mono hl (Nat.le_refl _)⟩
  show R' = _
  simp only [R', hs.rw]
  rfl
end
end Go.Abs
namespace Go.Abs
section
variable {Q : AX → St → Prop} {s : St}
theorem again_wk [Held] {α : Type} {I : α → St → Prop} {μ : α → Nat} {m : Nat} (x' : α) {s3 : St} (hw : Wk s s3) (h : I x' s3) (hm : μ x' < m) : again I μ m s := ⟨x', s3, hw, h, hm⟩
theorem plain_nils (n : Nat) : plain (List.replicate n (.v (.slice none 0 0))) := fun p hp => by
  rw [(List.mem_replicate.1 hp).2]; rfl
end
end Go.Abs
namespace Go.Abs
end Go.Abs
