/- DERIVED by an AI agent. -/
import Derived.Test.YtpnknaaehcljoaaA13
/- DERIVED by an AI agent. The rules in heaps. No program in sight. -/
namespace Go.Abs
theorem gp0 : type_of% (And.intro @c1_tt <| And.intro @c1_ff <| And.intro @c2_tt <| And.intro @c2_ff <| And.intro @d1_tt <| And.intro @d1_ff <| And.intro @d2_tt <| And.intro @d2_ff <| And.intro @cwp_skip <| And.intro @cwp_region_f <| And.intro @cwp_region_t <| And.intro @cwp_seq <| And.intro @cwp_cond <| And.intro @cwp_block <| And.intro @cwp_loop <| @cwp_exit) := And.intro @c1_tt <| And.intro @c1_ff <| And.intro @c2_tt <| And.intro @c2_ff <| And.intro @d1_tt <| And.intro @d1_ff <| And.intro @d2_tt <| And.intro @d2_ff <| And.intro @cwp_skip <| And.intro @cwp_region_f <| And.intro @cwp_region_t <| And.intro @cwp_seq <| And.intro @cwp_cond <| And.intro @cwp_block <| And.intro @cwp_loop <| @cwp_exit
theorem gp1 : type_of% (And.intro @cwp_ret <| And.intro @cwp_label <| And.intro @seq_norm <| And.intro @seq_ret <| And.intro @seq_exit <| And.intro @blk_norm <| And.intro @blk_ret <| And.intro @blk_exit_same <| And.intro @blk_exit_ne <| And.intro @endK_ret <| And.intro @endK_norm <| And.intro @opsK_nil <| And.intro @drawK_nil <| And.intro @opsK_cons <| And.intro @opsK_guard <| @drawK_cons) := And.intro @cwp_ret <| And.intro @cwp_label <| And.intro @seq_norm <| And.intro @seq_ret <| And.intro @seq_exit <| And.intro @blk_norm <| And.intro @blk_ret <| And.intro @blk_exit_same <| And.intro @blk_exit_ne <| And.intro @endK_ret <| And.intro @endK_norm <| And.intro @opsK_nil <| And.intro @drawK_nil <| And.intro @opsK_cons <| And.intro @opsK_guard <| @drawK_cons
theorem gp2 : type_of% (And.intro @drawK_guard <| And.intro @opK_move <| And.intro @opK_assign_tmp <| And.intro @opK_assign_int <| And.intro @opK_assign_bool <| And.intro @opK_assign_string <| And.intro @opK_assign_agg <| And.intro @opK_assign_nil <| And.intro @opK_pick <| And.intro @opK_bin <| And.intro @opK_un <| And.intro @opK_convert <| And.intro @opK_load <| And.intro @opK_fieldAddr <| And.intro @opK_field <| @opK_indexAddr) := And.intro @drawK_guard <| And.intro @opK_move <| And.intro @opK_assign_tmp <| And.intro @opK_assign_int <| And.intro @opK_assign_bool <| And.intro @opK_assign_string <| And.intro @opK_assign_agg <| And.intro @opK_assign_nil <| And.intro @opK_pick <| And.intro @opK_bin <| And.intro @opK_un <| And.intro @opK_convert <| And.intro @opK_load <| And.intro @opK_fieldAddr <| And.intro @opK_field <| @opK_indexAddr
theorem gp3 : type_of% (And.intro @opK_index <| And.intro @opK_extract <| And.intro @opK_nilCheck <| And.intro @opK_makeFunc <| And.intro @opK_len <| And.intro @opK_max <| And.intro @opK_min <| And.intro @opK_append <| And.intro @op2_callV <| And.intro @op2_callV_none <| And.intro @op2_callB <| And.intro @op2_append <| And.intro @op2_build0 <| And.intro @op2_build1 <| And.intro @op2_build2 <| @opK_alloc) := And.intro @opK_index <| And.intro @opK_extract <| And.intro @opK_nilCheck <| And.intro @opK_makeFunc <| And.intro @opK_len <| And.intro @opK_max <| And.intro @opK_min <| And.intro @opK_append <| And.intro @op2_callV <| And.intro @op2_callV_none <| And.intro @op2_callB <| And.intro @op2_append <| And.intro @op2_build0 <| And.intro @op2_build1 <| And.intro @op2_build2 <| @opK_alloc
theorem gp4 : type_of% (And.intro @opK_box <| And.intro @opK_buildSlice <| And.intro @opK_store <| And.intro @opK_make <| And.intro @opK_slice <| And.intro @retK_one <| And.intro @retK_cell <| And.intro @retK_two <| And.intro @retK_three <| And.intro @op2_eql_nil <| And.intro @op2_neq_nil <| And.intro @op2_move <| And.intro @op2_assign <| And.intro @op2_pick <| And.intro @op2_un <| @op2_convert) := And.intro @opK_box <| And.intro @opK_buildSlice <| And.intro @opK_store <| And.intro @opK_make <| And.intro @opK_slice <| And.intro @retK_one <| And.intro @retK_cell <| And.intro @retK_two <| And.intro @retK_three <| And.intro @op2_eql_nil <| And.intro @op2_neq_nil <| And.intro @op2_move <| And.intro @op2_assign <| And.intro @op2_pick <| And.intro @op2_un <| @op2_convert
theorem gp5 : type_of% (And.intro @op2_load <| And.intro @op2_fieldAddr <| And.intro @op2_field <| And.intro @op2_indexAddr <| And.intro @op2_index <| And.intro @op2_extract <| And.intro @op2_nilCheck <| And.intro @op2_makeFunc <| And.intro @op2_alloc <| And.intro @op2_box <| And.intro @op2_build <| And.intro @op2_store <| And.intro @op2_make <| And.intro @op2_slice <| And.intro @op2_bin_tmp <| @op2_bin_int) := And.intro @op2_load <| And.intro @op2_fieldAddr <| And.intro @op2_field <| And.intro @op2_indexAddr <| And.intro @op2_index <| And.intro @op2_extract <| And.intro @op2_nilCheck <| And.intro @op2_makeFunc <| And.intro @op2_alloc <| And.intro @op2_box <| And.intro @op2_build <| And.intro @op2_store <| And.intro @op2_make <| And.intro @op2_slice <| And.intro @op2_bin_tmp <| @op2_bin_int
theorem gp6 : type_of% (And.intro @op2_bin_bool <| And.intro @op2_bin_string <| And.intro @opK_build <| And.intro @endG_ret <| And.intro @endG_norm <| And.intro @retG_one <| And.intro @retG_cell <| And.intro @retG_none <| And.intro @retG_two <| And.intro @endM_ret <| And.intro @endM_norm <| And.intro @endT_ret <| And.intro @endT_norm <| And.intro @retT_self <| And.intro @retT_selfx <| @retT_rv) := And.intro @op2_bin_bool <| And.intro @op2_bin_string <| And.intro @opK_build <| And.intro @endG_ret <| And.intro @endG_norm <| And.intro @retG_one <| And.intro @retG_cell <| And.intro @retG_none <| And.intro @retG_two <| And.intro @endM_ret <| And.intro @endM_norm <| And.intro @endT_ret <| And.intro @endT_norm <| And.intro @retT_self <| And.intro @retT_selfx <| @retT_rv
theorem gp7 : type_of% (And.intro @retM_one <| And.intro @retM_none <| And.intro @dO_move <| And.intro @dO_assign <| And.intro @dO_pick <| And.intro @dO_bin <| And.intro @dO_un <| And.intro @dO_convert <| And.intro @dO_load <| And.intro @dO_fieldAddr <| And.intro @dO_field <| And.intro @dO_indexAddr <| And.intro @dO_index <| And.intro @dO_extract <| And.intro @dO_makeFunc <| @dO_nilCheck) := And.intro @retM_one <| And.intro @retM_none <| And.intro @dO_move <| And.intro @dO_assign <| And.intro @dO_pick <| And.intro @dO_bin <| And.intro @dO_un <| And.intro @dO_convert <| And.intro @dO_load <| And.intro @dO_fieldAddr <| And.intro @dO_field <| And.intro @dO_indexAddr <| And.intro @dO_index <| And.intro @dO_extract <| And.intro @dO_makeFunc <| @dO_nilCheck
theorem gp8 : type_of% (And.intro @dO_len <| And.intro @dO_max <| And.intro @dO_min <| And.intro @dO_slice0 <| And.intro @dO_slice1 <| And.intro @dO_slice2 <| And.intro @cutX_own <| And.intro @cutX_sl <| And.intro @cutX_v <| And.intro @cutRow_fz <| And.intro @cutRow_live <| And.intro @dO_slice3 <| And.intro @dO_build <| And.intro @dO_call <| And.intro @dO_call_none <| @dO_append) := And.intro @dO_len <| And.intro @dO_max <| And.intro @dO_min <| And.intro @dO_slice0 <| And.intro @dO_slice1 <| And.intro @dO_slice2 <| And.intro @cutX_own <| And.intro @cutX_sl <| And.intro @cutX_v <| And.intro @cutRow_fz <| And.intro @cutRow_live <| And.intro @dO_slice3 <| And.intro @dO_build <| And.intro @dO_call <| And.intro @dO_call_none <| @dO_append
theorem gp9 : type_of% (And.intro @dO_alloc <| And.intro @dO_box <| And.intro @dO_buildSlice <| And.intro @dO_store <| And.intro @dO_make <| @kk_eq) := And.intro @dO_alloc <| And.intro @dO_box <| And.intro @dO_buildSlice <| And.intro @dO_store <| And.intro @dO_make <| @kk_eq
theorem gp : type_of% (And.intro @gp0 <| And.intro @gp1 <| And.intro @gp2 <| And.intro @gp3 <| And.intro @gp4 <| And.intro @gp5 <| And.intro @gp6 <| And.intro @gp7 <| And.intro @gp8 <| @gp9) := And.intro @gp0 <| And.intro @gp1 <| And.intro @gp2 <| And.intro @gp3 <| And.intro @gp4 <| And.intro @gp5 <| And.intro @gp6 <| And.intro @gp7 <| And.intro @gp8 <| @gp9
theorem gq0 : type_of% (And.intro @evK_v <| And.intro @evK_sl <| And.intro @evK_own <| And.intro @evK_ref <| And.intro @evK_eref <| And.intro @evK_ag <| And.intro @evK_tup <| And.intro @evK_clo <| And.intro @evK_junk <| And.intro @put_sl_same <| And.intro @put_sl_ne <| And.intro @put_none <| And.intro @put_rw <| And.intro @row_sl <| And.intro @row_rw_same <| @row_rw_ne) := And.intro @evK_v <| And.intro @evK_sl <| And.intro @evK_own <| And.intro @evK_ref <| And.intro @evK_eref <| And.intro @evK_ag <| And.intro @evK_tup <| And.intro @evK_clo <| And.intro @evK_junk <| And.intro @put_sl_same <| And.intro @put_sl_ne <| And.intro @put_none <| And.intro @put_rw <| And.intro @row_sl <| And.intro @row_rw_same <| @row_rw_ne
theorem gq1 : type_of% (And.intro @freeze_sl <| And.intro @freeze_rw <| And.intro @frz_sli <| And.intro @ev_tmp <| And.intro @ev_func <| And.intro @ev_int <| And.intro @ev_bool <| And.intro @ev_string <| And.intro @ev_slice <| And.intro @ev_agg <| And.intro @init_sl <| And.intro @init_rw <| And.intro @getD_zero <| And.intro @getD_succ <| And.intro @getD_nil <| @newSt_eq) := And.intro @freeze_sl <| And.intro @freeze_rw <| And.intro @frz_sli <| And.intro @ev_tmp <| And.intro @ev_func <| And.intro @ev_int <| And.intro @ev_bool <| And.intro @ev_string <| And.intro @ev_slice <| And.intro @ev_agg <| And.intro @init_sl <| And.intro @init_rw <| And.intro @getD_zero <| And.intro @getD_succ <| And.intro @getD_nil <| @newSt_eq
theorem gq2 : type_of% (And.intro @appSt_eq <| And.intro @condK_bool <| And.intro @c1_any <| And.intro @c2_any <| And.intro @d1_any <| And.intro @d2_any <| And.intro @gK_some <| And.intro @gK1_undef <| And.intro @gK1_true <| And.intro @gK1_false <| And.intro @ops_at <| And.intro @getElem?_zero <| And.intro @getElem?_succ <| And.intro @some_bind <| And.intro @bin_add <| @bin_sub) := And.intro @appSt_eq <| And.intro @condK_bool <| And.intro @c1_any <| And.intro @c2_any <| And.intro @d1_any <| And.intro @d2_any <| And.intro @gK_some <| And.intro @gK1_undef <| And.intro @gK1_true <| And.intro @gK1_false <| And.intro @ops_at <| And.intro @getElem?_zero <| And.intro @getElem?_succ <| And.intro @some_bind <| And.intro @bin_add <| @bin_sub
theorem gq3 : type_of% (And.intro @bin_mul <| And.intro @bin_quo <| And.intro @bin_rem <| And.intro @bin_and <| And.intro @bin_or <| And.intro @bin_xor <| And.intro @bin_andnot <| And.intro @bin_shl <| And.intro @bin_shr <| And.intro @bin_eql <| And.intro @bin_neq <| And.intro @bin_lss <| And.intro @bin_leq <| And.intro @bin_gtr <| And.intro @bin_geq <| @bin_str_eql) := And.intro @bin_mul <| And.intro @bin_quo <| And.intro @bin_rem <| And.intro @bin_and <| And.intro @bin_or <| And.intro @bin_xor <| And.intro @bin_andnot <| And.intro @bin_shl <| And.intro @bin_shr <| And.intro @bin_eql <| And.intro @bin_neq <| And.intro @bin_lss <| And.intro @bin_leq <| And.intro @bin_gtr <| And.intro @bin_geq <| @bin_str_eql
theorem gq4 : type_of% (And.intro @bin_str_neq <| And.intro @bin_str_add <| And.intro @bin_bool_eql <| And.intro @bin_bool_neq <| And.intro @un_not <| And.intro @un_neg <| And.intro @ptr_eref <| And.intro @ptr_ref <| And.intro @ptrRow_box <| And.intro @ptrRow_sli <| And.intro @ptrRow_tab <| And.intro @len_eq <| And.intro @len_str <| And.intro @len_sl <| And.intro @len_own <| @lenRow_sli) := And.intro @bin_str_neq <| And.intro @bin_str_add <| And.intro @bin_bool_eql <| And.intro @bin_bool_neq <| And.intro @un_not <| And.intro @un_neg <| And.intro @ptr_eref <| And.intro @ptr_ref <| And.intro @ptrRow_box <| And.intro @ptrRow_sli <| And.intro @ptrRow_tab <| And.intro @len_eq <| And.intro @len_str <| And.intro @len_sl <| And.intro @len_own <| @lenRow_sli
theorem gq5 : type_of% (And.intro @lenRow_tab <| And.intro @lenRow_nil <| And.intro @ia_eq <| And.intro @ia_sl <| And.intro @ia_own <| And.intro @ia_arr0 <| And.intro @ia_arr <| And.intro @iaRow_sli <| And.intro @iaRow_tab <| And.intro @ld_iL <| And.intro @ld_kL <| And.intro @ld_bL <| And.intro @ld_sL <| And.intro @ld_iLL <| And.intro @ld_c0 <| @ld_c1) := And.intro @lenRow_tab <| And.intro @lenRow_nil <| And.intro @ia_eq <| And.intro @ia_sl <| And.intro @ia_own <| And.intro @ia_arr0 <| And.intro @ia_arr <| And.intro @iaRow_sli <| And.intro @iaRow_tab <| And.intro @ld_iL <| And.intro @ld_kL <| And.intro @ld_bL <| And.intro @ld_sL <| And.intro @ld_iLL <| And.intro @ld_c0 <| @ld_c1
theorem gq6 : type_of% (And.intro @ld_c2 <| And.intro @ld_c3 <| And.intro @ld_many <| And.intro @List.drop_succ_cons.{0} <| And.intro @List.drop_zero.{0} <| And.intro @List.take_succ_cons.{0} <| And.intro @List.take_zero.{0} <| And.intro @fix_v <| And.intro @fix_sl <| And.intro @fix_asis <| And.intro @field_eq <| And.intro @field_struct <| And.intro @field_struct2 <| And.intro @optF_some <| And.intro @sure_eref <| @sure_clo) := And.intro @ld_c2 <| And.intro @ld_c3 <| And.intro @ld_many <| And.intro @List.drop_succ_cons.{0} <| And.intro @List.drop_zero.{0} <| And.intro @List.take_succ_cons.{0} <| And.intro @List.take_zero.{0} <| And.intro @fix_v <| And.intro @fix_sl <| And.intro @fix_asis <| And.intro @field_eq <| And.intro @field_struct <| And.intro @field_struct2 <| And.intro @optF_some <| And.intro @sure_eref <| @sure_clo
theorem gq7 : type_of% (And.intro @sure_ref <| And.intro @sureRow_box <| And.intro @isPtr_ref <| And.intro @isPtr_eref <| And.intro @shift_ref <| And.intro @shift_eref <| And.intro @conv_int <| And.intro @convD_int <| And.intro @conv_str <| And.intro @index_str <| And.intro @intK_int <| And.intro @sli_eq <| And.intro @sli_from <| And.intro @sli_upto <| And.intro @iL_drop <| @iL_take) := And.intro @sure_ref <| And.intro @sureRow_box <| And.intro @isPtr_ref <| And.intro @isPtr_eref <| And.intro @shift_ref <| And.intro @shift_eref <| And.intro @conv_int <| And.intro @convD_int <| And.intro @conv_str <| And.intro @index_str <| And.intro @intK_int <| And.intro @sli_eq <| And.intro @sli_from <| And.intro @sli_upto <| And.intro @iL_drop <| @iL_take
theorem gq8 : type_of% (And.intro @sL_drop <| And.intro @sL_take <| And.intro @iLL_drop <| And.intro @iLL_take <| And.intro @minmax_max <| And.intro @minmax_min <| And.intro @cells_v <| And.intro @cells_ag <| And.intro @cells_sl <| And.intro @cells_clo <| And.intro @cells_own <| And.intro @ownRow_sli <| And.intro @ownRow_tab <| And.intro @cells_ref <| And.intro @pure_v <| @pure_sl) := And.intro @sL_drop <| And.intro @sL_take <| And.intro @iLL_drop <| And.intro @iLL_take <| And.intro @minmax_max <| And.intro @minmax_min <| And.intro @cells_v <| And.intro @cells_ag <| And.intro @cells_sl <| And.intro @cells_clo <| And.intro @cells_own <| And.intro @ownRow_sli <| And.intro @ownRow_tab <| And.intro @cells_ref <| And.intro @pure_v <| @pure_sl
theorem gq9 : type_of% (And.intro @pure_ag <| And.intro @pure_own <| And.intro @pureRow_sli <| And.intro @freeze_none <| And.intro @store_eq <| And.intro @store_sli <| And.intro @store_tab <| And.intro @store_box1 <| And.intro @store_box2 <| And.intro @store_box3 <| And.intro @store_box4 <| And.intro @allP_eq <| And.intro @allP_nil <| And.intro @allP_cons <| And.intro @oneP_v <| @oneP_sl) := And.intro @pure_ag <| And.intro @pure_own <| And.intro @pureRow_sli <| And.intro @freeze_none <| And.intro @store_eq <| And.intro @store_sli <| And.intro @store_tab <| And.intro @store_box1 <| And.intro @store_box2 <| And.intro @store_box3 <| And.intro @store_box4 <| And.intro @allP_eq <| And.intro @allP_nil <| And.intro @allP_cons <| And.intro @oneP_v <| @oneP_sl
theorem gq10 : type_of% (And.intro @oneP_eref <| And.intro @oneP_clo <| And.intro @oneP_own <| And.intro @oneP_ref <| And.intro @List.length_cons.{0} <| And.intro @List.length_nil.{0} <| And.intro @List.not_mem_nil.{0} <| And.intro @List.mem_cons.{0} <| And.intro @or_false <| And.intro @append_eq <| And.intro @appD_sli <| And.intro @buildD_sli <| And.intro @appX_own <| And.intro @appX_nil <| And.intro @appRow_sli <| @appRow_nil) := And.intro @oneP_eref <| And.intro @oneP_clo <| And.intro @oneP_own <| And.intro @oneP_ref <| And.intro @List.length_cons.{0} <| And.intro @List.length_nil.{0} <| And.intro @List.not_mem_nil.{0} <| And.intro @List.mem_cons.{0} <| And.intro @or_false <| And.intro @append_eq <| And.intro @appD_sli <| And.intro @buildD_sli <| And.intro @appX_own <| And.intro @appX_nil <| And.intro @appRow_sli <| @appRow_nil
theorem gq11 : type_of% (And.intro @news_iL <| And.intro @news_kL <| And.intro @news_sL <| And.intro @news_iLL <| And.intro @out_v <| And.intro @out_own <| And.intro @outRow_sli <| And.intro @adopt_im <| And.intro @adopt_fr <| And.intro @adopt_ag1 <| And.intro @adopt_ag2 <| And.intro @adopt_ag4 <| And.intro @adopt_tvv <| And.intro @adopt_tfv <| And.intro @imm_ag <| @imm_tup) := And.intro @news_iL <| And.intro @news_kL <| And.intro @news_sL <| And.intro @news_iLL <| And.intro @out_v <| And.intro @out_own <| And.intro @outRow_sli <| And.intro @adopt_im <| And.intro @adopt_fr <| And.intro @adopt_ag1 <| And.intro @adopt_ag2 <| And.intro @adopt_ag4 <| And.intro @adopt_tvv <| And.intro @adopt_tfv <| And.intro @imm_ag <| @imm_tup
theorem gq12 : type_of% (And.intro @out2_ag <| And.intro @out2_tup <| And.intro @out1_ag <| And.intro @outL_nil <| And.intro @outL_cons <| And.intro @out1_v <| And.intro @out0_v <| And.intro @out0_tbnil <| And.intro @out1_own <| And.intro @out0_own <| And.intro @imm_im <| And.intro @imm_fr <| And.intro @lend_int <| And.intro @lend_bool <| And.intro @lend_string <| @lend_nil) := And.intro @out2_ag <| And.intro @out2_tup <| And.intro @out1_ag <| And.intro @outL_nil <| And.intro @outL_cons <| And.intro @out1_v <| And.intro @out0_v <| And.intro @out0_tbnil <| And.intro @out1_own <| And.intro @out0_own <| And.intro @imm_im <| And.intro @imm_fr <| And.intro @lend_int <| And.intro @lend_bool <| And.intro @lend_string <| @lend_nil
theorem gq13 : type_of% (And.intro @lend_sl <| And.intro @lend_ag <| And.intro @lend_clo <| And.intro @lend_own <| And.intro @lendRow_sli <| And.intro @lendRow_tab <| And.intro @lendRow_nil <| And.intro @lends_nil <| And.intro @lends_cons <| And.intro @evs_nil <| And.intro @evs_cons <| And.intro @agK_ag <| And.intro @tupK_tup <| And.intro @cloK_clo <| And.intro @make_eq <| @makeD_sli) := And.intro @lend_sl <| And.intro @lend_ag <| And.intro @lend_clo <| And.intro @lend_own <| And.intro @lendRow_sli <| And.intro @lendRow_tab <| And.intro @lendRow_nil <| And.intro @lends_nil <| And.intro @lends_cons <| And.intro @evs_nil <| And.intro @evs_cons <| And.intro @agK_ag <| And.intro @tupK_tup <| And.intro @cloK_clo <| And.intro @make_eq <| @makeD_sli
theorem gq14 : type_of% (And.intro @makeZ_one <| And.intro @nilRow_sli <| And.intro @iL_length <| And.intro @kL_length <| And.intro @sL_length <| And.intro @bL_length <| And.intro @iLL_length <| And.intro @iL_append <| And.intro @iL_snoc <| And.intro @sL_snoc <| And.intro @sL_append <| And.intro @iLL_snoc <| And.intro @iLL_append <| And.intro @kL_append <| And.intro @kL_snoc <| @spl_c0) := And.intro @makeZ_one <| And.intro @nilRow_sli <| And.intro @iL_length <| And.intro @kL_length <| And.intro @sL_length <| And.intro @bL_length <| And.intro @iLL_length <| And.intro @iL_append <| And.intro @iL_snoc <| And.intro @sL_snoc <| And.intro @sL_append <| And.intro @iLL_snoc <| And.intro @iLL_append <| And.intro @kL_append <| And.intro @kL_snoc <| @spl_c0
theorem gq15 : type_of% (And.intro @spl_c1 <| And.intro @spl_c2 <| And.intro @spl_c3 <| And.intro @spl_22 <| And.intro @spl_42 <| And.intro @spl_422 <| And.intro @spl_44 <| And.intro @iL_spl <| And.intro @bL_spl <| And.intro @iLL_spl <| And.intro @iL_replicate <| And.intro @bL_replicate <| And.intro @one_int <| And.intro @one_bool <| And.intro @one_string <| @one_slice) := And.intro @spl_c1 <| And.intro @spl_c2 <| And.intro @spl_c3 <| And.intro @spl_22 <| And.intro @spl_42 <| And.intro @spl_422 <| And.intro @spl_44 <| And.intro @iL_spl <| And.intro @bL_spl <| And.intro @iLL_spl <| And.intro @iL_replicate <| And.intro @bL_replicate <| And.intro @one_int <| And.intro @one_bool <| And.intro @one_string <| @one_slice
theorem gq16 : type_of% (And.intro @List.map_nil.{0, 0} <| And.intro @List.map_cons.{0, 0} <| And.intro @List.append_nil.{0} <| And.intro @List.nil_append.{0} <| And.intro @List.cons_append.{0} <| And.intro @List.getElem?_cons_zero.{0} <| And.intro @List.getElem?_cons_succ.{0} <| And.intro @ne_eq.{1} <| And.intro @not_false_eq_true <| And.intro @not_true_eq_false <| And.intro @true_and <| And.intro @and_true <| And.intro @false_and <| And.intro @and_false <| And.intro @and_self <| @true_implies) := And.intro @List.map_nil.{0, 0} <| And.intro @List.map_cons.{0, 0} <| And.intro @List.append_nil.{0} <| And.intro @List.nil_append.{0} <| And.intro @List.cons_append.{0} <| And.intro @List.getElem?_cons_zero.{0} <| And.intro @List.getElem?_cons_succ.{0} <| And.intro @ne_eq.{1} <| And.intro @not_false_eq_true <| And.intro @not_true_eq_false <| And.intro @true_and <| And.intro @and_true <| And.intro @false_and <| And.intro @and_false <| And.intro @and_self <| @true_implies
theorem gq17 : type_of% (And.intro @Bool.not_true <| And.intro @Bool.not_false <| And.intro @eq_self.{1} <| And.intro @Bool.true_eq_false <| And.intro @Bool.false_eq_true <| And.intro @false_implies <| And.intro @implies_true.{0} <| And.intro @implies_true.{1} <| And.intro @lt_lent <| And.intro @Int.le_refl <| And.intro @Nat.le_refl <| And.intro @Int.toNat_natCast <| And.intro @Int.natCast_nonneg <| And.intro @Int.ofNat_lt <| And.intro @Int.ofNat_le <| @PV.v.injEq) := And.intro @Bool.not_true <| And.intro @Bool.not_false <| And.intro @eq_self.{1} <| And.intro @Bool.true_eq_false <| And.intro @Bool.false_eq_true <| And.intro @false_implies <| And.intro @implies_true.{0} <| And.intro @implies_true.{1} <| And.intro @lt_lent <| And.intro @Int.le_refl <| And.intro @Nat.le_refl <| And.intro @Int.toNat_natCast <| And.intro @Int.natCast_nonneg <| And.intro @Int.ofNat_lt <| And.intro @Int.ofNat_le <| @PV.v.injEq
theorem gq18 : type_of% (And.intro @Value.bool.injEq <| And.intro @Value.int.injEq <| And.intro @Value.string.injEq <| And.intro @List.nodup_nil.{0} <| And.intro @nodup_one <| And.intro @nodup_two <| And.intro @beq_self_eq_true.{0} <| And.intro @decide_eq_true_eq <| And.intro @decide_eq_false_iff_not <| And.intro @prts_nil <| And.intro @prts_cons <| And.intro @bldD_struct <| And.intro @allPos_nil <| And.intro @allPos_cons <| And.intro @fillK_nil <| @fillK_cons) := And.intro @Value.bool.injEq <| And.intro @Value.int.injEq <| And.intro @Value.string.injEq <| And.intro @List.nodup_nil.{0} <| And.intro @nodup_one <| And.intro @nodup_two <| And.intro @beq_self_eq_true.{0} <| And.intro @decide_eq_true_eq <| And.intro @decide_eq_false_iff_not <| And.intro @prts_nil <| And.intro @prts_cons <| And.intro @bldD_struct <| And.intro @allPos_nil <| And.intro @allPos_cons <| And.intro @fillK_nil <| @fillK_cons
theorem gq19 : type_of% (And.intro @fil1_some <| And.intro @ncD_sl <| And.intro @ncD_own <| And.intro @ncRow_sli <| And.intro @ncRow_nil <| And.intro @raws_nil <| And.intro @raws_cons <| And.intro @initM_sl <| And.intro @initM_rw <| And.intro @inR_lo <| And.intro @inR_0 <| And.intro @inR_1 <| And.intro @rowsM_1 <| And.intro @rowsM_2 <| And.intro @wrote_1 <| @wrote_2) := And.intro @fil1_some <| And.intro @ncD_sl <| And.intro @ncD_own <| And.intro @ncRow_sli <| And.intro @ncRow_nil <| And.intro @raws_nil <| And.intro @raws_cons <| And.intro @initM_sl <| And.intro @initM_rw <| And.intro @inR_lo <| And.intro @inR_0 <| And.intro @inR_1 <| And.intro @rowsM_1 <| And.intro @rowsM_2 <| And.intro @wrote_1 <| @wrote_2
theorem gq20 : type_of% (And.intro @resL_nil <| And.intro @resL_tmp <| And.intro @resL_cell <| And.intro @out2_nil <| And.intro @out1_nil <| And.intro @out0_nil <| And.intro @adopt_tagv <| And.intro @adopt_tafv <| And.intro @adopt_tgv <| And.intro @idxOk_nil <| And.intro @idxOk_cons <| And.intro @pureL_nil <| And.intro @pureL_cons <| And.intro @if_true.{1} <| And.intro @if_false.{1} <| @Nat.zero_le) := And.intro @resL_nil <| And.intro @resL_tmp <| And.intro @resL_cell <| And.intro @out2_nil <| And.intro @out1_nil <| And.intro @out0_nil <| And.intro @adopt_tagv <| And.intro @adopt_tafv <| And.intro @adopt_tgv <| And.intro @idxOk_nil <| And.intro @idxOk_cons <| And.intro @pureL_nil <| And.intro @pureL_cons <| And.intro @if_true.{1} <| And.intro @if_false.{1} <| @Nat.zero_le
theorem gq21 : type_of% (And.intro @Bool.true_and <| And.intro @Bool.and_true <| And.intro @Bool.and_self <| And.intro @lit_nil <| And.intro @lit_int <| And.intro @lit_str <| And.intro @lit_bool <| And.intro @lit_sl <| And.intro @litI_nil <| And.intro @litS_nil <| And.intro @litB_nil <| And.intro @litL_nil <| And.intro @litI_cons <| And.intro @litS_cons <| And.intro @litB_cons <| @litL_cons) := And.intro @Bool.true_and <| And.intro @Bool.and_true <| And.intro @Bool.and_self <| And.intro @lit_nil <| And.intro @lit_int <| And.intro @lit_str <| And.intro @lit_bool <| And.intro @lit_sl <| And.intro @litI_nil <| And.intro @litS_nil <| And.intro @litB_nil <| And.intro @litL_nil <| And.intro @litI_cons <| And.intro @litS_cons <| And.intro @litB_cons <| @litL_cons
theorem gq22 : type_of% (And.intro @linesK_eq <| And.intro @lnK_t <| And.intro @lnK_f <| And.intro @idsG_nil <| And.intro @idsG_v <| And.intro @idsG_sl <| And.intro @idsG_eref <| And.intro @idsG_clo <| And.intro @idsG_tup <| And.intro @idsG_junk <| And.intro @idsG_own <| And.intro @idsG_ref <| And.intro @idsG_ag <| And.intro @idsP_nil <| And.intro @idsP_v <| @idsP_sl) := And.intro @linesK_eq <| And.intro @lnK_t <| And.intro @lnK_f <| And.intro @idsG_nil <| And.intro @idsG_v <| And.intro @idsG_sl <| And.intro @idsG_eref <| And.intro @idsG_clo <| And.intro @idsG_tup <| And.intro @idsG_junk <| And.intro @idsG_own <| And.intro @idsG_ref <| And.intro @idsG_ag <| And.intro @idsP_nil <| And.intro @idsP_v <| @idsP_sl
theorem gq23 : type_of% (And.intro @idsP_eref <| And.intro @idsP_clo <| And.intro @idsP_own <| And.intro @idsP_ref <| And.intro @lidG_nil <| And.intro @lidG_zero <| And.intro @lidG_v <| And.intro @lidG_sl <| And.intro @lidG_eref <| And.intro @lidG_junk <| And.intro @lidG_own <| And.intro @lidOwn_sli <| And.intro @lidOwn_nil <| And.intro @lidOwn_tab <| And.intro @lidG_ag <| @lidG_clo) := And.intro @idsP_eref <| And.intro @idsP_clo <| And.intro @idsP_own <| And.intro @idsP_ref <| And.intro @lidG_nil <| And.intro @lidG_zero <| And.intro @lidG_v <| And.intro @lidG_sl <| And.intro @lidG_eref <| And.intro @lidG_junk <| And.intro @lidG_own <| And.intro @lidOwn_sli <| And.intro @lidOwn_nil <| And.intro @lidOwn_tab <| And.intro @lidG_ag <| @lidG_clo
theorem gq24 : type_of% (And.intro @lidG_ref <| And.intro @lidRow_box <| And.intro @lidRow_sli <| And.intro @lidRow_nil <| And.intro @nc_nil <| And.intro @nc_cons <| And.intro @clr_nil <| And.intro @clr_cons <| And.intro @hitL_nil <| And.intro @hitL_cons <| And.intro @has_nil <| And.intro @has_cons <| And.intro @has_res <| And.intro @conf_q <| And.intro @conf_ii <| @conf_ir) := And.intro @lidG_ref <| And.intro @lidRow_box <| And.intro @lidRow_sli <| And.intro @lidRow_nil <| And.intro @nc_nil <| And.intro @nc_cons <| And.intro @clr_nil <| And.intro @clr_cons <| And.intro @hitL_nil <| And.intro @hitL_cons <| And.intro @has_nil <| And.intro @has_cons <| And.intro @has_res <| And.intro @conf_q <| And.intro @conf_ii <| @conf_ir
theorem gq25 : type_of% (And.intro @conf_ri <| And.intro @conf_rr <| And.intro @Bool.or_false <| And.intro @Bool.false_or <| And.intro @Bool.or_self <| And.intro @Bool.or_true <| And.intro @Bool.true_or <| And.intro @Bool.false_and <| And.intro @Bool.and_false <| And.intro @sli_both <| And.intro @sli_all <| And.intro @str_from <| And.intro @str_upto <| And.intro @str_both <| And.intro @sli_own <| @sliOwn_sli) := And.intro @conf_ri <| And.intro @conf_rr <| And.intro @Bool.or_false <| And.intro @Bool.false_or <| And.intro @Bool.or_self <| And.intro @Bool.or_true <| And.intro @Bool.true_or <| And.intro @Bool.false_and <| And.intro @Bool.and_false <| And.intro @sli_both <| And.intro @sli_all <| And.intro @str_from <| And.intro @str_upto <| And.intro @str_both <| And.intro @sli_own <| @sliOwn_sli
theorem gq26 : type_of% (And.intro @sliK_sl <| And.intro @sliK_v <| And.intro @sliK_own <| And.intro @sliRow_live <| And.intro @sliRow_fz <| And.intro @news_ownR <| And.intro @nwRow_sli <| And.intro @nwRow_nil <| And.intro @allQ_nil <| And.intro @allQ_iL <| And.intro @allQ_kL <| And.intro @allQ_sL <| And.intro @allQ_bL <| And.intro @allQ_iLL <| And.intro @lend_eref <| @lend_ref) := And.intro @sliK_sl <| And.intro @sliK_v <| And.intro @sliK_own <| And.intro @sliRow_live <| And.intro @sliRow_fz <| And.intro @news_ownR <| And.intro @nwRow_sli <| And.intro @nwRow_nil <| And.intro @allQ_nil <| And.intro @allQ_iL <| And.intro @allQ_kL <| And.intro @allQ_sL <| And.intro @allQ_bL <| And.intro @allQ_iLL <| And.intro @lend_eref <| @lend_ref
theorem gq27 : type_of% (And.intro @lendRef_box <| And.intro @lendRef_sli <| And.intro @bld1_v <| And.intro @bld1_sl <| And.intro @bld1_ag <| And.intro @bld1_eref <| And.intro @bld1_ref <| And.intro @bld1_own <| And.intro @bldRow_sli <| And.intro @bldRow_nil <| And.intro @bldRow_tab <| And.intro @buildTD_sli <| And.intro @buildTD_row <| And.intro @app0_own <| And.intro @app0_sl <| @app0_slice) := And.intro @lendRef_box <| And.intro @lendRef_sli <| And.intro @bld1_v <| And.intro @bld1_sl <| And.intro @bld1_ag <| And.intro @bld1_eref <| And.intro @bld1_ref <| And.intro @bld1_own <| And.intro @bldRow_sli <| And.intro @bldRow_nil <| And.intro @bldRow_tab <| And.intro @buildTD_sli <| And.intro @buildTD_row <| And.intro @app0_own <| And.intro @app0_sl <| @app0_slice
theorem gq28 : type_of% (And.intro @app0_str <| And.intro @appSD_sli <| And.intro @appSD_nil <| And.intro @app1_v <| And.intro @app1_sl <| And.intro @app1_own <| And.intro @app1Row_sli <| And.intro @app1Row_nil <| And.intro @app1Row_tab <| And.intro @appTD_sli <| And.intro @newsT_own <| And.intro @newsTR_iL <| And.intro @newsTR_tab <| And.intro @ld_cellsT <| And.intro @splT <| @snocT) := And.intro @app0_str <| And.intro @appSD_sli <| And.intro @appSD_nil <| And.intro @app1_v <| And.intro @app1_sl <| And.intro @app1_own <| And.intro @app1Row_sli <| And.intro @app1Row_nil <| And.intro @app1Row_tab <| And.intro @appTD_sli <| And.intro @newsT_own <| And.intro @newsTR_iL <| And.intro @newsTR_tab <| And.intro @ld_cellsT <| And.intro @splT <| @snocT
theorem gq29 : type_of% (And.intro @cellsT_length <| And.intro @tabbed_sl <| And.intro @tabbed_top <| And.intro @tabbed_rw <| And.intro @next_self <| And.intro @next_selfx <| And.intro @next_rv <| And.intro @next_none <| And.intro @initT_sl <| And.intro @initT_rw <| And.intro @inT_low <| And.intro @inT_1000000 <| And.intro @adoptT_sl <| And.intro @adoptT_slne <| And.intro @adoptT_rw <| @adoptT_top) := And.intro @cellsT_length <| And.intro @tabbed_sl <| And.intro @tabbed_top <| And.intro @tabbed_rw <| And.intro @next_self <| And.intro @next_selfx <| And.intro @next_rv <| And.intro @next_none <| And.intro @initT_sl <| And.intro @initT_rw <| And.intro @inT_low <| And.intro @inT_1000000 <| And.intro @adoptT_sl <| And.intro @adoptT_slne <| And.intro @adoptT_rw <| @adoptT_top
theorem gq30 : type_of% (And.intro @List.length_set.{0} <| And.intro @List.length_range <| And.intro @killed_sl <| And.intro @killed_rw <| And.intro @lidsT_cells <| And.intro @lidsT_tab <| And.intro @adoptT_lend <| @mapT_I) := And.intro @List.length_set.{0} <| And.intro @List.length_range <| And.intro @killed_sl <| And.intro @killed_rw <| And.intro @lidsT_cells <| And.intro @lidsT_tab <| And.intro @adoptT_lend <| @mapT_I
theorem gq : type_of% (And.intro @gq0 <| And.intro @gq1 <| And.intro @gq2 <| And.intro @gq3 <| And.intro @gq4 <| And.intro @gq5 <| And.intro @gq6 <| And.intro @gq7 <| And.intro @gq8 <| And.intro @gq9 <| And.intro @gq10 <| And.intro @gq11 <| And.intro @gq12 <| And.intro @gq13 <| And.intro @gq14 <| And.intro @gq15 <| And.intro @gq16 <| And.intro @gq17 <| And.intro @gq18 <| And.intro @gq19 <| And.intro @gq20 <| And.intro @gq21 <| And.intro @gq22 <| And.intro @gq23 <| And.intro @gq24 <| And.intro @gq25 <| And.intro @gq26 <| And.intro @gq27 <| And.intro @gq28 <| And.intro @gq29 <| @gq30) := And.intro @gq0 <| And.intro @gq1 <| And.intro @gq2 <| And.intro @gq3 <| And.intro @gq4 <| And.intro @gq5 <| And.intro @gq6 <| And.intro @gq7 <| And.intro @gq8 <| And.intro @gq9 <| And.intro @gq10 <| And.intro @gq11 <| And.intro @gq12 <| And.intro @gq13 <| And.intro @gq14 <| And.intro @gq15 <| And.intro @gq16 <| And.intro @gq17 <| And.intro @gq18 <| And.intro @gq19 <| And.intro @gq20 <| And.intro @gq21 <| And.intro @gq22 <| And.intro @gq23 <| And.intro @gq24 <| And.intro @gq25 <| And.intro @gq26 <| And.intro @gq27 <| And.intro @gq28 <| And.intro @gq29 <| @gq30
theorem gr0 : type_of% (And.intro @put_sl_same <| And.intro @put_sl_ne <| And.intro @put_none <| And.intro @put_rw <| And.intro @row_sl <| And.intro @row_rw_same <| And.intro @row_rw_ne <| And.intro @freeze_sl <| And.intro @freeze_rw <| And.intro @frz_sli <| And.intro @newSt_eq <| And.intro @appSt_eq <| And.intro @adopt_im <| And.intro @adopt_fr <| And.intro @init_sl <| @init_rw) := And.intro @put_sl_same <| And.intro @put_sl_ne <| And.intro @put_none <| And.intro @put_rw <| And.intro @row_sl <| And.intro @row_rw_same <| And.intro @row_rw_ne <| And.intro @freeze_sl <| And.intro @freeze_rw <| And.intro @frz_sli <| And.intro @newSt_eq <| And.intro @appSt_eq <| And.intro @adopt_im <| And.intro @adopt_fr <| And.intro @init_sl <| @init_rw
theorem gr1 : type_of% (And.intro @getD_zero <| And.intro @getD_succ <| And.intro @getD_nil <| And.intro @ev_tmp <| And.intro @ev_int <| And.intro @ev_bool <| And.intro @ev_string <| And.intro @ne_eq.{1} <| And.intro @not_false_eq_true <| And.intro @not_true_eq_false <| And.intro @List.mem_cons.{0} <| And.intro @List.not_mem_nil.{0} <| And.intro @or_false <| And.intro @if_true.{1} <| And.intro @if_false.{1} <| @initM_sl) := And.intro @getD_zero <| And.intro @getD_succ <| And.intro @getD_nil <| And.intro @ev_tmp <| And.intro @ev_int <| And.intro @ev_bool <| And.intro @ev_string <| And.intro @ne_eq.{1} <| And.intro @not_false_eq_true <| And.intro @not_true_eq_false <| And.intro @List.mem_cons.{0} <| And.intro @List.not_mem_nil.{0} <| And.intro @or_false <| And.intro @if_true.{1} <| And.intro @if_false.{1} <| @initM_sl
theorem gr2 : type_of% (And.intro @initM_rw <| And.intro @inR_lo <| And.intro @inR_0 <| And.intro @inR_1 <| And.intro @wrote_1 <| And.intro @wrote_2 <| And.intro @List.nil_append.{0} <| And.intro @List.cons_append.{0} <| And.intro @List.append_nil.{0} <| And.intro @lit_nil <| And.intro @lit_int <| And.intro @lit_str <| And.intro @lit_bool <| And.intro @lit_sl <| And.intro @litI_nil <| @litS_nil) := And.intro @initM_rw <| And.intro @inR_lo <| And.intro @inR_0 <| And.intro @inR_1 <| And.intro @wrote_1 <| And.intro @wrote_2 <| And.intro @List.nil_append.{0} <| And.intro @List.cons_append.{0} <| And.intro @List.append_nil.{0} <| And.intro @lit_nil <| And.intro @lit_int <| And.intro @lit_str <| And.intro @lit_bool <| And.intro @lit_sl <| And.intro @litI_nil <| @litS_nil
theorem gr3 : type_of% (And.intro @litB_nil <| And.intro @litL_nil <| And.intro @litI_cons <| And.intro @litS_cons <| And.intro @litB_cons <| And.intro @litL_cons <| And.intro @splT <| And.intro @snocT <| And.intro @cellsT_length <| And.intro @tabbed_sl <| And.intro @tabbed_top <| And.intro @tabbed_rw <| And.intro @initT_sl <| And.intro @initT_rw <| And.intro @inT_low <| @inT_1000000) := And.intro @litB_nil <| And.intro @litL_nil <| And.intro @litI_cons <| And.intro @litS_cons <| And.intro @litB_cons <| And.intro @litL_cons <| And.intro @splT <| And.intro @snocT <| And.intro @cellsT_length <| And.intro @tabbed_sl <| And.intro @tabbed_top <| And.intro @tabbed_rw <| And.intro @initT_sl <| And.intro @initT_rw <| And.intro @inT_low <| @inT_1000000
theorem gr4 : type_of% (And.intro @adoptT_sl <| And.intro @adoptT_slne <| And.intro @adoptT_rw <| And.intro @adoptT_top <| And.intro @List.length_set.{0} <| And.intro @List.length_range <| And.intro @killed_sl <| @killed_rw) := And.intro @adoptT_sl <| And.intro @adoptT_slne <| And.intro @adoptT_rw <| And.intro @adoptT_top <| And.intro @List.length_set.{0} <| And.intro @List.length_range <| And.intro @killed_sl <| @killed_rw
theorem gr : type_of% (And.intro @gr0 <| And.intro @gr1 <| And.intro @gr2 <| And.intro @gr3 <| @gr4) := And.intro @gr0 <| And.intro @gr1 <| And.intro @gr2 <| And.intro @gr3 <| @gr4
end Go.Abs

/- DERIVED by an AI agent. Tables: numbers of inner rows, their cells; a row that becomes a table's. No program in sight. -/
namespace Go.Abs
set_option linter.unusedSimpArgs false

/-- A table in the making. -/
def tabC (k n i : Nat) : List PV := (List.range n).map fun t => if t < i then .own (sid k t) 1 else .v (.slice none 0 0)
theorem tabC_zero (k n : Nat) : List.replicate n (PV.v (.slice none 0 0)) = tabC k n 0 := by
  refine List.ext_getElem (by simp [tabC]) fun t a b => by simp [tabC]
theorem tabC_length (k n i : Nat) : (tabC k n i).length = n := by simp [tabC]
theorem tabC_end (k n : Nat) : tabC k n n = cellsT k (List.range n) := by
  refine List.ext_getElem (by simp [tabC, cellsT]) fun t a b => ?_
  have : t < n := by simpa [tabC] using a
  simp [tabC, cellsT, this]
theorem tabC_ren [Held] {k n i d v : Nat} (h : i < n) : (tabC k n (i + 1)).length = (spl (tabC k n i) i [.own d v]).length ∧
    ∀ t (a : t < (spl (tabC k n i) i [PV.own d v]).length) (b : t < (tabC k n (i + 1)).length), (tabC k n (i + 1))[t] = (spl (tabC k n i) i [PV.own d v])[t] ∨ ((spl (tabC k n i) i [PV.own d v])[t] = .own d v ∧ (tabC k n (i + 1))[t] = .own (sid k i) 1) := by
  rw [spl_one (by rw [tabC_length]; exact h)]
  refine ⟨by simp [tabC_length], fun t a b => ?_⟩
  rw [List.getElem_set]
  by_cases he : i = t
  · subst he
    rw [if_pos rfl]
    refine .inr ⟨rfl, ?_⟩
    simp [tabC]
  · rw [if_neg he]
    refine .inl ?_
    simp only [tabC, List.getElem_map, List.getElem_range]
    by_cases ht : t < i
    · rw [if_pos ht, if_pos (by omega)]
    · rw [if_neg ht, if_neg (by omega)]
theorem tabCells_eq [Held] (rw : Nat → Row) (d n : Nat) (h : ∀ j, j < n → (rw (sid d j)).ver = 0) : tabCells rw d 0 n = cellsT d (List.range n) := by
  unfold tabCells cellsT
  refine List.map_congr_left fun j hj => ?_
  rw [leaf_sid, h j (List.mem_range.1 hj)]

section
variable {P : Program} {T : Tab} {s : St}
/-- A slice that is written, as a table. -/
theorem Wk.tab [Held] {k v e : Nat} {c : List PV} (hk : s.rw k = ⟨v, .sli e 1 false c⟩) (hc : plain c) : Wk s (s.row k ⟨v, .tab e c⟩) := by
  intro G a w ⟨E, hs⟩
  have hR : E.R k = ⟨v, .sli e 1 false c⟩ := by rw [hs.rw]; exact hk
  have ht : OneTurn E w w k ⟨v, .tab e c⟩ (E.rm k) (E.rv k) :=
    ⟨fun _ _ _ => rfl, fun b hb _ => .inr ⟨hb, by rw [hR]; rfl, fun _ => by rw [hR]; rfl⟩, by rw [hR]; exact Nat.le_refl _,
      fun _ _ => ⟨by rw [hR]; rfl, rfl⟩, fun _ _ => ⟨by rw [hR]; rfl, rfl⟩, fun _ => by have := hs.wok.pos k (by rw [hR]; rfl); rw [hR] at this; exact this, Nat.le_refl _, rfl, rfl, ⟨rfl, fun _ => by first | exact Nat.le_refl _ | exact Nat.le_succ _⟩⟩
  have hturn := ht.turn (fz := []) hs.wok
  have hrows := ht.rows (fz := []) hs.wok (fun j hj => by cases hj) (fun hl => by
    have hrow := hs.wok.rows k
    unfold RowOk at hrow ⊢
    rw [hR] at hrow
    simp only [Env.turn, updF_same]
    rcases hrow with h | ⟨b, n, cap, vs, rest, h1, h2, h3, h4, h5, h6, h7, h8, h9⟩
    · exact .inl h
    · exact .inr ⟨b, n, cap, vs, rest, h1, h2, h3, h4, by omega, h6, h7, by omega, plain_rep hc h9⟩)
  have := hturn.sim hs hrows
  refine ⟨E.turn [] k ⟨v, .tab e c⟩ (E.rm k) (E.rv k), ?_⟩
  have e : ({ s with rw := (E.turn [] k ⟨v, .tab e c⟩ (E.rm k) (E.rv k)).R } : St) = s.row k ⟨v, .tab e c⟩ := by
    have hf : frzF E.R [] = E.R := frzF_nil E.R
    simp only [Env.turn, hf, hs.rw]
    rfl
  rw [e] at this
  exact this

/-- A row's new number, where it has become a table's. -/
theorem Wk.ren [Held] {d k k' v vk e et sz : Nat} {c cs cs' : List PV} (hd : s.rw d = ⟨v, .sli e sz false c⟩) (hk : s.rw k = ⟨vk, .tab et cs⟩) (hk' : s.rw k' = ⟨0, .dead⟩) (hdl : d < lent)
    (hcs : cs'.length = cs.length ∧ ∀ i (a : i < cs.length) (b : i < cs'.length), cs'[i] = cs[i] ∨ (cs[i] = .own d v ∧ cs'[i] = .own k' 1)) :
    Wk s (((s.row d ⟨v + 1, .dead⟩).row k' ⟨1, .sli e sz false c⟩).row k ⟨vk, .tab et cs'⟩) := by
  intro G a w ⟨E, hs⟩
  have hRd : E.R d = ⟨v, .sli e sz false c⟩ := by rw [hs.rw]; exact hd
  have hRk : E.R k = ⟨vk, .tab et cs⟩ := by rw [hs.rw]; exact hk
  have hRk' : E.R k' = ⟨0, .dead⟩ := by rw [hs.rw]; exact hk'
  have ndk : d ≠ k := fun e => by rw [e, hRk] at hRd; cases hRd
  have ndk' : d ≠ k' := fun e => by rw [e, hRk'] at hRd; cases hRd
  have nkk' : k ≠ k' := fun e => by rw [e, hRk'] at hRk; cases hRk
  let R' : Nat → Row := updF (updF (updF E.R d ⟨v + 1, .dead⟩) k' ⟨1, .sli e sz false c⟩) k ⟨vk, .tab et cs'⟩
  let rm' : Nat → Option Nat := updF (updF E.rm d none) k' (E.rm d)
  let rv' : Nat → Value := updF E.rv k' (E.rv d)
  let E' : Env := { R := R', rm := rm', rv := rv', L := mkL E.X R' rm', B := E.B, X := E.X }
  have Rk : E'.R k = ⟨vk, .tab et cs'⟩ := updF_same _ _ _
  have Rk' : E'.R k' = ⟨1, .sli e sz false c⟩ := by show R' k' = _; simp only [R']; rw [updF_other _ _ (Ne.symm nkk'), updF_same]
  have Rd : E'.R d = ⟨v + 1, .dead⟩ := by show R' d = _; simp only [R']; rw [updF_other _ _ ndk, updF_other _ _ ndk', updF_same]
  have Ro : ∀ j, j ≠ d → j ≠ k → j ≠ k' → E'.R j = E.R j := fun j h1 h2 h3 => by show R' j = _; simp only [R']; rw [updF_other _ _ h2, updF_other _ _ h3, updF_other _ _ h1]
  have Mk' : E'.rm k' = E.rm d := updF_same _ _ _
  have Md : E'.rm d = none := by show rm' d = _; simp only [rm']; rw [updF_other _ _ ndk', updF_same]
  have Mo : ∀ j, j ≠ d → j ≠ k' → E'.rm j = E.rm j := fun j h1 h3 => by show rm' j = _; simp only [rm']; rw [updF_other _ _ h3, updF_other _ _ h1]
  have Vk' : E'.rv k' = E.rv d := updF_same _ _ _
  have Vo : ∀ j, j ≠ k' → E'.rv j = E.rv j := fun j h => updF_other _ _ h
  have hL : ∀ b, E'.L b ↔ E.L b := by
    intro b
    rw [hs.wok.live]
    constructor
    · rintro (⟨j, h1, h2⟩ | hX)
      rotate_left
      · exact .inr hX
      refine .inl ?_
      have h1 : E'.rm j = some b := h1
      have h2 : (E'.R j).kind.live = true := h2
      by_cases jk' : j = k'
      · subst jk'; rw [Mk'] at h1; exact ⟨d, h1, by rw [hRd]; rfl⟩
      · by_cases jd : j = d
        · subst jd; rw [Md] at h1; cases h1
        · rw [Mo j jd jk'] at h1
          by_cases jk : j = k
          · subst jk; exact ⟨j, h1, by rw [hRk]; rfl⟩
          · rw [Ro j jd jk jk'] at h2; exact ⟨j, h1, h2⟩
    · rintro (⟨j, h1, h2⟩ | hX)
      rotate_left
      · exact .inr hX
      refine .inl ?_
      by_cases jk' : j = k'
      · subst jk'; rw [hRk'] at h2; cases h2
      · by_cases jd : j = d
        · subst jd; exact ⟨k', by show E'.rm k' = some b; rw [Mk']; exact h1, by show (E'.R k').kind.live = true; rw [Rk']; rfl⟩
        · by_cases jk : j = k
          · subst jk; exact ⟨j, by show E'.rm j = some b; rw [Mo j jd jk']; exact h1, by show (E'.R j).kind.live = true; rw [Rk]; rfl⟩
          · exact ⟨j, by show E'.rm j = some b; rw [Mo j jd jk']; exact h1, by show (E'.R j).kind.live = true; rw [Ro j jd jk jk']; exact h2⟩
  have hl : Lasts w w E E' := by
    refine ⟨fun b _ h => ⟨rfl, fun h' => h ((hL b).1 h')⟩, fun j => ?_, fun j he hs' => ?_, fun j he hs' => ?_, Nat.le_refl _⟩
    all_goals
      by_cases jk' : j = k'
      · subst jk'
        first
          | (rw [hRk']; exact Nat.zero_le _)
          | (rw [Rk', hRk'] at he; cases he)
      · by_cases jd : j = d
        · subst jd
          first
            | (rw [Rd, hRd]; exact Nat.le_succ _)
            | (rw [Rd] at hs'; cases hs')
        · by_cases jk : j = k
          · subst jk
            first
              | (rw [Rk, hRk]; exact Nat.le_refl _)
              | exact ⟨by rw [hRk]; rfl, Vo j jk'⟩
              | exact ⟨by rw [hRk]; rfl, Mo j jd jk'⟩
          · first
              | (rw [Ro j jd jk jk']; exact Nat.le_refl _)
              | (rw [Ro j jd jk jk'] at hs'; exact ⟨hs', Vo j jk'⟩)
              | (rw [Ro j jd jk jk'] at hs'; exact ⟨hs', Mo j jd jk'⟩)
  have hwok : WOk G E' w := by
    refine ⟨fun j => ?_, fun j j' b n1 n2 e1 e2 => ?_, fun b => Iff.rfl, fun j hn => ?_, hs.wok.base, hs.wok.xs, hs.wok.fx, fun j b hn hb => ?_, hs.wok.kept, fun j => ?_⟩
    · by_cases jk' : j = k'
      · subst jk'
        have hrow := hs.wok.rows d
        unfold RowOk at hrow ⊢
        rw [hRd] at hrow
        rw [Rk', Mk', Vk']
        rcases hrow with h | ⟨b, n, cap, vs, rest, h1, h2, h3, h4, h5, h6, h7, h8, h9⟩
        · exact .inl h
        · refine .inr ⟨b, n, cap, vs, rest, h1, ?_, h3, h4, h5, h6, h7, h8, h9.mono hl.bare (Nat.le_refl _)⟩
          rcases h2 with h2 | h2
          · exact .inl h2
          · exact absurd h2.1 (by omega)
      · by_cases jd : j = d
        · subst jd; unfold RowOk; rw [Rd]; trivial
        · by_cases jk : j = k
          · subst jk
            have hrow := hs.wok.rows j
            unfold RowOk at hrow ⊢
            rw [hRk] at hrow
            rw [Rk, Mo j jd jk', Vo j jk']
            rcases hrow with ⟨g1, g2, g3⟩ | ⟨b, n, cap, vs, rest, h1, h2, h3, h4, h5, h6, h7, h8, h9⟩
            · refine .inl ⟨g1, g2, List.eq_nil_of_length_eq_zero (by rw [hcs.1, g3]; rfl)⟩
            · refine .inr ⟨b, n, cap, vs, rest, h1, h2, h3, h4, h5, h6, h7, h8, by rw [hcs.1]; exact h9.1, fun i a' b' => ?_⟩
              have ha : i < cs.length := by rw [← hcs.1]; exact a'
              have h0 := h9.2 i ha b'
              rcases hcs.2 i ha a' with he | ⟨he1, he2⟩
              · rw [he]; exact h0.mono hl (Nat.le_refl _)
              · rw [he1] at h0
                rw [he2]
                cases h0 with
                | own hv hx =>
                  refine .own (by rw [Rk']; exact Nat.le_refl _) fun _ _ => ?_
                  rw [Vk']
                  exact hx (by rw [hRd]) (by rw [hRd]; rfl)
          · have hrow := hs.wok.rows j
            unfold RowOk at hrow ⊢
            rw [Ro j jd jk jk', Mo j jd jk', Vo j jk']
            cases hkd : (E.R j).kind with
            | dead => trivial
            | nil => simpa only [hkd] using hrow
            | box t cells =>
              simp only [hkd] at hrow ⊢
              obtain ⟨b, vs, h1, h2, h3, h4⟩ := hrow
              exact ⟨b, vs, h1, h2, h3, h4.mono hl (Nat.le_refl _)⟩
            | sli e sz fz cells =>
              simp only [hkd] at hrow ⊢
              rcases hrow with h | ⟨b, n, cap, vs, rest, h1, h2, h3, h4, h5, h6, h7, h8, h9⟩
              · exact .inl h
              · exact .inr ⟨b, n, cap, vs, rest, h1, h2, h3, h4, h5, h6, h7, h8, h9.mono hl.bare (Nat.le_refl _)⟩
            | tab e cells =>
              simp only [hkd] at hrow ⊢
              rcases hrow with h | ⟨b, n, cap, vs, rest, h1, h2, h3, h4, h5, h6, h7, h8, h9⟩
              · exact .inl h
              · exact .inr ⟨b, n, cap, vs, rest, h1, h2, h3, h4, h5, h6, h7, h8, h9.mono hl (Nat.le_refl _)⟩
    · -- the old number of a row
      have back : ∀ j b, (E'.R j).kind.nd = true → E'.rm j = some b → (if j = k' then d else j) = (if j = k' then d else j) ∧ (E.R (if j = k' then d else j)).kind.nd = true ∧ E.rm (if j = k' then d else j) = some b ∧ j ≠ d := by
        intro j b hn hm
        by_cases jk' : j = k'
        · subst jk'; rw [if_pos rfl]; rw [Mk'] at hm; exact ⟨rfl, by rw [hRd]; rfl, hm, Ne.symm ndk'⟩
        · rw [if_neg jk']
          have jd : j ≠ d := fun e => by subst e; rw [Md] at hm; cases hm
          rw [Mo j jd jk'] at hm
          refine ⟨rfl, ?_, hm, jd⟩
          by_cases jk : j = k
          · subst jk; rw [hRk]; rfl
          · rw [← Ro j jd jk jk']; exact hn
      obtain ⟨_, a1, a2, a3⟩ := back j b n1 e1
      obtain ⟨_, b1, b2, b3⟩ := back j' b n2 e2
      have := hs.wok.inj _ _ b a1 b1 a2 b2
      by_cases jk : j = k'
      · by_cases jk2 : j' = k'
        · rw [jk, jk2]
        · rw [if_pos jk, if_neg jk2] at this; exact absurd this.symm b3
      · by_cases jk2 : j' = k'
        · rw [if_neg jk, if_pos jk2] at this; exact absurd this a3
        · rw [if_neg jk, if_neg jk2] at this; exact this
    · by_cases jk' : j = k'
      · subst jk'; rw [Rk']; exact Nat.one_pos
      · by_cases jd : j = d
        · subst jd; rw [Rd]; exact Nat.succ_pos _
        · by_cases jk : j = k
          · subst jk; rw [Rk]; have := hs.wok.pos j (by rw [hRk]; rfl); rw [hRk] at this; exact this
          · rw [Ro j jd jk jk'] at hn ⊢; exact hs.wok.pos j hn
    · by_cases jk' : j = k'
      · subst jk'; rw [Mk'] at hb; exact hs.wok.apart d b (by rw [hRd]; rfl) hb
      · by_cases jd : j = d
        · subst jd; rw [Md] at hb; cases hb
        · rw [Mo j jd jk'] at hb
          by_cases jk : j = k
          · subst jk; exact hs.wok.apart j b (by rw [hRk]; rfl) hb
          · rw [Ro j jd jk jk'] at hn; exact hs.wok.apart j b hn hb
    · obtain ⟨p1, p2⟩ := hs.wok.pin j
      by_cases jk' : j = k'
      · subst jk'
        rw [hRk'] at p1
        have p1 : (G.pR j).ver = 0 := Nat.le_zero.1 p1
        rw [Rk']
        exact ⟨by rw [p1]; exact Nat.zero_le _, fun h => by rw [p1] at h; cases h⟩
      · by_cases jd : j = d
        · subst jd
          rw [Rd]
          rw [hRd] at p1
          exact ⟨Nat.le_succ_of_le p1, fun h h' => by cases h'⟩
        · by_cases jk : j = k
          · subst jk
            rw [Rk, Mo j jd jk', Vo j jk']
            rw [hRk] at p1 p2
            exact ⟨p1, fun h _ => p2 h rfl⟩
          · rw [Ro j jd jk jk', Mo j jd jk', Vo j jk']; exact ⟨p1, p2⟩
  refine ⟨E', ?_, hwok, hs.size, hs.defers, fun i => (hs.slots i).mono hl (Nat.le_refl _)⟩
  show R' = _
  simp only [R', hs.rw]
  rfl
end
end Go.Abs
namespace Go.Abs
section
variable {Q : AX → St → Prop} {s : St}
theorem loop_wk [Held] {α : Type} (I : α → St → Prop) (μ : α → Nat) (x0 : α) {s0 : St} (hw : Wk s s0) {b : (AX → St → Prop) → St → Prop} {u : Dm b} {v : Dm Q} (h0 : I x0 s0) (h : ∀ x s1, I x s1 → b (AX.seq (again I μ (μ x)) Q) s1) : loopK (kk b u) (kk Q v) s :=
  ⟨α, I, μ, ⟨x0, s0, hw, h0⟩, h⟩
theorem again_wk [Held] {α : Type} {I : α → St → Prop} {μ : α → Nat} {m : Nat} (x' : α) {s3 : St} (hw : Wk s s3) (h : I x' s3) (hm : μ x' < m) : again I μ m s := ⟨x', s3, hw, h, hm⟩
theorem plain_nils (n : Nat) : plain (List.replicate n (.v (.slice none 0 0))) := fun p hp => by
  rw [(List.mem_replicate.1 hp).2]; rfl
end
end Go.Abs
namespace Go.Abs
theorem tabOut_of {rw : Nat → Row} {e2 k : Nat} : ∀ (p : List Nat) (rows : List (List PV)) (K : List Nat → Prop), rows.length = p.length →
    (∀ i (a : i < p.length) (b : i < rows.length), sid k p[i] < lent ∧ rw (sid k p[i]) = ⟨1, .sli e2 1 false rows[i]⟩) → K (p.map (sid k)) → tabOut rw e2 (cellsT k p) rows K := by
  intro p
  induction p with
  | nil => intro rows K h _ hk; cases rows with | nil => exact hk | cons r rs => simp at h
  | cons j p ih =>
    intro rows K h hr hk
    cases rows with
    | nil => simp at h
    | cons r rs =>
      have h0 := hr 0 (by simp) (by simp)
      exact ⟨h0.1, h0.2, ih rs _ (by simpa using h) (fun i a b => hr (i + 1) (by simpa using a) (by simpa using b)) hk⟩
/-- A table handed back. -/
theorem out2_tab [Held] {rw : Nat → Row} {k v e e2 n : Nat} {rows : List (List PV)} (hk : k < 1000) (hn : n ≤ 998) (hr : rw k = ⟨v, .tab e (cellsT k (List.range n))⟩) (hl : rows.length = n)
    (hrows : ∀ j, j < n → rw (sid k j) = ⟨1, .sli e2 1 false (rows.getD j [])⟩) : out2 rw (.own k v) (.tb e e2 rows) List.Nodup := by
  have hkl : k < lent := by unfold lent; omega
  show out0 rw (.own k v) (.tb e e2 rows) List.Nodup
  unfold out0
  simp only [hr]
  refine ⟨hkl, trivial, trivial, tabOut_of (List.range n) rows _ (by simpa using hl) (fun i a b => ?_) ?_⟩
  · have hi : i < n := by simpa using a
    simp only [List.getElem_range]
    refine ⟨sid_lent hk (by omega), ?_⟩
    rw [hrows i hi]
    simp [List.getD, b]
  · refine List.nodup_cons.2 ⟨fun h => ?_, ?_⟩
    · obtain ⟨j, _, hj⟩ := List.mem_map.1 h
      rw [sid_eq] at hj; omega
    · refine List.Pairwise.map _ (fun a b hab => ?_) List.nodup_range
      rw [Ne, sid_inj]; exact hab
end Go.Abs
