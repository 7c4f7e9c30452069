/-
  TopPicked, function by function, by the rules of the engine: it returns true, for every input.
-/
import Derived.Test.YthoiomcchedapaaGreatDoorN02
set_option autoImplicit true
set_option relaxedAutoImplicit true
set_option linter.unusedVariables false
set_option linter.unusedSimpArgs false
open Go Go.Proofs Go.Fal
namespace K

set_option maxRecDepth 100000 in
/-- sched.Fair -/
theorem fair_spec {h0 : H} {s : V} {l : List Int} {n kk : Int} (r : RowR h0 s (ints l)) (hl : l.length ≤ 1048576) (hn' : n ≤ 1048576) :
    WpC c3 95 [s, .int .i64 n, .int .i64 kk] h0 (fun v h' => Keep None' h0 h' ∧ v = .bool (fairP l n kk)) := by
  have sp := row_plain r
  rw [wpc_enter (mem95 _) fn95, show max [s, V.int .i64 n, .int .i64 kk].length 58 = 58 from rfl, show setArgs T.e 0 [s, V.int .i64 n, .int .i64 kk] = ((T.e.set 0 s).set 1 (.int .i64 n)).set 2 (.int .i64 kk) from rfl]
  rw [w95_0, w95_1]
  simp only [wps_nil, wps_move, wps_assign, wps_pick, wps_binOp, wps_unOp, wps_load, wps_fieldAddr, wps_field, wps_indexAddr, wps_index, wps_lookup, wps_nilCheck, wps_extract, wps_makeFunc, wps_slice, wps_alloc, wps_box, wps_buildSlice, wps_store, wps_mapUpdate, wps_len, wps_min, wps_max, wps_app, ev_tmp, ev_cint, ev_cbool, ev_cnils, ev_cnilp, ev_cnilf, ev_cnili, ev_cnilm, ev_func, evs_nil, evs_cons, consO_some, evParts_nil, evParts_cons, consP_some, evOpt_none, evOpt_sm, someO_some, bo_some, bo2_some, e1_some, e2_some, putP_none, putP_some, vB_bool, T.get_set, reduceIte, Nat.reduceEqDiff, Nat.reduceLT, c3P, c3ng, binO_add, binO_sub, binO_mul, binO_eql, binO_neq, binO_lss, binO_leq, binO_gtr, binO_geq, unO_not, true_and, Bool.false_eq_true, if_false, if_true, forall_const, extrO, nilChk, false_implies]
  rw [newCells_one sp]
  simp only [wps_nil, wps_move, wps_assign, wps_pick, wps_binOp, wps_unOp, wps_load, wps_fieldAddr, wps_field, wps_indexAddr, wps_index, wps_lookup, wps_nilCheck, wps_extract, wps_makeFunc, wps_slice, wps_alloc, wps_box, wps_buildSlice, wps_store, wps_mapUpdate, wps_len, wps_min, wps_max, wps_app, ev_tmp, ev_cint, ev_cbool, ev_cnils, ev_cnilp, ev_cnilf, ev_cnili, ev_cnilm, ev_func, evs_nil, evs_cons, consO_some, evParts_nil, evParts_cons, consP_some, evOpt_none, evOpt_sm, someO_some, bo_some, bo2_some, e1_some, e2_some, putP_none, putP_some, vB_bool, T.get_set, reduceIte, Nat.reduceEqDiff, Nat.reduceLT, c3P, c3ng, binO_add, binO_sub, binO_mul, binO_eql, binO_neq, binO_lss, binO_leq, binO_gtr, binO_geq, unO_not, true_and, Bool.false_eq_true, if_false, if_true, forall_const, extrO, nilChk, false_implies]
  rw [newCells_one (show (V.int .i64 kk).plain = true from rfl)]
  simp only [wps_nil, wps_move, wps_assign, wps_pick, wps_binOp, wps_unOp, wps_load, wps_fieldAddr, wps_field, wps_indexAddr, wps_index, wps_lookup, wps_nilCheck, wps_extract, wps_makeFunc, wps_slice, wps_alloc, wps_box, wps_buildSlice, wps_store, wps_mapUpdate, wps_len, wps_min, wps_max, wps_app, ev_tmp, ev_cint, ev_cbool, ev_cnils, ev_cnilp, ev_cnilf, ev_cnili, ev_cnilm, ev_func, evs_nil, evs_cons, consO_some, evParts_nil, evParts_cons, consP_some, evOpt_none, evOpt_sm, someO_some, bo_some, bo2_some, e1_some, e2_some, putP_none, putP_some, vB_bool, T.get_set, reduceIte, Nat.reduceEqDiff, Nat.reduceLT, c3P, c3ng, binO_add, binO_sub, binO_mul, binO_eql, binO_neq, binO_lss, binO_leq, binO_gtr, binO_geq, unO_not, true_and, Bool.false_eq_true, if_false, if_true, forall_const, extrO, nilChk, false_implies]
  have k1 := keep_new h0 (ofCells [s])
  have b1 := box_new (h := h0) (v := s)
  have n1 : (h0.new (ofCells [s])).next = h0.next + 1 := rfl
  generalize h0.new (ofCells [s]) = h1 at *
  have k2 := keep_new h1 (ofCells [V.int .i64 kk])
  have b2 := box_new (h := h1) (v := V.int .i64 kk)
  have n2 : (h1.new (ofCells [V.int .i64 kk])).next = h1.next + 1 := rfl
  rw [n1] at b2 n2
  simp only [n1]
  generalize h1.new (ofCells [V.int .i64 kk]) = h2 at *
  have kk2 : Keep None' h0 h2 := k1.trans k2 (fun _ _ h => h)
  have b12 := b1.keep k2 (fun h => h)
  rw [w95_2, w95_3, w95_4]
  unfold fairP
  by_cases c1 : n < 0 ∨ kk < 1
  · rw [if_pos c1]
    by_cases c1a : n < 0
    · have d1 : decide (n < 0) = true := by simpa using c1a
      simp only [wps_nil, wps_move, wps_assign, wps_pick, wps_binOp, wps_unOp, wps_load, wps_fieldAddr, wps_field, wps_indexAddr, wps_index, wps_lookup, wps_nilCheck, wps_extract, wps_makeFunc, wps_slice, wps_alloc, wps_box, wps_buildSlice, wps_store, wps_mapUpdate, wps_len, wps_min, wps_max, wps_app, ev_tmp, ev_cint, ev_cbool, ev_cnils, ev_cnilp, ev_cnilf, ev_cnili, ev_cnilm, ev_func, evs_nil, evs_cons, consO_some, evParts_nil, evParts_cons, consP_some, evOpt_none, evOpt_sm, someO_some, bo_some, bo2_some, e1_some, e2_some, putP_none, putP_some, vB_bool, T.get_set, reduceIte, Nat.reduceEqDiff, Nat.reduceLT, c3P, c3ng, binO_add, binO_sub, binO_mul, binO_eql, binO_neq, binO_lss, binO_leq, binO_gtr, binO_geq, unO_not, true_and, Bool.false_eq_true, if_false, if_true, forall_const, extrO, nilChk, false_implies, wps_guardG g95_4_2, vG_bool, d1, reduceCtorEq]
      rw [w95_5]
      simp only [wps_nil, wps_move, wps_assign, wps_pick, wps_binOp, wps_unOp, wps_load, wps_fieldAddr, wps_field, wps_indexAddr, wps_index, wps_lookup, wps_nilCheck, wps_extract, wps_makeFunc, wps_slice, wps_alloc, wps_box, wps_buildSlice, wps_store, wps_mapUpdate, wps_len, wps_min, wps_max, wps_app, ev_tmp, ev_cint, ev_cbool, ev_cnils, ev_cnilp, ev_cnilf, ev_cnili, ev_cnilm, ev_func, evs_nil, evs_cons, consO_some, evParts_nil, evParts_cons, consP_some, evOpt_none, evOpt_sm, someO_some, bo_some, bo2_some, e1_some, e2_some, putP_none, putP_some, vB_bool, T.get_set, reduceIte, Nat.reduceEqDiff, Nat.reduceLT, c3P, c3ng, binO_add, binO_sub, binO_mul, binO_eql, binO_neq, binO_lss, binO_leq, binO_gtr, binO_geq, unO_not, true_and, Bool.false_eq_true, if_false, if_true, forall_const, extrO, nilChk, false_implies]
      rw [w95_6, w95_7]
      simp only [wps_nil, wps_move, wps_assign, wps_pick, wps_binOp, wps_unOp, wps_load, wps_fieldAddr, wps_field, wps_indexAddr, wps_index, wps_lookup, wps_nilCheck, wps_extract, wps_makeFunc, wps_slice, wps_alloc, wps_box, wps_buildSlice, wps_store, wps_mapUpdate, wps_len, wps_min, wps_max, wps_app, ev_tmp, ev_cint, ev_cbool, ev_cnils, ev_cnilp, ev_cnilf, ev_cnili, ev_cnilm, ev_func, evs_nil, evs_cons, consO_some, evParts_nil, evParts_cons, consP_some, evOpt_none, evOpt_sm, someO_some, bo_some, bo2_some, e1_some, e2_some, putP_none, putP_some, vB_bool, T.get_set, reduceIte, Nat.reduceEqDiff, Nat.reduceLT, c3P, c3ng, binO_add, binO_sub, binO_mul, binO_eql, binO_neq, binO_lss, binO_leq, binO_gtr, binO_geq, unO_not, true_and, Bool.false_eq_true, if_false, if_true, forall_const, extrO, nilChk, false_implies]
      rw [w95_8, wpret, res95]
      simp only [wps_nil, wps_move, wps_assign, wps_pick, wps_binOp, wps_unOp, wps_load, wps_fieldAddr, wps_field, wps_indexAddr, wps_index, wps_lookup, wps_nilCheck, wps_extract, wps_makeFunc, wps_slice, wps_alloc, wps_box, wps_buildSlice, wps_store, wps_mapUpdate, wps_len, wps_min, wps_max, wps_app, ev_tmp, ev_cint, ev_cbool, ev_cnils, ev_cnilp, ev_cnilf, ev_cnili, ev_cnilm, ev_func, evs_nil, evs_cons, consO_some, evParts_nil, evParts_cons, consP_some, evOpt_none, evOpt_sm, someO_some, bo_some, bo2_some, e1_some, e2_some, putP_none, putP_some, vB_bool, T.get_set, reduceIte, Nat.reduceEqDiff, Nat.reduceLT, c3P, c3ng, binO_add, binO_sub, binO_mul, binO_eql, binO_neq, binO_lss, binO_leq, binO_gtr, binO_geq, unO_not, true_and, Bool.false_eq_true, if_false, if_true, forall_const, extrO, nilChk, false_implies, resultsO_nil, resultsO_tmp]
      exact ⟨kk2, rfl⟩
    · have c1b : kk < 1 := c1.resolve_left c1a
      have d1 : decide (n < 0) = false := by simpa using c1a
      have d2 : decide (kk < 1) = true := by simpa using c1b
      simp only [wps_nil, wps_move, wps_assign, wps_pick, wps_binOp, wps_unOp, wps_load, wps_fieldAddr, wps_field, wps_indexAddr, wps_index, wps_lookup, wps_nilCheck, wps_extract, wps_makeFunc, wps_slice, wps_alloc, wps_box, wps_buildSlice, wps_store, wps_mapUpdate, wps_len, wps_min, wps_max, wps_app, ev_tmp, ev_cint, ev_cbool, ev_cnils, ev_cnilp, ev_cnilf, ev_cnili, ev_cnilm, ev_func, evs_nil, evs_cons, consO_some, evParts_nil, evParts_cons, consP_some, evOpt_none, evOpt_sm, someO_some, bo_some, bo2_some, e1_some, e2_some, putP_none, putP_some, vB_bool, T.get_set, reduceIte, Nat.reduceEqDiff, Nat.reduceLT, c3P, c3ng, binO_add, binO_sub, binO_mul, binO_eql, binO_neq, binO_lss, binO_leq, binO_gtr, binO_geq, unO_not, true_and, Bool.false_eq_true, if_false, if_true, forall_const, extrO, nilChk, false_implies, wps_guardG g95_4_2, vG_bool, d1, b2.load ag3, d2]
      rw [w95_5]
      simp only [wps_nil, wps_move, wps_assign, wps_pick, wps_binOp, wps_unOp, wps_load, wps_fieldAddr, wps_field, wps_indexAddr, wps_index, wps_lookup, wps_nilCheck, wps_extract, wps_makeFunc, wps_slice, wps_alloc, wps_box, wps_buildSlice, wps_store, wps_mapUpdate, wps_len, wps_min, wps_max, wps_app, ev_tmp, ev_cint, ev_cbool, ev_cnils, ev_cnilp, ev_cnilf, ev_cnili, ev_cnilm, ev_func, evs_nil, evs_cons, consO_some, evParts_nil, evParts_cons, consP_some, evOpt_none, evOpt_sm, someO_some, bo_some, bo2_some, e1_some, e2_some, putP_none, putP_some, vB_bool, T.get_set, reduceIte, Nat.reduceEqDiff, Nat.reduceLT, c3P, c3ng, binO_add, binO_sub, binO_mul, binO_eql, binO_neq, binO_lss, binO_leq, binO_gtr, binO_geq, unO_not, true_and, Bool.false_eq_true, if_false, if_true, forall_const, extrO, nilChk, false_implies]
      rw [w95_6, w95_7]
      simp only [wps_nil, wps_move, wps_assign, wps_pick, wps_binOp, wps_unOp, wps_load, wps_fieldAddr, wps_field, wps_indexAddr, wps_index, wps_lookup, wps_nilCheck, wps_extract, wps_makeFunc, wps_slice, wps_alloc, wps_box, wps_buildSlice, wps_store, wps_mapUpdate, wps_len, wps_min, wps_max, wps_app, ev_tmp, ev_cint, ev_cbool, ev_cnils, ev_cnilp, ev_cnilf, ev_cnili, ev_cnilm, ev_func, evs_nil, evs_cons, consO_some, evParts_nil, evParts_cons, consP_some, evOpt_none, evOpt_sm, someO_some, bo_some, bo2_some, e1_some, e2_some, putP_none, putP_some, vB_bool, T.get_set, reduceIte, Nat.reduceEqDiff, Nat.reduceLT, c3P, c3ng, binO_add, binO_sub, binO_mul, binO_eql, binO_neq, binO_lss, binO_leq, binO_gtr, binO_geq, unO_not, true_and, Bool.false_eq_true, if_false, if_true, forall_const, extrO, nilChk, false_implies]
      rw [w95_8, wpret, res95]
      simp only [wps_nil, wps_move, wps_assign, wps_pick, wps_binOp, wps_unOp, wps_load, wps_fieldAddr, wps_field, wps_indexAddr, wps_index, wps_lookup, wps_nilCheck, wps_extract, wps_makeFunc, wps_slice, wps_alloc, wps_box, wps_buildSlice, wps_store, wps_mapUpdate, wps_len, wps_min, wps_max, wps_app, ev_tmp, ev_cint, ev_cbool, ev_cnils, ev_cnilp, ev_cnilf, ev_cnili, ev_cnilm, ev_func, evs_nil, evs_cons, consO_some, evParts_nil, evParts_cons, consP_some, evOpt_none, evOpt_sm, someO_some, bo_some, bo2_some, e1_some, e2_some, putP_none, putP_some, vB_bool, T.get_set, reduceIte, Nat.reduceEqDiff, Nat.reduceLT, c3P, c3ng, binO_add, binO_sub, binO_mul, binO_eql, binO_neq, binO_lss, binO_leq, binO_gtr, binO_geq, unO_not, true_and, Bool.false_eq_true, if_false, if_true, forall_const, extrO, nilChk, false_implies, resultsO_nil, resultsO_tmp]
      exact ⟨kk2, rfl⟩
  · rw [if_neg c1]
    have c1' : ¬ n < 0 ∧ ¬ kk < 1 := not_or.1 c1
    have d1 : decide (n < 0) = false := by simpa using c1'.1
    have d2 : decide (kk < 1) = false := by simpa using c1'.2
    simp only [wps_nil, wps_move, wps_assign, wps_pick, wps_binOp, wps_unOp, wps_load, wps_fieldAddr, wps_field, wps_indexAddr, wps_index, wps_lookup, wps_nilCheck, wps_extract, wps_makeFunc, wps_slice, wps_alloc, wps_box, wps_buildSlice, wps_store, wps_mapUpdate, wps_len, wps_min, wps_max, wps_app, ev_tmp, ev_cint, ev_cbool, ev_cnils, ev_cnilp, ev_cnilf, ev_cnili, ev_cnilm, ev_func, evs_nil, evs_cons, consO_some, evParts_nil, evParts_cons, consP_some, evOpt_none, evOpt_sm, someO_some, bo_some, bo2_some, e1_some, e2_some, putP_none, putP_some, vB_bool, T.get_set, reduceIte, Nat.reduceEqDiff, Nat.reduceLT, c3P, c3ng, binO_add, binO_sub, binO_mul, binO_eql, binO_neq, binO_lss, binO_leq, binO_gtr, binO_geq, unO_not, true_and, Bool.false_eq_true, if_false, if_true, forall_const, extrO, nilChk, false_implies, wps_guardG g95_4_2, vG_bool, d1, b2.load ag3, d2]
    rw [w95_5]
    simp only [wps_nil, wps_move, wps_assign, wps_pick, wps_binOp, wps_unOp, wps_load, wps_fieldAddr, wps_field, wps_indexAddr, wps_index, wps_lookup, wps_nilCheck, wps_extract, wps_makeFunc, wps_slice, wps_alloc, wps_box, wps_buildSlice, wps_store, wps_mapUpdate, wps_len, wps_min, wps_max, wps_app, ev_tmp, ev_cint, ev_cbool, ev_cnils, ev_cnilp, ev_cnilf, ev_cnili, ev_cnilm, ev_func, evs_nil, evs_cons, consO_some, evParts_nil, evParts_cons, consP_some, evOpt_none, evOpt_sm, someO_some, bo_some, bo2_some, e1_some, e2_some, putP_none, putP_some, vB_bool, T.get_set, reduceIte, Nat.reduceEqDiff, Nat.reduceLT, c3P, c3ng, binO_add, binO_sub, binO_mul, binO_eql, binO_neq, binO_lss, binO_leq, binO_gtr, binO_geq, unO_not, true_and, Bool.false_eq_true, if_false, if_true, forall_const, extrO, nilChk, false_implies]
    rw [w95_9, w95_10, w95_11, w95_12]
    have r2 : RowR h2 s (ints l) := r.keep kk2 (fun _ _ h => h)
    by_cases c2 : n = 0 ∨ (l.length : Int) < kk
    · rw [if_pos c2]
      by_cases c2a : n = 0
      · have d3 : decide (n = 0) = true := by simpa using c2a
        simp only [wps_nil, wps_move, wps_assign, wps_pick, wps_binOp, wps_unOp, wps_load, wps_fieldAddr, wps_field, wps_indexAddr, wps_index, wps_lookup, wps_nilCheck, wps_extract, wps_makeFunc, wps_slice, wps_alloc, wps_box, wps_buildSlice, wps_store, wps_mapUpdate, wps_len, wps_min, wps_max, wps_app, ev_tmp, ev_cint, ev_cbool, ev_cnils, ev_cnilp, ev_cnilf, ev_cnili, ev_cnilm, ev_func, evs_nil, evs_cons, consO_some, evParts_nil, evParts_cons, consP_some, evOpt_none, evOpt_sm, someO_some, bo_some, bo2_some, e1_some, e2_some, putP_none, putP_some, vB_bool, T.get_set, reduceIte, Nat.reduceEqDiff, Nat.reduceLT, c3P, c3ng, binO_add, binO_sub, binO_mul, binO_eql, binO_neq, binO_lss, binO_leq, binO_gtr, binO_geq, unO_not, true_and, Bool.false_eq_true, if_false, if_true, forall_const, extrO, nilChk, false_implies, wps_guardG g95_12_2, vG_bool, d3, reduceCtorEq]
        rw [w95_13]
        simp only [wps_nil, wps_move, wps_assign, wps_pick, wps_binOp, wps_unOp, wps_load, wps_fieldAddr, wps_field, wps_indexAddr, wps_index, wps_lookup, wps_nilCheck, wps_extract, wps_makeFunc, wps_slice, wps_alloc, wps_box, wps_buildSlice, wps_store, wps_mapUpdate, wps_len, wps_min, wps_max, wps_app, ev_tmp, ev_cint, ev_cbool, ev_cnils, ev_cnilp, ev_cnilf, ev_cnili, ev_cnilm, ev_func, evs_nil, evs_cons, consO_some, evParts_nil, evParts_cons, consP_some, evOpt_none, evOpt_sm, someO_some, bo_some, bo2_some, e1_some, e2_some, putP_none, putP_some, vB_bool, T.get_set, reduceIte, Nat.reduceEqDiff, Nat.reduceLT, c3P, c3ng, binO_add, binO_sub, binO_mul, binO_eql, binO_neq, binO_lss, binO_leq, binO_gtr, binO_geq, unO_not, true_and, Bool.false_eq_true, if_false, if_true, forall_const, extrO, nilChk, false_implies]
        rw [w95_14, w95_15]
        simp only [wps_nil, wps_move, wps_assign, wps_pick, wps_binOp, wps_unOp, wps_load, wps_fieldAddr, wps_field, wps_indexAddr, wps_index, wps_lookup, wps_nilCheck, wps_extract, wps_makeFunc, wps_slice, wps_alloc, wps_box, wps_buildSlice, wps_store, wps_mapUpdate, wps_len, wps_min, wps_max, wps_app, ev_tmp, ev_cint, ev_cbool, ev_cnils, ev_cnilp, ev_cnilf, ev_cnili, ev_cnilm, ev_func, evs_nil, evs_cons, consO_some, evParts_nil, evParts_cons, consP_some, evOpt_none, evOpt_sm, someO_some, bo_some, bo2_some, e1_some, e2_some, putP_none, putP_some, vB_bool, T.get_set, reduceIte, Nat.reduceEqDiff, Nat.reduceLT, c3P, c3ng, binO_add, binO_sub, binO_mul, binO_eql, binO_neq, binO_lss, binO_leq, binO_gtr, binO_geq, unO_not, true_and, Bool.false_eq_true, if_false, if_true, forall_const, extrO, nilChk, false_implies]
        rw [w95_16, wpret, res95]
        simp only [wps_nil, wps_move, wps_assign, wps_pick, wps_binOp, wps_unOp, wps_load, wps_fieldAddr, wps_field, wps_indexAddr, wps_index, wps_lookup, wps_nilCheck, wps_extract, wps_makeFunc, wps_slice, wps_alloc, wps_box, wps_buildSlice, wps_store, wps_mapUpdate, wps_len, wps_min, wps_max, wps_app, ev_tmp, ev_cint, ev_cbool, ev_cnils, ev_cnilp, ev_cnilf, ev_cnili, ev_cnilm, ev_func, evs_nil, evs_cons, consO_some, evParts_nil, evParts_cons, consP_some, evOpt_none, evOpt_sm, someO_some, bo_some, bo2_some, e1_some, e2_some, putP_none, putP_some, vB_bool, T.get_set, reduceIte, Nat.reduceEqDiff, Nat.reduceLT, c3P, c3ng, binO_add, binO_sub, binO_mul, binO_eql, binO_neq, binO_lss, binO_leq, binO_gtr, binO_geq, unO_not, true_and, Bool.false_eq_true, if_false, if_true, forall_const, extrO, nilChk, false_implies, resultsO_nil, resultsO_tmp]
        exact ⟨kk2, rfl⟩
      · have d3 : decide (n = 0) = false := by simpa using c2a
        have d4 : decide ((l.length : Int) < kk) = true := by simpa using c2.resolve_left c2a
        simp only [wps_nil, wps_move, wps_assign, wps_pick, wps_binOp, wps_unOp, wps_load, wps_fieldAddr, wps_field, wps_indexAddr, wps_index, wps_lookup, wps_nilCheck, wps_extract, wps_makeFunc, wps_slice, wps_alloc, wps_box, wps_buildSlice, wps_store, wps_mapUpdate, wps_len, wps_min, wps_max, wps_app, ev_tmp, ev_cint, ev_cbool, ev_cnils, ev_cnilp, ev_cnilf, ev_cnili, ev_cnilm, ev_func, evs_nil, evs_cons, consO_some, evParts_nil, evParts_cons, consP_some, evOpt_none, evOpt_sm, someO_some, bo_some, bo2_some, e1_some, e2_some, putP_none, putP_some, vB_bool, T.get_set, reduceIte, Nat.reduceEqDiff, Nat.reduceLT, c3P, c3ng, binO_add, binO_sub, binO_mul, binO_eql, binO_neq, binO_lss, binO_leq, binO_gtr, binO_geq, unO_not, true_and, Bool.false_eq_true, if_false, if_true, forall_const, extrO, nilChk, false_implies, wps_guardG g95_12_2, vG_bool, d3, b12.load ag67, b2.load ag3]
        rw [r2.len lc67]
        simp only [wps_nil, wps_move, wps_assign, wps_pick, wps_binOp, wps_unOp, wps_load, wps_fieldAddr, wps_field, wps_indexAddr, wps_index, wps_lookup, wps_nilCheck, wps_extract, wps_makeFunc, wps_slice, wps_alloc, wps_box, wps_buildSlice, wps_store, wps_mapUpdate, wps_len, wps_min, wps_max, wps_app, ev_tmp, ev_cint, ev_cbool, ev_cnils, ev_cnilp, ev_cnilf, ev_cnili, ev_cnilm, ev_func, evs_nil, evs_cons, consO_some, evParts_nil, evParts_cons, consP_some, evOpt_none, evOpt_sm, someO_some, bo_some, bo2_some, e1_some, e2_some, putP_none, putP_some, vB_bool, T.get_set, reduceIte, Nat.reduceEqDiff, Nat.reduceLT, c3P, c3ng, binO_add, binO_sub, binO_mul, binO_eql, binO_neq, binO_lss, binO_leq, binO_gtr, binO_geq, unO_not, true_and, Bool.false_eq_true, if_false, if_true, forall_const, extrO, nilChk, false_implies, wps_guardG g95_12_2, vG_bool, d3, b12.load ag67, b2.load ag3, ints_length, d4]
        rw [w95_13]
        simp only [wps_nil, wps_move, wps_assign, wps_pick, wps_binOp, wps_unOp, wps_load, wps_fieldAddr, wps_field, wps_indexAddr, wps_index, wps_lookup, wps_nilCheck, wps_extract, wps_makeFunc, wps_slice, wps_alloc, wps_box, wps_buildSlice, wps_store, wps_mapUpdate, wps_len, wps_min, wps_max, wps_app, ev_tmp, ev_cint, ev_cbool, ev_cnils, ev_cnilp, ev_cnilf, ev_cnili, ev_cnilm, ev_func, evs_nil, evs_cons, consO_some, evParts_nil, evParts_cons, consP_some, evOpt_none, evOpt_sm, someO_some, bo_some, bo2_some, e1_some, e2_some, putP_none, putP_some, vB_bool, T.get_set, reduceIte, Nat.reduceEqDiff, Nat.reduceLT, c3P, c3ng, binO_add, binO_sub, binO_mul, binO_eql, binO_neq, binO_lss, binO_leq, binO_gtr, binO_geq, unO_not, true_and, Bool.false_eq_true, if_false, if_true, forall_const, extrO, nilChk, false_implies]
        rw [w95_14, w95_15]
        simp only [wps_nil, wps_move, wps_assign, wps_pick, wps_binOp, wps_unOp, wps_load, wps_fieldAddr, wps_field, wps_indexAddr, wps_index, wps_lookup, wps_nilCheck, wps_extract, wps_makeFunc, wps_slice, wps_alloc, wps_box, wps_buildSlice, wps_store, wps_mapUpdate, wps_len, wps_min, wps_max, wps_app, ev_tmp, ev_cint, ev_cbool, ev_cnils, ev_cnilp, ev_cnilf, ev_cnili, ev_cnilm, ev_func, evs_nil, evs_cons, consO_some, evParts_nil, evParts_cons, consP_some, evOpt_none, evOpt_sm, someO_some, bo_some, bo2_some, e1_some, e2_some, putP_none, putP_some, vB_bool, T.get_set, reduceIte, Nat.reduceEqDiff, Nat.reduceLT, c3P, c3ng, binO_add, binO_sub, binO_mul, binO_eql, binO_neq, binO_lss, binO_leq, binO_gtr, binO_geq, unO_not, true_and, Bool.false_eq_true, if_false, if_true, forall_const, extrO, nilChk, false_implies]
        rw [w95_16, wpret, res95]
        simp only [wps_nil, wps_move, wps_assign, wps_pick, wps_binOp, wps_unOp, wps_load, wps_fieldAddr, wps_field, wps_indexAddr, wps_index, wps_lookup, wps_nilCheck, wps_extract, wps_makeFunc, wps_slice, wps_alloc, wps_box, wps_buildSlice, wps_store, wps_mapUpdate, wps_len, wps_min, wps_max, wps_app, ev_tmp, ev_cint, ev_cbool, ev_cnils, ev_cnilp, ev_cnilf, ev_cnili, ev_cnilm, ev_func, evs_nil, evs_cons, consO_some, evParts_nil, evParts_cons, consP_some, evOpt_none, evOpt_sm, someO_some, bo_some, bo2_some, e1_some, e2_some, putP_none, putP_some, vB_bool, T.get_set, reduceIte, Nat.reduceEqDiff, Nat.reduceLT, c3P, c3ng, binO_add, binO_sub, binO_mul, binO_eql, binO_neq, binO_lss, binO_leq, binO_gtr, binO_geq, unO_not, true_and, Bool.false_eq_true, if_false, if_true, forall_const, extrO, nilChk, false_implies, resultsO_nil, resultsO_tmp]
        exact ⟨kk2, rfl⟩
    · rw [if_neg c2]
      have c2' := not_or.1 c2
      have d3 : decide (n = 0) = false := by simpa using c2'.1
      have d4 : decide ((l.length : Int) < kk) = false := by simpa using c2'.2
      simp only [wps_nil, wps_move, wps_assign, wps_pick, wps_binOp, wps_unOp, wps_load, wps_fieldAddr, wps_field, wps_indexAddr, wps_index, wps_lookup, wps_nilCheck, wps_extract, wps_makeFunc, wps_slice, wps_alloc, wps_box, wps_buildSlice, wps_store, wps_mapUpdate, wps_len, wps_min, wps_max, wps_app, ev_tmp, ev_cint, ev_cbool, ev_cnils, ev_cnilp, ev_cnilf, ev_cnili, ev_cnilm, ev_func, evs_nil, evs_cons, consO_some, evParts_nil, evParts_cons, consP_some, evOpt_none, evOpt_sm, someO_some, bo_some, bo2_some, e1_some, e2_some, putP_none, putP_some, vB_bool, T.get_set, reduceIte, Nat.reduceEqDiff, Nat.reduceLT, c3P, c3ng, binO_add, binO_sub, binO_mul, binO_eql, binO_neq, binO_lss, binO_leq, binO_gtr, binO_geq, unO_not, true_and, Bool.false_eq_true, if_false, if_true, forall_const, extrO, nilChk, false_implies, wps_guardG g95_12_2, vG_bool, d3, b12.load ag67, b2.load ag3]
      rw [r2.len lc67]
      simp only [wps_nil, wps_move, wps_assign, wps_pick, wps_binOp, wps_unOp, wps_load, wps_fieldAddr, wps_field, wps_indexAddr, wps_index, wps_lookup, wps_nilCheck, wps_extract, wps_makeFunc, wps_slice, wps_alloc, wps_box, wps_buildSlice, wps_store, wps_mapUpdate, wps_len, wps_min, wps_max, wps_app, ev_tmp, ev_cint, ev_cbool, ev_cnils, ev_cnilp, ev_cnilf, ev_cnili, ev_cnilm, ev_func, evs_nil, evs_cons, consO_some, evParts_nil, evParts_cons, consP_some, evOpt_none, evOpt_sm, someO_some, bo_some, bo2_some, e1_some, e2_some, putP_none, putP_some, vB_bool, T.get_set, reduceIte, Nat.reduceEqDiff, Nat.reduceLT, c3P, c3ng, binO_add, binO_sub, binO_mul, binO_eql, binO_neq, binO_lss, binO_leq, binO_gtr, binO_geq, unO_not, true_and, Bool.false_eq_true, if_false, if_true, forall_const, extrO, nilChk, false_implies, wps_guardG g95_12_2, vG_bool, d3, b12.load ag67, b2.load ag3, ints_length, d4]
      rw [w95_13]
      simp only [wps_nil, wps_move, wps_assign, wps_pick, wps_binOp, wps_unOp, wps_load, wps_fieldAddr, wps_field, wps_indexAddr, wps_index, wps_lookup, wps_nilCheck, wps_extract, wps_makeFunc, wps_slice, wps_alloc, wps_box, wps_buildSlice, wps_store, wps_mapUpdate, wps_len, wps_min, wps_max, wps_app, ev_tmp, ev_cint, ev_cbool, ev_cnils, ev_cnilp, ev_cnilf, ev_cnili, ev_cnilm, ev_func, evs_nil, evs_cons, consO_some, evParts_nil, evParts_cons, consP_some, evOpt_none, evOpt_sm, someO_some, bo_some, bo2_some, e1_some, e2_some, putP_none, putP_some, vB_bool, T.get_set, reduceIte, Nat.reduceEqDiff, Nat.reduceLT, c3P, c3ng, binO_add, binO_sub, binO_mul, binO_eql, binO_neq, binO_lss, binO_leq, binO_gtr, binO_geq, unO_not, true_and, Bool.false_eq_true, if_false, if_true, forall_const, extrO, nilChk, false_implies]
      rw [w95_17, w95_18, w95_19, w95_20]
      simp only [wps_nil, wps_move, wps_assign, wps_pick, wps_binOp, wps_unOp, wps_load, wps_fieldAddr, wps_field, wps_indexAddr, wps_index, wps_lookup, wps_nilCheck, wps_extract, wps_makeFunc, wps_slice, wps_alloc, wps_box, wps_buildSlice, wps_store, wps_mapUpdate, wps_len, wps_min, wps_max, wps_app, ev_tmp, ev_cint, ev_cbool, ev_cnils, ev_cnilp, ev_cnilf, ev_cnili, ev_cnilm, ev_func, evs_nil, evs_cons, consO_some, evParts_nil, evParts_cons, consP_some, evOpt_none, evOpt_sm, someO_some, bo_some, bo2_some, e1_some, e2_some, putP_none, putP_some, vB_bool, T.get_set, reduceIte, Nat.reduceEqDiff, Nat.reduceLT, c3P, c3ng, binO_add, binO_sub, binO_mul, binO_eql, binO_neq, binO_lss, binO_leq, binO_gtr, binO_geq, unO_not, true_and, Bool.false_eq_true, if_false, if_true, forall_const, extrO, nilChk, false_implies, b2.load ag3]
      rw [w95_21]
      simp only [wps_nil, wps_move, wps_assign, wps_pick, wps_binOp, wps_unOp, wps_load, wps_fieldAddr, wps_field, wps_indexAddr, wps_index, wps_lookup, wps_nilCheck, wps_extract, wps_makeFunc, wps_slice, wps_alloc, wps_box, wps_buildSlice, wps_store, wps_mapUpdate, wps_len, wps_min, wps_max, wps_app, ev_tmp, ev_cint, ev_cbool, ev_cnils, ev_cnilp, ev_cnilf, ev_cnili, ev_cnilm, ev_func, evs_nil, evs_cons, consO_some, evParts_nil, evParts_cons, consP_some, evOpt_none, evOpt_sm, someO_some, bo_some, bo2_some, e1_some, e2_some, putP_none, putP_some, vB_bool, T.get_set, reduceIte, Nat.reduceEqDiff, Nat.reduceLT, c3P, c3ng, binO_add, binO_sub, binO_mul, binO_eql, binO_neq, binO_lss, binO_leq, binO_gtr, binO_geq, unO_not, true_and, Bool.false_eq_true, if_false, if_true, forall_const, extrO, nilChk, false_implies, decide_eq_true_eq]
      by_cases c3 : n > kk
      · rw [if_pos c3, if_pos c3, w95_22, w95_23]
        simp only [wps_nil, wps_move, wps_assign, wps_pick, wps_binOp, wps_unOp, wps_load, wps_fieldAddr, wps_field, wps_indexAddr, wps_index, wps_lookup, wps_nilCheck, wps_extract, wps_makeFunc, wps_slice, wps_alloc, wps_box, wps_buildSlice, wps_store, wps_mapUpdate, wps_len, wps_min, wps_max, wps_app, ev_tmp, ev_cint, ev_cbool, ev_cnils, ev_cnilp, ev_cnilf, ev_cnili, ev_cnilm, ev_func, evs_nil, evs_cons, consO_some, evParts_nil, evParts_cons, consP_some, evOpt_none, evOpt_sm, someO_some, bo_some, bo2_some, e1_some, e2_some, putP_none, putP_some, vB_bool, T.get_set, reduceIte, Nat.reduceEqDiff, Nat.reduceLT, c3P, c3ng, binO_add, binO_sub, binO_mul, binO_eql, binO_neq, binO_lss, binO_leq, binO_gtr, binO_geq, unO_not, true_and, Bool.false_eq_true, if_false, if_true, forall_const, extrO, nilChk, false_implies]
        rw [w95_24, wpret, res95]
        simp only [wps_nil, wps_move, wps_assign, wps_pick, wps_binOp, wps_unOp, wps_load, wps_fieldAddr, wps_field, wps_indexAddr, wps_index, wps_lookup, wps_nilCheck, wps_extract, wps_makeFunc, wps_slice, wps_alloc, wps_box, wps_buildSlice, wps_store, wps_mapUpdate, wps_len, wps_min, wps_max, wps_app, ev_tmp, ev_cint, ev_cbool, ev_cnils, ev_cnilp, ev_cnilf, ev_cnili, ev_cnilm, ev_func, evs_nil, evs_cons, consO_some, evParts_nil, evParts_cons, consP_some, evOpt_none, evOpt_sm, someO_some, bo_some, bo2_some, e1_some, e2_some, putP_none, putP_some, vB_bool, T.get_set, reduceIte, Nat.reduceEqDiff, Nat.reduceLT, c3P, c3ng, binO_add, binO_sub, binO_mul, binO_eql, binO_neq, binO_lss, binO_leq, binO_gtr, binO_geq, unO_not, true_and, Bool.false_eq_true, if_false, if_true, forall_const, extrO, nilChk, false_implies, resultsO_nil, resultsO_tmp]
        exact ⟨kk2, rfl⟩
      · rw [if_neg c3, if_neg c3, w95_25, w95_26, w95_27]
        -- the map, and its box
        simp only [wps_nil, wps_move, wps_assign, wps_pick, wps_binOp, wps_unOp, wps_load, wps_fieldAddr, wps_field, wps_indexAddr, wps_index, wps_lookup, wps_nilCheck, wps_extract, wps_makeFunc, wps_slice, wps_alloc, wps_box, wps_buildSlice, wps_store, wps_mapUpdate, wps_len, wps_min, wps_max, wps_app, ev_tmp, ev_cint, ev_cbool, ev_cnils, ev_cnilp, ev_cnilf, ev_cnili, ev_cnilm, ev_func, evs_nil, evs_cons, consO_some, evParts_nil, evParts_cons, consP_some, evOpt_none, evOpt_sm, someO_some, bo_some, bo2_some, e1_some, e2_some, putP_none, putP_some, vB_bool, T.get_set, reduceIte, Nat.reduceEqDiff, Nat.reduceLT, c3P, c3ng, binO_add, binO_sub, binO_mul, binO_eql, binO_neq, binO_lss, binO_leq, binO_gtr, binO_geq, unO_not, true_and, Bool.false_eq_true, if_false, if_true, forall_const, extrO, nilChk, false_implies, wps_makeMap (c := K.c3) um264]
        have k3 := keep_new h2 (.map [] 0)
        have m3 : MapI (h2.new (.map [] 0)) h2.next [] := ⟨by simp, [], 0, H.get_new_same _ _, trivial⟩
        have n3 : (h2.new (.map [] 0)).next = h2.next + 1 := rfl
        generalize h2.new (.map [] 0) = h3 at *
        simp only [zo264, bo_some]
        rw [newCells_one (show V.nilm.plain = true from rfl)]
        simp only [wps_nil, wps_move, wps_assign, wps_pick, wps_binOp, wps_unOp, wps_load, wps_fieldAddr, wps_field, wps_indexAddr, wps_index, wps_lookup, wps_nilCheck, wps_extract, wps_makeFunc, wps_slice, wps_alloc, wps_box, wps_buildSlice, wps_store, wps_mapUpdate, wps_len, wps_min, wps_max, wps_app, ev_tmp, ev_cint, ev_cbool, ev_cnils, ev_cnilp, ev_cnilf, ev_cnili, ev_cnilm, ev_func, evs_nil, evs_cons, consO_some, evParts_nil, evParts_cons, consP_some, evOpt_none, evOpt_sm, someO_some, bo_some, bo2_some, e1_some, e2_some, putP_none, putP_some, vB_bool, T.get_set, reduceIte, Nat.reduceEqDiff, Nat.reduceLT, c3P, c3ng, binO_add, binO_sub, binO_mul, binO_eql, binO_neq, binO_lss, binO_leq, binO_gtr, binO_geq, unO_not, true_and, Bool.false_eq_true, if_false, if_true, forall_const, extrO, nilChk, false_implies]
        have k4 := keep_new h3 (ofCells [V.nilm])
        have b4 := box_new (h := h3) (v := V.nilm)
        have n4 : (h3.new (ofCells [V.nilm])).next = h3.next + 1 := rfl
        generalize h3.new (ofCells [V.nilm]) = h4 at *
        obtain ⟨h5, e5, b5, k5, n5⟩ := b4.store (P := Tryz.prog) so264 (show (V.map h2.next).plain = true from rfl)
        rw [e5]
        simp only [wps_nil, wps_move, wps_assign, wps_pick, wps_binOp, wps_unOp, wps_load, wps_fieldAddr, wps_field, wps_indexAddr, wps_index, wps_lookup, wps_nilCheck, wps_extract, wps_makeFunc, wps_slice, wps_alloc, wps_box, wps_buildSlice, wps_store, wps_mapUpdate, wps_len, wps_min, wps_max, wps_app, ev_tmp, ev_cint, ev_cbool, ev_cnils, ev_cnilp, ev_cnilf, ev_cnili, ev_cnilm, ev_func, evs_nil, evs_cons, consO_some, evParts_nil, evParts_cons, consP_some, evOpt_none, evOpt_sm, someO_some, bo_some, bo2_some, e1_some, e2_some, putP_none, putP_some, vB_bool, T.get_set, reduceIte, Nat.reduceEqDiff, Nat.reduceLT, c3P, c3ng, binO_add, binO_sub, binO_mul, binO_eql, binO_neq, binO_lss, binO_leq, binO_gtr, binO_geq, unO_not, true_and, Bool.false_eq_true, if_false, if_true, forall_const, extrO, nilChk, false_implies]
        rw [w95_28, w95_29]
        simp only [wps_nil, wps_move, wps_assign, wps_pick, wps_binOp, wps_unOp, wps_load, wps_fieldAddr, wps_field, wps_indexAddr, wps_index, wps_lookup, wps_nilCheck, wps_extract, wps_makeFunc, wps_slice, wps_alloc, wps_box, wps_buildSlice, wps_store, wps_mapUpdate, wps_len, wps_min, wps_max, wps_app, ev_tmp, ev_cint, ev_cbool, ev_cnils, ev_cnilp, ev_cnilf, ev_cnili, ev_cnilm, ev_func, evs_nil, evs_cons, consO_some, evParts_nil, evParts_cons, consP_some, evOpt_none, evOpt_sm, someO_some, bo_some, bo2_some, e1_some, e2_some, putP_none, putP_some, vB_bool, T.get_set, reduceIte, Nat.reduceEqDiff, Nat.reduceLT, c3P, c3ng, binO_add, binO_sub, binO_mul, binO_eql, binO_neq, binO_lss, binO_leq, binO_gtr, binO_geq, unO_not, true_and, Bool.false_eq_true, if_false, if_true, forall_const, extrO, nilChk, false_implies, zo128]
        rw [newCells_one (show V.nilf.plain = true from rfl)]
        simp only [wps_nil, wps_move, wps_assign, wps_pick, wps_binOp, wps_unOp, wps_load, wps_fieldAddr, wps_field, wps_indexAddr, wps_index, wps_lookup, wps_nilCheck, wps_extract, wps_makeFunc, wps_slice, wps_alloc, wps_box, wps_buildSlice, wps_store, wps_mapUpdate, wps_len, wps_min, wps_max, wps_app, ev_tmp, ev_cint, ev_cbool, ev_cnils, ev_cnilp, ev_cnilf, ev_cnili, ev_cnilm, ev_func, evs_nil, evs_cons, consO_some, evParts_nil, evParts_cons, consP_some, evOpt_none, evOpt_sm, someO_some, bo_some, bo2_some, e1_some, e2_some, putP_none, putP_some, vB_bool, T.get_set, reduceIte, Nat.reduceEqDiff, Nat.reduceLT, c3P, c3ng, binO_add, binO_sub, binO_mul, binO_eql, binO_neq, binO_lss, binO_leq, binO_gtr, binO_geq, unO_not, true_and, Bool.false_eq_true, if_false, if_true, forall_const, extrO, nilChk, false_implies]
        have k6 := keep_new h5 (ofCells [V.nilf])
        have b6 := box_new (h := h5) (v := V.nilf)
        have n6 : (h5.new (ofCells [V.nilf])).next = h5.next + 1 := rfl
        generalize h5.new (ofCells [V.nilf]) = h6 at *
        obtain ⟨h7, e7, b7, k7, n7⟩ := b6.store (P := Tryz.prog) so128 (show (V.func (.func 164) [] [.ptr h3.next 0, .ptr (h0.next + 1) 0]).plain = true from rfl)
        rw [e7]
        simp only [wps_nil, wps_move, wps_assign, wps_pick, wps_binOp, wps_unOp, wps_load, wps_fieldAddr, wps_field, wps_indexAddr, wps_index, wps_lookup, wps_nilCheck, wps_extract, wps_makeFunc, wps_slice, wps_alloc, wps_box, wps_buildSlice, wps_store, wps_mapUpdate, wps_len, wps_min, wps_max, wps_app, ev_tmp, ev_cint, ev_cbool, ev_cnils, ev_cnilp, ev_cnilf, ev_cnili, ev_cnilm, ev_func, evs_nil, evs_cons, consO_some, evParts_nil, evParts_cons, consP_some, evOpt_none, evOpt_sm, someO_some, bo_some, bo2_some, e1_some, e2_some, putP_none, putP_some, vB_bool, T.get_set, reduceIte, Nat.reduceEqDiff, Nat.reduceLT, c3P, c3ng, binO_add, binO_sub, binO_mul, binO_eql, binO_neq, binO_lss, binO_leq, binO_gtr, binO_geq, unO_not, true_and, Bool.false_eq_true, if_false, if_true, forall_const, extrO, nilChk, false_implies]
        have q2 : h2.next = h0.next + 2 := n2
        have q3 : h3.next = h0.next + 3 := by omega
        have q5 : h5.next = h0.next + 4 := by omega
        have kf : Keep None' h0 h7 := ((((kk2.trans k3 (fun _ _ h => h)).trans k4 (fun _ _ h => h)).trans (k5.weak (Y := fun b => h0.next ≤ b) (fun b _ hb => by omega)) (fun b hb h => by omega)).trans k6 (fun _ _ h => h.elim)).trans (k7.weak (Y := fun b => h0.next ≤ b) (fun b _ hb => by omega)) (fun b hb h => by omega)
        have up : Keep (fun b => h0.next + 3 ≤ b) h3 h7 := ((k4.weak (Y := fun b => h0.next + 3 ≤ b) (fun _ _ h => h.elim)).trans (k5.weak (Y := fun b => h0.next + 3 ≤ b) (fun b _ hb => by omega)) (fun _ _ h => h)).trans ((k6.weak (Y := fun b => h0.next + 3 ≤ b) (fun _ _ h => h.elim)).trans (k7.weak (Y := fun b => h0.next + 3 ≤ b) (fun b _ hb => by omega)) (fun _ _ h => h)) (fun _ _ h => h)
        have f1 := (b12.keep k3 (fun h => h)).keep up (by omega)
        have f2 := (b2.keep k3 (fun h => h)).keep up (by omega)
        have f3 := m3.keep up (by omega)
        have f4 := (b5.keep k6 (fun h => h)).keep k7 (by omega)
        have hF : FInv h0 s kk [] h7 := ⟨kf, by omega, f1, f2, by rw [← q2]; exact f3, by rw [← q3, ← q2]; exact f4, by rw [← q5, ← q3]; exact b7⟩
        have r7 : RowR h7 s (ints l) := r.keep kf (fun _ _ h => h)
        rw [w95_30, w95_31, w95_32]
        simp only [wps_nil, wps_move, wps_assign, wps_pick, wps_binOp, wps_unOp, wps_load, wps_fieldAddr, wps_field, wps_indexAddr, wps_index, wps_lookup, wps_nilCheck, wps_extract, wps_makeFunc, wps_slice, wps_alloc, wps_box, wps_buildSlice, wps_store, wps_mapUpdate, wps_len, wps_min, wps_max, wps_app, ev_tmp, ev_cint, ev_cbool, ev_cnils, ev_cnilp, ev_cnilf, ev_cnili, ev_cnilm, ev_func, evs_nil, evs_cons, consO_some, evParts_nil, evParts_cons, consP_some, evOpt_none, evOpt_sm, someO_some, bo_some, bo2_some, e1_some, e2_some, putP_none, putP_some, vB_bool, T.get_set, reduceIte, Nat.reduceEqDiff, Nat.reduceLT, c3P, c3ng, binO_add, binO_sub, binO_mul, binO_eql, binO_neq, binO_lss, binO_leq, binO_gtr, binO_geq, unO_not, true_and, Bool.false_eq_true, if_false, if_true, forall_const, extrO, nilChk, false_implies, f1.load ag67]
        rw [r7.len lc67]
        simp only [wps_nil, wps_move, wps_assign, wps_pick, wps_binOp, wps_unOp, wps_load, wps_fieldAddr, wps_field, wps_indexAddr, wps_index, wps_lookup, wps_nilCheck, wps_extract, wps_makeFunc, wps_slice, wps_alloc, wps_box, wps_buildSlice, wps_store, wps_mapUpdate, wps_len, wps_min, wps_max, wps_app, ev_tmp, ev_cint, ev_cbool, ev_cnils, ev_cnilp, ev_cnilf, ev_cnili, ev_cnilm, ev_func, evs_nil, evs_cons, consO_some, evParts_nil, evParts_cons, consP_some, evOpt_none, evOpt_sm, someO_some, bo_some, bo2_some, e1_some, e2_some, putP_none, putP_some, vB_bool, T.get_set, reduceIte, Nat.reduceEqDiff, Nat.reduceLT, c3P, c3ng, binO_add, binO_sub, binO_mul, binO_eql, binO_neq, binO_lss, binO_leq, binO_gtr, binO_geq, unO_not, true_and, Bool.false_eq_true, if_false, if_true, forall_const, extrO, nilChk, false_implies, ints_length]
        rw [w95_33, w95_34]
        have hloop := fair_loop (kk := kk) r hl (show 0 ≤ n by omega) hn' l.length 0
        simp only [List.drop_zero] at hloop
        refine hloop _ h7 [] (by omega) ?_ ?_ ?_ ?_ ?_ ?_ ?_ hF (fun a => ⟨by show (-1048576 : Int) ≤ -1; omega, by show (-1 : Int) ≤ 1048576; omega⟩) <;> simp only [wps_nil, wps_move, wps_assign, wps_pick, wps_binOp, wps_unOp, wps_load, wps_fieldAddr, wps_field, wps_indexAddr, wps_index, wps_lookup, wps_nilCheck, wps_extract, wps_makeFunc, wps_slice, wps_alloc, wps_box, wps_buildSlice, wps_store, wps_mapUpdate, wps_len, wps_min, wps_max, wps_app, ev_tmp, ev_cint, ev_cbool, ev_cnils, ev_cnilp, ev_cnilf, ev_cnili, ev_cnilm, ev_func, evs_nil, evs_cons, consO_some, evParts_nil, evParts_cons, consP_some, evOpt_none, evOpt_sm, someO_some, bo_some, bo2_some, e1_some, e2_some, putP_none, putP_some, vB_bool, T.get_set, reduceIte, Nat.reduceEqDiff, Nat.reduceLT, c3P, c3ng, binO_add, binO_sub, binO_mul, binO_eql, binO_neq, binO_lss, binO_leq, binO_gtr, binO_geq, unO_not, true_and, Bool.false_eq_true, if_false, if_true, forall_const, extrO, nilChk, false_implies, q3, q5]
        rfl
end K
open Go Go.Proofs Go.Fal
namespace K

/-! ## small facts -/
theorem binO_remc {P : Program} {h : H} {t : TypeId} {ox oy : Operand} {k : IntKind} {a b : Int} (hb : b ≠ 0) : binO P h .rem t ox oy (.int k a) (.int k b) = some (.int k (a.tmod b)) := by rw [binO_rem, if_neg hb]
def u8s (l : List Int) : List V := l.map fun n => .int .u8 n
@[simp] theorem u8s_length (l : List Int) : (u8s l).length = l.length := by simp [u8s]

/-- a part of a row -/
theorem row_slice {P : Program} {h h' : H} {v : V} {l : List V} (r : RowR h v l) {t : TypeId} (hz : sliceSz P t = some 1) {k k' : IntKind} {lo hi : Nat} (h1 : lo ≤ hi) (h2 : hi ≤ l.length) :
    ∃ v', sliceO P h' t v (some (.int k lo)) (some (.int k' hi)) none = some v' ∧ RowR h v' ((l.drop lo).take (hi - lo)) := by
  unfold sliceSz at hz
  split at hz
  · rename_i e hu
    rcases r with ⟨rfl, rfl⟩ | ⟨rfl, b, off, ex, rfl⟩ | ⟨b, off, cap, ex, rw_, pl, n, z, t', rfl, g0, g1, g2, g3, g4⟩
    · simp only [List.length_nil] at h2
      obtain rfl : hi = 0 := by omega
      obtain rfl : lo = 0 := by omega
      refine ⟨.nils, ?_, .inl ⟨rfl, by simp⟩⟩
      simp only [sliceO, hu, hz, boundO, asNat]
      simp
    · simp only [List.length_nil] at h2
      obtain rfl : hi = 0 := by omega
      obtain rfl : lo = 0 := by omega
      refine ⟨.slice b (off + 0 * 1) 0 0 1 ex, ?_, .inr (.inl ⟨by simp, b, off + 0 * 1, ex, rfl⟩)⟩
      simp only [sliceO, hu, hz, boundO, asNat]
      simp
    · refine ⟨.slice b (off + lo * 1) (hi - lo) (cap - lo) 1 ex, ?_, .inr <| .inr ⟨b, off + lo * 1, cap - lo, ex, rw_, pl, n, z, t', ?_, ?_, g1, g2, ?_, ?_⟩⟩
      · simp only [sliceO, hu, hz, boundO, asNat, Int.natCast_nonneg, if_true, Int.toNat_natCast]
        rw [if_pos ⟨trivial, g0, h1, by omega, Nat.le_refl _, rfl⟩]
        simp
      · simp [List.length_take, List.length_drop]; omega
      · simp [List.length_take, List.length_drop]; omega
      · simp [List.length_take, List.length_drop]; omega
      · intro i x hx
        rw [List.getElem?_take] at hx
        split at hx
        · rw [List.getElem?_drop] at hx
          have := g4 _ _ hx
          rw [Nat.mul_one, Nat.add_assoc]; exact this
        · cases hx
  · cases hz
theorem row_slice0 {P : Program} {h h' : H} {v : V} {l : List V} (r : RowR h v l) {t : TypeId} (hz : sliceSz P t = some 1) {k' : IntKind} {hi : Nat} (h2 : hi ≤ l.length) :
    ∃ v', sliceO P h' t v none (some (.int k' hi)) none = some v' ∧ RowR h v' (l.take hi) := by
  obtain ⟨v', e, r'⟩ := row_slice r (P := P) (h' := h') hz (k := .i64) (k' := k') (lo := 0) (hi := hi) (Nat.zero_le _) h2
  refine ⟨v', ?_, by simpa using r'⟩
  rw [← e]
  unfold sliceSz at hz
  split at hz
  · rename_i e hu
    rcases r with ⟨rfl, rfl⟩ | ⟨rfl, b, off, ex, rfl⟩ | ⟨b, off, cap, ex, rw_, pl, n, z, t', rfl, g0, g1, g2, g3, g4⟩
    · simp only [sliceO, hu, hz, boundO, asNat]; rfl
    · simp only [sliceO, hu, hz, boundO, asNat]; rfl
    · simp only [sliceO, hu, hz, boundO, asNat]; rfl
  · cases hz

theorem base_keep {X : Nat → Prop} {h h' : H} (k : Keep X h h') (hn : 11 ≤ h.next) (hx : ∀ b, b < 11 → ¬ X b) (hb : baseB h = true) : baseB h' = true := by
  have e : ∀ b, b < 11 → h'.get b = h.get b := fun b hb => k.2 b (by omega) (hx b hb)
  unfold baseB rowIs limIs at *
  rw [e 0 (by omega), e 1 (by omega), e 3 (by omega), e 4 (by omega), e 5 (by omega)]
  exact hb

/-- the temporaries but these are as they were -/
def Same (X : List Nat) (tm tm' : T V) : Prop := ∀ t, t ∉ X → tm'.get t = tm.get t

/-! ## the last part: Fair, and stands -/
theorem bod24 : bodyB Tryz.prog 24 = true := by kernel_rfl
theorem mem24 : c3.memo 24 [] = some (.bool true) := by kernel_rfl
def Qt : V → H → Prop := fun v _ => v = .bool true

set_option maxRecDepth 100000 in
theorem last_part {h : H} {tm : T V} {vr : V} {row : List Int} {n kk : Int} (h21 : tm.get 21 = some vr) (h24 : tm.get 24 = some (.int .i64 n)) (h25 : tm.get 25 = some (.int .i64 kk)) (h26 : tm.get 26 = some (.bool (fairP row n kk)))
    (o : Own h vr (ints row)) (hl : row.length ≤ 1000) (hn : n ≤ 1000) (hb : baseB h = true) (h11 : 11 ≤ h.next) : Wp c3 8 195 tm [.code c8_158] [] none h Qt := by
  rw [w8_158, w8_159]
  simp only [wps_nil, wps_move, wps_assign, wps_pick, wps_binOp, wps_unOp, wps_load, wps_fieldAddr, wps_field, wps_indexAddr, wps_index, wps_lookup, wps_nilCheck, wps_extract, wps_makeFunc, wps_slice, wps_alloc, wps_box, wps_buildSlice, wps_store, wps_mapUpdate, wps_len, wps_min, wps_max, wps_app, ev_tmp, ev_cint, ev_cbool, ev_cnils, ev_cnilp, ev_cnilf, ev_cnili, ev_cnilm, ev_func, evs_nil, evs_cons, consO_some, evParts_nil, evParts_cons, consP_some, evOpt_none, evOpt_sm, someO_some, bo_some, bo2_some, e1_some, e2_some, putP_none, putP_some, vB_bool, T.get_set, reduceIte, Nat.reduceEqDiff, Nat.reduceLT, c3P, c3ng, binO_add, binO_sub, binO_mul, binO_eql, binO_neq, binO_lss, binO_leq, binO_gtr, binO_geq, unO_not, true_and, Bool.false_eq_true, if_false, if_true, forall_const, extrO, nilChk, false_implies, h21]
  rw [buildSlice0 et67 so3 zo3 rfl]
  simp only [wps_nil, wps_move, wps_assign, wps_pick, wps_binOp, wps_unOp, wps_load, wps_fieldAddr, wps_field, wps_indexAddr, wps_index, wps_lookup, wps_nilCheck, wps_extract, wps_makeFunc, wps_slice, wps_alloc, wps_box, wps_buildSlice, wps_store, wps_mapUpdate, wps_len, wps_min, wps_max, wps_app, ev_tmp, ev_cint, ev_cbool, ev_cnils, ev_cnilp, ev_cnilf, ev_cnili, ev_cnilm, ev_func, evs_nil, evs_cons, consO_some, evParts_nil, evParts_cons, consP_some, evOpt_none, evOpt_sm, someO_some, bo_some, bo2_some, e1_some, e2_some, putP_none, putP_some, vB_bool, T.get_set, reduceIte, Nat.reduceEqDiff, Nat.reduceLT, c3P, c3ng, binO_add, binO_sub, binO_mul, binO_eql, binO_neq, binO_lss, binO_leq, binO_gtr, binO_geq, unO_not, true_and, Bool.false_eq_true, if_false, if_true, forall_const, extrO, nilChk, false_implies, h21]
  have k1 := keep_new h (ofCells [])
  have r1 := row_none (h := h)
  have n1 : (h.new (ofCells [])).next = h.next + 1 := rfl
  have o1 := (o.keep k1 (fun _ _ h => h)).row
  generalize h.new (ofCells []) = h1 at *
  obtain ⟨v2, h2, e2, r2, k2, _⟩ := append_empty r1 o1 el67 (ints_plain row) (by rw [ints_length]; omega) (by omega)
  rw [app_eq ap67, e2]
  simp only [wps_nil, wps_move, wps_assign, wps_pick, wps_binOp, wps_unOp, wps_load, wps_fieldAddr, wps_field, wps_indexAddr, wps_index, wps_lookup, wps_nilCheck, wps_extract, wps_makeFunc, wps_slice, wps_alloc, wps_box, wps_buildSlice, wps_store, wps_mapUpdate, wps_len, wps_min, wps_max, wps_app, ev_tmp, ev_cint, ev_cbool, ev_cnils, ev_cnilp, ev_cnilf, ev_cnili, ev_cnilm, ev_func, evs_nil, evs_cons, consO_some, evParts_nil, evParts_cons, consP_some, evOpt_none, evOpt_sm, someO_some, bo_some, bo2_some, e1_some, e2_some, putP_none, putP_some, vB_bool, T.get_set, reduceIte, Nat.reduceEqDiff, Nat.reduceLT, c3P, c3ng, binO_add, binO_sub, binO_mul, binO_eql, binO_neq, binO_lss, binO_leq, binO_gtr, binO_geq, unO_not, true_and, Bool.false_eq_true, if_false, if_true, forall_const, extrO, nilChk, false_implies, h24, h25]
  refine wps_callP (opx_call bod95 (vs := [v2, .int .i64 n, .int .i64 kk]) (by simp only [wps_nil, wps_move, wps_assign, wps_pick, wps_binOp, wps_unOp, wps_load, wps_fieldAddr, wps_field, wps_indexAddr, wps_index, wps_lookup, wps_nilCheck, wps_extract, wps_makeFunc, wps_slice, wps_alloc, wps_box, wps_buildSlice, wps_store, wps_mapUpdate, wps_len, wps_min, wps_max, wps_app, ev_tmp, ev_cint, ev_cbool, ev_cnils, ev_cnilp, ev_cnilf, ev_cnili, ev_cnilm, ev_func, evs_nil, evs_cons, consO_some, evParts_nil, evParts_cons, consP_some, evOpt_none, evOpt_sm, someO_some, bo_some, bo2_some, e1_some, e2_some, putP_none, putP_some, vB_bool, T.get_set, reduceIte, Nat.reduceEqDiff, Nat.reduceLT, c3P, c3ng, binO_add, binO_sub, binO_mul, binO_eql, binO_neq, binO_lss, binO_leq, binO_gtr, binO_geq, unO_not, true_and, Bool.false_eq_true, if_false, if_true, forall_const, extrO, nilChk, false_implies])) (fair_spec r2 (by omega) (by omega)) ?_
  rintro v h3 ⟨k3, rfl⟩
  have kk3 : Keep None' h h3 := (k1.trans k2 (fun _ _ h => h)).trans k3 (fun _ _ h => h)
  simp only [wps_nil, wps_move, wps_assign, wps_pick, wps_binOp, wps_unOp, wps_load, wps_fieldAddr, wps_field, wps_indexAddr, wps_index, wps_lookup, wps_nilCheck, wps_extract, wps_makeFunc, wps_slice, wps_alloc, wps_box, wps_buildSlice, wps_store, wps_mapUpdate, wps_len, wps_min, wps_max, wps_app, ev_tmp, ev_cint, ev_cbool, ev_cnils, ev_cnilp, ev_cnilf, ev_cnili, ev_cnilm, ev_func, evs_nil, evs_cons, consO_some, evParts_nil, evParts_cons, consP_some, evOpt_none, evOpt_sm, someO_some, bo_some, bo2_some, e1_some, e2_some, putP_none, putP_some, vB_bool, T.get_set, reduceIte, Nat.reduceEqDiff, Nat.reduceLT, c3P, c3ng, binO_add, binO_sub, binO_mul, binO_eql, binO_neq, binO_lss, binO_leq, binO_gtr, binO_geq, unO_not, true_and, Bool.false_eq_true, if_false, if_true, forall_const, extrO, nilChk, false_implies, h26, binO_beq ub4, beq_self_eq_true, wps_guardG g8_159_8, vG_bool]
  refine wps_callP (opx_call bod24 (vs := []) (by simp only [wps_nil, wps_move, wps_assign, wps_pick, wps_binOp, wps_unOp, wps_load, wps_fieldAddr, wps_field, wps_indexAddr, wps_index, wps_lookup, wps_nilCheck, wps_extract, wps_makeFunc, wps_slice, wps_alloc, wps_box, wps_buildSlice, wps_store, wps_mapUpdate, wps_len, wps_min, wps_max, wps_app, ev_tmp, ev_cint, ev_cbool, ev_cnils, ev_cnilp, ev_cnilf, ev_cnili, ev_cnilm, ev_func, evs_nil, evs_cons, consO_some, evParts_nil, evParts_cons, consP_some, evOpt_none, evOpt_sm, someO_some, bo_some, bo2_some, e1_some, e2_some, putP_none, putP_some, vB_bool, T.get_set, reduceIte, Nat.reduceEqDiff, Nat.reduceLT, c3P, c3ng, binO_add, binO_sub, binO_mul, binO_eql, binO_neq, binO_lss, binO_leq, binO_gtr, binO_geq, unO_not, true_and, Bool.false_eq_true, if_false, if_true, forall_const, extrO, nilChk, false_implies])) (P := fun v h' => v = .bool true) (wpc_memo mem24 (base_keep kk3 h11 (fun _ _ h => h) hb) rfl) ?_
  rintro v h4 rfl
  simp only [wps_nil, wps_move, wps_assign, wps_pick, wps_binOp, wps_unOp, wps_load, wps_fieldAddr, wps_field, wps_indexAddr, wps_index, wps_lookup, wps_nilCheck, wps_extract, wps_makeFunc, wps_slice, wps_alloc, wps_box, wps_buildSlice, wps_store, wps_mapUpdate, wps_len, wps_min, wps_max, wps_app, ev_tmp, ev_cint, ev_cbool, ev_cnils, ev_cnilp, ev_cnilf, ev_cnili, ev_cnilm, ev_func, evs_nil, evs_cons, consO_some, evParts_nil, evParts_cons, consP_some, evOpt_none, evOpt_sm, someO_some, bo_some, bo2_some, e1_some, e2_some, putP_none, putP_some, vB_bool, T.get_set, reduceIte, Nat.reduceEqDiff, Nat.reduceLT, c3P, c3ng, binO_add, binO_sub, binO_mul, binO_eql, binO_neq, binO_lss, binO_leq, binO_gtr, binO_geq, unO_not, true_and, Bool.false_eq_true, if_false, if_true, forall_const, extrO, nilChk, false_implies]
  rw [w8_160, wpret, res8]
  simp only [wps_nil, wps_move, wps_assign, wps_pick, wps_binOp, wps_unOp, wps_load, wps_fieldAddr, wps_field, wps_indexAddr, wps_index, wps_lookup, wps_nilCheck, wps_extract, wps_makeFunc, wps_slice, wps_alloc, wps_box, wps_buildSlice, wps_store, wps_mapUpdate, wps_len, wps_min, wps_max, wps_app, ev_tmp, ev_cint, ev_cbool, ev_cnils, ev_cnilp, ev_cnilf, ev_cnili, ev_cnilm, ev_func, evs_nil, evs_cons, consO_some, evParts_nil, evParts_cons, consP_some, evOpt_none, evOpt_sm, someO_some, bo_some, bo2_some, e1_some, e2_some, putP_none, putP_some, vB_bool, T.get_set, reduceIte, Nat.reduceEqDiff, Nat.reduceLT, c3P, c3ng, binO_add, binO_sub, binO_mul, binO_eql, binO_neq, binO_lss, binO_leq, binO_gtr, binO_geq, unO_not, true_and, Bool.false_eq_true, if_false, if_true, forall_const, extrO, nilChk, false_implies, resultsO_nil, resultsO_tmp]
  rfl
end K
open Go Go.Proofs Go.Fal
namespace K

theorem bool_or (b : Bool) (p : Prop) [Decidable p] : (if b = true then V.bool true else V.bool (decide p)) = V.bool (b || decide p) := by cases b <;> rfl

section
variable {h : H} {Q : V → H → Prop} {rest : List Item}

set_option maxRecDepth 100000 in
/-- is it there? -/
theorem there_loop {vs : V} {w : List Int} {a : Int} (r : RowR h vs (ints w)) (hl : w.length ≤ 1000) : ∀ (q i : Nat) (tm : T V), i + q = w.length → tm.get 166 = some vs → tm.get 167 = some (.int .i64 w.length) → tm.get 168 = some (.int .i64 i) → tm.get 28 = some (.int .i64 a) →
    tm.get 29 = some (.bool ((w.take i).any fun x => decide (x = a))) →
    (∀ tm', Same [169, 170, 171, 31, 172, 173, 174, 175, 176, 177, 29, 178, 168] tm tm' → tm'.get 29 = some (.bool (w.any fun x => decide (x = a))) → Wp c3 8 195 tm' rest [] none h Q) →
    Wp c3 8 195 tm (.code c8_143 :: .inLoop c8_143 :: .inBlock 10 :: rest) [] none h Q := by
  intro q
  induction q with
  | zero =>
    intro i tm hi t166 t167 t168 t28 t29 hk
    obtain rfl : i = w.length := by omega
    rw [w8_143, w8_144]
    simp only [wps_nil, wps_move, wps_assign, wps_pick, wps_binOp, wps_unOp, wps_load, wps_fieldAddr, wps_field, wps_indexAddr, wps_index, wps_lookup, wps_nilCheck, wps_extract, wps_makeFunc, wps_slice, wps_alloc, wps_box, wps_buildSlice, wps_store, wps_mapUpdate, wps_len, wps_min, wps_max, wps_app, ev_tmp, ev_cint, ev_cbool, ev_cnils, ev_cnilp, ev_cnilf, ev_cnili, ev_cnilm, ev_func, evs_nil, evs_cons, consO_some, evParts_nil, evParts_cons, consP_some, evOpt_none, evOpt_sm, someO_some, bo_some, bo2_some, e1_some, e2_some, putP_none, putP_some, vB_bool, T.get_set, reduceIte, Nat.reduceEqDiff, Nat.reduceLT, c3P, c3ng, binO_add, binO_sub, binO_mul, binO_eql, binO_neq, binO_lss, binO_leq, binO_gtr, binO_geq, unO_not, true_and, Bool.false_eq_true, if_false, if_true, forall_const, extrO, nilChk, false_implies, t167, t168]
    rw [w8_145, w8_146]
    simp only [wps_nil, wps_move, wps_assign, wps_pick, wps_binOp, wps_unOp, wps_load, wps_fieldAddr, wps_field, wps_indexAddr, wps_index, wps_lookup, wps_nilCheck, wps_extract, wps_makeFunc, wps_slice, wps_alloc, wps_box, wps_buildSlice, wps_store, wps_mapUpdate, wps_len, wps_min, wps_max, wps_app, ev_tmp, ev_cint, ev_cbool, ev_cnils, ev_cnilp, ev_cnilf, ev_cnili, ev_cnilm, ev_func, evs_nil, evs_cons, consO_some, evParts_nil, evParts_cons, consP_some, evOpt_none, evOpt_sm, someO_some, bo_some, bo2_some, e1_some, e2_some, putP_none, putP_some, vB_bool, T.get_set, reduceIte, Nat.reduceEqDiff, Nat.reduceLT, c3P, c3ng, binO_add, binO_sub, binO_mul, binO_eql, binO_neq, binO_lss, binO_leq, binO_gtr, binO_geq, unO_not, true_and, Bool.false_eq_true, if_false, if_true, forall_const, extrO, nilChk, false_implies, Int.lt_irrefl, decide_false]
    rw [w8_148, wp_exit_code, wp_exit_loop, wp_exit_here]
    refine hk _ ?_ ?_
    · intro t ht
      simp only [List.mem_cons, List.not_mem_nil, or_false, not_or] at ht
      simp only [T.get_set, ht, if_false]
    · rw [List.take_length] at t29
      simp only [wps_nil, wps_move, wps_assign, wps_pick, wps_binOp, wps_unOp, wps_load, wps_fieldAddr, wps_field, wps_indexAddr, wps_index, wps_lookup, wps_nilCheck, wps_extract, wps_makeFunc, wps_slice, wps_alloc, wps_box, wps_buildSlice, wps_store, wps_mapUpdate, wps_len, wps_min, wps_max, wps_app, ev_tmp, ev_cint, ev_cbool, ev_cnils, ev_cnilp, ev_cnilf, ev_cnili, ev_cnilm, ev_func, evs_nil, evs_cons, consO_some, evParts_nil, evParts_cons, consP_some, evOpt_none, evOpt_sm, someO_some, bo_some, bo2_some, e1_some, e2_some, putP_none, putP_some, vB_bool, T.get_set, reduceIte, Nat.reduceEqDiff, Nat.reduceLT, c3P, c3ng, binO_add, binO_sub, binO_mul, binO_eql, binO_neq, binO_lss, binO_leq, binO_gtr, binO_geq, unO_not, true_and, Bool.false_eq_true, if_false, if_true, forall_const, extrO, nilChk, false_implies, t29]
  | succ q ih =>
    intro i tm hi t166 t167 t168 t28 t29 hk
    have hlt : i < w.length := by omega
    have hd : decide ((i : Int) < (w.length : Int)) = true := by simpa using hlt
    have hw : IntKind.i64.wrap ((i : Int) + 1) = ((i + 1 : Nat) : Int) := by rw [wrap64 (by omega) (by omega)]; omega
    have htk : (w.take (i + 1)).any (fun x => decide (x = a)) = ((w.take i).any (fun x => decide (x = a)) || decide (w[i] = a)) := by
      rw [List.take_succ_eq_append_getElem hlt, List.any_append]; simp only [List.any_cons, List.any_nil, Bool.or_false]
    rw [w8_143, w8_144]
    simp only [wps_nil, wps_move, wps_assign, wps_pick, wps_binOp, wps_unOp, wps_load, wps_fieldAddr, wps_field, wps_indexAddr, wps_index, wps_lookup, wps_nilCheck, wps_extract, wps_makeFunc, wps_slice, wps_alloc, wps_box, wps_buildSlice, wps_store, wps_mapUpdate, wps_len, wps_min, wps_max, wps_app, ev_tmp, ev_cint, ev_cbool, ev_cnils, ev_cnilp, ev_cnilf, ev_cnili, ev_cnilm, ev_func, evs_nil, evs_cons, consO_some, evParts_nil, evParts_cons, consP_some, evOpt_none, evOpt_sm, someO_some, bo_some, bo2_some, e1_some, e2_some, putP_none, putP_some, vB_bool, T.get_set, reduceIte, Nat.reduceEqDiff, Nat.reduceLT, c3P, c3ng, binO_add, binO_sub, binO_mul, binO_eql, binO_neq, binO_lss, binO_leq, binO_gtr, binO_geq, unO_not, true_and, Bool.false_eq_true, if_false, if_true, forall_const, extrO, nilChk, false_implies, t167, t168]
    rw [w8_145, w8_146]
    simp only [wps_nil, wps_move, wps_assign, wps_pick, wps_binOp, wps_unOp, wps_load, wps_fieldAddr, wps_field, wps_indexAddr, wps_index, wps_lookup, wps_nilCheck, wps_extract, wps_makeFunc, wps_slice, wps_alloc, wps_box, wps_buildSlice, wps_store, wps_mapUpdate, wps_len, wps_min, wps_max, wps_app, ev_tmp, ev_cint, ev_cbool, ev_cnils, ev_cnilp, ev_cnilf, ev_cnili, ev_cnilm, ev_func, evs_nil, evs_cons, consO_some, evParts_nil, evParts_cons, consP_some, evOpt_none, evOpt_sm, someO_some, bo_some, bo2_some, e1_some, e2_some, putP_none, putP_some, vB_bool, T.get_set, reduceIte, Nat.reduceEqDiff, Nat.reduceLT, c3P, c3ng, binO_add, binO_sub, binO_mul, binO_eql, binO_neq, binO_lss, binO_leq, binO_gtr, binO_geq, unO_not, true_and, Bool.false_eq_true, if_false, if_true, forall_const, extrO, nilChk, false_implies, hd]
    rw [w8_147, w8_149, w8_150, w8_151, w8_152]
    simp only [wps_nil, wps_move, wps_assign, wps_pick, wps_binOp, wps_unOp, wps_load, wps_fieldAddr, wps_field, wps_indexAddr, wps_index, wps_lookup, wps_nilCheck, wps_extract, wps_makeFunc, wps_slice, wps_alloc, wps_box, wps_buildSlice, wps_store, wps_mapUpdate, wps_len, wps_min, wps_max, wps_app, ev_tmp, ev_cint, ev_cbool, ev_cnils, ev_cnilp, ev_cnilf, ev_cnili, ev_cnilm, ev_func, evs_nil, evs_cons, consO_some, evParts_nil, evParts_cons, consP_some, evOpt_none, evOpt_sm, someO_some, bo_some, bo2_some, e1_some, e2_some, putP_none, putP_some, vB_bool, T.get_set, reduceIte, Nat.reduceEqDiff, Nat.reduceLT, c3P, c3ng, binO_add, binO_sub, binO_mul, binO_eql, binO_neq, binO_lss, binO_leq, binO_gtr, binO_geq, unO_not, true_and, Bool.false_eq_true, if_false, if_true, forall_const, extrO, nilChk, false_implies, t166, t168]
    rw [r.addr sz67 (by simpa using hlt)]
    simp only [wps_nil, wps_move, wps_assign, wps_pick, wps_binOp, wps_unOp, wps_load, wps_fieldAddr, wps_field, wps_indexAddr, wps_index, wps_lookup, wps_nilCheck, wps_extract, wps_makeFunc, wps_slice, wps_alloc, wps_box, wps_buildSlice, wps_store, wps_mapUpdate, wps_len, wps_min, wps_max, wps_app, ev_tmp, ev_cint, ev_cbool, ev_cnils, ev_cnilp, ev_cnilf, ev_cnili, ev_cnilm, ev_func, evs_nil, evs_cons, consO_some, evParts_nil, evParts_cons, consP_some, evOpt_none, evOpt_sm, someO_some, bo_some, bo2_some, e1_some, e2_some, putP_none, putP_some, vB_bool, T.get_set, reduceIte, Nat.reduceEqDiff, Nat.reduceLT, c3P, c3ng, binO_add, binO_sub, binO_mul, binO_eql, binO_neq, binO_lss, binO_leq, binO_gtr, binO_geq, unO_not, true_and, Bool.false_eq_true, if_false, if_true, forall_const, extrO, nilChk, false_implies]
    rw [r.load ag3 (by simpa using hlt)]
    simp only [wps_nil, wps_move, wps_assign, wps_pick, wps_binOp, wps_unOp, wps_load, wps_fieldAddr, wps_field, wps_indexAddr, wps_index, wps_lookup, wps_nilCheck, wps_extract, wps_makeFunc, wps_slice, wps_alloc, wps_box, wps_buildSlice, wps_store, wps_mapUpdate, wps_len, wps_min, wps_max, wps_app, ev_tmp, ev_cint, ev_cbool, ev_cnils, ev_cnilp, ev_cnilf, ev_cnili, ev_cnilm, ev_func, evs_nil, evs_cons, consO_some, evParts_nil, evParts_cons, consP_some, evOpt_none, evOpt_sm, someO_some, bo_some, bo2_some, e1_some, e2_some, putP_none, putP_some, vB_bool, T.get_set, reduceIte, Nat.reduceEqDiff, Nat.reduceLT, c3P, c3ng, binO_add, binO_sub, binO_mul, binO_eql, binO_neq, binO_lss, binO_leq, binO_gtr, binO_geq, unO_not, true_and, Bool.false_eq_true, if_false, if_true, forall_const, extrO, nilChk, false_implies, ints, List.getElem_map]
    rw [w8_153]
    cases hb : (w.take i).any (fun x => decide (x = a)) with
    | true =>
      rw [hb] at t29 htk
      simp only [wps_nil, wps_move, wps_assign, wps_pick, wps_binOp, wps_unOp, wps_load, wps_fieldAddr, wps_field, wps_indexAddr, wps_index, wps_lookup, wps_nilCheck, wps_extract, wps_makeFunc, wps_slice, wps_alloc, wps_box, wps_buildSlice, wps_store, wps_mapUpdate, wps_len, wps_min, wps_max, wps_app, ev_tmp, ev_cint, ev_cbool, ev_cnils, ev_cnilp, ev_cnilf, ev_cnili, ev_cnilm, ev_func, evs_nil, evs_cons, consO_some, evParts_nil, evParts_cons, consP_some, evOpt_none, evOpt_sm, someO_some, bo_some, bo2_some, e1_some, e2_some, putP_none, putP_some, vB_bool, T.get_set, reduceIte, Nat.reduceEqDiff, Nat.reduceLT, c3P, c3ng, binO_add, binO_sub, binO_mul, binO_eql, binO_neq, binO_lss, binO_leq, binO_gtr, binO_geq, unO_not, true_and, Bool.false_eq_true, if_false, if_true, forall_const, extrO, nilChk, false_implies, wps_guardG g8_153_1, vG_bool, t29, t28, reduceCtorEq]
      rw [Fal.wp_inBlock, w8_154]
      simp only [wps_nil, wps_move, wps_assign, wps_pick, wps_binOp, wps_unOp, wps_load, wps_fieldAddr, wps_field, wps_indexAddr, wps_index, wps_lookup, wps_nilCheck, wps_extract, wps_makeFunc, wps_slice, wps_alloc, wps_box, wps_buildSlice, wps_store, wps_mapUpdate, wps_len, wps_min, wps_max, wps_app, ev_tmp, ev_cint, ev_cbool, ev_cnils, ev_cnilp, ev_cnilf, ev_cnili, ev_cnilm, ev_func, evs_nil, evs_cons, consO_some, evParts_nil, evParts_cons, consP_some, evOpt_none, evOpt_sm, someO_some, bo_some, bo2_some, e1_some, e2_some, putP_none, putP_some, vB_bool, T.get_set, reduceIte, Nat.reduceEqDiff, Nat.reduceLT, c3P, c3ng, binO_add, binO_sub, binO_mul, binO_eql, binO_neq, binO_lss, binO_leq, binO_gtr, binO_geq, unO_not, true_and, Bool.false_eq_true, if_false, if_true, forall_const, extrO, nilChk, false_implies, t168, hw]
      rw [Fal.wp_inLoop]
      refine ih (i + 1) _ (by omega) ?_ ?_ ?_ ?_ ?_ ?_ <;> (try simp only [wps_nil, wps_move, wps_assign, wps_pick, wps_binOp, wps_unOp, wps_load, wps_fieldAddr, wps_field, wps_indexAddr, wps_index, wps_lookup, wps_nilCheck, wps_extract, wps_makeFunc, wps_slice, wps_alloc, wps_box, wps_buildSlice, wps_store, wps_mapUpdate, wps_len, wps_min, wps_max, wps_app, ev_tmp, ev_cint, ev_cbool, ev_cnils, ev_cnilp, ev_cnilf, ev_cnili, ev_cnilm, ev_func, evs_nil, evs_cons, consO_some, evParts_nil, evParts_cons, consP_some, evOpt_none, evOpt_sm, someO_some, bo_some, bo2_some, e1_some, e2_some, putP_none, putP_some, vB_bool, T.get_set, reduceIte, Nat.reduceEqDiff, Nat.reduceLT, c3P, c3ng, binO_add, binO_sub, binO_mul, binO_eql, binO_neq, binO_lss, binO_leq, binO_gtr, binO_geq, unO_not, true_and, Bool.false_eq_true, if_false, if_true, forall_const, extrO, nilChk, false_implies, t166, t167, t28, htk, Bool.true_or])
      intro tm' hs
      refine hk tm' ?_
      intro t ht
      rw [hs t ht]
      simp only [List.mem_cons, List.not_mem_nil, or_false, not_or] at ht
      simp only [T.get_set, ht, if_false]
    | false =>
      rw [hb] at t29 htk
      simp only [wps_nil, wps_move, wps_assign, wps_pick, wps_binOp, wps_unOp, wps_load, wps_fieldAddr, wps_field, wps_indexAddr, wps_index, wps_lookup, wps_nilCheck, wps_extract, wps_makeFunc, wps_slice, wps_alloc, wps_box, wps_buildSlice, wps_store, wps_mapUpdate, wps_len, wps_min, wps_max, wps_app, ev_tmp, ev_cint, ev_cbool, ev_cnils, ev_cnilp, ev_cnilf, ev_cnili, ev_cnilm, ev_func, evs_nil, evs_cons, consO_some, evParts_nil, evParts_cons, consP_some, evOpt_none, evOpt_sm, someO_some, bo_some, bo2_some, e1_some, e2_some, putP_none, putP_some, vB_bool, T.get_set, reduceIte, Nat.reduceEqDiff, Nat.reduceLT, c3P, c3ng, binO_add, binO_sub, binO_mul, binO_eql, binO_neq, binO_lss, binO_leq, binO_gtr, binO_geq, unO_not, true_and, Bool.false_eq_true, if_false, if_true, forall_const, extrO, nilChk, false_implies, wps_guardG g8_153_1, vG_bool, t29, t28, reduceCtorEq]
      rw [Fal.wp_inBlock, w8_154]
      simp only [wps_nil, wps_move, wps_assign, wps_pick, wps_binOp, wps_unOp, wps_load, wps_fieldAddr, wps_field, wps_indexAddr, wps_index, wps_lookup, wps_nilCheck, wps_extract, wps_makeFunc, wps_slice, wps_alloc, wps_box, wps_buildSlice, wps_store, wps_mapUpdate, wps_len, wps_min, wps_max, wps_app, ev_tmp, ev_cint, ev_cbool, ev_cnils, ev_cnilp, ev_cnilf, ev_cnili, ev_cnilm, ev_func, evs_nil, evs_cons, consO_some, evParts_nil, evParts_cons, consP_some, evOpt_none, evOpt_sm, someO_some, bo_some, bo2_some, e1_some, e2_some, putP_none, putP_some, vB_bool, T.get_set, reduceIte, Nat.reduceEqDiff, Nat.reduceLT, c3P, c3ng, binO_add, binO_sub, binO_mul, binO_eql, binO_neq, binO_lss, binO_leq, binO_gtr, binO_geq, unO_not, true_and, Bool.false_eq_true, if_false, if_true, forall_const, extrO, nilChk, false_implies, t168, hw]
      rw [Fal.wp_inLoop]
      refine ih (i + 1) _ (by omega) ?_ ?_ ?_ ?_ ?_ ?_ <;> (try simp only [wps_nil, wps_move, wps_assign, wps_pick, wps_binOp, wps_unOp, wps_load, wps_fieldAddr, wps_field, wps_indexAddr, wps_index, wps_lookup, wps_nilCheck, wps_extract, wps_makeFunc, wps_slice, wps_alloc, wps_box, wps_buildSlice, wps_store, wps_mapUpdate, wps_len, wps_min, wps_max, wps_app, ev_tmp, ev_cint, ev_cbool, ev_cnils, ev_cnilp, ev_cnilf, ev_cnili, ev_cnilm, ev_func, evs_nil, evs_cons, consO_some, evParts_nil, evParts_cons, consP_some, evOpt_none, evOpt_sm, someO_some, bo_some, bo2_some, e1_some, e2_some, putP_none, putP_some, vB_bool, T.get_set, reduceIte, Nat.reduceEqDiff, Nat.reduceLT, c3P, c3ng, binO_add, binO_sub, binO_mul, binO_eql, binO_neq, binO_lss, binO_leq, binO_gtr, binO_geq, unO_not, true_and, Bool.false_eq_true, if_false, if_true, forall_const, extrO, nilChk, false_implies, t166, t167, t28, htk, Bool.false_or])
      intro tm' hs
      refine hk tm' ?_
      intro t ht
      rw [hs t ht]
      simp only [List.mem_cons, List.not_mem_nil, or_false, not_or] at ht
      simp only [T.get_set, ht, if_false]

/-- is an agent in the window from a place on? -/
def inW (row : List Int) (k f : Nat) (a : Nat) : Bool := ((row.drop f).take k).any fun x => decide (x = (a : Int))
/-- are all? -/
def okW (row : List Int) (n k f : Nat) : Bool := (List.range n).all fun a => inW row k f a
/-- all windows from one on -/
def allW (row : List Int) (n k f : Nat) : Bool := (List.range (row.length + 1 - k - f)).all fun d => okW row n k (f + d)

set_option maxRecDepth 100000 in
/-- are all in a window? -/
theorem window_loop {vr : V} {row : List Int} {n k f : Nat} {fair : Bool} (r : RowR h vr (ints row)) (hl : row.length ≤ 1000) (hf : f + k ≤ row.length) (hn : n ≤ 1000) : ∀ (q a : Nat) (tm : T V), a + q = n → tm.get 21 = some vr → tm.get 25 = some (.int .i64 k) → tm.get 27 = some (.int .i64 f) →
    tm.get 157 = some (.int .i64 n) → tm.get 158 = some (.int .i64 a) → tm.get 26 = some (.bool (fair && (List.range a).all fun a => inW row k f a)) →
    (∀ tm', (∀ t, t ≤ 25 ∨ t = 27 → tm'.get t = tm.get t) → tm'.get 26 = some (.bool (fair && okW row n k f)) → Wp c3 8 195 tm' rest [] none h Q) →
    Wp c3 8 195 tm (.code c8_126 :: .inLoop c8_126 :: .inBlock 8 :: rest) [] none h Q := by
  intro q
  induction q with
  | zero =>
    intro a tm ha t21 t25 t27 t157 t158 t26 hk
    obtain rfl : a = n := by omega
    rw [w8_126, w8_127]
    simp only [wps_nil, wps_move, wps_assign, wps_pick, wps_binOp, wps_unOp, wps_load, wps_fieldAddr, wps_field, wps_indexAddr, wps_index, wps_lookup, wps_nilCheck, wps_extract, wps_makeFunc, wps_slice, wps_alloc, wps_box, wps_buildSlice, wps_store, wps_mapUpdate, wps_len, wps_min, wps_max, wps_app, ev_tmp, ev_cint, ev_cbool, ev_cnils, ev_cnilp, ev_cnilf, ev_cnili, ev_cnilm, ev_func, evs_nil, evs_cons, consO_some, evParts_nil, evParts_cons, consP_some, evOpt_none, evOpt_sm, someO_some, bo_some, bo2_some, e1_some, e2_some, putP_none, putP_some, vB_bool, T.get_set, reduceIte, Nat.reduceEqDiff, Nat.reduceLT, c3P, c3ng, binO_add, binO_sub, binO_mul, binO_eql, binO_neq, binO_lss, binO_leq, binO_gtr, binO_geq, unO_not, true_and, Bool.false_eq_true, if_false, if_true, forall_const, extrO, nilChk, false_implies, t157, t158]
    rw [w8_128, w8_129]
    simp only [wps_nil, wps_move, wps_assign, wps_pick, wps_binOp, wps_unOp, wps_load, wps_fieldAddr, wps_field, wps_indexAddr, wps_index, wps_lookup, wps_nilCheck, wps_extract, wps_makeFunc, wps_slice, wps_alloc, wps_box, wps_buildSlice, wps_store, wps_mapUpdate, wps_len, wps_min, wps_max, wps_app, ev_tmp, ev_cint, ev_cbool, ev_cnils, ev_cnilp, ev_cnilf, ev_cnili, ev_cnilm, ev_func, evs_nil, evs_cons, consO_some, evParts_nil, evParts_cons, consP_some, evOpt_none, evOpt_sm, someO_some, bo_some, bo2_some, e1_some, e2_some, putP_none, putP_some, vB_bool, T.get_set, reduceIte, Nat.reduceEqDiff, Nat.reduceLT, c3P, c3ng, binO_add, binO_sub, binO_mul, binO_eql, binO_neq, binO_lss, binO_leq, binO_gtr, binO_geq, unO_not, true_and, Bool.false_eq_true, if_false, if_true, forall_const, extrO, nilChk, false_implies, Int.lt_irrefl, decide_false]
    rw [w8_131, wp_exit_code, wp_exit_loop, wp_exit_here]
    refine hk _ (fun t ht => ?_) ?_
    · have : t ≠ 159 := by omega
      simp only [T.get_set, this, if_false]
    · simp only [wps_nil, wps_move, wps_assign, wps_pick, wps_binOp, wps_unOp, wps_load, wps_fieldAddr, wps_field, wps_indexAddr, wps_index, wps_lookup, wps_nilCheck, wps_extract, wps_makeFunc, wps_slice, wps_alloc, wps_box, wps_buildSlice, wps_store, wps_mapUpdate, wps_len, wps_min, wps_max, wps_app, ev_tmp, ev_cint, ev_cbool, ev_cnils, ev_cnilp, ev_cnilf, ev_cnili, ev_cnilm, ev_func, evs_nil, evs_cons, consO_some, evParts_nil, evParts_cons, consP_some, evOpt_none, evOpt_sm, someO_some, bo_some, bo2_some, e1_some, e2_some, putP_none, putP_some, vB_bool, T.get_set, reduceIte, Nat.reduceEqDiff, Nat.reduceLT, c3P, c3ng, binO_add, binO_sub, binO_mul, binO_eql, binO_neq, binO_lss, binO_leq, binO_gtr, binO_geq, unO_not, true_and, Bool.false_eq_true, if_false, if_true, forall_const, extrO, nilChk, false_implies, t26, okW]
  | succ q ih =>
    intro a tm ha t21 t25 t27 t157 t158 t26 hk
    have hlt : a < n := by omega
    have hd : decide ((a : Int) < (n : Int)) = true := by simpa using hlt
    have hw : IntKind.i64.wrap ((a : Int) + 1) = ((a + 1 : Nat) : Int) := by rw [wrap64 (by omega) (by omega)]; omega
    have hw2 : IntKind.i64.wrap ((f : Int) + (k : Int)) = ((f + k : Nat) : Int) := by rw [wrap64 (by omega) (by omega)]; omega
    rw [w8_126, w8_127]
    simp only [wps_nil, wps_move, wps_assign, wps_pick, wps_binOp, wps_unOp, wps_load, wps_fieldAddr, wps_field, wps_indexAddr, wps_index, wps_lookup, wps_nilCheck, wps_extract, wps_makeFunc, wps_slice, wps_alloc, wps_box, wps_buildSlice, wps_store, wps_mapUpdate, wps_len, wps_min, wps_max, wps_app, ev_tmp, ev_cint, ev_cbool, ev_cnils, ev_cnilp, ev_cnilf, ev_cnili, ev_cnilm, ev_func, evs_nil, evs_cons, consO_some, evParts_nil, evParts_cons, consP_some, evOpt_none, evOpt_sm, someO_some, bo_some, bo2_some, e1_some, e2_some, putP_none, putP_some, vB_bool, T.get_set, reduceIte, Nat.reduceEqDiff, Nat.reduceLT, c3P, c3ng, binO_add, binO_sub, binO_mul, binO_eql, binO_neq, binO_lss, binO_leq, binO_gtr, binO_geq, unO_not, true_and, Bool.false_eq_true, if_false, if_true, forall_const, extrO, nilChk, false_implies, t157, t158]
    rw [w8_128, w8_129]
    simp only [wps_nil, wps_move, wps_assign, wps_pick, wps_binOp, wps_unOp, wps_load, wps_fieldAddr, wps_field, wps_indexAddr, wps_index, wps_lookup, wps_nilCheck, wps_extract, wps_makeFunc, wps_slice, wps_alloc, wps_box, wps_buildSlice, wps_store, wps_mapUpdate, wps_len, wps_min, wps_max, wps_app, ev_tmp, ev_cint, ev_cbool, ev_cnils, ev_cnilp, ev_cnilf, ev_cnili, ev_cnilm, ev_func, evs_nil, evs_cons, consO_some, evParts_nil, evParts_cons, consP_some, evOpt_none, evOpt_sm, someO_some, bo_some, bo2_some, e1_some, e2_some, putP_none, putP_some, vB_bool, T.get_set, reduceIte, Nat.reduceEqDiff, Nat.reduceLT, c3P, c3ng, binO_add, binO_sub, binO_mul, binO_eql, binO_neq, binO_lss, binO_leq, binO_gtr, binO_geq, unO_not, true_and, Bool.false_eq_true, if_false, if_true, forall_const, extrO, nilChk, false_implies, hd]
    rw [w8_130, w8_132, w8_133, w8_134, w8_135]
    simp only [wps_nil, wps_move, wps_assign, wps_pick, wps_binOp, wps_unOp, wps_load, wps_fieldAddr, wps_field, wps_indexAddr, wps_index, wps_lookup, wps_nilCheck, wps_extract, wps_makeFunc, wps_slice, wps_alloc, wps_box, wps_buildSlice, wps_store, wps_mapUpdate, wps_len, wps_min, wps_max, wps_app, ev_tmp, ev_cint, ev_cbool, ev_cnils, ev_cnilp, ev_cnilf, ev_cnili, ev_cnilm, ev_func, evs_nil, evs_cons, consO_some, evParts_nil, evParts_cons, consP_some, evOpt_none, evOpt_sm, someO_some, bo_some, bo2_some, e1_some, e2_some, putP_none, putP_some, vB_bool, T.get_set, reduceIte, Nat.reduceEqDiff, Nat.reduceLT, c3P, c3ng, binO_add, binO_sub, binO_mul, binO_eql, binO_neq, binO_lss, binO_leq, binO_gtr, binO_geq, unO_not, true_and, Bool.false_eq_true, if_false, if_true, forall_const, extrO, nilChk, false_implies, t158]
    rw [w8_136, w8_137]
    simp only [wps_nil, wps_move, wps_assign, wps_pick, wps_binOp, wps_unOp, wps_load, wps_fieldAddr, wps_field, wps_indexAddr, wps_index, wps_lookup, wps_nilCheck, wps_extract, wps_makeFunc, wps_slice, wps_alloc, wps_box, wps_buildSlice, wps_store, wps_mapUpdate, wps_len, wps_min, wps_max, wps_app, ev_tmp, ev_cint, ev_cbool, ev_cnils, ev_cnilp, ev_cnilf, ev_cnili, ev_cnilm, ev_func, evs_nil, evs_cons, consO_some, evParts_nil, evParts_cons, consP_some, evOpt_none, evOpt_sm, someO_some, bo_some, bo2_some, e1_some, e2_some, putP_none, putP_some, vB_bool, T.get_set, reduceIte, Nat.reduceEqDiff, Nat.reduceLT, c3P, c3ng, binO_add, binO_sub, binO_mul, binO_eql, binO_neq, binO_lss, binO_leq, binO_gtr, binO_geq, unO_not, true_and, Bool.false_eq_true, if_false, if_true, forall_const, extrO, nilChk, false_implies]
    rw [w8_138, w8_139, w8_140]
    simp only [wps_nil, wps_move, wps_assign, wps_pick, wps_binOp, wps_unOp, wps_load, wps_fieldAddr, wps_field, wps_indexAddr, wps_index, wps_lookup, wps_nilCheck, wps_extract, wps_makeFunc, wps_slice, wps_alloc, wps_box, wps_buildSlice, wps_store, wps_mapUpdate, wps_len, wps_min, wps_max, wps_app, ev_tmp, ev_cint, ev_cbool, ev_cnils, ev_cnilp, ev_cnilf, ev_cnili, ev_cnilm, ev_func, evs_nil, evs_cons, consO_some, evParts_nil, evParts_cons, consP_some, evOpt_none, evOpt_sm, someO_some, bo_some, bo2_some, e1_some, e2_some, putP_none, putP_some, vB_bool, T.get_set, reduceIte, Nat.reduceEqDiff, Nat.reduceLT, c3P, c3ng, binO_add, binO_sub, binO_mul, binO_eql, binO_neq, binO_lss, binO_leq, binO_gtr, binO_geq, unO_not, true_and, Bool.false_eq_true, if_false, if_true, forall_const, extrO, nilChk, false_implies, t21, t25, t27, hw2]
    obtain ⟨v', e, r'⟩ := row_slice r (P := Tryz.prog) (h' := h) sz67 (k := .i64) (k' := .i64) (lo := f) (hi := f + k) (by omega) (by simpa using hf)
    rw [e]
    simp only [wps_nil, wps_move, wps_assign, wps_pick, wps_binOp, wps_unOp, wps_load, wps_fieldAddr, wps_field, wps_indexAddr, wps_index, wps_lookup, wps_nilCheck, wps_extract, wps_makeFunc, wps_slice, wps_alloc, wps_box, wps_buildSlice, wps_store, wps_mapUpdate, wps_len, wps_min, wps_max, wps_app, ev_tmp, ev_cint, ev_cbool, ev_cnils, ev_cnilp, ev_cnilf, ev_cnili, ev_cnilm, ev_func, evs_nil, evs_cons, consO_some, evParts_nil, evParts_cons, consP_some, evOpt_none, evOpt_sm, someO_some, bo_some, bo2_some, e1_some, e2_some, putP_none, putP_some, vB_bool, T.get_set, reduceIte, Nat.reduceEqDiff, Nat.reduceLT, c3P, c3ng, binO_add, binO_sub, binO_mul, binO_eql, binO_neq, binO_lss, binO_leq, binO_gtr, binO_geq, unO_not, true_and, Bool.false_eq_true, if_false, if_true, forall_const, extrO, nilChk, false_implies]
    have ew : ((ints row).drop f).take (f + k - f) = ints ((row.drop f).take k) := by
      rw [Nat.add_sub_cancel_left]; simp [ints, List.map_take, List.map_drop]
    rw [ew] at r'
    rw [r'.len lc67]
    simp only [wps_nil, wps_move, wps_assign, wps_pick, wps_binOp, wps_unOp, wps_load, wps_fieldAddr, wps_field, wps_indexAddr, wps_index, wps_lookup, wps_nilCheck, wps_extract, wps_makeFunc, wps_slice, wps_alloc, wps_box, wps_buildSlice, wps_store, wps_mapUpdate, wps_len, wps_min, wps_max, wps_app, ev_tmp, ev_cint, ev_cbool, ev_cnils, ev_cnilp, ev_cnilf, ev_cnili, ev_cnilm, ev_func, evs_nil, evs_cons, consO_some, evParts_nil, evParts_cons, consP_some, evOpt_none, evOpt_sm, someO_some, bo_some, bo2_some, e1_some, e2_some, putP_none, putP_some, vB_bool, T.get_set, reduceIte, Nat.reduceEqDiff, Nat.reduceLT, c3P, c3ng, binO_add, binO_sub, binO_mul, binO_eql, binO_neq, binO_lss, binO_leq, binO_gtr, binO_geq, unO_not, true_and, Bool.false_eq_true, if_false, if_true, forall_const, extrO, nilChk, false_implies, ints_length]
    rw [w8_141, w8_142]
    refine there_loop (w := (row.drop f).take k) (a := (a : Int)) r' (by simp; omega) ((row.drop f).take k).length 0 _ (by omega) ?_ ?_ ?_ ?_ ?_ ?_ <;> (try simp only [wps_nil, wps_move, wps_assign, wps_pick, wps_binOp, wps_unOp, wps_load, wps_fieldAddr, wps_field, wps_indexAddr, wps_index, wps_lookup, wps_nilCheck, wps_extract, wps_makeFunc, wps_slice, wps_alloc, wps_box, wps_buildSlice, wps_store, wps_mapUpdate, wps_len, wps_min, wps_max, wps_app, ev_tmp, ev_cint, ev_cbool, ev_cnils, ev_cnilp, ev_cnilf, ev_cnili, ev_cnilm, ev_func, evs_nil, evs_cons, consO_some, evParts_nil, evParts_cons, consP_some, evOpt_none, evOpt_sm, someO_some, bo_some, bo2_some, e1_some, e2_some, putP_none, putP_some, vB_bool, T.get_set, reduceIte, Nat.reduceEqDiff, Nat.reduceLT, c3P, c3ng, binO_add, binO_sub, binO_mul, binO_eql, binO_neq, binO_lss, binO_leq, binO_gtr, binO_geq, unO_not, true_and, Bool.false_eq_true, if_false, if_true, forall_const, extrO, nilChk, false_implies])
    · rfl
    · simp
    · intro tm' hs t29
      rw [w8_155]
      have u26 : tm'.get 26 = some (.bool (fair && (List.range a).all fun a => inW row k f a)) := by rw [hs 26 (by decide)]; simp only [wps_nil, wps_move, wps_assign, wps_pick, wps_binOp, wps_unOp, wps_load, wps_fieldAddr, wps_field, wps_indexAddr, wps_index, wps_lookup, wps_nilCheck, wps_extract, wps_makeFunc, wps_slice, wps_alloc, wps_box, wps_buildSlice, wps_store, wps_mapUpdate, wps_len, wps_min, wps_max, wps_app, ev_tmp, ev_cint, ev_cbool, ev_cnils, ev_cnilp, ev_cnilf, ev_cnili, ev_cnilm, ev_func, evs_nil, evs_cons, consO_some, evParts_nil, evParts_cons, consP_some, evOpt_none, evOpt_sm, someO_some, bo_some, bo2_some, e1_some, e2_some, putP_none, putP_some, vB_bool, T.get_set, reduceIte, Nat.reduceEqDiff, Nat.reduceLT, c3P, c3ng, binO_add, binO_sub, binO_mul, binO_eql, binO_neq, binO_lss, binO_leq, binO_gtr, binO_geq, unO_not, true_and, Bool.false_eq_true, if_false, if_true, forall_const, extrO, nilChk, false_implies, t26]
      have hrg : (List.range (a + 1)).all (fun a => inW row k f a) = ((List.range a).all (fun a => inW row k f a) && inW row k f a) := by rw [List.range_succ]; simp
      have go : ∀ tm2 : T V, (∀ t, t ≤ 25 ∨ t = 27 ∨ t = 157 ∨ t = 158 → tm2.get t = tm.get t) → tm2.get 26 = some (.bool (fair && (List.range (a + 1)).all fun a => inW row k f a)) →
          Wp c3 8 195 tm2 (.inBlock 9 :: .code c8_156 :: .inLoop c8_126 :: .inBlock 8 :: rest) [] none h Q := by
        intro tm2 h2 h26
        have u158 : tm2.get 158 = some (.int .i64 a) := by rw [h2 158 (by omega)]; exact t158
        rw [Fal.wp_inBlock, w8_156]
        simp only [wps_nil, wps_move, wps_assign, wps_pick, wps_binOp, wps_unOp, wps_load, wps_fieldAddr, wps_field, wps_indexAddr, wps_index, wps_lookup, wps_nilCheck, wps_extract, wps_makeFunc, wps_slice, wps_alloc, wps_box, wps_buildSlice, wps_store, wps_mapUpdate, wps_len, wps_min, wps_max, wps_app, ev_tmp, ev_cint, ev_cbool, ev_cnils, ev_cnilp, ev_cnilf, ev_cnili, ev_cnilm, ev_func, evs_nil, evs_cons, consO_some, evParts_nil, evParts_cons, consP_some, evOpt_none, evOpt_sm, someO_some, bo_some, bo2_some, e1_some, e2_some, putP_none, putP_some, vB_bool, T.get_set, reduceIte, Nat.reduceEqDiff, Nat.reduceLT, c3P, c3ng, binO_add, binO_sub, binO_mul, binO_eql, binO_neq, binO_lss, binO_leq, binO_gtr, binO_geq, unO_not, true_and, Bool.false_eq_true, if_false, if_true, forall_const, extrO, nilChk, false_implies, u158, hw]
        rw [Fal.wp_inLoop]
        refine ih (a + 1) _ (by omega) ?_ ?_ ?_ ?_ ?_ ?_ ?_ <;> (try simp only [wps_nil, wps_move, wps_assign, wps_pick, wps_binOp, wps_unOp, wps_load, wps_fieldAddr, wps_field, wps_indexAddr, wps_index, wps_lookup, wps_nilCheck, wps_extract, wps_makeFunc, wps_slice, wps_alloc, wps_box, wps_buildSlice, wps_store, wps_mapUpdate, wps_len, wps_min, wps_max, wps_app, ev_tmp, ev_cint, ev_cbool, ev_cnils, ev_cnilp, ev_cnilf, ev_cnili, ev_cnilm, ev_func, evs_nil, evs_cons, consO_some, evParts_nil, evParts_cons, consP_some, evOpt_none, evOpt_sm, someO_some, bo_some, bo2_some, e1_some, e2_some, putP_none, putP_some, vB_bool, T.get_set, reduceIte, Nat.reduceEqDiff, Nat.reduceLT, c3P, c3ng, binO_add, binO_sub, binO_mul, binO_eql, binO_neq, binO_lss, binO_leq, binO_gtr, binO_geq, unO_not, true_and, Bool.false_eq_true, if_false, if_true, forall_const, extrO, nilChk, false_implies, h26])
        · rw [h2 21 (by omega)]; exact t21
        · rw [h2 25 (by omega)]; exact t25
        · rw [h2 27 (by omega)]; exact t27
        · rw [h2 157 (by omega)]; exact t157
        · intro tm3 h3
          refine hk tm3 (fun t ht => ?_)
          rw [h3 t ht]
          have e1 : t ≠ 158 := by omega
          have e2 : t ≠ 183 := by omega
          simp only [T.get_set, e1, e2, if_false]
          exact h2 t (by omega)
      have keepT : ∀ t, t ≤ 25 ∨ t = 27 ∨ t = 157 ∨ t = 158 → tm'.get t = tm.get t := by
        intro t ht
        rw [hs t (by simp only [List.mem_cons, List.not_mem_nil, or_false]; omega)]
        have e : t ≠ 160 ∧ t ≠ 28 ∧ t ≠ 29 ∧ t ≠ 161 ∧ t ≠ 162 ∧ t ≠ 163 ∧ t ≠ 164 ∧ t ≠ 165 ∧ t ≠ 166 ∧ t ≠ 167 ∧ t ≠ 168 ∧ t ≠ 159 := by omega
        simp only [T.get_set, e, if_false]
      cases hb : (fair && (List.range a).all fun a => inW row k f a) with
      | true =>
        rw [hb] at u26
        have hb1 := (Bool.and_eq_true_iff.1 hb)
        simp only [wps_nil, wps_move, wps_assign, wps_pick, wps_binOp, wps_unOp, wps_load, wps_fieldAddr, wps_field, wps_indexAddr, wps_index, wps_lookup, wps_nilCheck, wps_extract, wps_makeFunc, wps_slice, wps_alloc, wps_box, wps_buildSlice, wps_store, wps_mapUpdate, wps_len, wps_min, wps_max, wps_app, ev_tmp, ev_cint, ev_cbool, ev_cnils, ev_cnilp, ev_cnilf, ev_cnili, ev_cnilm, ev_func, evs_nil, evs_cons, consO_some, evParts_nil, evParts_cons, consP_some, evOpt_none, evOpt_sm, someO_some, bo_some, bo2_some, e1_some, e2_some, putP_none, putP_some, vB_bool, T.get_set, reduceIte, Nat.reduceEqDiff, Nat.reduceLT, c3P, c3ng, binO_add, binO_sub, binO_mul, binO_eql, binO_neq, binO_lss, binO_leq, binO_gtr, binO_geq, unO_not, true_and, Bool.false_eq_true, if_false, if_true, forall_const, extrO, nilChk, false_implies, wps_guardG g8_155_1, vG_bool, u26, t29]
        refine go _ (fun t ht => ?_) ?_
        · have e : t ≠ 179 ∧ t ≠ 180 ∧ t ≠ 181 ∧ t ≠ 182 ∧ t ≠ 26 := by omega
          simp only [T.get_set, e, if_false]
          exact keepT t ht
        · simp only [wps_nil, wps_move, wps_assign, wps_pick, wps_binOp, wps_unOp, wps_load, wps_fieldAddr, wps_field, wps_indexAddr, wps_index, wps_lookup, wps_nilCheck, wps_extract, wps_makeFunc, wps_slice, wps_alloc, wps_box, wps_buildSlice, wps_store, wps_mapUpdate, wps_len, wps_min, wps_max, wps_app, ev_tmp, ev_cint, ev_cbool, ev_cnils, ev_cnilp, ev_cnilf, ev_cnili, ev_cnilm, ev_func, evs_nil, evs_cons, consO_some, evParts_nil, evParts_cons, consP_some, evOpt_none, evOpt_sm, someO_some, bo_some, bo2_some, e1_some, e2_some, putP_none, putP_some, vB_bool, T.get_set, reduceIte, Nat.reduceEqDiff, Nat.reduceLT, c3P, c3ng, binO_add, binO_sub, binO_mul, binO_eql, binO_neq, binO_lss, binO_leq, binO_gtr, binO_geq, unO_not, true_and, Bool.false_eq_true, if_false, if_true, forall_const, extrO, nilChk, false_implies, hrg, hb1.1, hb1.2, Bool.true_and]
          rfl
      | false =>
        rw [hb] at u26
        simp only [wps_nil, wps_move, wps_assign, wps_pick, wps_binOp, wps_unOp, wps_load, wps_fieldAddr, wps_field, wps_indexAddr, wps_index, wps_lookup, wps_nilCheck, wps_extract, wps_makeFunc, wps_slice, wps_alloc, wps_box, wps_buildSlice, wps_store, wps_mapUpdate, wps_len, wps_min, wps_max, wps_app, ev_tmp, ev_cint, ev_cbool, ev_cnils, ev_cnilp, ev_cnilf, ev_cnili, ev_cnilm, ev_func, evs_nil, evs_cons, consO_some, evParts_nil, evParts_cons, consP_some, evOpt_none, evOpt_sm, someO_some, bo_some, bo2_some, e1_some, e2_some, putP_none, putP_some, vB_bool, T.get_set, reduceIte, Nat.reduceEqDiff, Nat.reduceLT, c3P, c3ng, binO_add, binO_sub, binO_mul, binO_eql, binO_neq, binO_lss, binO_leq, binO_gtr, binO_geq, unO_not, true_and, Bool.false_eq_true, if_false, if_true, forall_const, extrO, nilChk, false_implies, wps_guardG g8_155_1, vG_bool, u26, t29]
        refine go _ (fun t ht => ?_) ?_
        · have e : t ≠ 179 ∧ t ≠ 180 ∧ t ≠ 181 ∧ t ≠ 182 ∧ t ≠ 26 := by omega
          simp only [T.get_set, e, if_false]
          exact keepT t ht
        · simp only [wps_nil, wps_move, wps_assign, wps_pick, wps_binOp, wps_unOp, wps_load, wps_fieldAddr, wps_field, wps_indexAddr, wps_index, wps_lookup, wps_nilCheck, wps_extract, wps_makeFunc, wps_slice, wps_alloc, wps_box, wps_buildSlice, wps_store, wps_mapUpdate, wps_len, wps_min, wps_max, wps_app, ev_tmp, ev_cint, ev_cbool, ev_cnils, ev_cnilp, ev_cnilf, ev_cnili, ev_cnilm, ev_func, evs_nil, evs_cons, consO_some, evParts_nil, evParts_cons, consP_some, evOpt_none, evOpt_sm, someO_some, bo_some, bo2_some, e1_some, e2_some, putP_none, putP_some, vB_bool, T.get_set, reduceIte, Nat.reduceEqDiff, Nat.reduceLT, c3P, c3ng, binO_add, binO_sub, binO_mul, binO_eql, binO_neq, binO_lss, binO_leq, binO_gtr, binO_geq, unO_not, true_and, Bool.false_eq_true, if_false, if_true, forall_const, extrO, nilChk, false_implies, hrg, ← Bool.and_assoc, hb, Bool.false_and]
end
end K
