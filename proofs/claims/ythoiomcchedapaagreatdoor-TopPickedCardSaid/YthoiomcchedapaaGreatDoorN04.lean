/-
  TopPicked, function by function, by the rules of the engine: it returns true, for every input.
-/
import Derived.Test.YthoiomcchedapaaGreatDoorN03
set_option autoImplicit true
set_option relaxedAutoImplicit true
set_option linter.unusedVariables false
set_option linter.unusedSimpArgs false
open Go Go.Proofs Go.Fal
namespace K

theorem allW_step {row : List Int} {n k f : Nat} (hf : f + k ≤ row.length) : allW row n k f = (okW row n k f && allW row n k (f + 1)) := by
  unfold allW
  rw [show row.length + 1 - k - f = (row.length + 1 - k - (f + 1)) + 1 by omega, List.range_succ_eq_map]
  simp only [List.all_cons, Nat.add_zero, List.all_map]
  congr 1
  apply List.all_congr rfl
  intro d
  simp only [Function.comp]
  rw [show f + d.succ = f + 1 + d by omega]
theorem allW_none {row : List Int} {n k f : Nat} (hf : ¬ f + k ≤ row.length) : allW row n k f = true := by
  unfold allW
  rw [show row.length + 1 - k - f = 0 by omega]; rfl

section
variable {h : H} {Q : V → H → Prop} {rest : List Item}

set_option maxRecDepth 100000 in
theorem from_loop {vr : V} {row : List Int} {n k : Nat} (r : RowR h vr (ints row)) (hl : row.length ≤ 1000) (hn : n ≤ 1000) (hk1 : 1 ≤ k) (hk2 : k ≤ 1000) : ∀ (q f : Nat) (tm : T V) (fair : Bool), row.length + 2 ≤ f + q → f ≤ row.length + 1 → tm.get 21 = some vr → tm.get 24 = some (.int .i64 n) →
    tm.get 25 = some (.int .i64 k) → tm.get 26 = some (.bool fair) → tm.get 27 = some (.int .i64 f) →
    (∀ tm', (∀ t, t ≤ 25 → tm'.get t = tm.get t) → tm'.get 26 = some (.bool (fair && allW row n k f)) → Wp c3 8 195 tm' rest [] none h Q) →
    Wp c3 8 195 tm (.code c8_114 :: .inLoop c8_114 :: .inBlock 6 :: rest) [] none h Q := by
  intro q
  induction q with
  | zero => intro f tm fair h1 h2; omega
  | succ q ih =>
    intro f tm fair hq hfl t21 t24 t25 t26 t27 hk
    have hw : IntKind.i64.wrap ((f : Int) + 1) = ((f + 1 : Nat) : Int) := by rw [wrap64 (by omega) (by omega)]; omega
    have hw2 : IntKind.i64.wrap ((f : Int) + (k : Int)) = ((f + k : Nat) : Int) := by rw [wrap64 (by omega) (by omega)]; omega
    have leave : ∀ tm2 : T V, (∀ t, t ≤ 27 → tm2.get t = tm.get t) → (fair && allW row n k f) = fair → Wp c3 8 195 tm2 rest [] none h Q := by
      intro tm2 h2 he
      refine hk tm2 (fun t ht => h2 t (by omega)) ?_
      rw [h2 26 (by omega), he]; exact t26
    rw [w8_114, w8_115, w8_116]
    cases fair with
    | false =>
      simp only [wps_nil, wps_move, wps_assign, wps_pick, wps_binOp, wps_unOp, wps_load, wps_fieldAddr, wps_field, wps_indexAddr, wps_index, wps_lookup, wps_nilCheck, wps_extract, wps_makeFunc, wps_slice, wps_alloc, wps_box, wps_buildSlice, wps_store, wps_mapUpdate, wps_len, wps_min, wps_max, wps_app, ev_tmp, ev_cint, ev_cbool, ev_cnils, ev_cnilp, ev_cnilf, ev_cnili, ev_cnilm, ev_func, evs_nil, evs_cons, consO_some, evParts_nil, evParts_cons, consP_some, evOpt_none, evOpt_sm, someO_some, bo_some, bo2_some, e1_some, e2_some, putP_none, putP_some, vB_bool, T.get_set, reduceIte, Nat.reduceEqDiff, Nat.reduceLT, c3P, c3ng, binO_add, binO_sub, binO_mul, binO_eql, binO_neq, binO_lss, binO_leq, binO_gtr, binO_geq, unO_not, true_and, Bool.false_eq_true, if_false, if_true, forall_const, extrO, nilChk, false_implies, wps_guardG g8_116_1, vG_bool, t26]
      rw [w8_117]
      simp only [wps_nil, wps_move, wps_assign, wps_pick, wps_binOp, wps_unOp, wps_load, wps_fieldAddr, wps_field, wps_indexAddr, wps_index, wps_lookup, wps_nilCheck, wps_extract, wps_makeFunc, wps_slice, wps_alloc, wps_box, wps_buildSlice, wps_store, wps_mapUpdate, wps_len, wps_min, wps_max, wps_app, ev_tmp, ev_cint, ev_cbool, ev_cnils, ev_cnilp, ev_cnilf, ev_cnili, ev_cnilm, ev_func, evs_nil, evs_cons, consO_some, evParts_nil, evParts_cons, consP_some, evOpt_none, evOpt_sm, someO_some, bo_some, bo2_some, e1_some, e2_some, putP_none, putP_some, vB_bool, T.get_set, reduceIte, Nat.reduceEqDiff, Nat.reduceLT, c3P, c3ng, binO_add, binO_sub, binO_mul, binO_eql, binO_neq, binO_lss, binO_leq, binO_gtr, binO_geq, unO_not, true_and, Bool.false_eq_true, if_false, if_true, forall_const, extrO, nilChk, false_implies]
      rw [w8_119, wp_exit_code, wp_exit_loop, wp_exit_here]
      refine leave _ (fun t ht => ?_) rfl
      have e : t ≠ 146 ∧ t ≠ 147 ∧ t ≠ 148 ∧ t ≠ 149 ∧ t ≠ 150 ∧ t ≠ 151 ∧ t ≠ 152 ∧ t ≠ 153 ∧ t ≠ 154 := by omega
      simp only [T.get_set, e, if_false]
    | true =>
      simp only [wps_nil, wps_move, wps_assign, wps_pick, wps_binOp, wps_unOp, wps_load, wps_fieldAddr, wps_field, wps_indexAddr, wps_index, wps_lookup, wps_nilCheck, wps_extract, wps_makeFunc, wps_slice, wps_alloc, wps_box, wps_buildSlice, wps_store, wps_mapUpdate, wps_len, wps_min, wps_max, wps_app, ev_tmp, ev_cint, ev_cbool, ev_cnils, ev_cnilp, ev_cnilf, ev_cnili, ev_cnilm, ev_func, evs_nil, evs_cons, consO_some, evParts_nil, evParts_cons, consP_some, evOpt_none, evOpt_sm, someO_some, bo_some, bo2_some, e1_some, e2_some, putP_none, putP_some, vB_bool, T.get_set, reduceIte, Nat.reduceEqDiff, Nat.reduceLT, c3P, c3ng, binO_add, binO_sub, binO_mul, binO_eql, binO_neq, binO_lss, binO_leq, binO_gtr, binO_geq, unO_not, true_and, Bool.false_eq_true, if_false, if_true, forall_const, extrO, nilChk, false_implies, wps_guardG g8_116_1, vG_bool, t26, t27, t25, hw2, t21]
      rw [r.len lc67]
      simp only [wps_nil, wps_move, wps_assign, wps_pick, wps_binOp, wps_unOp, wps_load, wps_fieldAddr, wps_field, wps_indexAddr, wps_index, wps_lookup, wps_nilCheck, wps_extract, wps_makeFunc, wps_slice, wps_alloc, wps_box, wps_buildSlice, wps_store, wps_mapUpdate, wps_len, wps_min, wps_max, wps_app, ev_tmp, ev_cint, ev_cbool, ev_cnils, ev_cnilp, ev_cnilf, ev_cnili, ev_cnilm, ev_func, evs_nil, evs_cons, consO_some, evParts_nil, evParts_cons, consP_some, evOpt_none, evOpt_sm, someO_some, bo_some, bo2_some, e1_some, e2_some, putP_none, putP_some, vB_bool, T.get_set, reduceIte, Nat.reduceEqDiff, Nat.reduceLT, c3P, c3ng, binO_add, binO_sub, binO_mul, binO_eql, binO_neq, binO_lss, binO_leq, binO_gtr, binO_geq, unO_not, true_and, Bool.false_eq_true, if_false, if_true, forall_const, extrO, nilChk, false_implies, wps_guardG g8_116_1, vG_bool, t26, t27, t25, hw2, t21, ints_length]
      rw [w8_117]
      by_cases hf : f + k ≤ row.length
      · have hd : decide (((f + k : Nat) : Int) ≤ (row.length : Int)) = true := by simp only [decide_eq_true_eq]; omega
        simp only [wps_nil, wps_move, wps_assign, wps_pick, wps_binOp, wps_unOp, wps_load, wps_fieldAddr, wps_field, wps_indexAddr, wps_index, wps_lookup, wps_nilCheck, wps_extract, wps_makeFunc, wps_slice, wps_alloc, wps_box, wps_buildSlice, wps_store, wps_mapUpdate, wps_len, wps_min, wps_max, wps_app, ev_tmp, ev_cint, ev_cbool, ev_cnils, ev_cnilp, ev_cnilf, ev_cnili, ev_cnilm, ev_func, evs_nil, evs_cons, consO_some, evParts_nil, evParts_cons, consP_some, evOpt_none, evOpt_sm, someO_some, bo_some, bo2_some, e1_some, e2_some, putP_none, putP_some, vB_bool, T.get_set, reduceIte, Nat.reduceEqDiff, Nat.reduceLT, c3P, c3ng, binO_add, binO_sub, binO_mul, binO_eql, binO_neq, binO_lss, binO_leq, binO_gtr, binO_geq, unO_not, true_and, Bool.false_eq_true, if_false, if_true, forall_const, extrO, nilChk, false_implies, hd]
        rw [w8_118, w8_120, w8_121, w8_122, w8_123]
        simp only [wps_nil, wps_move, wps_assign, wps_pick, wps_binOp, wps_unOp, wps_load, wps_fieldAddr, wps_field, wps_indexAddr, wps_index, wps_lookup, wps_nilCheck, wps_extract, wps_makeFunc, wps_slice, wps_alloc, wps_box, wps_buildSlice, wps_store, wps_mapUpdate, wps_len, wps_min, wps_max, wps_app, ev_tmp, ev_cint, ev_cbool, ev_cnils, ev_cnilp, ev_cnilf, ev_cnili, ev_cnilm, ev_func, evs_nil, evs_cons, consO_some, evParts_nil, evParts_cons, consP_some, evOpt_none, evOpt_sm, someO_some, bo_some, bo2_some, e1_some, e2_some, putP_none, putP_some, vB_bool, T.get_set, reduceIte, Nat.reduceEqDiff, Nat.reduceLT, c3P, c3ng, binO_add, binO_sub, binO_mul, binO_eql, binO_neq, binO_lss, binO_leq, binO_gtr, binO_geq, unO_not, true_and, Bool.false_eq_true, if_false, if_true, forall_const, extrO, nilChk, false_implies, t24]
        rw [w8_124, w8_125]
        refine window_loop (n := n) (k := k) (f := f) (fair := true) r hl hf hn n 0 _ (by omega) ?_ ?_ ?_ ?_ ?_ ?_ ?_ <;> (try simp only [wps_nil, wps_move, wps_assign, wps_pick, wps_binOp, wps_unOp, wps_load, wps_fieldAddr, wps_field, wps_indexAddr, wps_index, wps_lookup, wps_nilCheck, wps_extract, wps_makeFunc, wps_slice, wps_alloc, wps_box, wps_buildSlice, wps_store, wps_mapUpdate, wps_len, wps_min, wps_max, wps_app, ev_tmp, ev_cint, ev_cbool, ev_cnils, ev_cnilp, ev_cnilf, ev_cnili, ev_cnilm, ev_func, evs_nil, evs_cons, consO_some, evParts_nil, evParts_cons, consP_some, evOpt_none, evOpt_sm, someO_some, bo_some, bo2_some, e1_some, e2_some, putP_none, putP_some, vB_bool, T.get_set, reduceIte, Nat.reduceEqDiff, Nat.reduceLT, c3P, c3ng, binO_add, binO_sub, binO_mul, binO_eql, binO_neq, binO_lss, binO_leq, binO_gtr, binO_geq, unO_not, true_and, Bool.false_eq_true, if_false, if_true, forall_const, extrO, nilChk, false_implies, t21, t25, t27, t24])
        · rfl
        · simp only [wps_nil, wps_move, wps_assign, wps_pick, wps_binOp, wps_unOp, wps_load, wps_fieldAddr, wps_field, wps_indexAddr, wps_index, wps_lookup, wps_nilCheck, wps_extract, wps_makeFunc, wps_slice, wps_alloc, wps_box, wps_buildSlice, wps_store, wps_mapUpdate, wps_len, wps_min, wps_max, wps_app, ev_tmp, ev_cint, ev_cbool, ev_cnils, ev_cnilp, ev_cnilf, ev_cnili, ev_cnilm, ev_func, evs_nil, evs_cons, consO_some, evParts_nil, evParts_cons, consP_some, evOpt_none, evOpt_sm, someO_some, bo_some, bo2_some, e1_some, e2_some, putP_none, putP_some, vB_bool, T.get_set, reduceIte, Nat.reduceEqDiff, Nat.reduceLT, c3P, c3ng, binO_add, binO_sub, binO_mul, binO_eql, binO_neq, binO_lss, binO_leq, binO_gtr, binO_geq, unO_not, true_and, Bool.false_eq_true, if_false, if_true, forall_const, extrO, nilChk, false_implies, t26, List.range_zero, List.all_nil, Bool.and_true]
        · intro tm3 h3 h26
          have u27 : tm3.get 27 = some (.int .i64 f) := by rw [h3 27 (by omega)]; simp only [wps_nil, wps_move, wps_assign, wps_pick, wps_binOp, wps_unOp, wps_load, wps_fieldAddr, wps_field, wps_indexAddr, wps_index, wps_lookup, wps_nilCheck, wps_extract, wps_makeFunc, wps_slice, wps_alloc, wps_box, wps_buildSlice, wps_store, wps_mapUpdate, wps_len, wps_min, wps_max, wps_app, ev_tmp, ev_cint, ev_cbool, ev_cnils, ev_cnilp, ev_cnilf, ev_cnili, ev_cnilm, ev_func, evs_nil, evs_cons, consO_some, evParts_nil, evParts_cons, consP_some, evOpt_none, evOpt_sm, someO_some, bo_some, bo2_some, e1_some, e2_some, putP_none, putP_some, vB_bool, T.get_set, reduceIte, Nat.reduceEqDiff, Nat.reduceLT, c3P, c3ng, binO_add, binO_sub, binO_mul, binO_eql, binO_neq, binO_lss, binO_leq, binO_gtr, binO_geq, unO_not, true_and, Bool.false_eq_true, if_false, if_true, forall_const, extrO, nilChk, false_implies, t27]
          have low : ∀ t, t ≤ 25 → tm3.get t = tm.get t := by
            intro t ht
            rw [h3 t (by omega)]
            have e : t ≠ 146 ∧ t ≠ 147 ∧ t ≠ 148 ∧ t ≠ 149 ∧ t ≠ 150 ∧ t ≠ 151 ∧ t ≠ 152 ∧ t ≠ 153 ∧ t ≠ 154 ∧ t ≠ 157 ∧ t ≠ 158 := by omega
            simp only [T.get_set, e, if_false]
          rw [Fal.wp_inBlock, w8_157]
          simp only [wps_nil, wps_move, wps_assign, wps_pick, wps_binOp, wps_unOp, wps_load, wps_fieldAddr, wps_field, wps_indexAddr, wps_index, wps_lookup, wps_nilCheck, wps_extract, wps_makeFunc, wps_slice, wps_alloc, wps_box, wps_buildSlice, wps_store, wps_mapUpdate, wps_len, wps_min, wps_max, wps_app, ev_tmp, ev_cint, ev_cbool, ev_cnils, ev_cnilp, ev_cnilf, ev_cnili, ev_cnilm, ev_func, evs_nil, evs_cons, consO_some, evParts_nil, evParts_cons, consP_some, evOpt_none, evOpt_sm, someO_some, bo_some, bo2_some, e1_some, e2_some, putP_none, putP_some, vB_bool, T.get_set, reduceIte, Nat.reduceEqDiff, Nat.reduceLT, c3P, c3ng, binO_add, binO_sub, binO_mul, binO_eql, binO_neq, binO_lss, binO_leq, binO_gtr, binO_geq, unO_not, true_and, Bool.false_eq_true, if_false, if_true, forall_const, extrO, nilChk, false_implies, u27, hw]
          rw [Fal.wp_inLoop]
          refine ih (f + 1) _ (okW row n k f) (by omega) (by omega) ?_ ?_ ?_ ?_ ?_ ?_ <;> (try simp only [wps_nil, wps_move, wps_assign, wps_pick, wps_binOp, wps_unOp, wps_load, wps_fieldAddr, wps_field, wps_indexAddr, wps_index, wps_lookup, wps_nilCheck, wps_extract, wps_makeFunc, wps_slice, wps_alloc, wps_box, wps_buildSlice, wps_store, wps_mapUpdate, wps_len, wps_min, wps_max, wps_app, ev_tmp, ev_cint, ev_cbool, ev_cnils, ev_cnilp, ev_cnilf, ev_cnili, ev_cnilm, ev_func, evs_nil, evs_cons, consO_some, evParts_nil, evParts_cons, consP_some, evOpt_none, evOpt_sm, someO_some, bo_some, bo2_some, e1_some, e2_some, putP_none, putP_some, vB_bool, T.get_set, reduceIte, Nat.reduceEqDiff, Nat.reduceLT, c3P, c3ng, binO_add, binO_sub, binO_mul, binO_eql, binO_neq, binO_lss, binO_leq, binO_gtr, binO_geq, unO_not, true_and, Bool.false_eq_true, if_false, if_true, forall_const, extrO, nilChk, false_implies, h26])
          · rw [low 21 (by omega)]; exact t21
          · rw [low 24 (by omega)]; exact t24
          · rw [low 25 (by omega)]; exact t25
          · rfl
          · intro tm4 h4 h26'
            refine hk tm4 (fun t ht => ?_) ?_
            · rw [h4 t ht]
              have e : t ≠ 155 ∧ t ≠ 156 ∧ t ≠ 27 := by omega
              simp only [T.get_set, e, if_false]
              exact low t ht
            · rw [h26', allW_step hf, Bool.true_and]
      · have hd : decide (((f + k : Nat) : Int) ≤ (row.length : Int)) = false := by simp only [decide_eq_false_iff_not]; omega
        simp only [wps_nil, wps_move, wps_assign, wps_pick, wps_binOp, wps_unOp, wps_load, wps_fieldAddr, wps_field, wps_indexAddr, wps_index, wps_lookup, wps_nilCheck, wps_extract, wps_makeFunc, wps_slice, wps_alloc, wps_box, wps_buildSlice, wps_store, wps_mapUpdate, wps_len, wps_min, wps_max, wps_app, ev_tmp, ev_cint, ev_cbool, ev_cnils, ev_cnilp, ev_cnilf, ev_cnili, ev_cnilm, ev_func, evs_nil, evs_cons, consO_some, evParts_nil, evParts_cons, consP_some, evOpt_none, evOpt_sm, someO_some, bo_some, bo2_some, e1_some, e2_some, putP_none, putP_some, vB_bool, T.get_set, reduceIte, Nat.reduceEqDiff, Nat.reduceLT, c3P, c3ng, binO_add, binO_sub, binO_mul, binO_eql, binO_neq, binO_lss, binO_leq, binO_gtr, binO_geq, unO_not, true_and, Bool.false_eq_true, if_false, if_true, forall_const, extrO, nilChk, false_implies, hd]
        rw [w8_119, wp_exit_code, wp_exit_loop, wp_exit_here]
        refine leave _ (fun t ht => ?_) (by rw [allW_none hf]; rfl)
        have e : t ≠ 146 ∧ t ≠ 147 ∧ t ≠ 148 ∧ t ≠ 149 ∧ t ≠ 150 ∧ t ≠ 151 ∧ t ≠ 152 ∧ t ≠ 153 ∧ t ≠ 154 := by omega
        simp only [T.get_set, e, if_false]
end

/-- the plain law of fairness: proved elsewhere -/
def FairLaw : Prop := ∀ (row : List Int) (n k : Nat), 1 ≤ k → fairP row n k = allW row n k 0

set_option maxRecDepth 100000 in
theorem fair_part (law : FairLaw) {h : H} {tm : T V} {vr : V} {row : List Int} {n kk : Int} (h21 : tm.get 21 = some vr) (h24 : tm.get 24 = some (.int .i64 n)) (h25 : tm.get 25 = some (.int .i64 kk))
    (o : Own h vr (ints row)) (hl : row.length ≤ 1000) (hn : n ≤ 1000) (hk : kk ≤ 1000) (hb : baseB h = true) (h11 : 11 ≤ h.next) : Wp c3 8 195 tm [.code c8_107] [] none h Qt := by
  rw [w8_107, w8_108]
  have go : ∀ tm2 : T V, (∀ t, t ≤ 25 → tm2.get t = tm.get t) → tm2.get 26 = some (.bool (decide (0 ≤ n ∧ 1 ≤ kk))) → Wp c3 8 195 tm2 [.code c8_109] [] none h Qt := by
    intro tm2 h2 h26
    rw [w8_109, w8_110, w8_111]
    simp only [wps_nil, wps_move, wps_assign, wps_pick, wps_binOp, wps_unOp, wps_load, wps_fieldAddr, wps_field, wps_indexAddr, wps_index, wps_lookup, wps_nilCheck, wps_extract, wps_makeFunc, wps_slice, wps_alloc, wps_box, wps_buildSlice, wps_store, wps_mapUpdate, wps_len, wps_min, wps_max, wps_app, ev_tmp, ev_cint, ev_cbool, ev_cnils, ev_cnilp, ev_cnilf, ev_cnili, ev_cnilm, ev_func, evs_nil, evs_cons, consO_some, evParts_nil, evParts_cons, consP_some, evOpt_none, evOpt_sm, someO_some, bo_some, bo2_some, e1_some, e2_some, putP_none, putP_some, vB_bool, T.get_set, reduceIte, Nat.reduceEqDiff, Nat.reduceLT, c3P, c3ng, binO_add, binO_sub, binO_mul, binO_eql, binO_neq, binO_lss, binO_leq, binO_gtr, binO_geq, unO_not, true_and, Bool.false_eq_true, if_false, if_true, forall_const, extrO, nilChk, false_implies]
    rw [w8_112, w8_113]
    have t24 : (tm2.set 27 (V.int .i64 0)).get 24 = some (.int .i64 n) := by simp only [wps_nil, wps_move, wps_assign, wps_pick, wps_binOp, wps_unOp, wps_load, wps_fieldAddr, wps_field, wps_indexAddr, wps_index, wps_lookup, wps_nilCheck, wps_extract, wps_makeFunc, wps_slice, wps_alloc, wps_box, wps_buildSlice, wps_store, wps_mapUpdate, wps_len, wps_min, wps_max, wps_app, ev_tmp, ev_cint, ev_cbool, ev_cnils, ev_cnilp, ev_cnilf, ev_cnili, ev_cnilm, ev_func, evs_nil, evs_cons, consO_some, evParts_nil, evParts_cons, consP_some, evOpt_none, evOpt_sm, someO_some, bo_some, bo2_some, e1_some, e2_some, putP_none, putP_some, vB_bool, T.get_set, reduceIte, Nat.reduceEqDiff, Nat.reduceLT, c3P, c3ng, binO_add, binO_sub, binO_mul, binO_eql, binO_neq, binO_lss, binO_leq, binO_gtr, binO_geq, unO_not, true_and, Bool.false_eq_true, if_false, if_true, forall_const, extrO, nilChk, false_implies]; rw [h2 24 (by omega)]; exact h24
    have t25 : (tm2.set 27 (V.int .i64 0)).get 25 = some (.int .i64 kk) := by simp only [wps_nil, wps_move, wps_assign, wps_pick, wps_binOp, wps_unOp, wps_load, wps_fieldAddr, wps_field, wps_indexAddr, wps_index, wps_lookup, wps_nilCheck, wps_extract, wps_makeFunc, wps_slice, wps_alloc, wps_box, wps_buildSlice, wps_store, wps_mapUpdate, wps_len, wps_min, wps_max, wps_app, ev_tmp, ev_cint, ev_cbool, ev_cnils, ev_cnilp, ev_cnilf, ev_cnili, ev_cnilm, ev_func, evs_nil, evs_cons, consO_some, evParts_nil, evParts_cons, consP_some, evOpt_none, evOpt_sm, someO_some, bo_some, bo2_some, e1_some, e2_some, putP_none, putP_some, vB_bool, T.get_set, reduceIte, Nat.reduceEqDiff, Nat.reduceLT, c3P, c3ng, binO_add, binO_sub, binO_mul, binO_eql, binO_neq, binO_lss, binO_leq, binO_gtr, binO_geq, unO_not, true_and, Bool.false_eq_true, if_false, if_true, forall_const, extrO, nilChk, false_implies]; rw [h2 25 (by omega)]; exact h25
    have t21 : (tm2.set 27 (V.int .i64 0)).get 21 = some vr := by simp only [wps_nil, wps_move, wps_assign, wps_pick, wps_binOp, wps_unOp, wps_load, wps_fieldAddr, wps_field, wps_indexAddr, wps_index, wps_lookup, wps_nilCheck, wps_extract, wps_makeFunc, wps_slice, wps_alloc, wps_box, wps_buildSlice, wps_store, wps_mapUpdate, wps_len, wps_min, wps_max, wps_app, ev_tmp, ev_cint, ev_cbool, ev_cnils, ev_cnilp, ev_cnilf, ev_cnili, ev_cnilm, ev_func, evs_nil, evs_cons, consO_some, evParts_nil, evParts_cons, consP_some, evOpt_none, evOpt_sm, someO_some, bo_some, bo2_some, e1_some, e2_some, putP_none, putP_some, vB_bool, T.get_set, reduceIte, Nat.reduceEqDiff, Nat.reduceLT, c3P, c3ng, binO_add, binO_sub, binO_mul, binO_eql, binO_neq, binO_lss, binO_leq, binO_gtr, binO_geq, unO_not, true_and, Bool.false_eq_true, if_false, if_true, forall_const, extrO, nilChk, false_implies]; rw [h2 21 (by omega)]; exact h21
    have t26 : (tm2.set 27 (V.int .i64 0)).get 26 = some (.bool (decide (0 ≤ n ∧ 1 ≤ kk))) := by simp only [wps_nil, wps_move, wps_assign, wps_pick, wps_binOp, wps_unOp, wps_load, wps_fieldAddr, wps_field, wps_indexAddr, wps_index, wps_lookup, wps_nilCheck, wps_extract, wps_makeFunc, wps_slice, wps_alloc, wps_box, wps_buildSlice, wps_store, wps_mapUpdate, wps_len, wps_min, wps_max, wps_app, ev_tmp, ev_cint, ev_cbool, ev_cnils, ev_cnilp, ev_cnilf, ev_cnili, ev_cnilm, ev_func, evs_nil, evs_cons, consO_some, evParts_nil, evParts_cons, consP_some, evOpt_none, evOpt_sm, someO_some, bo_some, bo2_some, e1_some, e2_some, putP_none, putP_some, vB_bool, T.get_set, reduceIte, Nat.reduceEqDiff, Nat.reduceLT, c3P, c3ng, binO_add, binO_sub, binO_mul, binO_eql, binO_neq, binO_lss, binO_leq, binO_gtr, binO_geq, unO_not, true_and, Bool.false_eq_true, if_false, if_true, forall_const, extrO, nilChk, false_implies]; exact h26
    have t27 : (tm2.set 27 (V.int .i64 0)).get 27 = some (.int .i64 0) := by simp only [wps_nil, wps_move, wps_assign, wps_pick, wps_binOp, wps_unOp, wps_load, wps_fieldAddr, wps_field, wps_indexAddr, wps_index, wps_lookup, wps_nilCheck, wps_extract, wps_makeFunc, wps_slice, wps_alloc, wps_box, wps_buildSlice, wps_store, wps_mapUpdate, wps_len, wps_min, wps_max, wps_app, ev_tmp, ev_cint, ev_cbool, ev_cnils, ev_cnilp, ev_cnilf, ev_cnili, ev_cnilm, ev_func, evs_nil, evs_cons, consO_some, evParts_nil, evParts_cons, consP_some, evOpt_none, evOpt_sm, someO_some, bo_some, bo2_some, e1_some, e2_some, putP_none, putP_some, vB_bool, T.get_set, reduceIte, Nat.reduceEqDiff, Nat.reduceLT, c3P, c3ng, binO_add, binO_sub, binO_mul, binO_eql, binO_neq, binO_lss, binO_leq, binO_gtr, binO_geq, unO_not, true_and, Bool.false_eq_true, if_false, if_true, forall_const, extrO, nilChk, false_implies]
    generalize tm2.set 27 (V.int .i64 0) = tm3 at *
    by_cases hp : 0 ≤ n ∧ 1 ≤ kk
    · obtain ⟨nn, rfl⟩ := Int.eq_ofNat_of_zero_le hp.1
      obtain ⟨k, rfl⟩ := Int.eq_ofNat_of_zero_le (show 0 ≤ kk by omega)
      rw [decide_eq_true hp] at t26
      refine from_loop (n := nn) (k := k) o.row hl (by omega) (by omega) (by omega) (row.length + 2) 0 tm3 true (by omega) (by omega) t21 t24 t25 t26 t27 ?_
      intro tm4 h4 h26'
      refine last_part (n := nn) (kk := k) ?_ ?_ ?_ ?_ o hl hn hb h11
      · rw [h4 21 (by omega)]; exact t21
      · rw [h4 24 (by omega)]; exact t24
      · rw [h4 25 (by omega)]; exact t25
      · rw [h26', law row nn k (by omega), Bool.true_and]
    · rw [decide_eq_false hp] at t26
      rw [w8_114, w8_115, w8_116]
      simp only [wps_nil, wps_move, wps_assign, wps_pick, wps_binOp, wps_unOp, wps_load, wps_fieldAddr, wps_field, wps_indexAddr, wps_index, wps_lookup, wps_nilCheck, wps_extract, wps_makeFunc, wps_slice, wps_alloc, wps_box, wps_buildSlice, wps_store, wps_mapUpdate, wps_len, wps_min, wps_max, wps_app, ev_tmp, ev_cint, ev_cbool, ev_cnils, ev_cnilp, ev_cnilf, ev_cnili, ev_cnilm, ev_func, evs_nil, evs_cons, consO_some, evParts_nil, evParts_cons, consP_some, evOpt_none, evOpt_sm, someO_some, bo_some, bo2_some, e1_some, e2_some, putP_none, putP_some, vB_bool, T.get_set, reduceIte, Nat.reduceEqDiff, Nat.reduceLT, c3P, c3ng, binO_add, binO_sub, binO_mul, binO_eql, binO_neq, binO_lss, binO_leq, binO_gtr, binO_geq, unO_not, true_and, Bool.false_eq_true, if_false, if_true, forall_const, extrO, nilChk, false_implies, wps_guardG g8_116_1, vG_bool, t26]
      rw [w8_117]
      simp only [wps_nil, wps_move, wps_assign, wps_pick, wps_binOp, wps_unOp, wps_load, wps_fieldAddr, wps_field, wps_indexAddr, wps_index, wps_lookup, wps_nilCheck, wps_extract, wps_makeFunc, wps_slice, wps_alloc, wps_box, wps_buildSlice, wps_store, wps_mapUpdate, wps_len, wps_min, wps_max, wps_app, ev_tmp, ev_cint, ev_cbool, ev_cnils, ev_cnilp, ev_cnilf, ev_cnili, ev_cnilm, ev_func, evs_nil, evs_cons, consO_some, evParts_nil, evParts_cons, consP_some, evOpt_none, evOpt_sm, someO_some, bo_some, bo2_some, e1_some, e2_some, putP_none, putP_some, vB_bool, T.get_set, reduceIte, Nat.reduceEqDiff, Nat.reduceLT, c3P, c3ng, binO_add, binO_sub, binO_mul, binO_eql, binO_neq, binO_lss, binO_leq, binO_gtr, binO_geq, unO_not, true_and, Bool.false_eq_true, if_false, if_true, forall_const, extrO, nilChk, false_implies]
      rw [w8_119, wp_exit_code, wp_exit_loop, wp_exit_here]
      have hfp : fairP row n kk = false := by
        unfold fairP
        rw [if_pos (by omega)]
      refine last_part (n := n) (kk := kk) ?_ ?_ ?_ ?_ o hl hn hb h11 <;> simp only [wps_nil, wps_move, wps_assign, wps_pick, wps_binOp, wps_unOp, wps_load, wps_fieldAddr, wps_field, wps_indexAddr, wps_index, wps_lookup, wps_nilCheck, wps_extract, wps_makeFunc, wps_slice, wps_alloc, wps_box, wps_buildSlice, wps_store, wps_mapUpdate, wps_len, wps_min, wps_max, wps_app, ev_tmp, ev_cint, ev_cbool, ev_cnils, ev_cnilp, ev_cnilf, ev_cnili, ev_cnilm, ev_func, evs_nil, evs_cons, consO_some, evParts_nil, evParts_cons, consP_some, evOpt_none, evOpt_sm, someO_some, bo_some, bo2_some, e1_some, e2_some, putP_none, putP_some, vB_bool, T.get_set, reduceIte, Nat.reduceEqDiff, Nat.reduceLT, c3P, c3ng, binO_add, binO_sub, binO_mul, binO_eql, binO_neq, binO_lss, binO_leq, binO_gtr, binO_geq, unO_not, true_and, Bool.false_eq_true, if_false, if_true, forall_const, extrO, nilChk, false_implies]
      · exact t21
      · exact t24
      · exact t25
      · rw [hfp]; exact t26
  by_cases hn0 : 0 ≤ n
  · have d1 : decide (n ≥ 0) = true := by simpa using hn0
    simp only [wps_nil, wps_move, wps_assign, wps_pick, wps_binOp, wps_unOp, wps_load, wps_fieldAddr, wps_field, wps_indexAddr, wps_index, wps_lookup, wps_nilCheck, wps_extract, wps_makeFunc, wps_slice, wps_alloc, wps_box, wps_buildSlice, wps_store, wps_mapUpdate, wps_len, wps_min, wps_max, wps_app, ev_tmp, ev_cint, ev_cbool, ev_cnils, ev_cnilp, ev_cnilf, ev_cnili, ev_cnilm, ev_func, evs_nil, evs_cons, consO_some, evParts_nil, evParts_cons, consP_some, evOpt_none, evOpt_sm, someO_some, bo_some, bo2_some, e1_some, e2_some, putP_none, putP_some, vB_bool, T.get_set, reduceIte, Nat.reduceEqDiff, Nat.reduceLT, c3P, c3ng, binO_add, binO_sub, binO_mul, binO_eql, binO_neq, binO_lss, binO_leq, binO_gtr, binO_geq, unO_not, true_and, Bool.false_eq_true, if_false, if_true, forall_const, extrO, nilChk, false_implies, wps_guardG g8_108_2, vG_bool, h24, h25, d1]
    refine go _ (fun t ht => ?_) ?_
    · have e : t ≠ 140 ∧ t ≠ 141 ∧ t ≠ 142 ∧ t ≠ 143 ∧ t ≠ 144 ∧ t ≠ 145 ∧ t ≠ 26 := by omega
      simp only [T.get_set, e, if_false]
    · simp only [wps_nil, wps_move, wps_assign, wps_pick, wps_binOp, wps_unOp, wps_load, wps_fieldAddr, wps_field, wps_indexAddr, wps_index, wps_lookup, wps_nilCheck, wps_extract, wps_makeFunc, wps_slice, wps_alloc, wps_box, wps_buildSlice, wps_store, wps_mapUpdate, wps_len, wps_min, wps_max, wps_app, ev_tmp, ev_cint, ev_cbool, ev_cnils, ev_cnilp, ev_cnilf, ev_cnili, ev_cnilm, ev_func, evs_nil, evs_cons, consO_some, evParts_nil, evParts_cons, consP_some, evOpt_none, evOpt_sm, someO_some, bo_some, bo2_some, e1_some, e2_some, putP_none, putP_some, vB_bool, T.get_set, reduceIte, Nat.reduceEqDiff, Nat.reduceLT, c3P, c3ng, binO_add, binO_sub, binO_mul, binO_eql, binO_neq, binO_lss, binO_leq, binO_gtr, binO_geq, unO_not, true_and, Bool.false_eq_true, if_false, if_true, forall_const, extrO, nilChk, false_implies]
      congr 2
      rw [decide_eq_decide]; omega
  · have d1 : decide (n ≥ 0) = false := by simpa using hn0
    simp only [wps_nil, wps_move, wps_assign, wps_pick, wps_binOp, wps_unOp, wps_load, wps_fieldAddr, wps_field, wps_indexAddr, wps_index, wps_lookup, wps_nilCheck, wps_extract, wps_makeFunc, wps_slice, wps_alloc, wps_box, wps_buildSlice, wps_store, wps_mapUpdate, wps_len, wps_min, wps_max, wps_app, ev_tmp, ev_cint, ev_cbool, ev_cnils, ev_cnilp, ev_cnilf, ev_cnili, ev_cnilm, ev_func, evs_nil, evs_cons, consO_some, evParts_nil, evParts_cons, consP_some, evOpt_none, evOpt_sm, someO_some, bo_some, bo2_some, e1_some, e2_some, putP_none, putP_some, vB_bool, T.get_set, reduceIte, Nat.reduceEqDiff, Nat.reduceLT, c3P, c3ng, binO_add, binO_sub, binO_mul, binO_eql, binO_neq, binO_lss, binO_leq, binO_gtr, binO_geq, unO_not, true_and, Bool.false_eq_true, if_false, if_true, forall_const, extrO, nilChk, false_implies, wps_guardG g8_108_2, vG_bool, h24, h25, d1]
    refine go _ (fun t ht => ?_) ?_
    · have e : t ≠ 140 ∧ t ≠ 141 ∧ t ≠ 142 ∧ t ≠ 143 ∧ t ≠ 144 ∧ t ≠ 145 ∧ t ≠ 26 := by omega
      simp only [T.get_set, e, if_false]
    · simp only [wps_nil, wps_move, wps_assign, wps_pick, wps_binOp, wps_unOp, wps_load, wps_fieldAddr, wps_field, wps_indexAddr, wps_index, wps_lookup, wps_nilCheck, wps_extract, wps_makeFunc, wps_slice, wps_alloc, wps_box, wps_buildSlice, wps_store, wps_mapUpdate, wps_len, wps_min, wps_max, wps_app, ev_tmp, ev_cint, ev_cbool, ev_cnils, ev_cnilp, ev_cnilf, ev_cnili, ev_cnilm, ev_func, evs_nil, evs_cons, consO_some, evParts_nil, evParts_cons, consP_some, evOpt_none, evOpt_sm, someO_some, bo_some, bo2_some, e1_some, e2_some, putP_none, putP_some, vB_bool, T.get_set, reduceIte, Nat.reduceEqDiff, Nat.reduceLT, c3P, c3ng, binO_add, binO_sub, binO_mul, binO_eql, binO_neq, binO_lss, binO_leq, binO_gtr, binO_geq, unO_not, true_and, Bool.false_eq_true, if_false, if_true, forall_const, extrO, nilChk, false_implies]
      congr 2
      symm; rw [decide_eq_false_iff_not]; omega
end K
open Go Go.Proofs Go.Fal
namespace K

/-! # Who waits too long: gaps and windows -/
def Lst (row : List Int) (a : Int) : Nat → Int
  | 0 => -1
  | i + 1 => if row[i]? = some a then (i : Int) else Lst row a i
theorem Lst_ge (row : List Int) (a : Int) : ∀ i, -1 ≤ Lst row a i ∧ Lst row a i < i
  | 0 => ⟨Int.le_refl _, by show (-1 : Int) < 0; omega⟩
  | i + 1 => by
    have := Lst_ge row a i
    simp only [Lst]; split <;> constructor <;> omega
theorem Lst_none (row : List Int) (a : Int) : ∀ (i j : Nat), Lst row a i < (j : Int) → j < i → row[j]? ≠ some a
  | 0, j, _, h => by omega
  | i + 1, j, h1, h2 => by
    simp only [Lst] at h1
    split at h1
    · omega
    · rename_i hn
      by_cases e : j = i
      · subst e; exact hn
      · exact Lst_none row a i j h1 (by omega)
/-- no place from one on, up to another: then the last one lies before -/
theorem Lst_lt (row : List Int) (a : Int) (f : Nat) : ∀ (i : Nat), f ≤ i → (∀ j, f ≤ j → j < i → row[j]? ≠ some a) → Lst row a i < f
  | 0, h, _ => by have := (Lst_ge row a 0).2; omega
  | i + 1, h, hn => by
    by_cases e : f = i + 1
    · subst e; exact (Lst_ge row a (i + 1)).2
    · simp only [Lst]
      rw [if_neg (hn i (by omega) (by omega))]
      exact Lst_lt row a f i (by omega) (fun j h1 h2 => hn j h1 (by omega))

theorem scan_spec {row : List Int} {n k : Int} : ∀ (q i : Nat) (m : List (Int × Int)), i + q = row.length → (∀ a, 0 ≤ a → a < n → lastAt m a = Lst row a i) →
    (verdict row.length n k (scan n k (row.drop i) i m) = true ↔ (∀ j : Nat, i ≤ j → j < row.length → ∀ a, row[j]? = some a → 0 ≤ a → a < n → (j : Int) - Lst row a j ≤ k) ∧ ∀ a, 0 ≤ a → a < n → (row.length : Int) - Lst row a row.length ≤ k) := by
  intro q
  induction q with
  | zero =>
    intro i m hi hm
    obtain rfl : i = row.length := by omega
    rw [List.drop_length]
    simp only [scan, verdict, fin, Bool.not_eq_true', List.any_map, List.any_eq_false, List.mem_range, Function.comp, decide_eq_true_eq]
    constructor
    · intro h
      refine ⟨fun j h1 h2 => by omega, fun a h1 h2 => ?_⟩
      obtain ⟨b, rfl⟩ := Int.eq_ofNat_of_zero_le h1
      have := h b (by omega)
      rw [show lastAt m (Int.ofNat b) = Lst row (b : Int) row.length from hm b h1 h2] at this
      omega
    · rintro ⟨_, h⟩ b hb
      have h1 : (0 : Int) ≤ (b : Int) := by omega
      have h2 : (b : Int) < n := by omega
      have := h b h1 h2
      rw [show lastAt m (Int.ofNat b) = Lst row (b : Int) row.length from hm b h1 h2]
      omega
  | succ q ih =>
    intro i m hi hm
    have hlt : i < row.length := by omega
    have hge : row[i]? = some row[i] := by simp [hlt]
    rw [List.drop_eq_getElem_cons hlt]
    simp only [scan]
    -- how the rest reads
    have step : ∀ m', (∀ a, 0 ≤ a → a < n → lastAt m' a = Lst row a (i + 1)) → (∀ a, row[i]? = some a → 0 ≤ a → a < n → (i : Int) - Lst row a i ≤ k) →
        (verdict row.length n k (scan n k (row.drop (i + 1)) (i + 1) m') = true ↔ (∀ j : Nat, i ≤ j → j < row.length → ∀ a, row[j]? = some a → 0 ≤ a → a < n → (j : Int) - Lst row a j ≤ k) ∧ ∀ a, 0 ≤ a → a < n → (row.length : Int) - Lst row a row.length ≤ k) := by
      intro m' hm' hi0
      rw [ih (i + 1) m' (by omega) hm']
      constructor
      · rintro ⟨h1, h2⟩
        refine ⟨fun j g1 g2 a => ?_, h2⟩
        by_cases e : j = i
        · subst e; exact hi0 a
        · exact h1 j (by omega) g2 a
      · rintro ⟨h1, h2⟩
        exact ⟨fun j g1 g2 a => h1 j (by omega) g2 a, h2⟩
    by_cases ha : 0 ≤ row[i] ∧ row[i] < n
    · rw [if_pos ha, hm _ ha.1 ha.2]
      by_cases hx : (i : Int) - Lst row row[i] i > k
      · rw [if_pos hx]
        simp only [verdict, Bool.false_eq_true, false_iff, not_and]
        intro h
        have := h i (Nat.le_refl _) hlt _ hge ha.1 ha.2
        omega
      · rw [if_neg hx]
        refine step _ (fun a h1 h2 => ?_) (fun a e h1 h2 => ?_)
        · unfold lastAt
          rw [mget_mset]
          simp only [Lst, hge, Option.some.injEq]
          by_cases e : a = row[i]
          · rw [if_pos e, if_pos e.symm]; rfl
          · rw [if_neg e, if_neg (fun h => e h.symm)]; exact hm a h1 h2
        · rw [hge] at e; cases e; omega
    · rw [if_neg ha]
      refine step _ (fun a h1 h2 => ?_) (fun a e h1 h2 => ?_)
      · rw [hm a h1 h2]
        simp only [Lst, hge, Option.some.injEq]
        rw [if_neg (fun e => ha (by rw [e]; exact ⟨h1, h2⟩))]
      · rw [hge] at e; cases e; exact absurd ⟨h1, h2⟩ ha

/-- more agents than places: one is missing -/
theorem pigeon : ∀ (n : Nat) (w : List Int), (∀ a : Nat, a < n → (a : Int) ∈ w) → n ≤ w.length
  | 0, _, _ => Nat.zero_le _
  | n + 1, w, h => by
    have hn := h n (by omega)
    have ih := pigeon n (w.erase (n : Int)) (fun a ha => (List.mem_erase_of_ne (by omega)).2 (h a (by omega)))
    rw [List.length_erase_of_mem hn] at ih
    have := List.length_pos_of_mem hn
    omega

theorem inW_iff {row : List Int} {k f a : Nat} : inW row k f a = true ↔ ∃ j, f ≤ j ∧ j < f + k ∧ row[j]? = some (a : Int) := by
  unfold inW
  simp only [List.any_eq_true, decide_eq_true_eq]
  constructor
  · rintro ⟨x, hx, rfl⟩
    obtain ⟨i, hi⟩ := List.getElem?_of_mem hx
    rw [List.getElem?_take] at hi
    split at hi
    · rw [List.getElem?_drop] at hi
      exact ⟨f + i, by omega, by omega, hi⟩
    · cases hi
  · rintro ⟨j, h1, h2, h3⟩
    refine ⟨(a : Int), ?_, rfl⟩
    refine List.mem_of_getElem? (i := j - f) ?_
    rw [List.getElem?_take, if_pos (by omega), List.getElem?_drop, show f + (j - f) = j by omega]
    exact h3

theorem allW_iff {row : List Int} {n k : Nat} : allW row n k 0 = true ↔ ∀ f, f + k ≤ row.length → ∀ a, a < n → ∃ j, f ≤ j ∧ j < f + k ∧ row[j]? = some (a : Int) := by
  unfold allW okW
  simp only [List.all_eq_true, List.mem_range, Nat.zero_add, inW_iff]
  constructor
  · intro h f hf a ha; exact h f (by omega) a ha
  · intro h f hf a ha; exact h f (by omega) a ha

theorem fair_law : FairLaw := by
  intro row n k hk
  unfold fairP
  rw [if_neg (by omega)]
  by_cases c2 : (n : Int) = 0 ∨ (row.length : Int) < (k : Int)
  · rw [if_pos c2]
    symm
    rw [allW_iff]
    intro f hf a ha
    omega
  · rw [if_neg c2]
    by_cases c3 : (n : Int) > (k : Int)
    · rw [if_pos c3]
      symm
      rw [Bool.eq_false_iff]
      intro h
      rw [allW_iff] at h
      have hw := pigeon n (row.take k) (fun a ha => by
        obtain ⟨j, h1, h2, h3⟩ := h 0 (by omega) a ha
        exact List.mem_of_getElem? (i := j) (by rw [List.getElem?_take, if_pos (by omega)]; exact h3))
      rw [List.length_take] at hw
      omega
    · rw [if_neg c3, Bool.eq_iff_iff]
      have sp := scan_spec (row := row) (n := (n : Int)) (k := (k : Int)) row.length 0 [] (by omega) (fun a _ _ => rfl)
      rw [List.drop_zero] at sp
      rw [sp, allW_iff]
      constructor
      · rintro ⟨h1, h2⟩ f hf a ha
        refine Classical.byContradiction fun hno => ?_
        have hno' : ∀ j, f ≤ j → j < f + k → row[j]? ≠ some (a : Int) := fun j g1 g2 g3 => hno ⟨j, g1, g2, g3⟩
        -- the first place from f on, if there is one
        have key : ∀ (d i : Nat), f ≤ i → i + d = row.length → (∀ j, f ≤ j → j < i → row[j]? ≠ some (a : Int)) → False := by
          intro d
          induction d with
          | zero =>
            intro i g1 g2 g3
            obtain rfl : i = row.length := by omega
            have q1 := h2 (a : Int) (by omega) (by omega)
            have q2 := Lst_lt row (a : Int) f row.length g1 g3
            omega
          | succ d ih =>
            intro i g1 g2 g3
            by_cases e : row[i]? = some (a : Int)
            · have q1 := h1 i (Nat.zero_le _) (by omega) (a : Int) e (by omega) (by omega)
              have q2 := Lst_lt row (a : Int) f i g1 g3
              have q3 : f + k ≤ i := by
                rcases Nat.lt_or_ge i (f + k) with hl | hl
                · exact absurd e (hno' i g1 hl)
                · exact hl
              omega
            · refine ih (i + 1) (by omega) (by omega) (fun j p1 p2 => ?_)
              by_cases e' : j = i
              · subst e'; exact e
              · exact g3 j p1 (by omega)
        exact key (row.length - f) f (Nat.le_refl _) (by omega) (fun j p1 p2 => by omega)
      · intro h
        refine ⟨fun j _ hj a e h0 hn => ?_, fun a h0 hn => ?_⟩
        · refine Classical.byContradiction fun hgt => ?_
          obtain ⟨b, rfl⟩ := Int.eq_ofNat_of_zero_le h0
          have hL := Lst_ge row (b : Int) j
          obtain ⟨f, hf⟩ := Int.eq_ofNat_of_zero_le (show 0 ≤ Lst row (b : Int) j + 1 by omega)
          obtain ⟨i, g1, g2, g3⟩ := h f (by omega) b (by omega)
          exact Lst_none row (b : Int) j i (by omega) (by omega) g3
        · refine Classical.byContradiction fun hgt => ?_
          obtain ⟨b, rfl⟩ := Int.eq_ofNat_of_zero_le h0
          have hL := Lst_ge row (b : Int) row.length
          obtain ⟨f, hf⟩ := Int.eq_ofNat_of_zero_le (show 0 ≤ Lst row (b : Int) row.length + 1 by omega)
          obtain ⟨i, g1, g2, g3⟩ := h f (by omega) b (by omega)
          exact Lst_none row (b : Int) row.length i (by omega) (by omega) g3
end K
open Go Go.Proofs Go.Fal
namespace K

theorem push {h : H} {v : V} {acc : List Int} {a : Int} (o : Own h v (ints acc)) (hl : acc.length < 2 ^ 20) :
    ∃ h1 v' h2, buildSliceO Tryz.prog h 67 1 [(0, .int .i64 a)] = some (.slice h.next 0 1 1 1 true, h1) ∧ builtinO Tryz.prog h1 .append #[67, 67] [v, .slice h.next 0 1 1 1 true] = some (v', h2) ∧
      Own h2 v' (ints (acc ++ [a])) ∧ Keep (fun b => sblk v = some b) h h2 ∧ (∀ b, sblk v' = some b → h.next ≤ b) := by
  have k1 := keep_new h (ofCells [V.int .i64 a])
  have r1 := row_one (h := h) (x := V.int .i64 a)
  have n1 : (h.new (ofCells [V.int .i64 a])).next = h.next + 1 := rfl
  have o1 := o.keep k1 (fun _ _ hf => hf)
  have hlen : (ints acc).length + [V.int .i64 a].length ≤ 2 ^ 32 := by rw [ints_length]; simp only [List.length_singleton]; omega
  obtain ⟨v', h2, e2, o2, k2, w2, n2⟩ := o1.append r1 el67 (show [V.int .i64 a].all V.plain = true from rfl) hlen (by omega)
  refine ⟨_, v', h2, buildSlice1 et67 so3 zo3 rfl rfl, by rw [app_eq ap67]; exact e2, by simpa [ints] using o2, (k1.weak (Y := fun b => sblk v = some b) (fun _ _ hf => hf.elim)).trans k2 (fun _ _ hb => hb), fun b hb => ?_⟩
  rw [(n2 (by simp)).2] at hb
  cases hb
  rw [n1]; omega

def md5 (x : Int) : Int := x.tmod 5
theorem md5_small {x : Int} (h : 0 ≤ x ∧ x ≤ 255) : 0 ≤ md5 x ∧ md5 x ≤ 4 := by
  unfold md5
  have h1 := Int.tmod_nonneg 5 h.1
  have h2 := Int.tmod_lt_of_pos x (show (0 : Int) < 5 by omega)
  omega

section
variable {h0 : H} {Q : V → H → Prop} {rest : List Item} {v2 : V} {w : List Int}

set_option maxRecDepth 100000 in
theorem picked_loop (r : RowR h0 v2 (u8s w)) (hl : w.length ≤ 40) (hw : ∀ x ∈ w, 0 ≤ x ∧ x ≤ 255) : ∀ (q i : Nat) (tm : T V) (h : H) (vr : V), i + q = w.length → tm.get 119 = some v2 → tm.get 120 = some (.int .i64 w.length) → tm.get 121 = some (.int .i64 i) → tm.get 21 = some vr →
    Own h vr (ints ((w.take i).map md5)) → Keep None' h0 h → (∀ b, sblk vr = some b → h0.next ≤ b) →
    (∀ tm' h' vr', (∀ t, t ≤ 20 → tm'.get t = tm.get t) → tm'.get 21 = some vr' → Own h' vr' (ints (w.map md5)) → Keep None' h0 h' → Wp c3 8 195 tm' rest [] none h' Q) →
    Wp c3 8 195 tm (.code c8_93 :: .inLoop c8_93 :: .inBlock 4 :: rest) [] none h Q := by
  intro q
  induction q with
  | zero =>
    intro i tm h vr hi t119 t120 t121 t21 o kp hv hk
    obtain rfl : i = w.length := by omega
    rw [w8_93, w8_94]
    simp only [wps_nil, wps_move, wps_assign, wps_pick, wps_binOp, wps_unOp, wps_load, wps_fieldAddr, wps_field, wps_indexAddr, wps_index, wps_lookup, wps_nilCheck, wps_extract, wps_makeFunc, wps_slice, wps_alloc, wps_box, wps_buildSlice, wps_store, wps_mapUpdate, wps_len, wps_min, wps_max, wps_app, ev_tmp, ev_cint, ev_cbool, ev_cnils, ev_cnilp, ev_cnilf, ev_cnili, ev_cnilm, ev_func, evs_nil, evs_cons, consO_some, evParts_nil, evParts_cons, consP_some, evOpt_none, evOpt_sm, someO_some, bo_some, bo2_some, e1_some, e2_some, putP_none, putP_some, vB_bool, T.get_set, reduceIte, Nat.reduceEqDiff, Nat.reduceLT, c3P, c3ng, binO_add, binO_sub, binO_mul, binO_eql, binO_neq, binO_lss, binO_leq, binO_gtr, binO_geq, unO_not, true_and, Bool.false_eq_true, if_false, if_true, forall_const, extrO, nilChk, false_implies, t120, t121]
    rw [w8_95, w8_96]
    simp only [wps_nil, wps_move, wps_assign, wps_pick, wps_binOp, wps_unOp, wps_load, wps_fieldAddr, wps_field, wps_indexAddr, wps_index, wps_lookup, wps_nilCheck, wps_extract, wps_makeFunc, wps_slice, wps_alloc, wps_box, wps_buildSlice, wps_store, wps_mapUpdate, wps_len, wps_min, wps_max, wps_app, ev_tmp, ev_cint, ev_cbool, ev_cnils, ev_cnilp, ev_cnilf, ev_cnili, ev_cnilm, ev_func, evs_nil, evs_cons, consO_some, evParts_nil, evParts_cons, consP_some, evOpt_none, evOpt_sm, someO_some, bo_some, bo2_some, e1_some, e2_some, putP_none, putP_some, vB_bool, T.get_set, reduceIte, Nat.reduceEqDiff, Nat.reduceLT, c3P, c3ng, binO_add, binO_sub, binO_mul, binO_eql, binO_neq, binO_lss, binO_leq, binO_gtr, binO_geq, unO_not, true_and, Bool.false_eq_true, if_false, if_true, forall_const, extrO, nilChk, false_implies, Int.lt_irrefl, decide_false]
    rw [w8_98, wp_exit_code, wp_exit_loop, wp_exit_here]
    rw [List.take_length] at o
    refine hk _ h vr (fun t ht => ?_) ?_ o kp
    · have e : t ≠ 122 := by omega
      simp only [T.get_set, e, if_false]
    · simp only [wps_nil, wps_move, wps_assign, wps_pick, wps_binOp, wps_unOp, wps_load, wps_fieldAddr, wps_field, wps_indexAddr, wps_index, wps_lookup, wps_nilCheck, wps_extract, wps_makeFunc, wps_slice, wps_alloc, wps_box, wps_buildSlice, wps_store, wps_mapUpdate, wps_len, wps_min, wps_max, wps_app, ev_tmp, ev_cint, ev_cbool, ev_cnils, ev_cnilp, ev_cnilf, ev_cnili, ev_cnilm, ev_func, evs_nil, evs_cons, consO_some, evParts_nil, evParts_cons, consP_some, evOpt_none, evOpt_sm, someO_some, bo_some, bo2_some, e1_some, e2_some, putP_none, putP_some, vB_bool, T.get_set, reduceIte, Nat.reduceEqDiff, Nat.reduceLT, c3P, c3ng, binO_add, binO_sub, binO_mul, binO_eql, binO_neq, binO_lss, binO_leq, binO_gtr, binO_geq, unO_not, true_and, Bool.false_eq_true, if_false, if_true, forall_const, extrO, nilChk, false_implies, t21]
  | succ q ih =>
    intro i tm h vr hi t119 t120 t121 t21 o kp hv hk
    have hlt : i < w.length := by omega
    have hd : decide ((i : Int) < (w.length : Int)) = true := by simpa using hlt
    have hwi : IntKind.i64.wrap ((i : Int) + 1) = ((i + 1 : Nat) : Int) := by rw [wrap64 (by omega) (by omega)]; omega
    have r1 : RowR h v2 (u8s w) := r.keep kp (fun _ _ hf => hf)
    have hx := md5_small (hw w[i] (List.getElem_mem hlt))
    have hwx : IntKind.i64.wrap (w[i].tmod 5) = md5 w[i] := by unfold md5 at *; rw [wrap64 (by omega) (by omega)]
    rw [w8_93, w8_94]
    simp only [wps_nil, wps_move, wps_assign, wps_pick, wps_binOp, wps_unOp, wps_load, wps_fieldAddr, wps_field, wps_indexAddr, wps_index, wps_lookup, wps_nilCheck, wps_extract, wps_makeFunc, wps_slice, wps_alloc, wps_box, wps_buildSlice, wps_store, wps_mapUpdate, wps_len, wps_min, wps_max, wps_app, ev_tmp, ev_cint, ev_cbool, ev_cnils, ev_cnilp, ev_cnilf, ev_cnili, ev_cnilm, ev_func, evs_nil, evs_cons, consO_some, evParts_nil, evParts_cons, consP_some, evOpt_none, evOpt_sm, someO_some, bo_some, bo2_some, e1_some, e2_some, putP_none, putP_some, vB_bool, T.get_set, reduceIte, Nat.reduceEqDiff, Nat.reduceLT, c3P, c3ng, binO_add, binO_sub, binO_mul, binO_eql, binO_neq, binO_lss, binO_leq, binO_gtr, binO_geq, unO_not, true_and, Bool.false_eq_true, if_false, if_true, forall_const, extrO, nilChk, false_implies, t120, t121]
    rw [w8_95, w8_96]
    simp only [wps_nil, wps_move, wps_assign, wps_pick, wps_binOp, wps_unOp, wps_load, wps_fieldAddr, wps_field, wps_indexAddr, wps_index, wps_lookup, wps_nilCheck, wps_extract, wps_makeFunc, wps_slice, wps_alloc, wps_box, wps_buildSlice, wps_store, wps_mapUpdate, wps_len, wps_min, wps_max, wps_app, ev_tmp, ev_cint, ev_cbool, ev_cnils, ev_cnilp, ev_cnilf, ev_cnili, ev_cnilm, ev_func, evs_nil, evs_cons, consO_some, evParts_nil, evParts_cons, consP_some, evOpt_none, evOpt_sm, someO_some, bo_some, bo2_some, e1_some, e2_some, putP_none, putP_some, vB_bool, T.get_set, reduceIte, Nat.reduceEqDiff, Nat.reduceLT, c3P, c3ng, binO_add, binO_sub, binO_mul, binO_eql, binO_neq, binO_lss, binO_leq, binO_gtr, binO_geq, unO_not, true_and, Bool.false_eq_true, if_false, if_true, forall_const, extrO, nilChk, false_implies, hd]
    rw [w8_97, w8_99, w8_100, w8_101, w8_102]
    simp only [wps_nil, wps_move, wps_assign, wps_pick, wps_binOp, wps_unOp, wps_load, wps_fieldAddr, wps_field, wps_indexAddr, wps_index, wps_lookup, wps_nilCheck, wps_extract, wps_makeFunc, wps_slice, wps_alloc, wps_box, wps_buildSlice, wps_store, wps_mapUpdate, wps_len, wps_min, wps_max, wps_app, ev_tmp, ev_cint, ev_cbool, ev_cnils, ev_cnilp, ev_cnilf, ev_cnili, ev_cnilm, ev_func, evs_nil, evs_cons, consO_some, evParts_nil, evParts_cons, consP_some, evOpt_none, evOpt_sm, someO_some, bo_some, bo2_some, e1_some, e2_some, putP_none, putP_some, vB_bool, T.get_set, reduceIte, Nat.reduceEqDiff, Nat.reduceLT, c3P, c3ng, binO_add, binO_sub, binO_mul, binO_eql, binO_neq, binO_lss, binO_leq, binO_gtr, binO_geq, unO_not, true_and, Bool.false_eq_true, if_false, if_true, forall_const, extrO, nilChk, false_implies, t119, t121]
    rw [r1.addr sz46 (by simpa using hlt)]
    simp only [wps_nil, wps_move, wps_assign, wps_pick, wps_binOp, wps_unOp, wps_load, wps_fieldAddr, wps_field, wps_indexAddr, wps_index, wps_lookup, wps_nilCheck, wps_extract, wps_makeFunc, wps_slice, wps_alloc, wps_box, wps_buildSlice, wps_store, wps_mapUpdate, wps_len, wps_min, wps_max, wps_app, ev_tmp, ev_cint, ev_cbool, ev_cnils, ev_cnilp, ev_cnilf, ev_cnili, ev_cnilm, ev_func, evs_nil, evs_cons, consO_some, evParts_nil, evParts_cons, consP_some, evOpt_none, evOpt_sm, someO_some, bo_some, bo2_some, e1_some, e2_some, putP_none, putP_some, vB_bool, T.get_set, reduceIte, Nat.reduceEqDiff, Nat.reduceLT, c3P, c3ng, binO_add, binO_sub, binO_mul, binO_eql, binO_neq, binO_lss, binO_leq, binO_gtr, binO_geq, unO_not, true_and, Bool.false_eq_true, if_false, if_true, forall_const, extrO, nilChk, false_implies]
    rw [r1.load ag5 (by simpa using hlt)]
    simp only [wps_nil, wps_move, wps_assign, wps_pick, wps_binOp, wps_unOp, wps_load, wps_fieldAddr, wps_field, wps_indexAddr, wps_index, wps_lookup, wps_nilCheck, wps_extract, wps_makeFunc, wps_slice, wps_alloc, wps_box, wps_buildSlice, wps_store, wps_mapUpdate, wps_len, wps_min, wps_max, wps_app, ev_tmp, ev_cint, ev_cbool, ev_cnils, ev_cnilp, ev_cnilf, ev_cnili, ev_cnilm, ev_func, evs_nil, evs_cons, consO_some, evParts_nil, evParts_cons, consP_some, evOpt_none, evOpt_sm, someO_some, bo_some, bo2_some, e1_some, e2_some, putP_none, putP_some, vB_bool, T.get_set, reduceIte, Nat.reduceEqDiff, Nat.reduceLT, c3P, c3ng, binO_add, binO_sub, binO_mul, binO_eql, binO_neq, binO_lss, binO_leq, binO_gtr, binO_geq, unO_not, true_and, Bool.false_eq_true, if_false, if_true, forall_const, extrO, nilChk, false_implies, u8s, List.getElem_map]
    rw [w8_103]
    obtain ⟨h1, v', h2, e1, e2, o2, k2, hv2⟩ := push (a := md5 w[i]) o (by simp; omega)
    simp only [wps_nil, wps_move, wps_assign, wps_pick, wps_binOp, wps_unOp, wps_load, wps_fieldAddr, wps_field, wps_indexAddr, wps_index, wps_lookup, wps_nilCheck, wps_extract, wps_makeFunc, wps_slice, wps_alloc, wps_box, wps_buildSlice, wps_store, wps_mapUpdate, wps_len, wps_min, wps_max, wps_app, ev_tmp, ev_cint, ev_cbool, ev_cnils, ev_cnilp, ev_cnilf, ev_cnili, ev_cnilm, ev_func, evs_nil, evs_cons, consO_some, evParts_nil, evParts_cons, consP_some, evOpt_none, evOpt_sm, someO_some, bo_some, bo2_some, e1_some, e2_some, putP_none, putP_some, vB_bool, T.get_set, reduceIte, Nat.reduceEqDiff, Nat.reduceLT, c3P, c3ng, binO_add, binO_sub, binO_mul, binO_eql, binO_neq, binO_lss, binO_leq, binO_gtr, binO_geq, unO_not, true_and, Bool.false_eq_true, if_false, if_true, forall_const, extrO, nilChk, false_implies, binO_remc (show (5 : Int) ≠ 0 by omega), wcv5_3, hwx, t21, e1]
    simp only [wps_nil, wps_move, wps_assign, wps_pick, wps_binOp, wps_unOp, wps_load, wps_fieldAddr, wps_field, wps_indexAddr, wps_index, wps_lookup, wps_nilCheck, wps_extract, wps_makeFunc, wps_slice, wps_alloc, wps_box, wps_buildSlice, wps_store, wps_mapUpdate, wps_len, wps_min, wps_max, wps_app, ev_tmp, ev_cint, ev_cbool, ev_cnils, ev_cnilp, ev_cnilf, ev_cnili, ev_cnilm, ev_func, evs_nil, evs_cons, consO_some, evParts_nil, evParts_cons, consP_some, evOpt_none, evOpt_sm, someO_some, bo_some, bo2_some, e1_some, e2_some, putP_none, putP_some, vB_bool, T.get_set, reduceIte, Nat.reduceEqDiff, Nat.reduceLT, c3P, c3ng, binO_add, binO_sub, binO_mul, binO_eql, binO_neq, binO_lss, binO_leq, binO_gtr, binO_geq, unO_not, true_and, Bool.false_eq_true, if_false, if_true, forall_const, extrO, nilChk, false_implies, e2, t21]
    rw [Fal.wp_inBlock, w8_104]
    simp only [wps_nil, wps_move, wps_assign, wps_pick, wps_binOp, wps_unOp, wps_load, wps_fieldAddr, wps_field, wps_indexAddr, wps_index, wps_lookup, wps_nilCheck, wps_extract, wps_makeFunc, wps_slice, wps_alloc, wps_box, wps_buildSlice, wps_store, wps_mapUpdate, wps_len, wps_min, wps_max, wps_app, ev_tmp, ev_cint, ev_cbool, ev_cnils, ev_cnilp, ev_cnilf, ev_cnili, ev_cnilm, ev_func, evs_nil, evs_cons, consO_some, evParts_nil, evParts_cons, consP_some, evOpt_none, evOpt_sm, someO_some, bo_some, bo2_some, e1_some, e2_some, putP_none, putP_some, vB_bool, T.get_set, reduceIte, Nat.reduceEqDiff, Nat.reduceLT, c3P, c3ng, binO_add, binO_sub, binO_mul, binO_eql, binO_neq, binO_lss, binO_leq, binO_gtr, binO_geq, unO_not, true_and, Bool.false_eq_true, if_false, if_true, forall_const, extrO, nilChk, false_implies, t121, hwi]
    rw [Fal.wp_inLoop]
    have htk : (w.take (i + 1)).map md5 = (w.take i).map md5 ++ [md5 w[i]] := by
      rw [List.take_succ_eq_append_getElem hlt, List.map_append]; rfl
    refine ih (i + 1) _ h2 v' (by omega) ?_ ?_ ?_ ?_ ?_ ?_ ?_ ?_ <;> (try simp only [wps_nil, wps_move, wps_assign, wps_pick, wps_binOp, wps_unOp, wps_load, wps_fieldAddr, wps_field, wps_indexAddr, wps_index, wps_lookup, wps_nilCheck, wps_extract, wps_makeFunc, wps_slice, wps_alloc, wps_box, wps_buildSlice, wps_store, wps_mapUpdate, wps_len, wps_min, wps_max, wps_app, ev_tmp, ev_cint, ev_cbool, ev_cnils, ev_cnilp, ev_cnilf, ev_cnili, ev_cnilm, ev_func, evs_nil, evs_cons, consO_some, evParts_nil, evParts_cons, consP_some, evOpt_none, evOpt_sm, someO_some, bo_some, bo2_some, e1_some, e2_some, putP_none, putP_some, vB_bool, T.get_set, reduceIte, Nat.reduceEqDiff, Nat.reduceLT, c3P, c3ng, binO_add, binO_sub, binO_mul, binO_eql, binO_neq, binO_lss, binO_leq, binO_gtr, binO_geq, unO_not, true_and, Bool.false_eq_true, if_false, if_true, forall_const, extrO, nilChk, false_implies, t119, t120])
    · rw [htk]; exact o2
    · exact kp.trans k2 (fun b hb hh => by have := hv b hh; omega)
    · intro b hb; have := hv2 b hb; have := kp.1; omega
    · intro tm' h' vr' hs
      refine hk tm' h' vr' (fun t ht => ?_)
      rw [hs t ht]
      have e : t ≠ 122 ∧ t ≠ 123 ∧ t ≠ 124 ∧ t ≠ 23 ∧ t ≠ 125 ∧ t ≠ 126 ∧ t ≠ 127 ∧ t ≠ 128 ∧ t ≠ 129 ∧ t ≠ 130 ∧ t ≠ 21 ∧ t ≠ 131 ∧ t ≠ 121 := by omega
      simp only [T.get_set, e, if_false]
end

set_option maxRecDepth 100000 in
/-- from what was picked on -/
theorem picked_part {h : H} {tm : T V} {s2 : V} {l2 : List Int} {ag mo : Int} (h3 : tm.get 3 = some s2) (h4 : tm.get 4 = some (.int .u8 ag)) (h5 : tm.get 5 = some (.int .u8 mo)) (r : RowR h s2 (u8s l2)) (hl2 : l2.length < 2 ^ 60) (hw : ∀ x ∈ l2, 0 ≤ x ∧ x ≤ 255)
    (ha : 0 ≤ ag ∧ ag ≤ 255) (hm : 0 ≤ mo ∧ mo ≤ 255) (hb : baseB h = true) (h11 : 11 ≤ h.next) : Wp c3 8 195 tm [.code c8_86] [] none h Qt := by
  rw [w8_86, w8_87]
  simp only [wps_nil, wps_move, wps_assign, wps_pick, wps_binOp, wps_unOp, wps_load, wps_fieldAddr, wps_field, wps_indexAddr, wps_index, wps_lookup, wps_nilCheck, wps_extract, wps_makeFunc, wps_slice, wps_alloc, wps_box, wps_buildSlice, wps_store, wps_mapUpdate, wps_len, wps_min, wps_max, wps_app, ev_tmp, ev_cint, ev_cbool, ev_cnils, ev_cnilp, ev_cnilf, ev_cnili, ev_cnilm, ev_func, evs_nil, evs_cons, consO_some, evParts_nil, evParts_cons, consP_some, evOpt_none, evOpt_sm, someO_some, bo_some, bo2_some, e1_some, e2_some, putP_none, putP_some, vB_bool, T.get_set, reduceIte, Nat.reduceEqDiff, Nat.reduceLT, c3P, c3ng, binO_add, binO_sub, binO_mul, binO_eql, binO_neq, binO_lss, binO_leq, binO_gtr, binO_geq, unO_not, true_and, Bool.false_eq_true, if_false, if_true, forall_const, extrO, nilChk, false_implies]
  rw [w8_88, w8_89, w8_90]
  simp only [wps_nil, wps_move, wps_assign, wps_pick, wps_binOp, wps_unOp, wps_load, wps_fieldAddr, wps_field, wps_indexAddr, wps_index, wps_lookup, wps_nilCheck, wps_extract, wps_makeFunc, wps_slice, wps_alloc, wps_box, wps_buildSlice, wps_store, wps_mapUpdate, wps_len, wps_min, wps_max, wps_app, ev_tmp, ev_cint, ev_cbool, ev_cnils, ev_cnilp, ev_cnilf, ev_cnili, ev_cnilm, ev_func, evs_nil, evs_cons, consO_some, evParts_nil, evParts_cons, consP_some, evOpt_none, evOpt_sm, someO_some, bo_some, bo2_some, e1_some, e2_some, putP_none, putP_some, vB_bool, T.get_set, reduceIte, Nat.reduceEqDiff, Nat.reduceLT, c3P, c3ng, binO_add, binO_sub, binO_mul, binO_eql, binO_neq, binO_lss, binO_leq, binO_gtr, binO_geq, unO_not, true_and, Bool.false_eq_true, if_false, if_true, forall_const, extrO, nilChk, false_implies, h3]
  rw [r.len lc46]
  simp only [wps_nil, wps_move, wps_assign, wps_pick, wps_binOp, wps_unOp, wps_load, wps_fieldAddr, wps_field, wps_indexAddr, wps_index, wps_lookup, wps_nilCheck, wps_extract, wps_makeFunc, wps_slice, wps_alloc, wps_box, wps_buildSlice, wps_store, wps_mapUpdate, wps_len, wps_min, wps_max, wps_app, ev_tmp, ev_cint, ev_cbool, ev_cnils, ev_cnilp, ev_cnilf, ev_cnili, ev_cnilm, ev_func, evs_nil, evs_cons, consO_some, evParts_nil, evParts_cons, consP_some, evOpt_none, evOpt_sm, someO_some, bo_some, bo2_some, e1_some, e2_some, putP_none, putP_some, vB_bool, T.get_set, reduceIte, Nat.reduceEqDiff, Nat.reduceLT, c3P, c3ng, binO_add, binO_sub, binO_mul, binO_eql, binO_neq, binO_lss, binO_leq, binO_gtr, binO_geq, unO_not, true_and, Bool.false_eq_true, if_false, if_true, forall_const, extrO, nilChk, false_implies, min_ints, h3, u8s_length]
  have hmin : (if (40 : Int) < (l2.length : Int) then (40 : Int) else (l2.length : Int)) = ((min l2.length 40 : Nat) : Int) := by
    by_cases c : 40 < l2.length
    · rw [if_pos (by omega), Nat.min_eq_right (by omega)]; rfl
    · rw [if_neg (by omega), Nat.min_eq_left (by omega)]
  rw [hmin]
  obtain ⟨v2, e, r2⟩ := row_slice0 r (P := Tryz.prog) (h' := h) sz46 (k' := .i64) (hi := min l2.length 40) (by rw [u8s_length]; omega)
  rw [e]
  simp only [wps_nil, wps_move, wps_assign, wps_pick, wps_binOp, wps_unOp, wps_load, wps_fieldAddr, wps_field, wps_indexAddr, wps_index, wps_lookup, wps_nilCheck, wps_extract, wps_makeFunc, wps_slice, wps_alloc, wps_box, wps_buildSlice, wps_store, wps_mapUpdate, wps_len, wps_min, wps_max, wps_app, ev_tmp, ev_cint, ev_cbool, ev_cnils, ev_cnilp, ev_cnilf, ev_cnili, ev_cnilm, ev_func, evs_nil, evs_cons, consO_some, evParts_nil, evParts_cons, consP_some, evOpt_none, evOpt_sm, someO_some, bo_some, bo2_some, e1_some, e2_some, putP_none, putP_some, vB_bool, T.get_set, reduceIte, Nat.reduceEqDiff, Nat.reduceLT, c3P, c3ng, binO_add, binO_sub, binO_mul, binO_eql, binO_neq, binO_lss, binO_leq, binO_gtr, binO_geq, unO_not, true_and, Bool.false_eq_true, if_false, if_true, forall_const, extrO, nilChk, false_implies]
  have ew : (u8s l2).take (min l2.length 40) = u8s (l2.take 40) := by
    rw [u8s, ← List.map_take]; unfold u8s
    congr 1
    rw [← List.take_take]; exact List.take_of_length_le (by simp; omega)
  rw [ew] at r2
  rw [r2.len lc46]
  simp only [wps_nil, wps_move, wps_assign, wps_pick, wps_binOp, wps_unOp, wps_load, wps_fieldAddr, wps_field, wps_indexAddr, wps_index, wps_lookup, wps_nilCheck, wps_extract, wps_makeFunc, wps_slice, wps_alloc, wps_box, wps_buildSlice, wps_store, wps_mapUpdate, wps_len, wps_min, wps_max, wps_app, ev_tmp, ev_cint, ev_cbool, ev_cnils, ev_cnilp, ev_cnilf, ev_cnili, ev_cnilm, ev_func, evs_nil, evs_cons, consO_some, evParts_nil, evParts_cons, consP_some, evOpt_none, evOpt_sm, someO_some, bo_some, bo2_some, e1_some, e2_some, putP_none, putP_some, vB_bool, T.get_set, reduceIte, Nat.reduceEqDiff, Nat.reduceLT, c3P, c3ng, binO_add, binO_sub, binO_mul, binO_eql, binO_neq, binO_lss, binO_leq, binO_gtr, binO_geq, unO_not, true_and, Bool.false_eq_true, if_false, if_true, forall_const, extrO, nilChk, false_implies, u8s_length]
  rw [w8_91, w8_92]
  refine picked_loop r2 (by simp; omega) (fun x hx => hw x (List.mem_of_mem_take hx)) (l2.take 40).length 0 _ h .nils (by omega) ?_ ?_ ?_ ?_ (.inl ⟨rfl, rfl⟩) (Keep.refl _ _) (fun b hb => by cases hb) ?_ <;> (try simp only [wps_nil, wps_move, wps_assign, wps_pick, wps_binOp, wps_unOp, wps_load, wps_fieldAddr, wps_field, wps_indexAddr, wps_index, wps_lookup, wps_nilCheck, wps_extract, wps_makeFunc, wps_slice, wps_alloc, wps_box, wps_buildSlice, wps_store, wps_mapUpdate, wps_len, wps_min, wps_max, wps_app, ev_tmp, ev_cint, ev_cbool, ev_cnils, ev_cnilp, ev_cnilf, ev_cnili, ev_cnilm, ev_func, evs_nil, evs_cons, consO_some, evParts_nil, evParts_cons, consP_some, evOpt_none, evOpt_sm, someO_some, bo_some, bo2_some, e1_some, e2_some, putP_none, putP_some, vB_bool, T.get_set, reduceIte, Nat.reduceEqDiff, Nat.reduceLT, c3P, c3ng, binO_add, binO_sub, binO_mul, binO_eql, binO_neq, binO_lss, binO_leq, binO_gtr, binO_geq, unO_not, true_and, Bool.false_eq_true, if_false, if_true, forall_const, extrO, nilChk, false_implies])
  · rfl
  · intro tm' h' vr hs t21 o kp
    have u4 : tm'.get 4 = some (.int .u8 ag) := by rw [hs 4 (by omega)]; simp only [wps_nil, wps_move, wps_assign, wps_pick, wps_binOp, wps_unOp, wps_load, wps_fieldAddr, wps_field, wps_indexAddr, wps_index, wps_lookup, wps_nilCheck, wps_extract, wps_makeFunc, wps_slice, wps_alloc, wps_box, wps_buildSlice, wps_store, wps_mapUpdate, wps_len, wps_min, wps_max, wps_app, ev_tmp, ev_cint, ev_cbool, ev_cnils, ev_cnilp, ev_cnilf, ev_cnili, ev_cnilm, ev_func, evs_nil, evs_cons, consO_some, evParts_nil, evParts_cons, consP_some, evOpt_none, evOpt_sm, someO_some, bo_some, bo2_some, e1_some, e2_some, putP_none, putP_some, vB_bool, T.get_set, reduceIte, Nat.reduceEqDiff, Nat.reduceLT, c3P, c3ng, binO_add, binO_sub, binO_mul, binO_eql, binO_neq, binO_lss, binO_leq, binO_gtr, binO_geq, unO_not, true_and, Bool.false_eq_true, if_false, if_true, forall_const, extrO, nilChk, false_implies, h4]
    have u5 : tm'.get 5 = some (.int .u8 mo) := by rw [hs 5 (by omega)]; simp only [wps_nil, wps_move, wps_assign, wps_pick, wps_binOp, wps_unOp, wps_load, wps_fieldAddr, wps_field, wps_indexAddr, wps_index, wps_lookup, wps_nilCheck, wps_extract, wps_makeFunc, wps_slice, wps_alloc, wps_box, wps_buildSlice, wps_store, wps_mapUpdate, wps_len, wps_min, wps_max, wps_app, ev_tmp, ev_cint, ev_cbool, ev_cnils, ev_cnilp, ev_cnilf, ev_cnili, ev_cnilm, ev_func, evs_nil, evs_cons, consO_some, evParts_nil, evParts_cons, consP_some, evOpt_none, evOpt_sm, someO_some, bo_some, bo2_some, e1_some, e2_some, putP_none, putP_some, vB_bool, T.get_set, reduceIte, Nat.reduceEqDiff, Nat.reduceLT, c3P, c3ng, binO_add, binO_sub, binO_mul, binO_eql, binO_neq, binO_lss, binO_leq, binO_gtr, binO_geq, unO_not, true_and, Bool.false_eq_true, if_false, if_true, forall_const, extrO, nilChk, false_implies, h5]
    have a1 := Int.tmod_nonneg 7 ha.1
    have a2 := Int.tmod_lt_of_pos ag (show (0 : Int) < 7 by omega)
    have m1 := Int.tmod_nonneg 9 hm.1
    have m2 := Int.tmod_lt_of_pos mo (show (0 : Int) < 9 by omega)
    have w1 : IntKind.i64.wrap (ag.tmod 7) = ag.tmod 7 := wrap64 (by omega) (by omega)
    have w2 : IntKind.i64.wrap (ag.tmod 7 - 1) = ag.tmod 7 - 1 := wrap64 (by omega) (by omega)
    have w3 : IntKind.i64.wrap (mo.tmod 9) = mo.tmod 9 := wrap64 (by omega) (by omega)
    have w4 : IntKind.i64.wrap (mo.tmod 9 - 1) = mo.tmod 9 - 1 := wrap64 (by omega) (by omega)
    rw [w8_105, w8_106]
    simp only [wps_nil, wps_move, wps_assign, wps_pick, wps_binOp, wps_unOp, wps_load, wps_fieldAddr, wps_field, wps_indexAddr, wps_index, wps_lookup, wps_nilCheck, wps_extract, wps_makeFunc, wps_slice, wps_alloc, wps_box, wps_buildSlice, wps_store, wps_mapUpdate, wps_len, wps_min, wps_max, wps_app, ev_tmp, ev_cint, ev_cbool, ev_cnils, ev_cnilp, ev_cnilf, ev_cnili, ev_cnilm, ev_func, evs_nil, evs_cons, consO_some, evParts_nil, evParts_cons, consP_some, evOpt_none, evOpt_sm, someO_some, bo_some, bo2_some, e1_some, e2_some, putP_none, putP_some, vB_bool, T.get_set, reduceIte, Nat.reduceEqDiff, Nat.reduceLT, c3P, c3ng, binO_add, binO_sub, binO_mul, binO_eql, binO_neq, binO_lss, binO_leq, binO_gtr, binO_geq, unO_not, true_and, Bool.false_eq_true, if_false, if_true, forall_const, extrO, nilChk, false_implies, u4, u5, binO_remc (show (7 : Int) ≠ 0 by omega), binO_remc (show (9 : Int) ≠ 0 by omega), wcv5_3, w1, w2, w3, w4]
    have ew : (l2.take 40).map md5 = (l2.take 40).map md5 := rfl
    refine fair_part fair_law (row := (l2.take 40).map md5) (n := ag.tmod 7 - 1) (kk := mo.tmod 9 - 1) ?_ ?_ ?_ o (by simp; omega) (by omega) (by omega) (base_keep kp h11 (fun _ _ hf => hf) hb) (by have := kp.1; omega) <;> simp only [wps_nil, wps_move, wps_assign, wps_pick, wps_binOp, wps_unOp, wps_load, wps_fieldAddr, wps_field, wps_indexAddr, wps_index, wps_lookup, wps_nilCheck, wps_extract, wps_makeFunc, wps_slice, wps_alloc, wps_box, wps_buildSlice, wps_store, wps_mapUpdate, wps_len, wps_min, wps_max, wps_app, ev_tmp, ev_cint, ev_cbool, ev_cnils, ev_cnilp, ev_cnilf, ev_cnili, ev_cnilm, ev_func, evs_nil, evs_cons, consO_some, evParts_nil, evParts_cons, consP_some, evOpt_none, evOpt_sm, someO_some, bo_some, bo2_some, e1_some, e2_some, putP_none, putP_some, vB_bool, T.get_set, reduceIte, Nat.reduceEqDiff, Nat.reduceLT, c3P, c3ng, binO_add, binO_sub, binO_mul, binO_eql, binO_neq, binO_lss, binO_leq, binO_gtr, binO_geq, unO_not, true_and, Bool.false_eq_true, if_false, if_true, forall_const, extrO, nilChk, false_implies, t21]
end K
open Go Go.Proofs Go.Fal
namespace K

theorem true_imp (p : Prop) : (true = true → p) = p := by simp

section
variable {h : H} {tm : T V} {s2 : V} {l2 : List Int} {ag mo : Int}

set_option maxRecDepth 100000 in
/-- from the pick on -/
theorem pick_part {vd : V} {due : List Int} {ch : Int} (h2 : tm.get 2 = some (.int .u8 ch)) (h3 : tm.get 3 = some s2) (h4 : tm.get 4 = some (.int .u8 ag)) (h5 : tm.get 5 = some (.int .u8 mo)) (h14 : tm.get 14 = some vd) (rd : RowR h vd (ints due)) (hd : due.length ≤ 100)
    (hc : 0 ≤ ch ∧ ch ≤ 255) (r : RowR h s2 (u8s l2)) (hl2 : l2.length < 2 ^ 60) (hw : ∀ x ∈ l2, 0 ≤ x ∧ x ≤ 255) (ha : 0 ≤ ag ∧ ag ≤ 255) (hm : 0 ≤ mo ∧ mo ≤ 255) (hb : baseB h = true) (h11 : 11 ≤ h.next) :
    Wp c3 8 195 tm [.code c8_66] [] none h Qt := by
  rw [w8_66, w8_67]
  simp only [wps_nil, wps_move, wps_assign, wps_pick, wps_binOp, wps_unOp, wps_load, wps_fieldAddr, wps_field, wps_indexAddr, wps_index, wps_lookup, wps_nilCheck, wps_extract, wps_makeFunc, wps_slice, wps_alloc, wps_box, wps_buildSlice, wps_store, wps_mapUpdate, wps_len, wps_min, wps_max, wps_app, ev_tmp, ev_cint, ev_cbool, ev_cnils, ev_cnilp, ev_cnilf, ev_cnili, ev_cnilm, ev_func, evs_nil, evs_cons, consO_some, evParts_nil, evParts_cons, consP_some, evOpt_none, evOpt_sm, someO_some, bo_some, bo2_some, e1_some, e2_some, putP_none, putP_some, vB_bool, T.get_set, reduceIte, Nat.reduceEqDiff, Nat.reduceLT, c3P, c3ng, binO_add, binO_sub, binO_mul, binO_eql, binO_neq, binO_lss, binO_leq, binO_gtr, binO_geq, unO_not, true_and, Bool.false_eq_true, if_false, if_true, forall_const, extrO, nilChk, false_implies]
  rw [buildSlice0 et67 so3 zo3 rfl]
  simp only [wps_nil, wps_move, wps_assign, wps_pick, wps_binOp, wps_unOp, wps_load, wps_fieldAddr, wps_field, wps_indexAddr, wps_index, wps_lookup, wps_nilCheck, wps_extract, wps_makeFunc, wps_slice, wps_alloc, wps_box, wps_buildSlice, wps_store, wps_mapUpdate, wps_len, wps_min, wps_max, wps_app, ev_tmp, ev_cint, ev_cbool, ev_cnils, ev_cnilp, ev_cnilf, ev_cnili, ev_cnilm, ev_func, evs_nil, evs_cons, consO_some, evParts_nil, evParts_cons, consP_some, evOpt_none, evOpt_sm, someO_some, bo_some, bo2_some, e1_some, e2_some, putP_none, putP_some, vB_bool, T.get_set, reduceIte, Nat.reduceEqDiff, Nat.reduceLT, c3P, c3ng, binO_add, binO_sub, binO_mul, binO_eql, binO_neq, binO_lss, binO_leq, binO_gtr, binO_geq, unO_not, true_and, Bool.false_eq_true, if_false, if_true, forall_const, extrO, nilChk, false_implies, h14]
  have k1 := keep_new h (ofCells [])
  have r1 := row_none (h := h)
  have rd1 := rd.keep k1 (fun _ _ h => h)
  generalize h.new (ofCells []) = h1 at *
  obtain ⟨v2, h2', e2, r2, k2, _⟩ := append_empty r1 rd1 el67 (ints_plain due) (by rw [ints_length]; omega) (by omega)
  rw [app_eq ap67, e2]
  simp only [wps_nil, wps_move, wps_assign, wps_pick, wps_binOp, wps_unOp, wps_load, wps_fieldAddr, wps_field, wps_indexAddr, wps_index, wps_lookup, wps_nilCheck, wps_extract, wps_makeFunc, wps_slice, wps_alloc, wps_box, wps_buildSlice, wps_store, wps_mapUpdate, wps_len, wps_min, wps_max, wps_app, ev_tmp, ev_cint, ev_cbool, ev_cnils, ev_cnilp, ev_cnilf, ev_cnili, ev_cnilm, ev_func, evs_nil, evs_cons, consO_some, evParts_nil, evParts_cons, consP_some, evOpt_none, evOpt_sm, someO_some, bo_some, bo2_some, e1_some, e2_some, putP_none, putP_some, vB_bool, T.get_set, reduceIte, Nat.reduceEqDiff, Nat.reduceLT, c3P, c3ng, binO_add, binO_sub, binO_mul, binO_eql, binO_neq, binO_lss, binO_leq, binO_gtr, binO_geq, unO_not, true_and, Bool.false_eq_true, if_false, if_true, forall_const, extrO, nilChk, false_implies, h2]
  refine wps_callP (opx_call bod94 (vs := [v2, .int .u8 ch]) (by simp only [wps_nil, wps_move, wps_assign, wps_pick, wps_binOp, wps_unOp, wps_load, wps_fieldAddr, wps_field, wps_indexAddr, wps_index, wps_lookup, wps_nilCheck, wps_extract, wps_makeFunc, wps_slice, wps_alloc, wps_box, wps_buildSlice, wps_store, wps_mapUpdate, wps_len, wps_min, wps_max, wps_app, ev_tmp, ev_cint, ev_cbool, ev_cnils, ev_cnilp, ev_cnilf, ev_cnili, ev_cnilm, ev_func, evs_nil, evs_cons, consO_some, evParts_nil, evParts_cons, consP_some, evOpt_none, evOpt_sm, someO_some, bo_some, bo2_some, e1_some, e2_some, putP_none, putP_some, vB_bool, T.get_set, reduceIte, Nat.reduceEqDiff, Nat.reduceLT, c3P, c3ng, binO_add, binO_sub, binO_mul, binO_eql, binO_neq, binO_lss, binO_leq, binO_gtr, binO_geq, unO_not, true_and, Bool.false_eq_true, if_false, if_true, forall_const, extrO, nilChk, false_implies])) (pick_spec r2 (by omega) hc.1 hc.2) ?_
  rintro v h3' ⟨rfl, rfl⟩
  have kk := k1.trans k2 (fun _ _ h => h)
  have rd2 := rd.keep kk (fun _ _ h => h)
  have fin : ∀ tm' : T V, (∀ t, t ≤ 5 → tm'.get t = tm.get t) → Wp c3 8 195 tm' [.code c8_86] [] none h3' Qt := by
    intro tm' ht
    refine picked_part (s2 := s2) (l2 := l2) (ag := ag) (mo := mo) ?_ ?_ ?_ (r.keep kk (fun _ _ h => h)) hl2 hw ha hm (base_keep kk h11 (fun _ _ h => h) hb) (by have := kk.1; omega)
    · rw [ht 3 (by omega)]; exact h3
    · rw [ht 4 (by omega)]; exact h4
    · rw [ht 5 (by omega)]; exact h5
  by_cases hz : due.length = 0
  · rw [dif_pos hz]
    simp only [wps_nil, wps_move, wps_assign, wps_pick, wps_binOp, wps_unOp, wps_load, wps_fieldAddr, wps_field, wps_indexAddr, wps_index, wps_lookup, wps_nilCheck, wps_extract, wps_makeFunc, wps_slice, wps_alloc, wps_box, wps_buildSlice, wps_store, wps_mapUpdate, wps_len, wps_min, wps_max, wps_app, ev_tmp, ev_cint, ev_cbool, ev_cnils, ev_cnilp, ev_cnilf, ev_cnili, ev_cnilm, ev_func, evs_nil, evs_cons, consO_some, evParts_nil, evParts_cons, consP_some, evOpt_none, evOpt_sm, someO_some, bo_some, bo2_some, e1_some, e2_some, putP_none, putP_some, vB_bool, T.get_set, reduceIte, Nat.reduceEqDiff, Nat.reduceLT, c3P, c3ng, binO_add, binO_sub, binO_mul, binO_eql, binO_neq, binO_lss, binO_leq, binO_gtr, binO_geq, unO_not, true_and, Bool.false_eq_true, if_false, if_true, forall_const, extrO, nilChk, false_implies, List.getElem?_cons_zero, List.getElem?_cons_succ]
    rw [w8_68, w8_69, w8_70]
    simp only [wps_nil, wps_move, wps_assign, wps_pick, wps_binOp, wps_unOp, wps_load, wps_fieldAddr, wps_field, wps_indexAddr, wps_index, wps_lookup, wps_nilCheck, wps_extract, wps_makeFunc, wps_slice, wps_alloc, wps_box, wps_buildSlice, wps_store, wps_mapUpdate, wps_len, wps_min, wps_max, wps_app, ev_tmp, ev_cint, ev_cbool, ev_cnils, ev_cnilp, ev_cnilf, ev_cnili, ev_cnilm, ev_func, evs_nil, evs_cons, consO_some, evParts_nil, evParts_cons, consP_some, evOpt_none, evOpt_sm, someO_some, bo_some, bo2_some, e1_some, e2_some, putP_none, putP_some, vB_bool, T.get_set, reduceIte, Nat.reduceEqDiff, Nat.reduceLT, c3P, c3ng, binO_add, binO_sub, binO_mul, binO_eql, binO_neq, binO_lss, binO_leq, binO_gtr, binO_geq, unO_not, true_and, Bool.false_eq_true, if_false, if_true, forall_const, extrO, nilChk, false_implies, h14]
    rw [rd2.len lc67]
    have d1 : decide ((((ints due).length : Nat) : Int) = 0) = true := by rw [ints_length]; simp; exact List.length_eq_zero_iff.1 hz
    simp only [wps_nil, wps_move, wps_assign, wps_pick, wps_binOp, wps_unOp, wps_load, wps_fieldAddr, wps_field, wps_indexAddr, wps_index, wps_lookup, wps_nilCheck, wps_extract, wps_makeFunc, wps_slice, wps_alloc, wps_box, wps_buildSlice, wps_store, wps_mapUpdate, wps_len, wps_min, wps_max, wps_app, ev_tmp, ev_cint, ev_cbool, ev_cnils, ev_cnilp, ev_cnilf, ev_cnili, ev_cnilm, ev_func, evs_nil, evs_cons, consO_some, evParts_nil, evParts_cons, consP_some, evOpt_none, evOpt_sm, someO_some, bo_some, bo2_some, e1_some, e2_some, putP_none, putP_some, vB_bool, T.get_set, reduceIte, Nat.reduceEqDiff, Nat.reduceLT, c3P, c3ng, binO_add, binO_sub, binO_mul, binO_eql, binO_neq, binO_lss, binO_leq, binO_gtr, binO_geq, unO_not, true_and, Bool.false_eq_true, if_false, if_true, forall_const, extrO, nilChk, false_implies, d1]
    rw [w8_71]
    simp only [wps_nil, wps_move, wps_assign, wps_pick, wps_binOp, wps_unOp, wps_load, wps_fieldAddr, wps_field, wps_indexAddr, wps_index, wps_lookup, wps_nilCheck, wps_extract, wps_makeFunc, wps_slice, wps_alloc, wps_box, wps_buildSlice, wps_store, wps_mapUpdate, wps_len, wps_min, wps_max, wps_app, ev_tmp, ev_cint, ev_cbool, ev_cnils, ev_cnilp, ev_cnilf, ev_cnili, ev_cnilm, ev_func, evs_nil, evs_cons, consO_some, evParts_nil, evParts_cons, consP_some, evOpt_none, evOpt_sm, someO_some, bo_some, bo2_some, e1_some, e2_some, putP_none, putP_some, vB_bool, T.get_set, reduceIte, Nat.reduceEqDiff, Nat.reduceLT, c3P, c3ng, binO_add, binO_sub, binO_mul, binO_eql, binO_neq, binO_lss, binO_leq, binO_gtr, binO_geq, unO_not, true_and, Bool.false_eq_true, if_false, if_true, forall_const, extrO, nilChk, false_implies]
    rw [w8_72, w8_73]
    simp only [wps_nil, wps_move, wps_assign, wps_pick, wps_binOp, wps_unOp, wps_load, wps_fieldAddr, wps_field, wps_indexAddr, wps_index, wps_lookup, wps_nilCheck, wps_extract, wps_makeFunc, wps_slice, wps_alloc, wps_box, wps_buildSlice, wps_store, wps_mapUpdate, wps_len, wps_min, wps_max, wps_app, ev_tmp, ev_cint, ev_cbool, ev_cnils, ev_cnilp, ev_cnilf, ev_cnili, ev_cnilm, ev_func, evs_nil, evs_cons, consO_some, evParts_nil, evParts_cons, consP_some, evOpt_none, evOpt_sm, someO_some, bo_some, bo2_some, e1_some, e2_some, putP_none, putP_some, vB_bool, T.get_set, reduceIte, Nat.reduceEqDiff, Nat.reduceLT, c3P, c3ng, binO_add, binO_sub, binO_mul, binO_eql, binO_neq, binO_lss, binO_leq, binO_gtr, binO_geq, unO_not, true_and, Bool.false_eq_true, if_false, if_true, forall_const, extrO, nilChk, false_implies, decide_true, Bool.not_true]
    rw [w8_74]
    simp only [wps_nil, wps_move, wps_assign, wps_pick, wps_binOp, wps_unOp, wps_load, wps_fieldAddr, wps_field, wps_indexAddr, wps_index, wps_lookup, wps_nilCheck, wps_extract, wps_makeFunc, wps_slice, wps_alloc, wps_box, wps_buildSlice, wps_store, wps_mapUpdate, wps_len, wps_min, wps_max, wps_app, ev_tmp, ev_cint, ev_cbool, ev_cnils, ev_cnilp, ev_cnilf, ev_cnili, ev_cnilm, ev_func, evs_nil, evs_cons, consO_some, evParts_nil, evParts_cons, consP_some, evOpt_none, evOpt_sm, someO_some, bo_some, bo2_some, e1_some, e2_some, putP_none, putP_some, vB_bool, T.get_set, reduceIte, Nat.reduceEqDiff, Nat.reduceLT, c3P, c3ng, binO_add, binO_sub, binO_mul, binO_eql, binO_neq, binO_lss, binO_leq, binO_gtr, binO_geq, unO_not, true_and, Bool.false_eq_true, if_false, if_true, forall_const, extrO, nilChk, false_implies]
    rw [w8_78]
    refine fin _ (fun t ht => ?_)
    have e : t ≠ 89 ∧ t ≠ 90 ∧ t ≠ 91 ∧ t ≠ 92 ∧ t ≠ 93 ∧ t ≠ 88 ∧ t ≠ 94 ∧ t ≠ 95 ∧ t ≠ 19 ∧ t ≠ 20 ∧ t ≠ 96 ∧ t ≠ 97 ∧ t ≠ 98 ∧ t ≠ 99 ∧ t ≠ 100 := by omega
    simp only [T.get_set, e, if_false]
  · rw [dif_neg hz]
    simp only [wps_nil, wps_move, wps_assign, wps_pick, wps_binOp, wps_unOp, wps_load, wps_fieldAddr, wps_field, wps_indexAddr, wps_index, wps_lookup, wps_nilCheck, wps_extract, wps_makeFunc, wps_slice, wps_alloc, wps_box, wps_buildSlice, wps_store, wps_mapUpdate, wps_len, wps_min, wps_max, wps_app, ev_tmp, ev_cint, ev_cbool, ev_cnils, ev_cnilp, ev_cnilf, ev_cnili, ev_cnilm, ev_func, evs_nil, evs_cons, consO_some, evParts_nil, evParts_cons, consP_some, evOpt_none, evOpt_sm, someO_some, bo_some, bo2_some, e1_some, e2_some, putP_none, putP_some, vB_bool, T.get_set, reduceIte, Nat.reduceEqDiff, Nat.reduceLT, c3P, c3ng, binO_add, binO_sub, binO_mul, binO_eql, binO_neq, binO_lss, binO_leq, binO_gtr, binO_geq, unO_not, true_and, Bool.false_eq_true, if_false, if_true, forall_const, extrO, nilChk, false_implies, List.getElem?_cons_zero, List.getElem?_cons_succ]
    rw [w8_68, w8_69, w8_70]
    simp only [wps_nil, wps_move, wps_assign, wps_pick, wps_binOp, wps_unOp, wps_load, wps_fieldAddr, wps_field, wps_indexAddr, wps_index, wps_lookup, wps_nilCheck, wps_extract, wps_makeFunc, wps_slice, wps_alloc, wps_box, wps_buildSlice, wps_store, wps_mapUpdate, wps_len, wps_min, wps_max, wps_app, ev_tmp, ev_cint, ev_cbool, ev_cnils, ev_cnilp, ev_cnilf, ev_cnili, ev_cnilm, ev_func, evs_nil, evs_cons, consO_some, evParts_nil, evParts_cons, consP_some, evOpt_none, evOpt_sm, someO_some, bo_some, bo2_some, e1_some, e2_some, putP_none, putP_some, vB_bool, T.get_set, reduceIte, Nat.reduceEqDiff, Nat.reduceLT, c3P, c3ng, binO_add, binO_sub, binO_mul, binO_eql, binO_neq, binO_lss, binO_leq, binO_gtr, binO_geq, unO_not, true_and, Bool.false_eq_true, if_false, if_true, forall_const, extrO, nilChk, false_implies, h14]
    rw [rd2.len lc67]
    have d1 : decide ((((ints due).length : Nat) : Int) = 0) = false := by rw [ints_length]; simp; exact fun e => hz (List.length_eq_zero_iff.2 e)
    simp only [wps_nil, wps_move, wps_assign, wps_pick, wps_binOp, wps_unOp, wps_load, wps_fieldAddr, wps_field, wps_indexAddr, wps_index, wps_lookup, wps_nilCheck, wps_extract, wps_makeFunc, wps_slice, wps_alloc, wps_box, wps_buildSlice, wps_store, wps_mapUpdate, wps_len, wps_min, wps_max, wps_app, ev_tmp, ev_cint, ev_cbool, ev_cnils, ev_cnilp, ev_cnilf, ev_cnili, ev_cnilm, ev_func, evs_nil, evs_cons, consO_some, evParts_nil, evParts_cons, consP_some, evOpt_none, evOpt_sm, someO_some, bo_some, bo2_some, e1_some, e2_some, putP_none, putP_some, vB_bool, T.get_set, reduceIte, Nat.reduceEqDiff, Nat.reduceLT, c3P, c3ng, binO_add, binO_sub, binO_mul, binO_eql, binO_neq, binO_lss, binO_leq, binO_gtr, binO_geq, unO_not, true_and, Bool.false_eq_true, if_false, if_true, forall_const, extrO, nilChk, false_implies, d1]
    rw [w8_71]
    simp only [wps_nil, wps_move, wps_assign, wps_pick, wps_binOp, wps_unOp, wps_load, wps_fieldAddr, wps_field, wps_indexAddr, wps_index, wps_lookup, wps_nilCheck, wps_extract, wps_makeFunc, wps_slice, wps_alloc, wps_box, wps_buildSlice, wps_store, wps_mapUpdate, wps_len, wps_min, wps_max, wps_app, ev_tmp, ev_cint, ev_cbool, ev_cnils, ev_cnilp, ev_cnilf, ev_cnili, ev_cnilm, ev_func, evs_nil, evs_cons, consO_some, evParts_nil, evParts_cons, consP_some, evOpt_none, evOpt_sm, someO_some, bo_some, bo2_some, e1_some, e2_some, putP_none, putP_some, vB_bool, T.get_set, reduceIte, Nat.reduceEqDiff, Nat.reduceLT, c3P, c3ng, binO_add, binO_sub, binO_mul, binO_eql, binO_neq, binO_lss, binO_leq, binO_gtr, binO_geq, unO_not, true_and, Bool.false_eq_true, if_false, if_true, forall_const, extrO, nilChk, false_implies]
    rw [w8_79, w8_80]
    obtain ⟨cn, rfl⟩ := Int.eq_ofNat_of_zero_le hc.1
    have hwc : IntKind.i64.wrap (cn : Int) = (cn : Int) := wrap64 (by omega) (by omega)
    have hm' : cn % due.length < due.length := Nat.mod_lt _ (by omega)
    have hne : ((due.length : Nat) : Int) ≠ 0 := by omega
    simp only [wps_nil, wps_move, wps_assign, wps_pick, wps_binOp, wps_unOp, wps_load, wps_fieldAddr, wps_field, wps_indexAddr, wps_index, wps_lookup, wps_nilCheck, wps_extract, wps_makeFunc, wps_slice, wps_alloc, wps_box, wps_buildSlice, wps_store, wps_mapUpdate, wps_len, wps_min, wps_max, wps_app, ev_tmp, ev_cint, ev_cbool, ev_cnils, ev_cnilp, ev_cnilf, ev_cnili, ev_cnilm, ev_func, evs_nil, evs_cons, consO_some, evParts_nil, evParts_cons, consP_some, evOpt_none, evOpt_sm, someO_some, bo_some, bo2_some, e1_some, e2_some, putP_none, putP_some, vB_bool, T.get_set, reduceIte, Nat.reduceEqDiff, Nat.reduceLT, c3P, c3ng, binO_add, binO_sub, binO_mul, binO_eql, binO_neq, binO_lss, binO_leq, binO_gtr, binO_geq, unO_not, true_and, Bool.false_eq_true, if_false, if_true, forall_const, extrO, nilChk, false_implies, wpsGT g8_80_2, wpsGF g8_80_2, Bool.not_false, h14, h2, decide_true, Bool.not_true, wcv5_3, hwc]
    rw [rd2.len lc67]
    simp only [wps_nil, wps_move, wps_assign, wps_pick, wps_binOp, wps_unOp, wps_load, wps_fieldAddr, wps_field, wps_indexAddr, wps_index, wps_lookup, wps_nilCheck, wps_extract, wps_makeFunc, wps_slice, wps_alloc, wps_box, wps_buildSlice, wps_store, wps_mapUpdate, wps_len, wps_min, wps_max, wps_app, ev_tmp, ev_cint, ev_cbool, ev_cnils, ev_cnilp, ev_cnilf, ev_cnili, ev_cnilm, ev_func, evs_nil, evs_cons, consO_some, evParts_nil, evParts_cons, consP_some, evOpt_none, evOpt_sm, someO_some, bo_some, bo2_some, e1_some, e2_some, putP_none, putP_some, vB_bool, T.get_set, reduceIte, Nat.reduceEqDiff, Nat.reduceLT, c3P, c3ng, binO_add, binO_sub, binO_mul, binO_eql, binO_neq, binO_lss, binO_leq, binO_gtr, binO_geq, unO_not, true_and, Bool.false_eq_true, if_false, if_true, forall_const, extrO, nilChk, false_implies, wpsGT g8_80_2, wpsGF g8_80_2, Bool.not_false, h14, h2, decide_true, Bool.not_true, ints_length, binO_remc hne]
    rw [show Int.tmod (cn : Int) (due.length : Int) = ((cn % due.length : Nat) : Int) from rfl, rd2.addr sz67 (by simpa using hm')]
    simp only [wps_nil, wps_move, wps_assign, wps_pick, wps_binOp, wps_unOp, wps_load, wps_fieldAddr, wps_field, wps_indexAddr, wps_index, wps_lookup, wps_nilCheck, wps_extract, wps_makeFunc, wps_slice, wps_alloc, wps_box, wps_buildSlice, wps_store, wps_mapUpdate, wps_len, wps_min, wps_max, wps_app, ev_tmp, ev_cint, ev_cbool, ev_cnils, ev_cnilp, ev_cnilf, ev_cnili, ev_cnilm, ev_func, evs_nil, evs_cons, consO_some, evParts_nil, evParts_cons, consP_some, evOpt_none, evOpt_sm, someO_some, bo_some, bo2_some, e1_some, e2_some, putP_none, putP_some, vB_bool, T.get_set, reduceIte, Nat.reduceEqDiff, Nat.reduceLT, c3P, c3ng, binO_add, binO_sub, binO_mul, binO_eql, binO_neq, binO_lss, binO_leq, binO_gtr, binO_geq, unO_not, true_and, Bool.false_eq_true, if_false, if_true, forall_const, extrO, nilChk, false_implies, wpsGT g8_80_2, wpsGF g8_80_2, Bool.not_false, h14, h2, decide_true, Bool.not_true]
    rw [rd2.load ag3 (by simpa using hm')]
    simp only [wps_nil, wps_move, wps_assign, wps_pick, wps_binOp, wps_unOp, wps_load, wps_fieldAddr, wps_field, wps_indexAddr, wps_index, wps_lookup, wps_nilCheck, wps_extract, wps_makeFunc, wps_slice, wps_alloc, wps_box, wps_buildSlice, wps_store, wps_mapUpdate, wps_len, wps_min, wps_max, wps_app, ev_tmp, ev_cint, ev_cbool, ev_cnils, ev_cnilp, ev_cnilf, ev_cnili, ev_cnilm, ev_func, evs_nil, evs_cons, consO_some, evParts_nil, evParts_cons, consP_some, evOpt_none, evOpt_sm, someO_some, bo_some, bo2_some, e1_some, e2_some, putP_none, putP_some, vB_bool, T.get_set, reduceIte, Nat.reduceEqDiff, Nat.reduceLT, c3P, c3ng, binO_add, binO_sub, binO_mul, binO_eql, binO_neq, binO_lss, binO_leq, binO_gtr, binO_geq, unO_not, true_and, Bool.false_eq_true, if_false, if_true, forall_const, extrO, nilChk, false_implies, wpsGT g8_80_2, wpsGF g8_80_2, Bool.not_false, h14, h2, decide_true, Bool.not_true, ints, List.getElem_map, Int.toNat_natCast]
    rw [w8_81]
    simp only [wps_nil, wps_move, wps_assign, wps_pick, wps_binOp, wps_unOp, wps_load, wps_fieldAddr, wps_field, wps_indexAddr, wps_index, wps_lookup, wps_nilCheck, wps_extract, wps_makeFunc, wps_slice, wps_alloc, wps_box, wps_buildSlice, wps_store, wps_mapUpdate, wps_len, wps_min, wps_max, wps_app, ev_tmp, ev_cint, ev_cbool, ev_cnils, ev_cnilp, ev_cnilf, ev_cnili, ev_cnilm, ev_func, evs_nil, evs_cons, consO_some, evParts_nil, evParts_cons, consP_some, evOpt_none, evOpt_sm, someO_some, bo_some, bo2_some, e1_some, e2_some, putP_none, putP_some, vB_bool, T.get_set, reduceIte, Nat.reduceEqDiff, Nat.reduceLT, c3P, c3ng, binO_add, binO_sub, binO_mul, binO_eql, binO_neq, binO_lss, binO_leq, binO_gtr, binO_geq, unO_not, true_and, Bool.false_eq_true, if_false, if_true, forall_const, extrO, nilChk, false_implies]
    rw [w8_85]
    refine fin _ (fun t ht => ?_)
    have e : t ≠ 89 ∧ t ≠ 90 ∧ t ≠ 91 ∧ t ≠ 92 ∧ t ≠ 93 ∧ t ≠ 88 ∧ t ≠ 94 ∧ t ≠ 95 ∧ t ≠ 19 ∧ t ≠ 20 ∧ t ≠ 96 ∧ t ≠ 97 ∧ t ≠ 98 ∧ t ≠ 101 ∧ t ≠ 102 := by omega
    have e' : t ≠ 103 ∧ t ≠ 104 ∧ t ≠ 105 ∧ t ≠ 106 ∧ t ≠ 107 ∧ t ≠ 108 ∧ t ≠ 109 ∧ t ≠ 110 ∧ t ≠ 111 ∧ t ≠ 112 ∧ t ≠ 113 ∧ t ≠ 114 := by omega
    simp only [T.get_set, e, e', if_false]

set_option maxRecDepth 100000 in
/-- the two rows are the same, place by place -/
theorem compare_loop {vg vd : V} {due : List Int} {rest : List Item} {Q : V → H → Prop} (rg : RowR h vg (ints due)) (rd : RowR h vd (ints due)) (hd : due.length ≤ 100) : ∀ (q i : Nat) (tm : T V), i + q = due.length → tm.get 17 = some vg → tm.get 14 = some vd → tm.get 74 = some (.int .i64 due.length) → tm.get 75 = some (.int .i64 i) →
    (∀ tm', (∀ t, t ≤ 17 → tm'.get t = tm.get t) → Wp c3 8 195 tm' rest [] none h Q) → Wp c3 8 195 tm (.code c8_48 :: .inLoop c8_48 :: .inBlock 2 :: rest) [] none h Q := by
  intro q
  induction q with
  | zero =>
    intro i tm hi t17 t14 t74 t75 hk
    obtain rfl : i = due.length := by omega
    rw [w8_48, w8_49]
    simp only [wps_nil, wps_move, wps_assign, wps_pick, wps_binOp, wps_unOp, wps_load, wps_fieldAddr, wps_field, wps_indexAddr, wps_index, wps_lookup, wps_nilCheck, wps_extract, wps_makeFunc, wps_slice, wps_alloc, wps_box, wps_buildSlice, wps_store, wps_mapUpdate, wps_len, wps_min, wps_max, wps_app, ev_tmp, ev_cint, ev_cbool, ev_cnils, ev_cnilp, ev_cnilf, ev_cnili, ev_cnilm, ev_func, evs_nil, evs_cons, consO_some, evParts_nil, evParts_cons, consP_some, evOpt_none, evOpt_sm, someO_some, bo_some, bo2_some, e1_some, e2_some, putP_none, putP_some, vB_bool, T.get_set, reduceIte, Nat.reduceEqDiff, Nat.reduceLT, c3P, c3ng, binO_add, binO_sub, binO_mul, binO_eql, binO_neq, binO_lss, binO_leq, binO_gtr, binO_geq, unO_not, true_and, Bool.false_eq_true, if_false, if_true, forall_const, extrO, nilChk, false_implies, t74, t75]
    rw [w8_50, w8_51]
    simp only [wps_nil, wps_move, wps_assign, wps_pick, wps_binOp, wps_unOp, wps_load, wps_fieldAddr, wps_field, wps_indexAddr, wps_index, wps_lookup, wps_nilCheck, wps_extract, wps_makeFunc, wps_slice, wps_alloc, wps_box, wps_buildSlice, wps_store, wps_mapUpdate, wps_len, wps_min, wps_max, wps_app, ev_tmp, ev_cint, ev_cbool, ev_cnils, ev_cnilp, ev_cnilf, ev_cnili, ev_cnilm, ev_func, evs_nil, evs_cons, consO_some, evParts_nil, evParts_cons, consP_some, evOpt_none, evOpt_sm, someO_some, bo_some, bo2_some, e1_some, e2_some, putP_none, putP_some, vB_bool, T.get_set, reduceIte, Nat.reduceEqDiff, Nat.reduceLT, c3P, c3ng, binO_add, binO_sub, binO_mul, binO_eql, binO_neq, binO_lss, binO_leq, binO_gtr, binO_geq, unO_not, true_and, Bool.false_eq_true, if_false, if_true, forall_const, extrO, nilChk, false_implies, Int.lt_irrefl, decide_false]
    rw [w8_53, wp_exit_code, wp_exit_loop, wp_exit_here]
    refine hk _ (fun t ht => ?_)
    have e : t ≠ 76 := by omega
    simp only [T.get_set, e, if_false]
  | succ q ih =>
    intro i tm hi t17 t14 t74 t75 hk
    have hlt : i < due.length := by omega
    have hdd : decide ((i : Int) < (due.length : Int)) = true := by simpa using hlt
    have hwi : IntKind.i64.wrap ((i : Int) + 1) = ((i + 1 : Nat) : Int) := by rw [wrap64 (by omega) (by omega)]; omega
    have hlt' : i < (ints due).length := by simpa using hlt
    rw [w8_48, w8_49]
    simp only [wps_nil, wps_move, wps_assign, wps_pick, wps_binOp, wps_unOp, wps_load, wps_fieldAddr, wps_field, wps_indexAddr, wps_index, wps_lookup, wps_nilCheck, wps_extract, wps_makeFunc, wps_slice, wps_alloc, wps_box, wps_buildSlice, wps_store, wps_mapUpdate, wps_len, wps_min, wps_max, wps_app, ev_tmp, ev_cint, ev_cbool, ev_cnils, ev_cnilp, ev_cnilf, ev_cnili, ev_cnilm, ev_func, evs_nil, evs_cons, consO_some, evParts_nil, evParts_cons, consP_some, evOpt_none, evOpt_sm, someO_some, bo_some, bo2_some, e1_some, e2_some, putP_none, putP_some, vB_bool, T.get_set, reduceIte, Nat.reduceEqDiff, Nat.reduceLT, c3P, c3ng, binO_add, binO_sub, binO_mul, binO_eql, binO_neq, binO_lss, binO_leq, binO_gtr, binO_geq, unO_not, true_and, Bool.false_eq_true, if_false, if_true, forall_const, extrO, nilChk, false_implies, t74, t75]
    rw [w8_50, w8_51]
    simp only [wps_nil, wps_move, wps_assign, wps_pick, wps_binOp, wps_unOp, wps_load, wps_fieldAddr, wps_field, wps_indexAddr, wps_index, wps_lookup, wps_nilCheck, wps_extract, wps_makeFunc, wps_slice, wps_alloc, wps_box, wps_buildSlice, wps_store, wps_mapUpdate, wps_len, wps_min, wps_max, wps_app, ev_tmp, ev_cint, ev_cbool, ev_cnils, ev_cnilp, ev_cnilf, ev_cnili, ev_cnilm, ev_func, evs_nil, evs_cons, consO_some, evParts_nil, evParts_cons, consP_some, evOpt_none, evOpt_sm, someO_some, bo_some, bo2_some, e1_some, e2_some, putP_none, putP_some, vB_bool, T.get_set, reduceIte, Nat.reduceEqDiff, Nat.reduceLT, c3P, c3ng, binO_add, binO_sub, binO_mul, binO_eql, binO_neq, binO_lss, binO_leq, binO_gtr, binO_geq, unO_not, true_and, Bool.false_eq_true, if_false, if_true, forall_const, extrO, nilChk, false_implies, hdd]
    rw [w8_52, w8_54, w8_55, w8_56, w8_57]
    simp only [wps_nil, wps_move, wps_assign, wps_pick, wps_binOp, wps_unOp, wps_load, wps_fieldAddr, wps_field, wps_indexAddr, wps_index, wps_lookup, wps_nilCheck, wps_extract, wps_makeFunc, wps_slice, wps_alloc, wps_box, wps_buildSlice, wps_store, wps_mapUpdate, wps_len, wps_min, wps_max, wps_app, ev_tmp, ev_cint, ev_cbool, ev_cnils, ev_cnilp, ev_cnilf, ev_cnili, ev_cnilm, ev_func, evs_nil, evs_cons, consO_some, evParts_nil, evParts_cons, consP_some, evOpt_none, evOpt_sm, someO_some, bo_some, bo2_some, e1_some, e2_some, putP_none, putP_some, vB_bool, T.get_set, reduceIte, Nat.reduceEqDiff, Nat.reduceLT, c3P, c3ng, binO_add, binO_sub, binO_mul, binO_eql, binO_neq, binO_lss, binO_leq, binO_gtr, binO_geq, unO_not, true_and, Bool.false_eq_true, if_false, if_true, forall_const, extrO, nilChk, false_implies, t75]
    rw [w8_58]
    refine w8_59 ?_
    simp only [wps_nil, wps_move, wps_assign, wps_pick, wps_binOp, wps_unOp, wps_load, wps_fieldAddr, wps_field, wps_indexAddr, wps_index, wps_lookup, wps_nilCheck, wps_extract, wps_makeFunc, wps_slice, wps_alloc, wps_box, wps_buildSlice, wps_store, wps_mapUpdate, wps_len, wps_min, wps_max, wps_app, ev_tmp, ev_cint, ev_cbool, ev_cnils, ev_cnilp, ev_cnilf, ev_cnili, ev_cnilm, ev_func, evs_nil, evs_cons, consO_some, evParts_nil, evParts_cons, consP_some, evOpt_none, evOpt_sm, someO_some, bo_some, bo2_some, e1_some, e2_some, putP_none, putP_some, vB_bool, T.get_set, reduceIte, Nat.reduceEqDiff, Nat.reduceLT, c3P, c3ng, binO_add, binO_sub, binO_mul, binO_eql, binO_neq, binO_lss, binO_leq, binO_gtr, binO_geq, unO_not, true_and, Bool.false_eq_true, if_false, if_true, forall_const, extrO, nilChk, false_implies, t17, t14]
    rw [rg.addr sz67 hlt']
    simp only [wps_nil, wps_move, wps_assign, wps_pick, wps_binOp, wps_unOp, wps_load, wps_fieldAddr, wps_field, wps_indexAddr, wps_index, wps_lookup, wps_nilCheck, wps_extract, wps_makeFunc, wps_slice, wps_alloc, wps_box, wps_buildSlice, wps_store, wps_mapUpdate, wps_len, wps_min, wps_max, wps_app, ev_tmp, ev_cint, ev_cbool, ev_cnils, ev_cnilp, ev_cnilf, ev_cnili, ev_cnilm, ev_func, evs_nil, evs_cons, consO_some, evParts_nil, evParts_cons, consP_some, evOpt_none, evOpt_sm, someO_some, bo_some, bo2_some, e1_some, e2_some, putP_none, putP_some, vB_bool, T.get_set, reduceIte, Nat.reduceEqDiff, Nat.reduceLT, c3P, c3ng, binO_add, binO_sub, binO_mul, binO_eql, binO_neq, binO_lss, binO_leq, binO_gtr, binO_geq, unO_not, true_and, Bool.false_eq_true, if_false, if_true, forall_const, extrO, nilChk, false_implies, rg.old hlt', rg.load ag3 hlt', t17, t14]
    rw [rd.addr sz67 hlt']
    simp only [wps_nil, wps_move, wps_assign, wps_pick, wps_binOp, wps_unOp, wps_load, wps_fieldAddr, wps_field, wps_indexAddr, wps_index, wps_lookup, wps_nilCheck, wps_extract, wps_makeFunc, wps_slice, wps_alloc, wps_box, wps_buildSlice, wps_store, wps_mapUpdate, wps_len, wps_min, wps_max, wps_app, ev_tmp, ev_cint, ev_cbool, ev_cnils, ev_cnilp, ev_cnilf, ev_cnili, ev_cnilm, ev_func, evs_nil, evs_cons, consO_some, evParts_nil, evParts_cons, consP_some, evOpt_none, evOpt_sm, someO_some, bo_some, bo2_some, e1_some, e2_some, putP_none, putP_some, vB_bool, T.get_set, reduceIte, Nat.reduceEqDiff, Nat.reduceLT, c3P, c3ng, binO_add, binO_sub, binO_mul, binO_eql, binO_neq, binO_lss, binO_leq, binO_gtr, binO_geq, unO_not, true_and, Bool.false_eq_true, if_false, if_true, forall_const, extrO, nilChk, false_implies, rd.old hlt', rd.load ag3 hlt', t17, t14, ints, List.getElem_map, decide_true, Bool.not_true]
    rw [w8_60]
    simp only [wps_nil, wps_move, wps_assign, wps_pick, wps_binOp, wps_unOp, wps_load, wps_fieldAddr, wps_field, wps_indexAddr, wps_index, wps_lookup, wps_nilCheck, wps_extract, wps_makeFunc, wps_slice, wps_alloc, wps_box, wps_buildSlice, wps_store, wps_mapUpdate, wps_len, wps_min, wps_max, wps_app, ev_tmp, ev_cint, ev_cbool, ev_cnils, ev_cnilp, ev_cnilf, ev_cnili, ev_cnilm, ev_func, evs_nil, evs_cons, consO_some, evParts_nil, evParts_cons, consP_some, evOpt_none, evOpt_sm, someO_some, bo_some, bo2_some, e1_some, e2_some, putP_none, putP_some, vB_bool, T.get_set, reduceIte, Nat.reduceEqDiff, Nat.reduceLT, c3P, c3ng, binO_add, binO_sub, binO_mul, binO_eql, binO_neq, binO_lss, binO_leq, binO_gtr, binO_geq, unO_not, true_and, Bool.false_eq_true, if_false, if_true, forall_const, extrO, nilChk, false_implies]
    rw [w8_64, Fal.wp_inBlock, w8_65]
    simp only [wps_nil, wps_move, wps_assign, wps_pick, wps_binOp, wps_unOp, wps_load, wps_fieldAddr, wps_field, wps_indexAddr, wps_index, wps_lookup, wps_nilCheck, wps_extract, wps_makeFunc, wps_slice, wps_alloc, wps_box, wps_buildSlice, wps_store, wps_mapUpdate, wps_len, wps_min, wps_max, wps_app, ev_tmp, ev_cint, ev_cbool, ev_cnils, ev_cnilp, ev_cnilf, ev_cnili, ev_cnilm, ev_func, evs_nil, evs_cons, consO_some, evParts_nil, evParts_cons, consP_some, evOpt_none, evOpt_sm, someO_some, bo_some, bo2_some, e1_some, e2_some, putP_none, putP_some, vB_bool, T.get_set, reduceIte, Nat.reduceEqDiff, Nat.reduceLT, c3P, c3ng, binO_add, binO_sub, binO_mul, binO_eql, binO_neq, binO_lss, binO_leq, binO_gtr, binO_geq, unO_not, true_and, Bool.false_eq_true, if_false, if_true, forall_const, extrO, nilChk, false_implies, t75, hwi]
    rw [Fal.wp_inLoop]
    refine ih (i + 1) _ (by omega) ?_ ?_ ?_ ?_ ?_ <;> (try simp only [wps_nil, wps_move, wps_assign, wps_pick, wps_binOp, wps_unOp, wps_load, wps_fieldAddr, wps_field, wps_indexAddr, wps_index, wps_lookup, wps_nilCheck, wps_extract, wps_makeFunc, wps_slice, wps_alloc, wps_box, wps_buildSlice, wps_store, wps_mapUpdate, wps_len, wps_min, wps_max, wps_app, ev_tmp, ev_cint, ev_cbool, ev_cnils, ev_cnilp, ev_cnilf, ev_cnili, ev_cnilm, ev_func, evs_nil, evs_cons, consO_some, evParts_nil, evParts_cons, consP_some, evOpt_none, evOpt_sm, someO_some, bo_some, bo2_some, e1_some, e2_some, putP_none, putP_some, vB_bool, T.get_set, reduceIte, Nat.reduceEqDiff, Nat.reduceLT, c3P, c3ng, binO_add, binO_sub, binO_mul, binO_eql, binO_neq, binO_lss, binO_leq, binO_gtr, binO_geq, unO_not, true_and, Bool.false_eq_true, if_false, if_true, forall_const, extrO, nilChk, false_implies, t17, t14, t74])
    intro tm' hs
    refine hk tm' (fun t ht => ?_)
    rw [hs t ht]
    have e : t ≠ 76 ∧ t ≠ 77 ∧ t ≠ 18 ∧ t ≠ 78 ∧ t ≠ 79 ∧ t ≠ 80 ∧ t ≠ 81 ∧ t ≠ 82 ∧ t ≠ 83 ∧ t ≠ 84 ∧ t ≠ 85 ∧ t ≠ 86 ∧ t ≠ 87 ∧ t ≠ 75 := by omega
    simp only [T.get_set, e, if_false]
end
end K
