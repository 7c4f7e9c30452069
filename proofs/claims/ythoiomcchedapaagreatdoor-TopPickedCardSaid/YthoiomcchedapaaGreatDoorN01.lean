/-
  TopPicked, function by function, by the rules of the engine: it returns true, for every input.
-/
import Derived.Test.YthoiomcchedapaaGreatDoorN00
import Derived.Test.YthoiomcchedapaaGreatDoorE10
set_option autoImplicit true
set_option relaxedAutoImplicit true
set_option linter.unusedVariables false
set_option linter.unusedSimpArgs false
open Go Go.Proofs Go.Fal
namespace K

theorem c3P : c3.P = Tryz.prog := rfl
theorem c3ng : c3.ng = 11 := rfl
section
variable {c : Cfg} {fn nt : Nat} {ops : Array Oper} {dr : Bool} {l : List Oper} {tm : T V} {k : List Item} {ds : List D} {rnd : Option Nat} {h : H} {Q : V → H → Prop} {d : Option Tmp} {ty : TypeId} {pos : String} {af : Array Edge}
theorem wps_len (args : Array Operand) (ts : Array TypeId) : WpS c fn nt ops dr (⟨d, .call ⟨.builtin .len, args, ts⟩, ty, pos, af, none⟩ :: l) tm k ds rnd h Q =
    bo (evs c.ng tm args.toList) fun vs => bo2 (builtinO c.P h .len ts vs) fun v h => putP nt tm d v fun tm => WpS c fn nt ops dr l tm k ds rnd h Q := wps_builtin .len args ts rfl
theorem wps_min (args : Array Operand) (ts : Array TypeId) : WpS c fn nt ops dr (⟨d, .call ⟨.builtin .min, args, ts⟩, ty, pos, af, none⟩ :: l) tm k ds rnd h Q =
    bo (evs c.ng tm args.toList) fun vs => bo2 (builtinO c.P h .min ts vs) fun v h => putP nt tm d v fun tm => WpS c fn nt ops dr l tm k ds rnd h Q := wps_builtin .min args ts rfl
theorem wps_max (args : Array Operand) (ts : Array TypeId) : WpS c fn nt ops dr (⟨d, .call ⟨.builtin .max, args, ts⟩, ty, pos, af, none⟩ :: l) tm k ds rnd h Q =
    bo (evs c.ng tm args.toList) fun vs => bo2 (builtinO c.P h .max ts vs) fun v h => putP nt tm d v fun tm => WpS c fn nt ops dr l tm k ds rnd h Q := wps_builtin .max args ts rfl
theorem wps_app (args : Array Operand) (ts : Array TypeId) : WpS c fn nt ops dr (⟨d, .call ⟨.builtin .append, args, ts⟩, ty, pos, af, none⟩ :: l) tm k ds rnd h Q =
    bo (evs c.ng tm args.toList) fun vs => bo2 (builtinO c.P h .append ts vs) fun v h => putP nt tm d v fun tm => WpS c fn nt ops dr l tm k ds rnd h Q := wps_builtin .append args ts rfl
end

theorem resultsO_nil {P : Program} {h : H} {tm : T V} : resultsO P h tm [] = some [] := rfl
theorem resultsO_tmp {P : Program} {h : H} {tm : T V} {t : Tmp} {rs : List ResultVar} : resultsO P h tm (.tmp t :: rs) = consO (tm.get t) (resultsO P h tm rs) := by
  simp only [resultsO]; cases tm.get t <;> (try rfl) ; cases resultsO P h tm rs <;> rfl
theorem resultsO_cell {P : Program} {h : H} {tm : T V} {a : Tmp} {t : TypeId} {rs : List ResultVar} : resultsO P h tm (.cell a t :: rs) = consO (e1 (tm.get a) fun x => loadO P h t x) (resultsO P h tm rs) := by
  simp only [resultsO]
  cases tm.get a with
  | none => rfl
  | some x => simp only [e1_some]; cases loadO P h t x <;> (try rfl) ; cases resultsO P h tm rs <;> rfl
theorem wpret {fn nt : Nat} {tm : T V} {k : List Item} {h : H} {Q : V → H → Prop} : Wp c3 fn nt tm (.code .ret :: k) [] none h Q = bo (resOf Tryz.prog fn) fun rs => bo (resultsO Tryz.prog h tm rs) fun vs => Q (oneOr vs) h := Fal.wp_ret
theorem wpend {fn nt : Nat} {tm : T V} {h : H} {Q : V → H → Prop} : Wp c3 fn nt tm [] [] none h Q = bo (resOf Tryz.prog fn) fun rs => bo (resultsO Tryz.prog h tm rs) fun vs => Q (oneOr vs) h := Fal.wp_end

def ints (l : List Int) : List V := l.map fun n => .int .i64 n
@[simp] theorem ints_length (l : List Int) : (ints l).length = l.length := by simp [ints]
theorem ints_get (l : List Int) (i : Nat) (hi : i < l.length) : (ints l)[i]'(by simpa using hi) = .int .i64 l[i] := by simp [ints]

/-- sched.Pick -/
theorem pick_spec {h : H} {s : V} {l : List Int} {ch : Int} (r : RowR h s (ints l)) (hl : l.length < 2 ^ 32) (h0 : 0 ≤ ch) (h1 : ch ≤ 255) :
    WpC c3 94 [s, .int .u8 ch] h (fun v h' => h' = h ∧ v = if hz : l.length = 0 then .tup [.int .i64 0, .int .i64 14] else .tup [.int .i64 (l[ch.toNat % l.length]'(Nat.mod_lt _ (by omega))), .int .i64 0]) := by
  rw [wpc_enter (mem94 _) fn94, show max [s, V.int .u8 ch].length 17 = 17 from rfl, show setArgs T.e 0 [s, V.int .u8 ch] = (T.e.set 0 s).set 1 (.int .u8 ch) from rfl]
  rw [w94_0, w94_1]
  simp only [wps_nil, wps_move, wps_assign, wps_pick, wps_binOp, wps_unOp, wps_load, wps_fieldAddr, wps_field, wps_indexAddr, wps_index, wps_lookup, wps_nilCheck, wps_extract, wps_makeFunc, wps_slice, wps_alloc, wps_box, wps_buildSlice, wps_store, wps_mapUpdate, wps_len, wps_min, wps_max, wps_app, ev_tmp, ev_cint, ev_cbool, ev_cnils, ev_cnilp, ev_cnilf, ev_cnili, ev_cnilm, ev_func, evs_nil, evs_cons, consO_some, evParts_nil, evParts_cons, consP_some, evOpt_none, evOpt_sm, someO_some, bo_some, bo2_some, e1_some, e2_some, putP_none, putP_some, vB_bool, T.get_set, reduceIte, Nat.reduceEqDiff, Nat.reduceLT, c3P, c3ng, binO_add, binO_sub, binO_mul, binO_eql, binO_neq, binO_lss, binO_leq, binO_gtr, binO_geq, unO_not, true_and, Bool.false_eq_true, if_false, if_true, forall_const, extrO, nilChk, false_implies]
  rw [w94_2, w94_3, w94_4]
  simp only [wps_nil, wps_move, wps_assign, wps_pick, wps_binOp, wps_unOp, wps_load, wps_fieldAddr, wps_field, wps_indexAddr, wps_index, wps_lookup, wps_nilCheck, wps_extract, wps_makeFunc, wps_slice, wps_alloc, wps_box, wps_buildSlice, wps_store, wps_mapUpdate, wps_len, wps_min, wps_max, wps_app, ev_tmp, ev_cint, ev_cbool, ev_cnils, ev_cnilp, ev_cnilf, ev_cnili, ev_cnilm, ev_func, evs_nil, evs_cons, consO_some, evParts_nil, evParts_cons, consP_some, evOpt_none, evOpt_sm, someO_some, bo_some, bo2_some, e1_some, e2_some, putP_none, putP_some, vB_bool, T.get_set, reduceIte, Nat.reduceEqDiff, Nat.reduceLT, c3P, c3ng, binO_add, binO_sub, binO_mul, binO_eql, binO_neq, binO_lss, binO_leq, binO_gtr, binO_geq, unO_not, true_and, Bool.false_eq_true, if_false, if_true, forall_const, extrO, nilChk, false_implies]
  rw [r.len lc67]
  simp only [wps_nil, wps_move, wps_assign, wps_pick, wps_binOp, wps_unOp, wps_load, wps_fieldAddr, wps_field, wps_indexAddr, wps_index, wps_lookup, wps_nilCheck, wps_extract, wps_makeFunc, wps_slice, wps_alloc, wps_box, wps_buildSlice, wps_store, wps_mapUpdate, wps_len, wps_min, wps_max, wps_app, ev_tmp, ev_cint, ev_cbool, ev_cnils, ev_cnilp, ev_cnilf, ev_cnili, ev_cnilm, ev_func, evs_nil, evs_cons, consO_some, evParts_nil, evParts_cons, consP_some, evOpt_none, evOpt_sm, someO_some, bo_some, bo2_some, e1_some, e2_some, putP_none, putP_some, vB_bool, T.get_set, reduceIte, Nat.reduceEqDiff, Nat.reduceLT, c3P, c3ng, binO_add, binO_sub, binO_mul, binO_eql, binO_neq, binO_lss, binO_leq, binO_gtr, binO_geq, unO_not, true_and, Bool.false_eq_true, if_false, if_true, forall_const, extrO, nilChk, false_implies]
  rw [w94_5]
  simp only [wps_nil, wps_move, wps_assign, wps_pick, wps_binOp, wps_unOp, wps_load, wps_fieldAddr, wps_field, wps_indexAddr, wps_index, wps_lookup, wps_nilCheck, wps_extract, wps_makeFunc, wps_slice, wps_alloc, wps_box, wps_buildSlice, wps_store, wps_mapUpdate, wps_len, wps_min, wps_max, wps_app, ev_tmp, ev_cint, ev_cbool, ev_cnils, ev_cnilp, ev_cnilf, ev_cnili, ev_cnilm, ev_func, evs_nil, evs_cons, consO_some, evParts_nil, evParts_cons, consP_some, evOpt_none, evOpt_sm, someO_some, bo_some, bo2_some, e1_some, e2_some, putP_none, putP_some, vB_bool, T.get_set, reduceIte, Nat.reduceEqDiff, Nat.reduceLT, c3P, c3ng, binO_add, binO_sub, binO_mul, binO_eql, binO_neq, binO_lss, binO_leq, binO_gtr, binO_geq, unO_not, true_and, Bool.false_eq_true, if_false, if_true, forall_const, extrO, nilChk, false_implies, ints_length, decide_eq_true_eq]
  by_cases hz : l.length = 0
  · rw [if_pos (by omega), dif_pos hz, w94_6, w94_7]
    simp only [wps_nil, wps_move, wps_assign, wps_pick, wps_binOp, wps_unOp, wps_load, wps_fieldAddr, wps_field, wps_indexAddr, wps_index, wps_lookup, wps_nilCheck, wps_extract, wps_makeFunc, wps_slice, wps_alloc, wps_box, wps_buildSlice, wps_store, wps_mapUpdate, wps_len, wps_min, wps_max, wps_app, ev_tmp, ev_cint, ev_cbool, ev_cnils, ev_cnilp, ev_cnilf, ev_cnili, ev_cnilm, ev_func, evs_nil, evs_cons, consO_some, evParts_nil, evParts_cons, consP_some, evOpt_none, evOpt_sm, someO_some, bo_some, bo2_some, e1_some, e2_some, putP_none, putP_some, vB_bool, T.get_set, reduceIte, Nat.reduceEqDiff, Nat.reduceLT, c3P, c3ng, binO_add, binO_sub, binO_mul, binO_eql, binO_neq, binO_lss, binO_leq, binO_gtr, binO_geq, unO_not, true_and, Bool.false_eq_true, if_false, if_true, forall_const, extrO, nilChk, false_implies]
    rw [w94_8, wpret, res94]
    simp only [wps_nil, wps_move, wps_assign, wps_pick, wps_binOp, wps_unOp, wps_load, wps_fieldAddr, wps_field, wps_indexAddr, wps_index, wps_lookup, wps_nilCheck, wps_extract, wps_makeFunc, wps_slice, wps_alloc, wps_box, wps_buildSlice, wps_store, wps_mapUpdate, wps_len, wps_min, wps_max, wps_app, ev_tmp, ev_cint, ev_cbool, ev_cnils, ev_cnilp, ev_cnilf, ev_cnili, ev_cnilm, ev_func, evs_nil, evs_cons, consO_some, evParts_nil, evParts_cons, consP_some, evOpt_none, evOpt_sm, someO_some, bo_some, bo2_some, e1_some, e2_some, putP_none, putP_some, vB_bool, T.get_set, reduceIte, Nat.reduceEqDiff, Nat.reduceLT, c3P, c3ng, binO_add, binO_sub, binO_mul, binO_eql, binO_neq, binO_lss, binO_leq, binO_gtr, binO_geq, unO_not, true_and, Bool.false_eq_true, if_false, if_true, forall_const, extrO, nilChk, false_implies, resultsO_nil, resultsO_tmp]
    rfl
  · rw [if_neg (by omega), dif_neg hz, w94_9, w94_10, w94_11]
    simp only [wps_nil, wps_move, wps_assign, wps_pick, wps_binOp, wps_unOp, wps_load, wps_fieldAddr, wps_field, wps_indexAddr, wps_index, wps_lookup, wps_nilCheck, wps_extract, wps_makeFunc, wps_slice, wps_alloc, wps_box, wps_buildSlice, wps_store, wps_mapUpdate, wps_len, wps_min, wps_max, wps_app, ev_tmp, ev_cint, ev_cbool, ev_cnils, ev_cnilp, ev_cnilf, ev_cnili, ev_cnilm, ev_func, evs_nil, evs_cons, consO_some, evParts_nil, evParts_cons, consP_some, evOpt_none, evOpt_sm, someO_some, bo_some, bo2_some, e1_some, e2_some, putP_none, putP_some, vB_bool, T.get_set, reduceIte, Nat.reduceEqDiff, Nat.reduceLT, c3P, c3ng, binO_add, binO_sub, binO_mul, binO_eql, binO_neq, binO_lss, binO_leq, binO_gtr, binO_geq, unO_not, true_and, Bool.false_eq_true, if_false, if_true, forall_const, extrO, nilChk, false_implies, wcv5_3]
    rw [r.len lc67]
    simp only [wps_nil, wps_move, wps_assign, wps_pick, wps_binOp, wps_unOp, wps_load, wps_fieldAddr, wps_field, wps_indexAddr, wps_index, wps_lookup, wps_nilCheck, wps_extract, wps_makeFunc, wps_slice, wps_alloc, wps_box, wps_buildSlice, wps_store, wps_mapUpdate, wps_len, wps_min, wps_max, wps_app, ev_tmp, ev_cint, ev_cbool, ev_cnils, ev_cnilp, ev_cnilf, ev_cnili, ev_cnilm, ev_func, evs_nil, evs_cons, consO_some, evParts_nil, evParts_cons, consP_some, evOpt_none, evOpt_sm, someO_some, bo_some, bo2_some, e1_some, e2_some, putP_none, putP_some, vB_bool, T.get_set, reduceIte, Nat.reduceEqDiff, Nat.reduceLT, c3P, c3ng, binO_add, binO_sub, binO_mul, binO_eql, binO_neq, binO_lss, binO_leq, binO_gtr, binO_geq, unO_not, true_and, Bool.false_eq_true, if_false, if_true, forall_const, extrO, nilChk, false_implies, binO_rem, ints_length]
    rw [wrap64 (by omega) (by omega), if_neg (by omega)]
    simp only [wps_nil, wps_move, wps_assign, wps_pick, wps_binOp, wps_unOp, wps_load, wps_fieldAddr, wps_field, wps_indexAddr, wps_index, wps_lookup, wps_nilCheck, wps_extract, wps_makeFunc, wps_slice, wps_alloc, wps_box, wps_buildSlice, wps_store, wps_mapUpdate, wps_len, wps_min, wps_max, wps_app, ev_tmp, ev_cint, ev_cbool, ev_cnils, ev_cnilp, ev_cnilf, ev_cnili, ev_cnilm, ev_func, evs_nil, evs_cons, consO_some, evParts_nil, evParts_cons, consP_some, evOpt_none, evOpt_sm, someO_some, bo_some, bo2_some, e1_some, e2_some, putP_none, putP_some, vB_bool, T.get_set, reduceIte, Nat.reduceEqDiff, Nat.reduceLT, c3P, c3ng, binO_add, binO_sub, binO_mul, binO_eql, binO_neq, binO_lss, binO_leq, binO_gtr, binO_geq, unO_not, true_and, Bool.false_eq_true, if_false, if_true, forall_const, extrO, nilChk, false_implies]
    obtain ⟨n, rfl⟩ := Int.eq_ofNat_of_zero_le h0
    have hm : n % l.length < l.length := Nat.mod_lt _ (by omega)
    rw [show Int.tmod (n : Int) (l.length : Int) = ((n % l.length : Nat) : Int) from rfl, r.addr sz67 (by simpa using hm)]
    simp only [wps_nil, wps_move, wps_assign, wps_pick, wps_binOp, wps_unOp, wps_load, wps_fieldAddr, wps_field, wps_indexAddr, wps_index, wps_lookup, wps_nilCheck, wps_extract, wps_makeFunc, wps_slice, wps_alloc, wps_box, wps_buildSlice, wps_store, wps_mapUpdate, wps_len, wps_min, wps_max, wps_app, ev_tmp, ev_cint, ev_cbool, ev_cnils, ev_cnilp, ev_cnilf, ev_cnili, ev_cnilm, ev_func, evs_nil, evs_cons, consO_some, evParts_nil, evParts_cons, consP_some, evOpt_none, evOpt_sm, someO_some, bo_some, bo2_some, e1_some, e2_some, putP_none, putP_some, vB_bool, T.get_set, reduceIte, Nat.reduceEqDiff, Nat.reduceLT, c3P, c3ng, binO_add, binO_sub, binO_mul, binO_eql, binO_neq, binO_lss, binO_leq, binO_gtr, binO_geq, unO_not, true_and, Bool.false_eq_true, if_false, if_true, forall_const, extrO, nilChk, false_implies]
    rw [r.load ag3 (by simpa using hm)]
    simp only [wps_nil, wps_move, wps_assign, wps_pick, wps_binOp, wps_unOp, wps_load, wps_fieldAddr, wps_field, wps_indexAddr, wps_index, wps_lookup, wps_nilCheck, wps_extract, wps_makeFunc, wps_slice, wps_alloc, wps_box, wps_buildSlice, wps_store, wps_mapUpdate, wps_len, wps_min, wps_max, wps_app, ev_tmp, ev_cint, ev_cbool, ev_cnils, ev_cnilp, ev_cnilf, ev_cnili, ev_cnilm, ev_func, evs_nil, evs_cons, consO_some, evParts_nil, evParts_cons, consP_some, evOpt_none, evOpt_sm, someO_some, bo_some, bo2_some, e1_some, e2_some, putP_none, putP_some, vB_bool, T.get_set, reduceIte, Nat.reduceEqDiff, Nat.reduceLT, c3P, c3ng, binO_add, binO_sub, binO_mul, binO_eql, binO_neq, binO_lss, binO_leq, binO_gtr, binO_geq, unO_not, true_and, Bool.false_eq_true, if_false, if_true, forall_const, extrO, nilChk, false_implies]
    rw [w94_12, wpret, res94]
    simp only [wps_nil, wps_move, wps_assign, wps_pick, wps_binOp, wps_unOp, wps_load, wps_fieldAddr, wps_field, wps_indexAddr, wps_index, wps_lookup, wps_nilCheck, wps_extract, wps_makeFunc, wps_slice, wps_alloc, wps_box, wps_buildSlice, wps_store, wps_mapUpdate, wps_len, wps_min, wps_max, wps_app, ev_tmp, ev_cint, ev_cbool, ev_cnils, ev_cnilp, ev_cnilf, ev_cnili, ev_cnilm, ev_func, evs_nil, evs_cons, consO_some, evParts_nil, evParts_cons, consP_some, evOpt_none, evOpt_sm, someO_some, bo_some, bo2_some, e1_some, e2_some, putP_none, putP_some, vB_bool, T.get_set, reduceIte, Nat.reduceEqDiff, Nat.reduceLT, c3P, c3ng, binO_add, binO_sub, binO_mul, binO_eql, binO_neq, binO_lss, binO_leq, binO_gtr, binO_geq, unO_not, true_and, Bool.false_eq_true, if_false, if_true, forall_const, extrO, nilChk, false_implies, resultsO_nil, resultsO_tmp]
    simp only [oneOr, ints, List.getElem_map, Int.toNat_natCast]
end K
open Go Go.Proofs Go.Fal
namespace K

theorem app_eq {P : Program} {h : H} {ts : Array TypeId} {t : TypeId} {s x : V} (ha : appT P ts = some t) : builtinO P h .append ts [s, x] = appendO P h t s x := by
  unfold appT at ha
  split at ha
  · rename_i t0 h0
    split at ha
    · rename_i u hu
      split at ha
      · cases ha
      · rename_i d hnd hud
        cases ha
        simp only [builtinO, h0, hu]
        rw [hud]
        cases d <;> first | rfl | exact absurd rfl (hnd _)
      · cases ha
    · rename_i hu
      cases ha
      simp only [builtinO, h0, hu]
  · cases ha

/-! ## who is ready -/
def rdyF : List Int → Nat → List Int
  | [], _ => []
  | x :: xs, i => if x = 0 then (i : Int) :: rdyF xs (i + 1) else rdyF xs (i + 1)
def readyL (l : List Int) (sw : Bool) : List Int := rdyF l 0 ++ if sw then [(l.length : Int)] else []
theorem rdyF_snoc (x : Int) : ∀ (l : List Int) (i : Nat), rdyF (l ++ [x]) i = rdyF l i ++ if x = 0 then [((i + l.length : Nat) : Int)] else []
  | [], i => by simp [rdyF]
  | y :: l, i => by
    simp only [List.cons_append, rdyF, rdyF_snoc x l, List.length_cons]
    rw [show i + 1 + l.length = i + (l.length + 1) by omega]
    split <;> simp
theorem rdyF_len : ∀ (l : List Int) (i : Nat), (rdyF l i).length ≤ l.length
  | [], _ => Nat.le_refl _
  | x :: l, i => by
    have := rdyF_len l (i + 1)
    simp only [rdyF]; split <;> simp <;> omega

/-- what lies in the heap while Ready runs -/
def RInv (h0 : H) (tmR : T V) (s : V) (sw : Bool) (acc : List Int) (h : H) : Prop :=
  Keep None' h0 h ∧ h0.next + 5 ≤ h.next ∧ Box h (h0.next + 1) s ∧ Box h (h0.next + 2) (.bool sw) ∧ h.get (h0.next + 4) = some (.loop .ready none 93 16 tmR #[10] c93_9 c93_10 (h0.next + 3)) ∧
  h.get (h0.next + 3) = some (.defd true) ∧ ∃ vo, Box h h0.next vo ∧ Own h vo (ints acc) ∧ ∀ b, sblk vo = some b → h0.next + 5 ≤ b

theorem Own.plain {h : H} {v : V} {l : List V} (o : Own h v l) : v.plain = true := by
  rcases o with ⟨rfl, _⟩ | ⟨b, pl, n, z, t, rfl, _⟩ <;> rfl
theorem ints_plain (l : List Int) : (ints l).all V.plain = true := by simp [ints, V.plain]

set_option maxRecDepth 100000 in
theorem round_ready {h0 h : H} {tmR : T V} {s : V} {sw : Bool} {acc : List Int} {a : Int} (ht : tmR.get 5 = some (.ptr h0.next 0)) (hi : RInv h0 tmR s sw acc h) (hl : acc.length < 2 ^ 31) :
    WpR c3 (h0.next + 4) [.int .i64 a] h (fun v h' => v = .bool true ∧ RInv h0 tmR s sw (acc ++ [a]) h') := by
  obtain ⟨k0, k1, b1, b2, hL, hD, vo, bo, oo, hvo⟩ := hi
  rw [wpr_enter (tm1 := tmR.set 10 (.int .i64 a)) hL rfl rfl, w93_9]
  simp only [wps_nil, wps_move, wps_assign, wps_pick, wps_binOp, wps_unOp, wps_load, wps_fieldAddr, wps_field, wps_indexAddr, wps_index, wps_lookup, wps_nilCheck, wps_extract, wps_makeFunc, wps_slice, wps_alloc, wps_box, wps_buildSlice, wps_store, wps_mapUpdate, wps_len, wps_min, wps_max, wps_app, ev_tmp, ev_cint, ev_cbool, ev_cnils, ev_cnilp, ev_cnilf, ev_cnili, ev_cnilm, ev_func, evs_nil, evs_cons, consO_some, evParts_nil, evParts_cons, consP_some, evOpt_none, evOpt_sm, someO_some, bo_some, bo2_some, e1_some, e2_some, putP_none, putP_some, vB_bool, T.get_set, reduceIte, Nat.reduceEqDiff, Nat.reduceLT, c3P, c3ng, binO_add, binO_sub, binO_mul, binO_eql, binO_neq, binO_lss, binO_leq, binO_gtr, binO_geq, unO_not, true_and, Bool.false_eq_true, if_false, if_true, forall_const, extrO, nilChk, false_implies]
  rw [wp_beginRound hL]
  -- the record is busy
  have kb := keep_put h (h0.next + 4) (.loop .busy none 93 16 tmR #[10] c93_9 c93_10 (h0.next + 3))
  generalize hh1 : h.put (h0.next + 4) (.loop .busy none 93 16 tmR #[10] c93_9 c93_10 (h0.next + 3)) = h1 at *
  have hL1 : h1.get (h0.next + 4) = some (.loop .busy none 93 16 tmR #[10] c93_9 c93_10 (h0.next + 3)) := by rw [← hh1]; exact H.get_put_same _ _ _
  have hn1 : h1.next = h.next := by rw [← hh1]; rfl
  have bo1 := bo.keep kb (by omega)
  have oo1 := oo.keep kb (fun b hb => by have := hvo b hb; omega)
  rw [w93_10, w93_11]
  simp only [wps_nil, wps_move, wps_assign, wps_pick, wps_binOp, wps_unOp, wps_load, wps_fieldAddr, wps_field, wps_indexAddr, wps_index, wps_lookup, wps_nilCheck, wps_extract, wps_makeFunc, wps_slice, wps_alloc, wps_box, wps_buildSlice, wps_store, wps_mapUpdate, wps_len, wps_min, wps_max, wps_app, ev_tmp, ev_cint, ev_cbool, ev_cnils, ev_cnilp, ev_cnilf, ev_cnili, ev_cnilm, ev_func, evs_nil, evs_cons, consO_some, evParts_nil, evParts_cons, consP_some, evOpt_none, evOpt_sm, someO_some, bo_some, bo2_some, e1_some, e2_some, putP_none, putP_some, vB_bool, T.get_set, reduceIte, Nat.reduceEqDiff, Nat.reduceLT, c3P, c3ng, binO_add, binO_sub, binO_mul, binO_eql, binO_neq, binO_lss, binO_leq, binO_gtr, binO_geq, unO_not, true_and, Bool.false_eq_true, if_false, if_true, forall_const, extrO, nilChk, false_implies, ht]
  rw [bo1.load ag67]
  simp only [wps_nil, wps_move, wps_assign, wps_pick, wps_binOp, wps_unOp, wps_load, wps_fieldAddr, wps_field, wps_indexAddr, wps_index, wps_lookup, wps_nilCheck, wps_extract, wps_makeFunc, wps_slice, wps_alloc, wps_box, wps_buildSlice, wps_store, wps_mapUpdate, wps_len, wps_min, wps_max, wps_app, ev_tmp, ev_cint, ev_cbool, ev_cnils, ev_cnilp, ev_cnilf, ev_cnili, ev_cnilm, ev_func, evs_nil, evs_cons, consO_some, evParts_nil, evParts_cons, consP_some, evOpt_none, evOpt_sm, someO_some, bo_some, bo2_some, e1_some, e2_some, putP_none, putP_some, vB_bool, T.get_set, reduceIte, Nat.reduceEqDiff, Nat.reduceLT, c3P, c3ng, binO_add, binO_sub, binO_mul, binO_eql, binO_neq, binO_lss, binO_leq, binO_gtr, binO_geq, unO_not, true_and, Bool.false_eq_true, if_false, if_true, forall_const, extrO, nilChk, false_implies]
  rw [buildSlice1 et67 so3 zo3 rfl rfl]
  simp only [wps_nil, wps_move, wps_assign, wps_pick, wps_binOp, wps_unOp, wps_load, wps_fieldAddr, wps_field, wps_indexAddr, wps_index, wps_lookup, wps_nilCheck, wps_extract, wps_makeFunc, wps_slice, wps_alloc, wps_box, wps_buildSlice, wps_store, wps_mapUpdate, wps_len, wps_min, wps_max, wps_app, ev_tmp, ev_cint, ev_cbool, ev_cnils, ev_cnilp, ev_cnilf, ev_cnili, ev_cnilm, ev_func, evs_nil, evs_cons, consO_some, evParts_nil, evParts_cons, consP_some, evOpt_none, evOpt_sm, someO_some, bo_some, bo2_some, e1_some, e2_some, putP_none, putP_some, vB_bool, T.get_set, reduceIte, Nat.reduceEqDiff, Nat.reduceLT, c3P, c3ng, binO_add, binO_sub, binO_mul, binO_eql, binO_neq, binO_lss, binO_leq, binO_gtr, binO_geq, unO_not, true_and, Bool.false_eq_true, if_false, if_true, forall_const, extrO, nilChk, false_implies]
  -- the new part
  have kn := keep_new h1 (ofCells [V.int .i64 a])
  have r2 := row_one (h := h1) (x := V.int .i64 a)
  have oo2 := oo1.keep kn (fun _ _ hf => hf)
  have bo2 := bo1.keep kn (fun hf => hf)
  have hL2 : (h1.new (ofCells [V.int .i64 a])).get (h0.next + 4) = some (.loop .busy none 93 16 tmR #[10] c93_9 c93_10 (h0.next + 3)) := by rw [kn.2 _ (by omega) (fun hf => hf)]; exact hL1
  have hn2 : (h1.new (ofCells [V.int .i64 a])).next = h.next + 1 := by rw [H.next_new, hn1]
  have k2 : Keep (fun b => b = h0.next + 4) h (h1.new (ofCells [V.int .i64 a])) := kb.trans kn (fun _ _ hf => hf.elim)
  generalize h1.new (ofCells [V.int .i64 a]) = h2 at *
  have hlen : (ints acc).length + [V.int .i64 a].length ≤ 2 ^ 32 := by rw [ints_length]; simp only [List.length_singleton]; omega
  have hap := oo2.append r2 el67 (show [V.int .i64 a].all V.plain = true from rfl) hlen (by omega)
  obtain ⟨v3, h3, e3, o3, k3, w3, n3⟩ := hap
  rw [app_eq ap67, e3]
  simp only [wps_nil, wps_move, wps_assign, wps_pick, wps_binOp, wps_unOp, wps_load, wps_fieldAddr, wps_field, wps_indexAddr, wps_index, wps_lookup, wps_nilCheck, wps_extract, wps_makeFunc, wps_slice, wps_alloc, wps_box, wps_buildSlice, wps_store, wps_mapUpdate, wps_len, wps_min, wps_max, wps_app, ev_tmp, ev_cint, ev_cbool, ev_cnils, ev_cnilp, ev_cnilf, ev_cnili, ev_cnilm, ev_func, evs_nil, evs_cons, consO_some, evParts_nil, evParts_cons, consP_some, evOpt_none, evOpt_sm, someO_some, bo_some, bo2_some, e1_some, e2_some, putP_none, putP_some, vB_bool, T.get_set, reduceIte, Nat.reduceEqDiff, Nat.reduceLT, c3P, c3ng, binO_add, binO_sub, binO_mul, binO_eql, binO_neq, binO_lss, binO_leq, binO_gtr, binO_geq, unO_not, true_and, Bool.false_eq_true, if_false, if_true, forall_const, extrO, nilChk, false_implies]
  have hn3 := (n3 (by simp)).1
  have hb3 := (n3 (by simp)).2
  have bo3 := bo2.keep k3 (fun hb => by have := hvo _ hb; omega)
  obtain ⟨h4, e4, bo4, k4, hn4⟩ := bo3.store (P := Tryz.prog) so67 (K.Own.plain o3)
  rw [e4]
  simp only [wps_nil, wps_move, wps_assign, wps_pick, wps_binOp, wps_unOp, wps_load, wps_fieldAddr, wps_field, wps_indexAddr, wps_index, wps_lookup, wps_nilCheck, wps_extract, wps_makeFunc, wps_slice, wps_alloc, wps_box, wps_buildSlice, wps_store, wps_mapUpdate, wps_len, wps_min, wps_max, wps_app, ev_tmp, ev_cint, ev_cbool, ev_cnils, ev_cnilp, ev_cnilf, ev_cnili, ev_cnilm, ev_func, evs_nil, evs_cons, consO_some, evParts_nil, evParts_cons, consP_some, evOpt_none, evOpt_sm, someO_some, bo_some, bo2_some, e1_some, e2_some, putP_none, putP_some, vB_bool, T.get_set, reduceIte, Nat.reduceEqDiff, Nat.reduceLT, c3P, c3ng, binO_add, binO_sub, binO_mul, binO_eql, binO_neq, binO_lss, binO_leq, binO_gtr, binO_geq, unO_not, true_and, Bool.false_eq_true, if_false, if_true, forall_const, extrO, nilChk, false_implies]
  rw [Fal.wp_inBlock]
  have hL3 : h3.get (h0.next + 4) = some (.loop .busy none 93 16 tmR #[10] c93_9 c93_10 (h0.next + 3)) := by rw [k3.2 _ (by omega) (fun hb => by have := hvo _ hb; omega)]; exact hL2
  have hL4 : h4.get (h0.next + 4) = some (.loop .busy none 93 16 tmR #[10] c93_9 c93_10 (h0.next + 3)) := by rw [k4.2 _ (by omega) (by omega)]; exact hL3
  rw [wp_round_end hL4]
  have k5 := keep_put h4 (h0.next + 4) (.loop .ready none 93 16 tmR #[10] c93_9 c93_10 (h0.next + 3))
  generalize hh5 : h4.put (h0.next + 4) (.loop .ready none 93 16 tmR #[10] c93_9 c93_10 (h0.next + 3)) = h5 at *
  have hL5 : h5.get (h0.next + 4) = some (.loop .ready none 93 16 tmR #[10] c93_9 c93_10 (h0.next + 3)) := by rw [← hh5]; exact H.get_put_same _ _ _
  -- all that has changed
  have kk : Keep (fun b => b = h0.next + 4 ∨ b = h0.next ∨ h0.next + 5 ≤ b) h h5 :=
    ((((k2.weak (fun _ _ h => .inl h)).trans (k3.weak (fun _ _ hb => .inr (.inr (hvo _ hb)))) (fun _ _ h => h)).trans (k4.weak (fun _ _ h => .inr (.inl h))) (fun _ _ h => h)).trans (k5.weak (fun _ _ h => .inl h)) (fun _ _ h => h))
  refine ⟨rfl, (k0.weak (Y := None') (fun _ _ h => h)).trans kk (fun b hb h => by rcases h with h | h | h <;> omega), by have := kk.1; omega, b1.keep kk (by omega), b2.keep kk (by omega), hL5, (kk.2 _ (by omega) (by omega)).trans hD, v3, bo4.keep k5 (by omega), ?_, fun b hb => ?_⟩
  · have o4 := o3.keep k4 (fun b hb => by rw [hb3] at hb; cases hb; omega)
    have o5 := o4.keep k5 (fun b hb => by rw [hb3] at hb; cases hb; omega)
    simpa [ints] using o5
  · rw [hb3] at hb; cases hb; omega
end K
open Go Go.Proofs Go.Fal
namespace K

theorem rdyF_take (l : List Int) (i : Nat) (hi : i < l.length) : rdyF (l.take (i + 1)) 0 = rdyF (l.take i) 0 ++ if l[i] = 0 then [(i : Int)] else [] := by
  rw [List.take_succ_eq_append_getElem hi, rdyF_snoc]
  simp [Nat.min_eq_left (Nat.le_of_lt hi)]

section
variable {h0 : H} {tmR : T V} {s : V} {sw : Bool} {l : List Int}

set_option maxRecDepth 100000 in
theorem agents_loop (ht : tmR.get 5 = some (.ptr h0.next 0)) (r : RowR h0 s (ints l)) (hl : l.length < 2 ^ 30) : ∀ (m i : Nat) (tm : T V) (h : H), i + m = l.length → tm.get 0 = some (.yield (h0.next + 4)) → tm.get 1 = some (.ptr (h0.next + 1) 0) → tm.get 2 = some (.ptr (h0.next + 2) 0) →
    tm.get 6 = some s → tm.get 7 = some (.int .i64 l.length) → tm.get 8 = some (.int .i64 i) → RInv h0 tmR s sw (rdyF (l.take i) 0) h →
    Wp c3 222 27 tm [.code c222_5, .inLoop c222_5, .inBlock 0, .code c222_21] [] none h (fun _ h' => RInv h0 tmR s sw (readyL l sw) h') := by
  intro m
  induction m with
  | zero =>
    intro i tm h him t0 t1 t2 t6 t7 t8 hi
    obtain rfl : i = l.length := by omega
    rw [List.take_length] at hi
    have hacc : (rdyF l 0).length < 2 ^ 31 := by have := rdyF_len l 0; omega
    have r1 := r.keep hi.1 (fun _ _ hf => hf)
    have b1 := hi.2.2.1
    have b2 := hi.2.2.2.1
    rw [w222_5, w222_6]
    simp only [wps_nil, wps_move, wps_assign, wps_pick, wps_binOp, wps_unOp, wps_load, wps_fieldAddr, wps_field, wps_indexAddr, wps_index, wps_lookup, wps_nilCheck, wps_extract, wps_makeFunc, wps_slice, wps_alloc, wps_box, wps_buildSlice, wps_store, wps_mapUpdate, wps_len, wps_min, wps_max, wps_app, ev_tmp, ev_cint, ev_cbool, ev_cnils, ev_cnilp, ev_cnilf, ev_cnili, ev_cnilm, ev_func, evs_nil, evs_cons, consO_some, evParts_nil, evParts_cons, consP_some, evOpt_none, evOpt_sm, someO_some, bo_some, bo2_some, e1_some, e2_some, putP_none, putP_some, vB_bool, T.get_set, reduceIte, Nat.reduceEqDiff, Nat.reduceLT, c3P, c3ng, binO_add, binO_sub, binO_mul, binO_eql, binO_neq, binO_lss, binO_leq, binO_gtr, binO_geq, unO_not, true_and, Bool.false_eq_true, if_false, if_true, forall_const, extrO, nilChk, false_implies, t7, t8]
    rw [w222_7, w222_8]
    simp only [wps_nil, wps_move, wps_assign, wps_pick, wps_binOp, wps_unOp, wps_load, wps_fieldAddr, wps_field, wps_indexAddr, wps_index, wps_lookup, wps_nilCheck, wps_extract, wps_makeFunc, wps_slice, wps_alloc, wps_box, wps_buildSlice, wps_store, wps_mapUpdate, wps_len, wps_min, wps_max, wps_app, ev_tmp, ev_cint, ev_cbool, ev_cnils, ev_cnilp, ev_cnilf, ev_cnili, ev_cnilm, ev_func, evs_nil, evs_cons, consO_some, evParts_nil, evParts_cons, consP_some, evOpt_none, evOpt_sm, someO_some, bo_some, bo2_some, e1_some, e2_some, putP_none, putP_some, vB_bool, T.get_set, reduceIte, Nat.reduceEqDiff, Nat.reduceLT, c3P, c3ng, binO_add, binO_sub, binO_mul, binO_eql, binO_neq, binO_lss, binO_leq, binO_gtr, binO_geq, unO_not, true_and, Bool.false_eq_true, if_false, if_true, forall_const, extrO, nilChk, false_implies, Int.lt_irrefl, decide_false]
    rw [w222_10, wp_exit_code, wp_exit_loop, wp_exit_here, w222_21, w222_22]
    simp only [wps_nil, wps_move, wps_assign, wps_pick, wps_binOp, wps_unOp, wps_load, wps_fieldAddr, wps_field, wps_indexAddr, wps_index, wps_lookup, wps_nilCheck, wps_extract, wps_makeFunc, wps_slice, wps_alloc, wps_box, wps_buildSlice, wps_store, wps_mapUpdate, wps_len, wps_min, wps_max, wps_app, ev_tmp, ev_cint, ev_cbool, ev_cnils, ev_cnilp, ev_cnilf, ev_cnili, ev_cnilm, ev_func, evs_nil, evs_cons, consO_some, evParts_nil, evParts_cons, consP_some, evOpt_none, evOpt_sm, someO_some, bo_some, bo2_some, e1_some, e2_some, putP_none, putP_some, vB_bool, T.get_set, reduceIte, Nat.reduceEqDiff, Nat.reduceLT, c3P, c3ng, binO_add, binO_sub, binO_mul, binO_eql, binO_neq, binO_lss, binO_leq, binO_gtr, binO_geq, unO_not, true_and, Bool.false_eq_true, if_false, if_true, forall_const, extrO, nilChk, false_implies, t2, b2.load ag4]
    rw [w222_23]
    simp only [wps_nil, wps_move, wps_assign, wps_pick, wps_binOp, wps_unOp, wps_load, wps_fieldAddr, wps_field, wps_indexAddr, wps_index, wps_lookup, wps_nilCheck, wps_extract, wps_makeFunc, wps_slice, wps_alloc, wps_box, wps_buildSlice, wps_store, wps_mapUpdate, wps_len, wps_min, wps_max, wps_app, ev_tmp, ev_cint, ev_cbool, ev_cnils, ev_cnilp, ev_cnilf, ev_cnili, ev_cnilm, ev_func, evs_nil, evs_cons, consO_some, evParts_nil, evParts_cons, consP_some, evOpt_none, evOpt_sm, someO_some, bo_some, bo2_some, e1_some, e2_some, putP_none, putP_some, vB_bool, T.get_set, reduceIte, Nat.reduceEqDiff, Nat.reduceLT, c3P, c3ng, binO_add, binO_sub, binO_mul, binO_eql, binO_neq, binO_lss, binO_leq, binO_gtr, binO_geq, unO_not, true_and, Bool.false_eq_true, if_false, if_true, forall_const, extrO, nilChk, false_implies]
    cases sw with
    | false =>
      simp only [wps_nil, wps_move, wps_assign, wps_pick, wps_binOp, wps_unOp, wps_load, wps_fieldAddr, wps_field, wps_indexAddr, wps_index, wps_lookup, wps_nilCheck, wps_extract, wps_makeFunc, wps_slice, wps_alloc, wps_box, wps_buildSlice, wps_store, wps_mapUpdate, wps_len, wps_min, wps_max, wps_app, ev_tmp, ev_cint, ev_cbool, ev_cnils, ev_cnilp, ev_cnilf, ev_cnili, ev_cnilm, ev_func, evs_nil, evs_cons, consO_some, evParts_nil, evParts_cons, consP_some, evOpt_none, evOpt_sm, someO_some, bo_some, bo2_some, e1_some, e2_some, putP_none, putP_some, vB_bool, T.get_set, reduceIte, Nat.reduceEqDiff, Nat.reduceLT, c3P, c3ng, binO_add, binO_sub, binO_mul, binO_eql, binO_neq, binO_lss, binO_leq, binO_gtr, binO_geq, unO_not, true_and, Bool.false_eq_true, if_false, if_true, forall_const, extrO, nilChk, false_implies]
      rw [w222_25, wpend, res222]
      simp only [wps_nil, wps_move, wps_assign, wps_pick, wps_binOp, wps_unOp, wps_load, wps_fieldAddr, wps_field, wps_indexAddr, wps_index, wps_lookup, wps_nilCheck, wps_extract, wps_makeFunc, wps_slice, wps_alloc, wps_box, wps_buildSlice, wps_store, wps_mapUpdate, wps_len, wps_min, wps_max, wps_app, ev_tmp, ev_cint, ev_cbool, ev_cnils, ev_cnilp, ev_cnilf, ev_cnili, ev_cnilm, ev_func, evs_nil, evs_cons, consO_some, evParts_nil, evParts_cons, consP_some, evOpt_none, evOpt_sm, someO_some, bo_some, bo2_some, e1_some, e2_some, putP_none, putP_some, vB_bool, T.get_set, reduceIte, Nat.reduceEqDiff, Nat.reduceLT, c3P, c3ng, binO_add, binO_sub, binO_mul, binO_eql, binO_neq, binO_lss, binO_leq, binO_gtr, binO_geq, unO_not, true_and, Bool.false_eq_true, if_false, if_true, forall_const, extrO, nilChk, false_implies, resultsO_nil]
      simpa [readyL] using hi
    | true =>
      simp only [wps_nil, wps_move, wps_assign, wps_pick, wps_binOp, wps_unOp, wps_load, wps_fieldAddr, wps_field, wps_indexAddr, wps_index, wps_lookup, wps_nilCheck, wps_extract, wps_makeFunc, wps_slice, wps_alloc, wps_box, wps_buildSlice, wps_store, wps_mapUpdate, wps_len, wps_min, wps_max, wps_app, ev_tmp, ev_cint, ev_cbool, ev_cnils, ev_cnilp, ev_cnilf, ev_cnili, ev_cnilm, ev_func, evs_nil, evs_cons, consO_some, evParts_nil, evParts_cons, consP_some, evOpt_none, evOpt_sm, someO_some, bo_some, bo2_some, e1_some, e2_some, putP_none, putP_some, vB_bool, T.get_set, reduceIte, Nat.reduceEqDiff, Nat.reduceLT, c3P, c3ng, binO_add, binO_sub, binO_mul, binO_eql, binO_neq, binO_lss, binO_leq, binO_gtr, binO_geq, unO_not, true_and, Bool.false_eq_true, if_false, if_true, forall_const, extrO, nilChk, false_implies]
      rw [w222_24]
      simp only [wps_nil, wps_move, wps_assign, wps_pick, wps_binOp, wps_unOp, wps_load, wps_fieldAddr, wps_field, wps_indexAddr, wps_index, wps_lookup, wps_nilCheck, wps_extract, wps_makeFunc, wps_slice, wps_alloc, wps_box, wps_buildSlice, wps_store, wps_mapUpdate, wps_len, wps_min, wps_max, wps_app, ev_tmp, ev_cint, ev_cbool, ev_cnils, ev_cnilp, ev_cnilf, ev_cnili, ev_cnilm, ev_func, evs_nil, evs_cons, consO_some, evParts_nil, evParts_cons, consP_some, evOpt_none, evOpt_sm, someO_some, bo_some, bo2_some, e1_some, e2_some, putP_none, putP_some, vB_bool, T.get_set, reduceIte, Nat.reduceEqDiff, Nat.reduceLT, c3P, c3ng, binO_add, binO_sub, binO_mul, binO_eql, binO_neq, binO_lss, binO_leq, binO_gtr, binO_geq, unO_not, true_and, Bool.false_eq_true, if_false, if_true, forall_const, extrO, nilChk, false_implies, t0, t1, b1.load ag67]
      rw [r1.len lc67]
      simp only [wps_nil, wps_move, wps_assign, wps_pick, wps_binOp, wps_unOp, wps_load, wps_fieldAddr, wps_field, wps_indexAddr, wps_index, wps_lookup, wps_nilCheck, wps_extract, wps_makeFunc, wps_slice, wps_alloc, wps_box, wps_buildSlice, wps_store, wps_mapUpdate, wps_len, wps_min, wps_max, wps_app, ev_tmp, ev_cint, ev_cbool, ev_cnils, ev_cnilp, ev_cnilf, ev_cnili, ev_cnilm, ev_func, evs_nil, evs_cons, consO_some, evParts_nil, evParts_cons, consP_some, evOpt_none, evOpt_sm, someO_some, bo_some, bo2_some, e1_some, e2_some, putP_none, putP_some, vB_bool, T.get_set, reduceIte, Nat.reduceEqDiff, Nat.reduceLT, c3P, c3ng, binO_add, binO_sub, binO_mul, binO_eql, binO_neq, binO_lss, binO_leq, binO_gtr, binO_geq, unO_not, true_and, Bool.false_eq_true, if_false, if_true, forall_const, extrO, nilChk, false_implies, ints_length]
      have hL := hi.2.2.2.2.1
      refine wps_roundP (opx_yield (vs := [.int .i64 (l.length : Int)]) (by simp only [wps_nil, wps_move, wps_assign, wps_pick, wps_binOp, wps_unOp, wps_load, wps_fieldAddr, wps_field, wps_indexAddr, wps_index, wps_lookup, wps_nilCheck, wps_extract, wps_makeFunc, wps_slice, wps_alloc, wps_box, wps_buildSlice, wps_store, wps_mapUpdate, wps_len, wps_min, wps_max, wps_app, ev_tmp, ev_cint, ev_cbool, ev_cnils, ev_cnilp, ev_cnilf, ev_cnili, ev_cnilm, ev_func, evs_nil, evs_cons, consO_some, evParts_nil, evParts_cons, consP_some, evOpt_none, evOpt_sm, someO_some, bo_some, bo2_some, e1_some, e2_some, putP_none, putP_some, vB_bool, T.get_set, reduceIte, Nat.reduceEqDiff, Nat.reduceLT, c3P, c3ng, binO_add, binO_sub, binO_mul, binO_eql, binO_neq, binO_lss, binO_leq, binO_gtr, binO_geq, unO_not, true_and, Bool.false_eq_true, if_false, if_true, forall_const, extrO, nilChk, false_implies]) (by simp only [wps_nil, wps_move, wps_assign, wps_pick, wps_binOp, wps_unOp, wps_load, wps_fieldAddr, wps_field, wps_indexAddr, wps_index, wps_lookup, wps_nilCheck, wps_extract, wps_makeFunc, wps_slice, wps_alloc, wps_box, wps_buildSlice, wps_store, wps_mapUpdate, wps_len, wps_min, wps_max, wps_app, ev_tmp, ev_cint, ev_cbool, ev_cnils, ev_cnilp, ev_cnilf, ev_cnili, ev_cnilm, ev_func, evs_nil, evs_cons, consO_some, evParts_nil, evParts_cons, consP_some, evOpt_none, evOpt_sm, someO_some, bo_some, bo2_some, e1_some, e2_some, putP_none, putP_some, vB_bool, T.get_set, reduceIte, Nat.reduceEqDiff, Nat.reduceLT, c3P, c3ng, binO_add, binO_sub, binO_mul, binO_eql, binO_neq, binO_lss, binO_leq, binO_gtr, binO_geq, unO_not, true_and, Bool.false_eq_true, if_false, if_true, forall_const, extrO, nilChk, false_implies]) hL rfl) (round_ready ht hi hacc) ?_
      rintro v h2 ⟨rfl, hi2⟩
      simp only [wps_nil, wps_move, wps_assign, wps_pick, wps_binOp, wps_unOp, wps_load, wps_fieldAddr, wps_field, wps_indexAddr, wps_index, wps_lookup, wps_nilCheck, wps_extract, wps_makeFunc, wps_slice, wps_alloc, wps_box, wps_buildSlice, wps_store, wps_mapUpdate, wps_len, wps_min, wps_max, wps_app, ev_tmp, ev_cint, ev_cbool, ev_cnils, ev_cnilp, ev_cnilf, ev_cnili, ev_cnilm, ev_func, evs_nil, evs_cons, consO_some, evParts_nil, evParts_cons, consP_some, evOpt_none, evOpt_sm, someO_some, bo_some, bo2_some, e1_some, e2_some, putP_none, putP_some, vB_bool, T.get_set, reduceIte, Nat.reduceEqDiff, Nat.reduceLT, c3P, c3ng, binO_add, binO_sub, binO_mul, binO_eql, binO_neq, binO_lss, binO_leq, binO_gtr, binO_geq, unO_not, true_and, Bool.false_eq_true, if_false, if_true, forall_const, extrO, nilChk, false_implies]
      rw [wpend, res222]
      simp only [wps_nil, wps_move, wps_assign, wps_pick, wps_binOp, wps_unOp, wps_load, wps_fieldAddr, wps_field, wps_indexAddr, wps_index, wps_lookup, wps_nilCheck, wps_extract, wps_makeFunc, wps_slice, wps_alloc, wps_box, wps_buildSlice, wps_store, wps_mapUpdate, wps_len, wps_min, wps_max, wps_app, ev_tmp, ev_cint, ev_cbool, ev_cnils, ev_cnilp, ev_cnilf, ev_cnili, ev_cnilm, ev_func, evs_nil, evs_cons, consO_some, evParts_nil, evParts_cons, consP_some, evOpt_none, evOpt_sm, someO_some, bo_some, bo2_some, e1_some, e2_some, putP_none, putP_some, vB_bool, T.get_set, reduceIte, Nat.reduceEqDiff, Nat.reduceLT, c3P, c3ng, binO_add, binO_sub, binO_mul, binO_eql, binO_neq, binO_lss, binO_leq, binO_gtr, binO_geq, unO_not, true_and, Bool.false_eq_true, if_false, if_true, forall_const, extrO, nilChk, false_implies, resultsO_nil]
      simpa [readyL, ints_length] using hi2
  | succ m ih =>
    intro i tm h him t0 t1 t2 t6 t7 t8 hi
    have hlt : i < l.length := by omega
    have hacc : (rdyF (l.take i) 0).length < 2 ^ 31 := by have := rdyF_len (l.take i) 0; simp at this; omega
    have r1 := r.keep hi.1 (fun _ _ hf => hf)
    rw [w222_5, w222_6]
    simp only [wps_nil, wps_move, wps_assign, wps_pick, wps_binOp, wps_unOp, wps_load, wps_fieldAddr, wps_field, wps_indexAddr, wps_index, wps_lookup, wps_nilCheck, wps_extract, wps_makeFunc, wps_slice, wps_alloc, wps_box, wps_buildSlice, wps_store, wps_mapUpdate, wps_len, wps_min, wps_max, wps_app, ev_tmp, ev_cint, ev_cbool, ev_cnils, ev_cnilp, ev_cnilf, ev_cnili, ev_cnilm, ev_func, evs_nil, evs_cons, consO_some, evParts_nil, evParts_cons, consP_some, evOpt_none, evOpt_sm, someO_some, bo_some, bo2_some, e1_some, e2_some, putP_none, putP_some, vB_bool, T.get_set, reduceIte, Nat.reduceEqDiff, Nat.reduceLT, c3P, c3ng, binO_add, binO_sub, binO_mul, binO_eql, binO_neq, binO_lss, binO_leq, binO_gtr, binO_geq, unO_not, true_and, Bool.false_eq_true, if_false, if_true, forall_const, extrO, nilChk, false_implies, t7, t8]
    rw [w222_7, w222_8]
    have hd : decide ((i : Int) < (l.length : Int)) = true := by simpa using hlt
    simp only [wps_nil, wps_move, wps_assign, wps_pick, wps_binOp, wps_unOp, wps_load, wps_fieldAddr, wps_field, wps_indexAddr, wps_index, wps_lookup, wps_nilCheck, wps_extract, wps_makeFunc, wps_slice, wps_alloc, wps_box, wps_buildSlice, wps_store, wps_mapUpdate, wps_len, wps_min, wps_max, wps_app, ev_tmp, ev_cint, ev_cbool, ev_cnils, ev_cnilp, ev_cnilf, ev_cnili, ev_cnilm, ev_func, evs_nil, evs_cons, consO_some, evParts_nil, evParts_cons, consP_some, evOpt_none, evOpt_sm, someO_some, bo_some, bo2_some, e1_some, e2_some, putP_none, putP_some, vB_bool, T.get_set, reduceIte, Nat.reduceEqDiff, Nat.reduceLT, c3P, c3ng, binO_add, binO_sub, binO_mul, binO_eql, binO_neq, binO_lss, binO_leq, binO_gtr, binO_geq, unO_not, true_and, Bool.false_eq_true, if_false, if_true, forall_const, extrO, nilChk, false_implies, hd]
    rw [w222_9, w222_11, w222_12, w222_13, w222_14]
    simp only [wps_nil, wps_move, wps_assign, wps_pick, wps_binOp, wps_unOp, wps_load, wps_fieldAddr, wps_field, wps_indexAddr, wps_index, wps_lookup, wps_nilCheck, wps_extract, wps_makeFunc, wps_slice, wps_alloc, wps_box, wps_buildSlice, wps_store, wps_mapUpdate, wps_len, wps_min, wps_max, wps_app, ev_tmp, ev_cint, ev_cbool, ev_cnils, ev_cnilp, ev_cnilf, ev_cnili, ev_cnilm, ev_func, evs_nil, evs_cons, consO_some, evParts_nil, evParts_cons, consP_some, evOpt_none, evOpt_sm, someO_some, bo_some, bo2_some, e1_some, e2_some, putP_none, putP_some, vB_bool, T.get_set, reduceIte, Nat.reduceEqDiff, Nat.reduceLT, c3P, c3ng, binO_add, binO_sub, binO_mul, binO_eql, binO_neq, binO_lss, binO_leq, binO_gtr, binO_geq, unO_not, true_and, Bool.false_eq_true, if_false, if_true, forall_const, extrO, nilChk, false_implies, t6, t8]
    rw [r1.addr sz67 (by simpa using hlt)]
    simp only [wps_nil, wps_move, wps_assign, wps_pick, wps_binOp, wps_unOp, wps_load, wps_fieldAddr, wps_field, wps_indexAddr, wps_index, wps_lookup, wps_nilCheck, wps_extract, wps_makeFunc, wps_slice, wps_alloc, wps_box, wps_buildSlice, wps_store, wps_mapUpdate, wps_len, wps_min, wps_max, wps_app, ev_tmp, ev_cint, ev_cbool, ev_cnils, ev_cnilp, ev_cnilf, ev_cnili, ev_cnilm, ev_func, evs_nil, evs_cons, consO_some, evParts_nil, evParts_cons, consP_some, evOpt_none, evOpt_sm, someO_some, bo_some, bo2_some, e1_some, e2_some, putP_none, putP_some, vB_bool, T.get_set, reduceIte, Nat.reduceEqDiff, Nat.reduceLT, c3P, c3ng, binO_add, binO_sub, binO_mul, binO_eql, binO_neq, binO_lss, binO_leq, binO_gtr, binO_geq, unO_not, true_and, Bool.false_eq_true, if_false, if_true, forall_const, extrO, nilChk, false_implies]
    rw [r1.load ag3 (by simpa using hlt)]
    simp only [wps_nil, wps_move, wps_assign, wps_pick, wps_binOp, wps_unOp, wps_load, wps_fieldAddr, wps_field, wps_indexAddr, wps_index, wps_lookup, wps_nilCheck, wps_extract, wps_makeFunc, wps_slice, wps_alloc, wps_box, wps_buildSlice, wps_store, wps_mapUpdate, wps_len, wps_min, wps_max, wps_app, ev_tmp, ev_cint, ev_cbool, ev_cnils, ev_cnilp, ev_cnilf, ev_cnili, ev_cnilm, ev_func, evs_nil, evs_cons, consO_some, evParts_nil, evParts_cons, consP_some, evOpt_none, evOpt_sm, someO_some, bo_some, bo2_some, e1_some, e2_some, putP_none, putP_some, vB_bool, T.get_set, reduceIte, Nat.reduceEqDiff, Nat.reduceLT, c3P, c3ng, binO_add, binO_sub, binO_mul, binO_eql, binO_neq, binO_lss, binO_leq, binO_gtr, binO_geq, unO_not, true_and, Bool.false_eq_true, if_false, if_true, forall_const, extrO, nilChk, false_implies, ints, List.getElem_map]
    rw [w222_15, w222_16]
    have hw : IntKind.i64.wrap ((i : Int) + 1) = ((i + 1 : Nat) : Int) := by rw [wrap64 (by omega) (by omega)]; omega
    by_cases hx : l[i] = 0
    · have hx' : decide (l[i] = 0) = true := by simpa using hx
      simp only [wps_nil, wps_move, wps_assign, wps_pick, wps_binOp, wps_unOp, wps_load, wps_fieldAddr, wps_field, wps_indexAddr, wps_index, wps_lookup, wps_nilCheck, wps_extract, wps_makeFunc, wps_slice, wps_alloc, wps_box, wps_buildSlice, wps_store, wps_mapUpdate, wps_len, wps_min, wps_max, wps_app, ev_tmp, ev_cint, ev_cbool, ev_cnils, ev_cnilp, ev_cnilf, ev_cnili, ev_cnilm, ev_func, evs_nil, evs_cons, consO_some, evParts_nil, evParts_cons, consP_some, evOpt_none, evOpt_sm, someO_some, bo_some, bo2_some, e1_some, e2_some, putP_none, putP_some, vB_bool, T.get_set, reduceIte, Nat.reduceEqDiff, Nat.reduceLT, c3P, c3ng, binO_add, binO_sub, binO_mul, binO_eql, binO_neq, binO_lss, binO_leq, binO_gtr, binO_geq, unO_not, true_and, Bool.false_eq_true, if_false, if_true, forall_const, extrO, nilChk, false_implies, wps_guardG g222_16_2, vG_bool, hx', t0]
      have hL := hi.2.2.2.2.1
      refine wps_roundP (opx_yield (vs := [.int .i64 (i : Int)]) (by simp only [wps_nil, wps_move, wps_assign, wps_pick, wps_binOp, wps_unOp, wps_load, wps_fieldAddr, wps_field, wps_indexAddr, wps_index, wps_lookup, wps_nilCheck, wps_extract, wps_makeFunc, wps_slice, wps_alloc, wps_box, wps_buildSlice, wps_store, wps_mapUpdate, wps_len, wps_min, wps_max, wps_app, ev_tmp, ev_cint, ev_cbool, ev_cnils, ev_cnilp, ev_cnilf, ev_cnili, ev_cnilm, ev_func, evs_nil, evs_cons, consO_some, evParts_nil, evParts_cons, consP_some, evOpt_none, evOpt_sm, someO_some, bo_some, bo2_some, e1_some, e2_some, putP_none, putP_some, vB_bool, T.get_set, reduceIte, Nat.reduceEqDiff, Nat.reduceLT, c3P, c3ng, binO_add, binO_sub, binO_mul, binO_eql, binO_neq, binO_lss, binO_leq, binO_gtr, binO_geq, unO_not, true_and, Bool.false_eq_true, if_false, if_true, forall_const, extrO, nilChk, false_implies, t0]) (by simp only [wps_nil, wps_move, wps_assign, wps_pick, wps_binOp, wps_unOp, wps_load, wps_fieldAddr, wps_field, wps_indexAddr, wps_index, wps_lookup, wps_nilCheck, wps_extract, wps_makeFunc, wps_slice, wps_alloc, wps_box, wps_buildSlice, wps_store, wps_mapUpdate, wps_len, wps_min, wps_max, wps_app, ev_tmp, ev_cint, ev_cbool, ev_cnils, ev_cnilp, ev_cnilf, ev_cnili, ev_cnilm, ev_func, evs_nil, evs_cons, consO_some, evParts_nil, evParts_cons, consP_some, evOpt_none, evOpt_sm, someO_some, bo_some, bo2_some, e1_some, e2_some, putP_none, putP_some, vB_bool, T.get_set, reduceIte, Nat.reduceEqDiff, Nat.reduceLT, c3P, c3ng, binO_add, binO_sub, binO_mul, binO_eql, binO_neq, binO_lss, binO_leq, binO_gtr, binO_geq, unO_not, true_and, Bool.false_eq_true, if_false, if_true, forall_const, extrO, nilChk, false_implies]) hL rfl) (round_ready ht hi hacc) ?_
      rintro v h2 ⟨rfl, hi2⟩
      simp only [wps_nil, wps_move, wps_assign, wps_pick, wps_binOp, wps_unOp, wps_load, wps_fieldAddr, wps_field, wps_indexAddr, wps_index, wps_lookup, wps_nilCheck, wps_extract, wps_makeFunc, wps_slice, wps_alloc, wps_box, wps_buildSlice, wps_store, wps_mapUpdate, wps_len, wps_min, wps_max, wps_app, ev_tmp, ev_cint, ev_cbool, ev_cnils, ev_cnilp, ev_cnilf, ev_cnili, ev_cnilm, ev_func, evs_nil, evs_cons, consO_some, evParts_nil, evParts_cons, consP_some, evOpt_none, evOpt_sm, someO_some, bo_some, bo2_some, e1_some, e2_some, putP_none, putP_some, vB_bool, T.get_set, reduceIte, Nat.reduceEqDiff, Nat.reduceLT, c3P, c3ng, binO_add, binO_sub, binO_mul, binO_eql, binO_neq, binO_lss, binO_leq, binO_gtr, binO_geq, unO_not, true_and, Bool.false_eq_true, if_false, if_true, forall_const, extrO, nilChk, false_implies, wps_guardG g222_16_2, vG_bool, Bool.not_true]
      rw [w222_17]
      simp only [wps_nil, wps_move, wps_assign, wps_pick, wps_binOp, wps_unOp, wps_load, wps_fieldAddr, wps_field, wps_indexAddr, wps_index, wps_lookup, wps_nilCheck, wps_extract, wps_makeFunc, wps_slice, wps_alloc, wps_box, wps_buildSlice, wps_store, wps_mapUpdate, wps_len, wps_min, wps_max, wps_app, ev_tmp, ev_cint, ev_cbool, ev_cnils, ev_cnilp, ev_cnilf, ev_cnili, ev_cnilm, ev_func, evs_nil, evs_cons, consO_some, evParts_nil, evParts_cons, consP_some, evOpt_none, evOpt_sm, someO_some, bo_some, bo2_some, e1_some, e2_some, putP_none, putP_some, vB_bool, T.get_set, reduceIte, Nat.reduceEqDiff, Nat.reduceLT, c3P, c3ng, binO_add, binO_sub, binO_mul, binO_eql, binO_neq, binO_lss, binO_leq, binO_gtr, binO_geq, unO_not, true_and, Bool.false_eq_true, if_false, if_true, forall_const, extrO, nilChk, false_implies]
      rw [w222_19, Fal.wp_inBlock, w222_20]
      simp only [wps_nil, wps_move, wps_assign, wps_pick, wps_binOp, wps_unOp, wps_load, wps_fieldAddr, wps_field, wps_indexAddr, wps_index, wps_lookup, wps_nilCheck, wps_extract, wps_makeFunc, wps_slice, wps_alloc, wps_box, wps_buildSlice, wps_store, wps_mapUpdate, wps_len, wps_min, wps_max, wps_app, ev_tmp, ev_cint, ev_cbool, ev_cnils, ev_cnilp, ev_cnilf, ev_cnili, ev_cnilm, ev_func, evs_nil, evs_cons, consO_some, evParts_nil, evParts_cons, consP_some, evOpt_none, evOpt_sm, someO_some, bo_some, bo2_some, e1_some, e2_some, putP_none, putP_some, vB_bool, T.get_set, reduceIte, Nat.reduceEqDiff, Nat.reduceLT, c3P, c3ng, binO_add, binO_sub, binO_mul, binO_eql, binO_neq, binO_lss, binO_leq, binO_gtr, binO_geq, unO_not, true_and, Bool.false_eq_true, if_false, if_true, forall_const, extrO, nilChk, false_implies, t8, hw]
      rw [Fal.wp_inLoop]
      refine ih (i + 1) _ h2 (by omega) ?_ ?_ ?_ ?_ ?_ ?_ ?_ <;> (try simp only [wps_nil, wps_move, wps_assign, wps_pick, wps_binOp, wps_unOp, wps_load, wps_fieldAddr, wps_field, wps_indexAddr, wps_index, wps_lookup, wps_nilCheck, wps_extract, wps_makeFunc, wps_slice, wps_alloc, wps_box, wps_buildSlice, wps_store, wps_mapUpdate, wps_len, wps_min, wps_max, wps_app, ev_tmp, ev_cint, ev_cbool, ev_cnils, ev_cnilp, ev_cnilf, ev_cnili, ev_cnilm, ev_func, evs_nil, evs_cons, consO_some, evParts_nil, evParts_cons, consP_some, evOpt_none, evOpt_sm, someO_some, bo_some, bo2_some, e1_some, e2_some, putP_none, putP_some, vB_bool, T.get_set, reduceIte, Nat.reduceEqDiff, Nat.reduceLT, c3P, c3ng, binO_add, binO_sub, binO_mul, binO_eql, binO_neq, binO_lss, binO_leq, binO_gtr, binO_geq, unO_not, true_and, Bool.false_eq_true, if_false, if_true, forall_const, extrO, nilChk, false_implies, t0, t1, t2, t6, t7])
      rw [rdyF_take l i hlt, if_pos hx]
      exact hi2
    · have hx' : decide (l[i] = 0) = false := by simpa using hx
      simp only [wps_nil, wps_move, wps_assign, wps_pick, wps_binOp, wps_unOp, wps_load, wps_fieldAddr, wps_field, wps_indexAddr, wps_index, wps_lookup, wps_nilCheck, wps_extract, wps_makeFunc, wps_slice, wps_alloc, wps_box, wps_buildSlice, wps_store, wps_mapUpdate, wps_len, wps_min, wps_max, wps_app, ev_tmp, ev_cint, ev_cbool, ev_cnils, ev_cnilp, ev_cnilf, ev_cnili, ev_cnilm, ev_func, evs_nil, evs_cons, consO_some, evParts_nil, evParts_cons, consP_some, evOpt_none, evOpt_sm, someO_some, bo_some, bo2_some, e1_some, e2_some, putP_none, putP_some, vB_bool, T.get_set, reduceIte, Nat.reduceEqDiff, Nat.reduceLT, c3P, c3ng, binO_add, binO_sub, binO_mul, binO_eql, binO_neq, binO_lss, binO_leq, binO_gtr, binO_geq, unO_not, true_and, Bool.false_eq_true, if_false, if_true, forall_const, extrO, nilChk, false_implies, wps_guardG g222_16_2, vG_bool, hx', t0]
      rw [w222_17]
      simp only [wps_nil, wps_move, wps_assign, wps_pick, wps_binOp, wps_unOp, wps_load, wps_fieldAddr, wps_field, wps_indexAddr, wps_index, wps_lookup, wps_nilCheck, wps_extract, wps_makeFunc, wps_slice, wps_alloc, wps_box, wps_buildSlice, wps_store, wps_mapUpdate, wps_len, wps_min, wps_max, wps_app, ev_tmp, ev_cint, ev_cbool, ev_cnils, ev_cnilp, ev_cnilf, ev_cnili, ev_cnilm, ev_func, evs_nil, evs_cons, consO_some, evParts_nil, evParts_cons, consP_some, evOpt_none, evOpt_sm, someO_some, bo_some, bo2_some, e1_some, e2_some, putP_none, putP_some, vB_bool, T.get_set, reduceIte, Nat.reduceEqDiff, Nat.reduceLT, c3P, c3ng, binO_add, binO_sub, binO_mul, binO_eql, binO_neq, binO_lss, binO_leq, binO_gtr, binO_geq, unO_not, true_and, Bool.false_eq_true, if_false, if_true, forall_const, extrO, nilChk, false_implies]
      rw [w222_19, Fal.wp_inBlock, w222_20]
      simp only [wps_nil, wps_move, wps_assign, wps_pick, wps_binOp, wps_unOp, wps_load, wps_fieldAddr, wps_field, wps_indexAddr, wps_index, wps_lookup, wps_nilCheck, wps_extract, wps_makeFunc, wps_slice, wps_alloc, wps_box, wps_buildSlice, wps_store, wps_mapUpdate, wps_len, wps_min, wps_max, wps_app, ev_tmp, ev_cint, ev_cbool, ev_cnils, ev_cnilp, ev_cnilf, ev_cnili, ev_cnilm, ev_func, evs_nil, evs_cons, consO_some, evParts_nil, evParts_cons, consP_some, evOpt_none, evOpt_sm, someO_some, bo_some, bo2_some, e1_some, e2_some, putP_none, putP_some, vB_bool, T.get_set, reduceIte, Nat.reduceEqDiff, Nat.reduceLT, c3P, c3ng, binO_add, binO_sub, binO_mul, binO_eql, binO_neq, binO_lss, binO_leq, binO_gtr, binO_geq, unO_not, true_and, Bool.false_eq_true, if_false, if_true, forall_const, extrO, nilChk, false_implies, t8, hw]
      rw [Fal.wp_inLoop]
      refine ih (i + 1) _ h (by omega) ?_ ?_ ?_ ?_ ?_ ?_ ?_ <;> (try simp only [wps_nil, wps_move, wps_assign, wps_pick, wps_binOp, wps_unOp, wps_load, wps_fieldAddr, wps_field, wps_indexAddr, wps_index, wps_lookup, wps_nilCheck, wps_extract, wps_makeFunc, wps_slice, wps_alloc, wps_box, wps_buildSlice, wps_store, wps_mapUpdate, wps_len, wps_min, wps_max, wps_app, ev_tmp, ev_cint, ev_cbool, ev_cnils, ev_cnilp, ev_cnilf, ev_cnili, ev_cnilm, ev_func, evs_nil, evs_cons, consO_some, evParts_nil, evParts_cons, consP_some, evOpt_none, evOpt_sm, someO_some, bo_some, bo2_some, e1_some, e2_some, putP_none, putP_some, vB_bool, T.get_set, reduceIte, Nat.reduceEqDiff, Nat.reduceLT, c3P, c3ng, binO_add, binO_sub, binO_mul, binO_eql, binO_neq, binO_lss, binO_leq, binO_gtr, binO_geq, unO_not, true_and, Bool.false_eq_true, if_false, if_true, forall_const, extrO, nilChk, false_implies, t0, t1, t2, t6, t7])
      rw [rdyF_take l i hlt, if_neg hx, List.append_nil]
      exact hi
end
end K
open Go Go.Proofs Go.Fal
namespace K

theorem row_plain {h : H} {v : V} {l : List V} (r : RowR h v l) : v.plain = true := by
  rcases r with ⟨rfl, _⟩ | ⟨_, b, off, ex, rfl⟩ | ⟨b, off, cap, ex, rw_, pl, n, z, t, rfl, _⟩ <;> rfl

theorem agents1_spec {h0 h : H} {tmR : T V} {s : V} {sw : Bool} {l : List Int} (ht : tmR.get 5 = some (.ptr h0.next 0)) (r : RowR h0 s (ints l)) (hl : l.length < 2 ^ 30) (hi : RInv h0 tmR s sw [] h) :
    WpC c3 222 [.yield (h0.next + 4), .ptr (h0.next + 1) 0, .ptr (h0.next + 2) 0] h (fun _ h' => RInv h0 tmR s sw (readyL l sw) h') := by
  have r1 := r.keep hi.1 (fun _ _ hf => hf)
  have b1 := hi.2.2.1
  rw [wpc_enter (mem222 _) fn222, show max [V.yield (h0.next + 4), .ptr (h0.next + 1) 0, .ptr (h0.next + 2) 0].length 27 = 27 from rfl,
    show setArgs T.e 0 [V.yield (h0.next + 4), .ptr (h0.next + 1) 0, .ptr (h0.next + 2) 0] = ((T.e.set 0 (.yield (h0.next + 4))).set 1 (.ptr (h0.next + 1) 0)).set 2 (.ptr (h0.next + 2) 0) from rfl]
  rw [w222_0, w222_1, w222_2]
  simp only [wps_nil, wps_move, wps_assign, wps_pick, wps_binOp, wps_unOp, wps_load, wps_fieldAddr, wps_field, wps_indexAddr, wps_index, wps_lookup, wps_nilCheck, wps_extract, wps_makeFunc, wps_slice, wps_alloc, wps_box, wps_buildSlice, wps_store, wps_mapUpdate, wps_len, wps_min, wps_max, wps_app, ev_tmp, ev_cint, ev_cbool, ev_cnils, ev_cnilp, ev_cnilf, ev_cnili, ev_cnilm, ev_func, evs_nil, evs_cons, consO_some, evParts_nil, evParts_cons, consP_some, evOpt_none, evOpt_sm, someO_some, bo_some, bo2_some, e1_some, e2_some, putP_none, putP_some, vB_bool, T.get_set, reduceIte, Nat.reduceEqDiff, Nat.reduceLT, c3P, c3ng, binO_add, binO_sub, binO_mul, binO_eql, binO_neq, binO_lss, binO_leq, binO_gtr, binO_geq, unO_not, true_and, Bool.false_eq_true, if_false, if_true, forall_const, extrO, nilChk, false_implies, b1.load ag67]
  rw [r1.len lc67]
  simp only [wps_nil, wps_move, wps_assign, wps_pick, wps_binOp, wps_unOp, wps_load, wps_fieldAddr, wps_field, wps_indexAddr, wps_index, wps_lookup, wps_nilCheck, wps_extract, wps_makeFunc, wps_slice, wps_alloc, wps_box, wps_buildSlice, wps_store, wps_mapUpdate, wps_len, wps_min, wps_max, wps_app, ev_tmp, ev_cint, ev_cbool, ev_cnils, ev_cnilp, ev_cnilf, ev_cnili, ev_cnilm, ev_func, evs_nil, evs_cons, consO_some, evParts_nil, evParts_cons, consP_some, evOpt_none, evOpt_sm, someO_some, bo_some, bo2_some, e1_some, e2_some, putP_none, putP_some, vB_bool, T.get_set, reduceIte, Nat.reduceEqDiff, Nat.reduceLT, c3P, c3ng, binO_add, binO_sub, binO_mul, binO_eql, binO_neq, binO_lss, binO_leq, binO_gtr, binO_geq, unO_not, true_and, Bool.false_eq_true, if_false, if_true, forall_const, extrO, nilChk, false_implies, ints_length]
  rw [w222_3, w222_4]
  refine agents_loop ht r hl l.length 0 _ h (by omega) ?_ ?_ ?_ ?_ ?_ ?_ ?_ <;> (try simp only [wps_nil, wps_move, wps_assign, wps_pick, wps_binOp, wps_unOp, wps_load, wps_fieldAddr, wps_field, wps_indexAddr, wps_index, wps_lookup, wps_nilCheck, wps_extract, wps_makeFunc, wps_slice, wps_alloc, wps_box, wps_buildSlice, wps_store, wps_mapUpdate, wps_len, wps_min, wps_max, wps_app, ev_tmp, ev_cint, ev_cbool, ev_cnils, ev_cnilp, ev_cnilf, ev_cnili, ev_cnilm, ev_func, evs_nil, evs_cons, consO_some, evParts_nil, evParts_cons, consP_some, evOpt_none, evOpt_sm, someO_some, bo_some, bo2_some, e1_some, e2_some, putP_none, putP_some, vB_bool, T.get_set, reduceIte, Nat.reduceEqDiff, Nat.reduceLT, c3P, c3ng, binO_add, binO_sub, binO_mul, binO_eql, binO_neq, binO_lss, binO_leq, binO_gtr, binO_geq, unO_not, true_and, Bool.false_eq_true, if_false, if_true, forall_const, extrO, nilChk, false_implies])
  · rfl
  · simpa [rdyF] using hi

theorem agents_spec {h : H} {s : V} {sw : Bool} (hs : s.plain = true) :
    WpC c3 163 [s, .bool sw] h (fun v h' => h' = (h.new (ofCells [s])).new (ofCells [.bool sw]) ∧ v = .func (.func 222) [] [.ptr h.next 0, .ptr (h.next + 1) 0]) := by
  rw [wpc_enter (mem163 _) fn163, show max [s, V.bool sw].length 6 = 6 from rfl, show setArgs T.e 0 [s, V.bool sw] = (T.e.set 0 s).set 1 (.bool sw) from rfl]
  rw [w163_0, w163_1]
  simp only [wps_nil, wps_move, wps_assign, wps_pick, wps_binOp, wps_unOp, wps_load, wps_fieldAddr, wps_field, wps_indexAddr, wps_index, wps_lookup, wps_nilCheck, wps_extract, wps_makeFunc, wps_slice, wps_alloc, wps_box, wps_buildSlice, wps_store, wps_mapUpdate, wps_len, wps_min, wps_max, wps_app, ev_tmp, ev_cint, ev_cbool, ev_cnils, ev_cnilp, ev_cnilf, ev_cnili, ev_cnilm, ev_func, evs_nil, evs_cons, consO_some, evParts_nil, evParts_cons, consP_some, evOpt_none, evOpt_sm, someO_some, bo_some, bo2_some, e1_some, e2_some, putP_none, putP_some, vB_bool, T.get_set, reduceIte, Nat.reduceEqDiff, Nat.reduceLT, c3P, c3ng, binO_add, binO_sub, binO_mul, binO_eql, binO_neq, binO_lss, binO_leq, binO_gtr, binO_geq, unO_not, true_and, Bool.false_eq_true, if_false, if_true, forall_const, extrO, nilChk, false_implies]
  rw [newCells_one hs]
  simp only [wps_nil, wps_move, wps_assign, wps_pick, wps_binOp, wps_unOp, wps_load, wps_fieldAddr, wps_field, wps_indexAddr, wps_index, wps_lookup, wps_nilCheck, wps_extract, wps_makeFunc, wps_slice, wps_alloc, wps_box, wps_buildSlice, wps_store, wps_mapUpdate, wps_len, wps_min, wps_max, wps_app, ev_tmp, ev_cint, ev_cbool, ev_cnils, ev_cnilp, ev_cnilf, ev_cnili, ev_cnilm, ev_func, evs_nil, evs_cons, consO_some, evParts_nil, evParts_cons, consP_some, evOpt_none, evOpt_sm, someO_some, bo_some, bo2_some, e1_some, e2_some, putP_none, putP_some, vB_bool, T.get_set, reduceIte, Nat.reduceEqDiff, Nat.reduceLT, c3P, c3ng, binO_add, binO_sub, binO_mul, binO_eql, binO_neq, binO_lss, binO_leq, binO_gtr, binO_geq, unO_not, true_and, Bool.false_eq_true, if_false, if_true, forall_const, extrO, nilChk, false_implies]
  rw [newCells_one (show (V.bool sw).plain = true from rfl)]
  simp only [wps_nil, wps_move, wps_assign, wps_pick, wps_binOp, wps_unOp, wps_load, wps_fieldAddr, wps_field, wps_indexAddr, wps_index, wps_lookup, wps_nilCheck, wps_extract, wps_makeFunc, wps_slice, wps_alloc, wps_box, wps_buildSlice, wps_store, wps_mapUpdate, wps_len, wps_min, wps_max, wps_app, ev_tmp, ev_cint, ev_cbool, ev_cnils, ev_cnilp, ev_cnilf, ev_cnili, ev_cnilm, ev_func, evs_nil, evs_cons, consO_some, evParts_nil, evParts_cons, consP_some, evOpt_none, evOpt_sm, someO_some, bo_some, bo2_some, e1_some, e2_some, putP_none, putP_some, vB_bool, T.get_set, reduceIte, Nat.reduceEqDiff, Nat.reduceLT, c3P, c3ng, binO_add, binO_sub, binO_mul, binO_eql, binO_neq, binO_lss, binO_leq, binO_gtr, binO_geq, unO_not, true_and, Bool.false_eq_true, if_false, if_true, forall_const, extrO, nilChk, false_implies]
  rw [w163_2, w163_3]
  simp only [wps_nil, wps_move, wps_assign, wps_pick, wps_binOp, wps_unOp, wps_load, wps_fieldAddr, wps_field, wps_indexAddr, wps_index, wps_lookup, wps_nilCheck, wps_extract, wps_makeFunc, wps_slice, wps_alloc, wps_box, wps_buildSlice, wps_store, wps_mapUpdate, wps_len, wps_min, wps_max, wps_app, ev_tmp, ev_cint, ev_cbool, ev_cnils, ev_cnilp, ev_cnilf, ev_cnili, ev_cnilm, ev_func, evs_nil, evs_cons, consO_some, evParts_nil, evParts_cons, consP_some, evOpt_none, evOpt_sm, someO_some, bo_some, bo2_some, e1_some, e2_some, putP_none, putP_some, vB_bool, T.get_set, reduceIte, Nat.reduceEqDiff, Nat.reduceLT, c3P, c3ng, binO_add, binO_sub, binO_mul, binO_eql, binO_neq, binO_lss, binO_leq, binO_gtr, binO_geq, unO_not, true_and, Bool.false_eq_true, if_false, if_true, forall_const, extrO, nilChk, false_implies]
  rw [w163_4, wpret, res163]
  simp only [wps_nil, wps_move, wps_assign, wps_pick, wps_binOp, wps_unOp, wps_load, wps_fieldAddr, wps_field, wps_indexAddr, wps_index, wps_lookup, wps_nilCheck, wps_extract, wps_makeFunc, wps_slice, wps_alloc, wps_box, wps_buildSlice, wps_store, wps_mapUpdate, wps_len, wps_min, wps_max, wps_app, ev_tmp, ev_cint, ev_cbool, ev_cnils, ev_cnilp, ev_cnilf, ev_cnili, ev_cnilm, ev_func, evs_nil, evs_cons, consO_some, evParts_nil, evParts_cons, consP_some, evOpt_none, evOpt_sm, someO_some, bo_some, bo2_some, e1_some, e2_some, putP_none, putP_some, vB_bool, T.get_set, reduceIte, Nat.reduceEqDiff, Nat.reduceLT, c3P, c3ng, binO_add, binO_sub, binO_mul, binO_eql, binO_neq, binO_lss, binO_leq, binO_gtr, binO_geq, unO_not, true_and, Bool.false_eq_true, if_false, if_true, forall_const, extrO, nilChk, false_implies, resultsO_nil, resultsO_tmp]
  rfl

set_option maxRecDepth 100000 in
/-- sched.Ready -/
theorem ready_spec {h0 : H} {s : V} {sw : Bool} {l : List Int} (r : RowR h0 s (ints l)) (hl : l.length < 2 ^ 30) :
    WpC c3 93 [s, .bool sw] h0 (fun v h' => Keep None' h0 h' ∧ Own h' v (ints (readyL l sw)) ∧ ∀ b, sblk v = some b → h0.next ≤ b) := by
  rw [wpc_enter (mem93 _) fn93, show max [s, V.bool sw].length 16 = 16 from rfl, show setArgs T.e 0 [s, V.bool sw] = (T.e.set 0 s).set 1 (.bool sw) from rfl]
  rw [w93_0, w93_1]
  simp only [wps_nil, wps_move, wps_assign, wps_pick, wps_binOp, wps_unOp, wps_load, wps_fieldAddr, wps_field, wps_indexAddr, wps_index, wps_lookup, wps_nilCheck, wps_extract, wps_makeFunc, wps_slice, wps_alloc, wps_box, wps_buildSlice, wps_store, wps_mapUpdate, wps_len, wps_min, wps_max, wps_app, ev_tmp, ev_cint, ev_cbool, ev_cnils, ev_cnilp, ev_cnilf, ev_cnili, ev_cnilm, ev_func, evs_nil, evs_cons, consO_some, evParts_nil, evParts_cons, consP_some, evOpt_none, evOpt_sm, someO_some, bo_some, bo2_some, e1_some, e2_some, putP_none, putP_some, vB_bool, T.get_set, reduceIte, Nat.reduceEqDiff, Nat.reduceLT, c3P, c3ng, binO_add, binO_sub, binO_mul, binO_eql, binO_neq, binO_lss, binO_leq, binO_gtr, binO_geq, unO_not, true_and, Bool.false_eq_true, if_false, if_true, forall_const, extrO, nilChk, false_implies]
  rw [w93_2, w93_3]
  simp only [wps_nil, wps_move, wps_assign, wps_pick, wps_binOp, wps_unOp, wps_load, wps_fieldAddr, wps_field, wps_indexAddr, wps_index, wps_lookup, wps_nilCheck, wps_extract, wps_makeFunc, wps_slice, wps_alloc, wps_box, wps_buildSlice, wps_store, wps_mapUpdate, wps_len, wps_min, wps_max, wps_app, ev_tmp, ev_cint, ev_cbool, ev_cnils, ev_cnilp, ev_cnilf, ev_cnili, ev_cnilm, ev_func, evs_nil, evs_cons, consO_some, evParts_nil, evParts_cons, consP_some, evOpt_none, evOpt_sm, someO_some, bo_some, bo2_some, e1_some, e2_some, putP_none, putP_some, vB_bool, T.get_set, reduceIte, Nat.reduceEqDiff, Nat.reduceLT, c3P, c3ng, binO_add, binO_sub, binO_mul, binO_eql, binO_neq, binO_lss, binO_leq, binO_gtr, binO_geq, unO_not, true_and, Bool.false_eq_true, if_false, if_true, forall_const, extrO, nilChk, false_implies, zo67]
  rw [newCells_one (show V.nils.plain = true from rfl)]
  simp only [wps_nil, wps_move, wps_assign, wps_pick, wps_binOp, wps_unOp, wps_load, wps_fieldAddr, wps_field, wps_indexAddr, wps_index, wps_lookup, wps_nilCheck, wps_extract, wps_makeFunc, wps_slice, wps_alloc, wps_box, wps_buildSlice, wps_store, wps_mapUpdate, wps_len, wps_min, wps_max, wps_app, ev_tmp, ev_cint, ev_cbool, ev_cnils, ev_cnilp, ev_cnilf, ev_cnili, ev_cnilm, ev_func, evs_nil, evs_cons, consO_some, evParts_nil, evParts_cons, consP_some, evOpt_none, evOpt_sm, someO_some, bo_some, bo2_some, e1_some, e2_some, putP_none, putP_some, vB_bool, T.get_set, reduceIte, Nat.reduceEqDiff, Nat.reduceLT, c3P, c3ng, binO_add, binO_sub, binO_mul, binO_eql, binO_neq, binO_lss, binO_leq, binO_gtr, binO_geq, unO_not, true_and, Bool.false_eq_true, if_false, if_true, forall_const, extrO, nilChk, false_implies]
  rw [w93_4, w93_5, w93_6]
  simp only [wps_nil, wps_move, wps_assign, wps_pick, wps_binOp, wps_unOp, wps_load, wps_fieldAddr, wps_field, wps_indexAddr, wps_index, wps_lookup, wps_nilCheck, wps_extract, wps_makeFunc, wps_slice, wps_alloc, wps_box, wps_buildSlice, wps_store, wps_mapUpdate, wps_len, wps_min, wps_max, wps_app, ev_tmp, ev_cint, ev_cbool, ev_cnils, ev_cnilp, ev_cnilf, ev_cnili, ev_cnilm, ev_func, evs_nil, evs_cons, consO_some, evParts_nil, evParts_cons, consP_some, evOpt_none, evOpt_sm, someO_some, bo_some, bo2_some, e1_some, e2_some, putP_none, putP_some, vB_bool, T.get_set, reduceIte, Nat.reduceEqDiff, Nat.reduceLT, c3P, c3ng, binO_add, binO_sub, binO_mul, binO_eql, binO_neq, binO_lss, binO_leq, binO_gtr, binO_geq, unO_not, true_and, Bool.false_eq_true, if_false, if_true, forall_const, extrO, nilChk, false_implies]
  refine wps_callP (opx_call bod163 (vs := [s, .bool sw]) (by simp only [wps_nil, wps_move, wps_assign, wps_pick, wps_binOp, wps_unOp, wps_load, wps_fieldAddr, wps_field, wps_indexAddr, wps_index, wps_lookup, wps_nilCheck, wps_extract, wps_makeFunc, wps_slice, wps_alloc, wps_box, wps_buildSlice, wps_store, wps_mapUpdate, wps_len, wps_min, wps_max, wps_app, ev_tmp, ev_cint, ev_cbool, ev_cnils, ev_cnilp, ev_cnilf, ev_cnili, ev_cnilm, ev_func, evs_nil, evs_cons, consO_some, evParts_nil, evParts_cons, consP_some, evOpt_none, evOpt_sm, someO_some, bo_some, bo2_some, e1_some, e2_some, putP_none, putP_some, vB_bool, T.get_set, reduceIte, Nat.reduceEqDiff, Nat.reduceLT, c3P, c3ng, binO_add, binO_sub, binO_mul, binO_eql, binO_neq, binO_lss, binO_leq, binO_gtr, binO_geq, unO_not, true_and, Bool.false_eq_true, if_false, if_true, forall_const, extrO, nilChk, false_implies])) (agents_spec (row_plain r)) ?_
  rintro v h3 ⟨hh3, rfl⟩
  simp only [wps_nil, wps_move, wps_assign, wps_pick, wps_binOp, wps_unOp, wps_load, wps_fieldAddr, wps_field, wps_indexAddr, wps_index, wps_lookup, wps_nilCheck, wps_extract, wps_makeFunc, wps_slice, wps_alloc, wps_box, wps_buildSlice, wps_store, wps_mapUpdate, wps_len, wps_min, wps_max, wps_app, ev_tmp, ev_cint, ev_cbool, ev_cnils, ev_cnilp, ev_cnilf, ev_cnili, ev_cnilm, ev_func, evs_nil, evs_cons, consO_some, evParts_nil, evParts_cons, consP_some, evOpt_none, evOpt_sm, someO_some, bo_some, bo2_some, e1_some, e2_some, putP_none, putP_some, vB_bool, T.get_set, reduceIte, Nat.reduceEqDiff, Nat.reduceLT, c3P, c3ng, binO_add, binO_sub, binO_mul, binO_eql, binO_neq, binO_lss, binO_leq, binO_gtr, binO_geq, unO_not, true_and, Bool.false_eq_true, if_false, if_true, forall_const, extrO, nilChk, false_implies]
  rw [w93_7, w93_8]
  -- the heap, block by block
  have k1 := keep_new h0 (ofCells [V.nils])
  have b1 := box_new (h := h0) (v := V.nils)
  generalize hg1 : h0.new (ofCells [V.nils]) = h1 at *
  have n1 : h1.next = h0.next + 1 := by rw [← hg1]; rfl
  have k2 := keep_new h1 (ofCells [s])
  have b2 := box_new (h := h1) (v := s)
  generalize hg2 : h1.new (ofCells [s]) = h2 at *
  have n2 : h2.next = h1.next + 1 := by rw [← hg2]; rfl
  have k3 := keep_new h2 (ofCells [V.bool sw])
  have b3 := box_new (h := h2) (v := V.bool sw)
  rw [← hh3] at k3 b3
  have n3 : h3.next = h2.next + 1 := by rw [hh3]; rfl
  have e1 : h1.next = h0.next + 1 := n1
  have e2 : h2.next = h0.next + 2 := by omega
  have e3 : h3.next = h0.next + 3 := by omega
  rw [n1] at b2; rw [e2] at b3
  generalize hT : (((((T.e.set 0 s).set 1 (V.bool sw)).set 4 V.nils).set 5 (V.ptr h0.next 0)).set 7 s).set 8 (V.bool sw) = tm0 at *
  have t5 : tm0.get 5 = some (.ptr h0.next 0) := by rw [← hT]; simp only [wps_nil, wps_move, wps_assign, wps_pick, wps_binOp, wps_unOp, wps_load, wps_fieldAddr, wps_field, wps_indexAddr, wps_index, wps_lookup, wps_nilCheck, wps_extract, wps_makeFunc, wps_slice, wps_alloc, wps_box, wps_buildSlice, wps_store, wps_mapUpdate, wps_len, wps_min, wps_max, wps_app, ev_tmp, ev_cint, ev_cbool, ev_cnils, ev_cnilp, ev_cnilf, ev_cnili, ev_cnilm, ev_func, evs_nil, evs_cons, consO_some, evParts_nil, evParts_cons, consP_some, evOpt_none, evOpt_sm, someO_some, bo_some, bo2_some, e1_some, e2_some, putP_none, putP_some, vB_bool, T.get_set, reduceIte, Nat.reduceEqDiff, Nat.reduceLT, c3P, c3ng, binO_add, binO_sub, binO_mul, binO_eql, binO_neq, binO_lss, binO_leq, binO_gtr, binO_geq, unO_not, true_and, Bool.false_eq_true, if_false, if_true, forall_const, extrO, nilChk, false_implies]
  generalize hT2 : tm0.set 9 (V.func (Fn.func 222) [] [V.ptr h1.next 0, V.ptr (h1.next + 1) 0]) = tmR at *
  have t5' : tmR.get 5 = some (.ptr h0.next 0) := by rw [← hT2]; simp only [wps_nil, wps_move, wps_assign, wps_pick, wps_binOp, wps_unOp, wps_load, wps_fieldAddr, wps_field, wps_indexAddr, wps_index, wps_lookup, wps_nilCheck, wps_extract, wps_makeFunc, wps_slice, wps_alloc, wps_box, wps_buildSlice, wps_store, wps_mapUpdate, wps_len, wps_min, wps_max, wps_app, ev_tmp, ev_cint, ev_cbool, ev_cnils, ev_cnilp, ev_cnilf, ev_cnili, ev_cnilm, ev_func, evs_nil, evs_cons, consO_some, evParts_nil, evParts_cons, consP_some, evOpt_none, evOpt_sm, someO_some, bo_some, bo2_some, e1_some, e2_some, putP_none, putP_some, vB_bool, T.get_set, reduceIte, Nat.reduceEqDiff, Nat.reduceLT, c3P, c3ng, binO_add, binO_sub, binO_mul, binO_eql, binO_neq, binO_lss, binO_leq, binO_gtr, binO_geq, unO_not, true_and, Bool.false_eq_true, if_false, if_true, forall_const, extrO, nilChk, false_implies, t5]
  have t9 : tmR.get 9 = some (V.func (Fn.func 222) [] [V.ptr (h0.next + 1) 0, V.ptr (h0.next + 2) 0]) := by rw [← hT2, n1]; simp only [wps_nil, wps_move, wps_assign, wps_pick, wps_binOp, wps_unOp, wps_load, wps_fieldAddr, wps_field, wps_indexAddr, wps_index, wps_lookup, wps_nilCheck, wps_extract, wps_makeFunc, wps_slice, wps_alloc, wps_box, wps_buildSlice, wps_store, wps_mapUpdate, wps_len, wps_min, wps_max, wps_app, ev_tmp, ev_cint, ev_cbool, ev_cnils, ev_cnilp, ev_cnilf, ev_cnili, ev_cnilm, ev_func, evs_nil, evs_cons, consO_some, evParts_nil, evParts_cons, consP_some, evOpt_none, evOpt_sm, someO_some, bo_some, bo2_some, e1_some, e2_some, putP_none, putP_some, vB_bool, T.get_set, reduceIte, Nat.reduceEqDiff, Nat.reduceLT, c3P, c3ng, binO_add, binO_sub, binO_mul, binO_eql, binO_neq, binO_lss, binO_leq, binO_gtr, binO_geq, unO_not, true_and, Bool.false_eq_true, if_false, if_true, forall_const, extrO, nilChk, false_implies]
  have k4 := keep_new h3 (.defd true)
  have g4 : (h3.new (.defd true)).get h3.next = some (.defd true) := H.get_new_same _ _
  generalize hg4 : h3.new (.defd true) = h4 at *
  have n4 : h4.next = h3.next + 1 := by rw [← hg4]; rfl
  have k5 := keep_new h4 (.loop .ready none 93 16 tmR #[10] c93_9 c93_10 h3.next)
  have g5 : (h4.new (.loop .ready none 93 16 tmR #[10] c93_9 c93_10 h3.next)).get h4.next = some (.loop .ready none 93 16 tmR #[10] c93_9 c93_10 h3.next) := H.get_new_same _ _
  have e4 : h4.next = h0.next + 4 := by omega
  have hI : RInv h0 tmR s sw [] (h4.new (.loop .ready none 93 16 tmR #[10] c93_9 c93_10 h3.next)) := by
    generalize hg5 : h4.new (.loop .ready none 93 16 tmR #[10] c93_9 c93_10 h3.next) = h5 at *
    have n5 : h5.next = h4.next + 1 := by rw [← hg5]; rfl
    have kk : Keep None' h0 h5 := (((k1.trans k2 (fun _ _ h => h)).trans k3 (fun _ _ h => h)).trans k4 (fun _ _ h => h)).trans k5 (fun _ _ h => h)
    refine ⟨kk, by omega, ?_, ?_, ?_, ?_, .nils, ?_, .inl ⟨rfl, rfl⟩, fun b hb => by cases hb⟩
    · exact ((b2.keep k3 (fun h => h)).keep k4 (fun h => h)).keep k5 (fun h => h)
    · exact (b3.keep k4 (fun h => h)).keep k5 (fun h => h)
    · rw [← e4, ← e3]; exact g5
    · rw [k5.2 _ (by omega) (fun h => h), ← e3]; exact g4
    · exact (((b1.keep k2 (fun h => h)).keep k3 (fun h => h)).keep k4 (fun h => h)).keep k5 (fun h => h)
  refine wp_rangeFunc (g := 222) (first := []) (cap := [V.ptr (h0.next + 1) 0, V.ptr (h0.next + 2) 0]) (P := fun _ h' => RInv h0 tmR s sw (readyL l sw) h') (by simp only [wps_nil, wps_move, wps_assign, wps_pick, wps_binOp, wps_unOp, wps_load, wps_fieldAddr, wps_field, wps_indexAddr, wps_index, wps_lookup, wps_nilCheck, wps_extract, wps_makeFunc, wps_slice, wps_alloc, wps_box, wps_buildSlice, wps_store, wps_mapUpdate, wps_len, wps_min, wps_max, wps_app, ev_tmp, ev_cint, ev_cbool, ev_cnils, ev_cnilp, ev_cnilf, ev_cnili, ev_cnilm, ev_func, evs_nil, evs_cons, consO_some, evParts_nil, evParts_cons, consP_some, evOpt_none, evOpt_sm, someO_some, bo_some, bo2_some, e1_some, e2_some, putP_none, putP_some, vB_bool, T.get_set, reduceIte, Nat.reduceEqDiff, Nat.reduceLT, c3P, c3ng, binO_add, binO_sub, binO_mul, binO_eql, binO_neq, binO_lss, binO_leq, binO_gtr, binO_geq, unO_not, true_and, Bool.false_eq_true, if_false, if_true, forall_const, extrO, nilChk, false_implies, t9]) ?_ ?_
  · rw [hg4, show ([] : List V) ++ [V.yield (h3.next + 1)] ++ [V.ptr (h0.next + 1) 0, V.ptr (h0.next + 2) 0] = [.yield (h0.next + 4), .ptr (h0.next + 1) 0, .ptr (h0.next + 2) 0] from by rw [e3]; rfl]
    exact agents1_spec t5' r hl hI
  · rintro v h6 ⟨q1, q2, q3, q4, q5, q6, vo, q7, q8, q9⟩
    refine ⟨.ready, 93, 16, tmR, #[10], c93_9, c93_10, h0.next + 3, by rw [e3]; exact q5, by simp, ?_⟩
    rw [Fal.wp_inBlock, w93_12, w93_13]
    have kp := keep_put h6 (h3.next + 1) (.loop .exhausted none 93 16 tmR #[10] c93_9 c93_10 (h0.next + 3))
    generalize h6.put (h3.next + 1) (.loop .exhausted none 93 16 tmR #[10] c93_9 c93_10 (h0.next + 3)) = h7 at *
    have p7 := q7.keep kp (by omega)
    have p8 := q8.keep kp (fun b hb => by have := q9 b hb; omega)
    have p6 : h7.get h3.next = some (.defd true) := by rw [kp.2 _ (by omega) (by omega), e3]; exact q6
    simp only [wps_nil, wps_move, wps_assign, wps_pick, wps_binOp, wps_unOp, wps_load, wps_fieldAddr, wps_field, wps_indexAddr, wps_index, wps_lookup, wps_nilCheck, wps_extract, wps_makeFunc, wps_slice, wps_alloc, wps_box, wps_buildSlice, wps_store, wps_mapUpdate, wps_len, wps_min, wps_max, wps_app, ev_tmp, ev_cint, ev_cbool, ev_cnils, ev_cnilp, ev_cnilf, ev_cnili, ev_cnilm, ev_func, evs_nil, evs_cons, consO_some, evParts_nil, evParts_cons, consP_some, evOpt_none, evOpt_sm, someO_some, bo_some, bo2_some, e1_some, e2_some, putP_none, putP_some, vB_bool, T.get_set, reduceIte, Nat.reduceEqDiff, Nat.reduceLT, c3P, c3ng, binO_add, binO_sub, binO_mul, binO_eql, binO_neq, binO_lss, binO_leq, binO_gtr, binO_geq, unO_not, true_and, Bool.false_eq_true, if_false, if_true, forall_const, extrO, nilChk, false_implies, t5', p7.load ag67]
    rw [w93_14, wp_ret_coll p6, wpret, res93]
    simp only [wps_nil, wps_move, wps_assign, wps_pick, wps_binOp, wps_unOp, wps_load, wps_fieldAddr, wps_field, wps_indexAddr, wps_index, wps_lookup, wps_nilCheck, wps_extract, wps_makeFunc, wps_slice, wps_alloc, wps_box, wps_buildSlice, wps_store, wps_mapUpdate, wps_len, wps_min, wps_max, wps_app, ev_tmp, ev_cint, ev_cbool, ev_cnils, ev_cnilp, ev_cnilf, ev_cnili, ev_cnilm, ev_func, evs_nil, evs_cons, consO_some, evParts_nil, evParts_cons, consP_some, evOpt_none, evOpt_sm, someO_some, bo_some, bo2_some, e1_some, e2_some, putP_none, putP_some, vB_bool, T.get_set, reduceIte, Nat.reduceEqDiff, Nat.reduceLT, c3P, c3ng, binO_add, binO_sub, binO_mul, binO_eql, binO_neq, binO_lss, binO_leq, binO_gtr, binO_geq, unO_not, true_and, Bool.false_eq_true, if_false, if_true, forall_const, extrO, nilChk, false_implies, resultsO_nil, resultsO_tmp]
    have kq := keep_put h7 h3.next (.defd false)
    refine ⟨(q1.trans (kp.weak (Y := fun b => h0.next ≤ b) (fun b _ hb => by omega)) (fun b hb h => by omega)).trans (kq.weak (Y := fun b => h0.next ≤ b) (fun b _ hb => by omega)) (fun b hb h => by omega), ?_, fun b hb => by have := q9 b hb; omega⟩
    exact p8.keep kq (fun b hb => by have := q9 b hb; omega)
end K
open Go Go.Proofs Go.Fal
namespace K

/-! ## maps from numbers to numbers -/
theorem ui3 : Tryz.prog.underlying 3 = some (.int .i64) := by kernel_rfl
def mget : List (Int × Int) → Int → Option Int
  | [], _ => none
  | p :: m, a => if a = p.1 then some p.2 else mget m a
def mset : List (Int × Int) → Int → Int → List (Int × Int)
  | [], a, v => [(a, v)]
  | p :: m, a, v => if a = p.1 then (a, v) :: m else p :: mset m a v
theorem mget_mset (m : List (Int × Int)) (a v b : Int) : mget (mset m a v) b = if b = a then some v else mget m b := by
  induction m with
  | nil => simp [mset, mget]
  | cons p m ih =>
    simp only [mset]
    by_cases h : a = p.1
    · rw [if_pos h]; simp only [mget]; subst h
      by_cases hb : b = p.1 <;> simp [hb]
    · rw [if_neg h]; simp only [mget, ih]
      by_cases hb : b = p.1
      · rw [if_pos hb, if_neg (by omega), if_pos hb]
      · rw [if_neg hb, if_neg hb]

def MapR' : List (V × V × Nat) → List (Int × Int) → Prop
  | [], [] => True
  | e :: es, p :: m => e.1 = .int .i64 p.1 ∧ e.2.1 = .int .i64 p.2 ∧ MapR' es m
  | _, _ => False
def MapI (h : H) (b : Nat) (m : List (Int × Int)) : Prop := b < h.next ∧ ∃ es clock, h.get b = some (.map es clock) ∧ MapR' es m
theorem MapI.keep {X : Nat → Prop} {h h' : H} {b : Nat} {m : List (Int × Int)} (r : MapI h b m) (k : Keep X h h') (hx : ¬ X b) : MapI h' b m :=
  ⟨Nat.lt_of_lt_of_le r.1 k.1, let ⟨es, cl, h1, h2⟩ := r.2; ⟨es, cl, by rw [k.2 b r.1 hx]; exact h1, h2⟩⟩

theorem veq3 {h : H} {a b : Int} : veq Tryz.prog h 40 3 (.int .i64 a) (.int .i64 b) = some (decide (a = b)) := by
  unfold veq
  rw [ui3]
  simp only [if_true]; rfl
theorem find3 {h : H} {a : Int} : ∀ (es : List (V × V × Nat)) (m : List (Int × Int)) (i : Nat), MapR' es m → findO Tryz.prog h 3 (.int .i64 a) es i = some (match mget m a with
    | some v => some ((i + (m.takeWhile fun p => !decide (a = p.1)).length), .int .i64 v) | none => none)
  | [], [], i, _ => rfl
  | [], _ :: _, _, hr => hr.elim
  | _ :: _, [], _, hr => hr.elim
  | e :: es, p :: m, i, ⟨h1, h2, h3⟩ => by
    simp only [findO, h1, veq3, mget]
    by_cases hp : a = p.1
    · simp only [hp, decide_true, if_true, h2]; simp
    · simp only [hp, decide_false, if_false]
      rw [find3 es m (i + 1) h3]
      simp only [List.takeWhile_cons, hp, decide_false, Bool.not_false, if_true, List.length_cons]
      cases mget m a with
      | none => rfl
      | some v => simp only; rw [show i + 1 + (List.takeWhile (fun p => !decide (a = p.1)) m).length = i + ((List.takeWhile (fun p => !decide (a = p.1)) m).length + 1) by omega]
theorem key3 {a : Int} : keyOk Tryz.prog 40 3 (.int .i64 a) = true := by
  unfold keyOk; rw [ui3]
theorem lookup264 {h : H} {b : Nat} {m : List (Int × Int)} {a : Int} (r : MapI h b m) : lookupO Tryz.prog h 264 (.map b) (.int .i64 a) true = some (.tup [.int .i64 ((mget m a).getD 0), .bool (mget m a).isSome]) := by
  obtain ⟨_, es, cl, h1, h2⟩ := r
  simp only [lookupO, um264, h1, key3, if_true, find3 es m 0 h2]
  cases mget m a with
  | some v => rfl
  | none => simp only [zo3]; rfl
theorem set3 {a v : Int} : ∀ (es : List (V × V × Nat)) (m : List (Int × Int)), MapR' es m → (mget m a).isSome = true → ∃ e, es[(m.takeWhile fun p => !decide (a = p.1)).length]? = some e ∧ e.1 = .int .i64 a ∧
    MapR' (es.set (m.takeWhile fun p => !decide (a = p.1)).length (.int .i64 a, .int .i64 v, e.2.2)) (mset m a v)
  | [], [], _, hs => by simp [mget] at hs
  | [], _ :: _, hr, _ => hr.elim
  | _ :: _, [], hr, _ => hr.elim
  | e :: es, p :: m, ⟨h1, h2, h3⟩, hs => by
    by_cases hp : a = p.1
    · refine ⟨e, by simp [hp], by rw [hp]; exact h1, ?_⟩
      simp only [List.takeWhile_cons, hp, decide_true, Bool.not_true, if_false, List.length_nil, List.set_cons_zero, mset, if_true, Bool.false_eq_true]
      exact ⟨rfl, rfl, h3⟩
    · have hs' : (mget m a).isSome = true := by simpa [mget, hp] using hs
      obtain ⟨e', g1, g2, g3⟩ := set3 (a := a) (v := v) es m h3 hs'
      refine ⟨e', by simpa [hp] using g1, g2, ?_⟩
      simp only [List.takeWhile_cons, hp, decide_false, Bool.not_false, if_true, List.length_cons, List.set_cons_succ, mset, if_false]
      exact ⟨h1, h2, g3⟩
theorem snoc3 {a v : Int} {cl : Nat} : ∀ (es : List (V × V × Nat)) (m : List (Int × Int)), MapR' es m → mget m a = none → MapR' (es ++ [(.int .i64 a, .int .i64 v, cl)]) (mset m a v)
  | [], [], _, _ => ⟨rfl, rfl, trivial⟩
  | [], _ :: _, hr, _ => hr.elim
  | _ :: _, [], hr, _ => hr.elim
  | e :: es, p :: m, ⟨h1, h2, h3⟩, hs => by
    by_cases hp : a = p.1
    · simp [mget, hp] at hs
    · have hs' : mget m a = none := by simpa [mget, hp] using hs
      simp only [List.cons_append, mset, hp, if_false]
      exact ⟨h1, h2, snoc3 es m h3 hs'⟩
theorem update264 {h : H} {b : Nat} {m : List (Int × Int)} {a v : Int} (r : MapI h b m) : ∃ h', mapUpdateO Tryz.prog h 264 (.map b) (.int .i64 a) (.int .i64 v) = some h' ∧ MapI h' b (mset m a v) ∧ Keep (· = b) h h' ∧ h'.next = h.next := by
  obtain ⟨hlt, es, cl, h1, h2⟩ := r
  simp only [mapUpdateO, um264, h1, key3, if_true, find3 es m 0 h2]
  cases hm : mget m a with
  | some w =>
    obtain ⟨e, g1, g2, g3⟩ := set3 (a := a) (v := v) es m h2 (by rw [hm]; rfl)
    simp only [Nat.zero_add, g1]
    have hsame : same e.1 (.int .i64 a) = true := by rw [g2]; simp [same, same1]
    rw [if_pos hsame]
    exact ⟨_, rfl, ⟨hlt, _, _, H.get_put_same _ _ _, g3⟩, keep_put _ _ _, rfl⟩
  | none =>
    exact ⟨_, rfl, ⟨hlt, _, _, H.get_put_same _ _ _, snoc3 es m h2 hm⟩, keep_put _ _ _, rfl⟩

/-- how long an agent waited: since it was picked last -/
def lastAt (m : List (Int × Int)) (a : Int) : Int := (mget m a).getD (-1)
def small (n : Int) : Prop := -1048576 ≤ n ∧ n ≤ 1048576

/-- Fair's waited -/
theorem waited_spec {h : H} {MB KB b : Nat} {m : List (Int × Int)} {a nw kk : Int} (bm : Box h MB (.map b)) (bk : Box h KB (.int .i64 kk)) (r : MapI h b m) (hn : small nw) (hl : small (lastAt m a)) :
    WpC c3 164 [.int .i64 a, .int .i64 nw, .ptr MB 0, .ptr KB 0] h (fun v h' => h' = h ∧ v = .bool (decide (nw - lastAt m a > kk))) := by
  rw [wpc_enter (mem164 _) fn164, show max [V.int .i64 a, .int .i64 nw, .ptr MB 0, .ptr KB 0].length 22 = 22 from rfl,
    show setArgs T.e 0 [V.int .i64 a, .int .i64 nw, .ptr MB 0, .ptr KB 0] = (((T.e.set 0 (.int .i64 a)).set 1 (.int .i64 nw)).set 2 (.ptr MB 0)).set 3 (.ptr KB 0) from rfl]
  rw [w164_0, w164_1]
  simp only [wps_nil, wps_move, wps_assign, wps_pick, wps_binOp, wps_unOp, wps_load, wps_fieldAddr, wps_field, wps_indexAddr, wps_index, wps_lookup, wps_nilCheck, wps_extract, wps_makeFunc, wps_slice, wps_alloc, wps_box, wps_buildSlice, wps_store, wps_mapUpdate, wps_len, wps_min, wps_max, wps_app, ev_tmp, ev_cint, ev_cbool, ev_cnils, ev_cnilp, ev_cnilf, ev_cnili, ev_cnilm, ev_func, evs_nil, evs_cons, consO_some, evParts_nil, evParts_cons, consP_some, evOpt_none, evOpt_sm, someO_some, bo_some, bo2_some, e1_some, e2_some, putP_none, putP_some, vB_bool, T.get_set, reduceIte, Nat.reduceEqDiff, Nat.reduceLT, c3P, c3ng, binO_add, binO_sub, binO_mul, binO_eql, binO_neq, binO_lss, binO_leq, binO_gtr, binO_geq, unO_not, true_and, Bool.false_eq_true, if_false, if_true, forall_const, extrO, nilChk, false_implies]
  rw [w164_2, w164_3]
  simp only [wps_nil, wps_move, wps_assign, wps_pick, wps_binOp, wps_unOp, wps_load, wps_fieldAddr, wps_field, wps_indexAddr, wps_index, wps_lookup, wps_nilCheck, wps_extract, wps_makeFunc, wps_slice, wps_alloc, wps_box, wps_buildSlice, wps_store, wps_mapUpdate, wps_len, wps_min, wps_max, wps_app, ev_tmp, ev_cint, ev_cbool, ev_cnils, ev_cnilp, ev_cnilf, ev_cnili, ev_cnilm, ev_func, evs_nil, evs_cons, consO_some, evParts_nil, evParts_cons, consP_some, evOpt_none, evOpt_sm, someO_some, bo_some, bo2_some, e1_some, e2_some, putP_none, putP_some, vB_bool, T.get_set, reduceIte, Nat.reduceEqDiff, Nat.reduceLT, c3P, c3ng, binO_add, binO_sub, binO_mul, binO_eql, binO_neq, binO_lss, binO_leq, binO_gtr, binO_geq, unO_not, true_and, Bool.false_eq_true, if_false, if_true, forall_const, extrO, nilChk, false_implies, bm.load ag264, lookup264 r, List.getElem?_cons_zero, List.getElem?_cons_succ]
  rw [w164_4, w164_5, w164_6]
  simp only [wps_nil, wps_move, wps_assign, wps_pick, wps_binOp, wps_unOp, wps_load, wps_fieldAddr, wps_field, wps_indexAddr, wps_index, wps_lookup, wps_nilCheck, wps_extract, wps_makeFunc, wps_slice, wps_alloc, wps_box, wps_buildSlice, wps_store, wps_mapUpdate, wps_len, wps_min, wps_max, wps_app, ev_tmp, ev_cint, ev_cbool, ev_cnils, ev_cnilp, ev_cnilf, ev_cnili, ev_cnilm, ev_func, evs_nil, evs_cons, consO_some, evParts_nil, evParts_cons, consP_some, evOpt_none, evOpt_sm, someO_some, bo_some, bo2_some, e1_some, e2_some, putP_none, putP_some, vB_bool, T.get_set, reduceIte, Nat.reduceEqDiff, Nat.reduceLT, c3P, c3ng, binO_add, binO_sub, binO_mul, binO_eql, binO_neq, binO_lss, binO_leq, binO_gtr, binO_geq, unO_not, true_and, Bool.false_eq_true, if_false, if_true, forall_const, extrO, nilChk, false_implies]
  rw [w164_7]
  simp only [wps_nil, wps_move, wps_assign, wps_pick, wps_binOp, wps_unOp, wps_load, wps_fieldAddr, wps_field, wps_indexAddr, wps_index, wps_lookup, wps_nilCheck, wps_extract, wps_makeFunc, wps_slice, wps_alloc, wps_box, wps_buildSlice, wps_store, wps_mapUpdate, wps_len, wps_min, wps_max, wps_app, ev_tmp, ev_cint, ev_cbool, ev_cnils, ev_cnilp, ev_cnilf, ev_cnili, ev_cnilm, ev_func, evs_nil, evs_cons, consO_some, evParts_nil, evParts_cons, consP_some, evOpt_none, evOpt_sm, someO_some, bo_some, bo2_some, e1_some, e2_some, putP_none, putP_some, vB_bool, T.get_set, reduceIte, Nat.reduceEqDiff, Nat.reduceLT, c3P, c3ng, binO_add, binO_sub, binO_mul, binO_eql, binO_neq, binO_lss, binO_leq, binO_gtr, binO_geq, unO_not, true_and, Bool.false_eq_true, if_false, if_true, forall_const, extrO, nilChk, false_implies]
  have hw : IntKind.i64.wrap (nw - lastAt m a) = nw - lastAt m a := by
    obtain ⟨h1, h2⟩ := hn; obtain ⟨h3, h4⟩ := hl
    rw [wrap64 (by omega) (by omega)]
  cases hm : mget m a with
  | some w =>
    have hla : lastAt m a = w := by simp [lastAt, hm]
    simp only [wps_nil, wps_move, wps_assign, wps_pick, wps_binOp, wps_unOp, wps_load, wps_fieldAddr, wps_field, wps_indexAddr, wps_index, wps_lookup, wps_nilCheck, wps_extract, wps_makeFunc, wps_slice, wps_alloc, wps_box, wps_buildSlice, wps_store, wps_mapUpdate, wps_len, wps_min, wps_max, wps_app, ev_tmp, ev_cint, ev_cbool, ev_cnils, ev_cnilp, ev_cnilf, ev_cnili, ev_cnilm, ev_func, evs_nil, evs_cons, consO_some, evParts_nil, evParts_cons, consP_some, evOpt_none, evOpt_sm, someO_some, bo_some, bo2_some, e1_some, e2_some, putP_none, putP_some, vB_bool, T.get_set, reduceIte, Nat.reduceEqDiff, Nat.reduceLT, c3P, c3ng, binO_add, binO_sub, binO_mul, binO_eql, binO_neq, binO_lss, binO_leq, binO_gtr, binO_geq, unO_not, true_and, Bool.false_eq_true, if_false, if_true, forall_const, extrO, nilChk, false_implies, Option.isSome_some, Bool.not_true, Option.getD_some]
    rw [w164_9, w164_10, w164_11]
    rw [hla] at hw
    simp only [wps_nil, wps_move, wps_assign, wps_pick, wps_binOp, wps_unOp, wps_load, wps_fieldAddr, wps_field, wps_indexAddr, wps_index, wps_lookup, wps_nilCheck, wps_extract, wps_makeFunc, wps_slice, wps_alloc, wps_box, wps_buildSlice, wps_store, wps_mapUpdate, wps_len, wps_min, wps_max, wps_app, ev_tmp, ev_cint, ev_cbool, ev_cnils, ev_cnilp, ev_cnilf, ev_cnili, ev_cnilm, ev_func, evs_nil, evs_cons, consO_some, evParts_nil, evParts_cons, consP_some, evOpt_none, evOpt_sm, someO_some, bo_some, bo2_some, e1_some, e2_some, putP_none, putP_some, vB_bool, T.get_set, reduceIte, Nat.reduceEqDiff, Nat.reduceLT, c3P, c3ng, binO_add, binO_sub, binO_mul, binO_eql, binO_neq, binO_lss, binO_leq, binO_gtr, binO_geq, unO_not, true_and, Bool.false_eq_true, if_false, if_true, forall_const, extrO, nilChk, false_implies, bk.load ag3, hw]
    rw [w164_12, wpret, res164]
    simp only [wps_nil, wps_move, wps_assign, wps_pick, wps_binOp, wps_unOp, wps_load, wps_fieldAddr, wps_field, wps_indexAddr, wps_index, wps_lookup, wps_nilCheck, wps_extract, wps_makeFunc, wps_slice, wps_alloc, wps_box, wps_buildSlice, wps_store, wps_mapUpdate, wps_len, wps_min, wps_max, wps_app, ev_tmp, ev_cint, ev_cbool, ev_cnils, ev_cnilp, ev_cnilf, ev_cnili, ev_cnilm, ev_func, evs_nil, evs_cons, consO_some, evParts_nil, evParts_cons, consP_some, evOpt_none, evOpt_sm, someO_some, bo_some, bo2_some, e1_some, e2_some, putP_none, putP_some, vB_bool, T.get_set, reduceIte, Nat.reduceEqDiff, Nat.reduceLT, c3P, c3ng, binO_add, binO_sub, binO_mul, binO_eql, binO_neq, binO_lss, binO_leq, binO_gtr, binO_geq, unO_not, true_and, Bool.false_eq_true, if_false, if_true, forall_const, extrO, nilChk, false_implies, resultsO_nil, resultsO_tmp, hla]
    rfl
  | none =>
    have hla : lastAt m a = -1 := by simp [lastAt, hm]
    simp only [wps_nil, wps_move, wps_assign, wps_pick, wps_binOp, wps_unOp, wps_load, wps_fieldAddr, wps_field, wps_indexAddr, wps_index, wps_lookup, wps_nilCheck, wps_extract, wps_makeFunc, wps_slice, wps_alloc, wps_box, wps_buildSlice, wps_store, wps_mapUpdate, wps_len, wps_min, wps_max, wps_app, ev_tmp, ev_cint, ev_cbool, ev_cnils, ev_cnilp, ev_cnilf, ev_cnili, ev_cnilm, ev_func, evs_nil, evs_cons, consO_some, evParts_nil, evParts_cons, consP_some, evOpt_none, evOpt_sm, someO_some, bo_some, bo2_some, e1_some, e2_some, putP_none, putP_some, vB_bool, T.get_set, reduceIte, Nat.reduceEqDiff, Nat.reduceLT, c3P, c3ng, binO_add, binO_sub, binO_mul, binO_eql, binO_neq, binO_lss, binO_leq, binO_gtr, binO_geq, unO_not, true_and, Bool.false_eq_true, if_false, if_true, forall_const, extrO, nilChk, false_implies, Option.isSome_none, Bool.not_false, Option.getD_none]
    rw [w164_8]
    simp only [wps_nil, wps_move, wps_assign, wps_pick, wps_binOp, wps_unOp, wps_load, wps_fieldAddr, wps_field, wps_indexAddr, wps_index, wps_lookup, wps_nilCheck, wps_extract, wps_makeFunc, wps_slice, wps_alloc, wps_box, wps_buildSlice, wps_store, wps_mapUpdate, wps_len, wps_min, wps_max, wps_app, ev_tmp, ev_cint, ev_cbool, ev_cnils, ev_cnilp, ev_cnilf, ev_cnili, ev_cnilm, ev_func, evs_nil, evs_cons, consO_some, evParts_nil, evParts_cons, consP_some, evOpt_none, evOpt_sm, someO_some, bo_some, bo2_some, e1_some, e2_some, putP_none, putP_some, vB_bool, T.get_set, reduceIte, Nat.reduceEqDiff, Nat.reduceLT, c3P, c3ng, binO_add, binO_sub, binO_mul, binO_eql, binO_neq, binO_lss, binO_leq, binO_gtr, binO_geq, unO_not, true_and, Bool.false_eq_true, if_false, if_true, forall_const, extrO, nilChk, false_implies]
    rw [w164_10, w164_11]
    rw [hla] at hw
    simp only [wps_nil, wps_move, wps_assign, wps_pick, wps_binOp, wps_unOp, wps_load, wps_fieldAddr, wps_field, wps_indexAddr, wps_index, wps_lookup, wps_nilCheck, wps_extract, wps_makeFunc, wps_slice, wps_alloc, wps_box, wps_buildSlice, wps_store, wps_mapUpdate, wps_len, wps_min, wps_max, wps_app, ev_tmp, ev_cint, ev_cbool, ev_cnils, ev_cnilp, ev_cnilf, ev_cnili, ev_cnilm, ev_func, evs_nil, evs_cons, consO_some, evParts_nil, evParts_cons, consP_some, evOpt_none, evOpt_sm, someO_some, bo_some, bo2_some, e1_some, e2_some, putP_none, putP_some, vB_bool, T.get_set, reduceIte, Nat.reduceEqDiff, Nat.reduceLT, c3P, c3ng, binO_add, binO_sub, binO_mul, binO_eql, binO_neq, binO_lss, binO_leq, binO_gtr, binO_geq, unO_not, true_and, Bool.false_eq_true, if_false, if_true, forall_const, extrO, nilChk, false_implies, bk.load ag3, hw]
    rw [w164_12, wpret, res164]
    simp only [wps_nil, wps_move, wps_assign, wps_pick, wps_binOp, wps_unOp, wps_load, wps_fieldAddr, wps_field, wps_indexAddr, wps_index, wps_lookup, wps_nilCheck, wps_extract, wps_makeFunc, wps_slice, wps_alloc, wps_box, wps_buildSlice, wps_store, wps_mapUpdate, wps_len, wps_min, wps_max, wps_app, ev_tmp, ev_cint, ev_cbool, ev_cnils, ev_cnilp, ev_cnilf, ev_cnili, ev_cnilm, ev_func, evs_nil, evs_cons, consO_some, evParts_nil, evParts_cons, consP_some, evOpt_none, evOpt_sm, someO_some, bo_some, bo2_some, e1_some, e2_some, putP_none, putP_some, vB_bool, T.get_set, reduceIte, Nat.reduceEqDiff, Nat.reduceLT, c3P, c3ng, binO_add, binO_sub, binO_mul, binO_eql, binO_neq, binO_lss, binO_leq, binO_gtr, binO_geq, unO_not, true_and, Bool.false_eq_true, if_false, if_true, forall_const, extrO, nilChk, false_implies, resultsO_nil, resultsO_tmp, hla]
    rfl
end K
