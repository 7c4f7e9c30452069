/-
  TopPicked, function by function, by the rules of the engine: it returns true, for every input.
-/
import Derived.Test.YthoiomcchedapaaGreatDoorM5
import Derived.Test.YthoiomcchedapaaGreatDoorE10
set_option autoImplicit true
set_option relaxedAutoImplicit true
set_option linter.unusedVariables false
set_option linter.unusedSimpArgs false
open Go Go.Proofs Go.Fal
namespace K
section
variable {fn nt : Nat} {tm : T V} {k : List Item} {ds : List D} {rnd : Option Nat} {h : H} {Q : V → H → Prop}
theorem lc46 : lenCls Tryz.prog #[46] = 2 := by kernel_rfl
theorem sz46 : sliceSz Tryz.prog 46 = some 1 := by kernel_rfl
theorem ag5 : isAggB Tryz.prog 5 = some false := by kernel_rfl
theorem cv5_3 : cvtO Tryz.prog 5 3 = some .i64 := by kernel_rfl
theorem wcv5_3 {ops : Array Oper} {dr : Bool} {l : List Oper} {d : Option Tmp} {ty : TypeId} {pos : String} {af : Array Edge} (x : Operand) : WpS c3 fn nt ops dr (⟨d, .convert 5 3 x, ty, pos, af, none⟩ :: l) tm k ds rnd h Q = bo (ev c3.ng tm x) fun a => bo (match a with | .int _ n => some (V.int .i64 (IntKind.wrap .i64 n)) | _ => none) fun v => putP nt tm d v fun tm => WpS c3 fn nt ops dr l tm k ds rnd h Q := wps_conv x cv5_3
theorem et67 : elemT Tryz.prog 67 = some 3 := by kernel_rfl
theorem so3 : sizeO Tryz.prog 3 = some 1 := by kernel_rfl
theorem zo3 : zeroO Tryz.prog 3 = some (.int .i64 0) := by kernel_rfl
theorem el67 : elemOf Tryz.prog 67 = some (1, 8, true) := by kernel_rfl
theorem ap67 : appT Tryz.prog #[67, 67] = some 67 := by kernel_rfl
theorem lc67 : lenCls Tryz.prog #[67] = 2 := by kernel_rfl
theorem sz67 : sliceSz Tryz.prog 67 = some 1 := by kernel_rfl
theorem ag3 : isAggB Tryz.prog 3 = some false := by kernel_rfl
theorem ub4 : Tryz.prog.underlying 4 = some .bool := by kernel_rfl
theorem zo67 : zeroO Tryz.prog 67 = some .nils := by kernel_rfl
theorem ag67 : isAggB Tryz.prog 67 = some false := by kernel_rfl
theorem so67 : sizeO Tryz.prog 67 = some 1 := by kernel_rfl
theorem ag4 : isAggB Tryz.prog 4 = some false := by kernel_rfl
theorem um264 : Tryz.prog.underlying 264 = some (.map 3 3) := by kernel_rfl
theorem zo264 : zeroO Tryz.prog 264 = some .nilm := by kernel_rfl
theorem so264 : sizeO Tryz.prog 264 = some 1 := by kernel_rfl
theorem zo128 : zeroO Tryz.prog 128 = some .nilf := by kernel_rfl
theorem so128 : sizeO Tryz.prog 128 = some 1 := by kernel_rfl
theorem ag128 : isAggB Tryz.prog 128 = some false := by kernel_rfl
theorem ag264 : isAggB Tryz.prog 264 = some false := by kernel_rfl
theorem ut67 : Tryz.prog.underlying 67 = some (.slice 3) := by kernel_rfl
-- fallow/fallowtop.TopPicked
noncomputable def c8_0 : Code := bodyOf Tryz.f8
noncomputable def c8_1 : Code := cA c8_0
noncomputable def r8_1 : Array Oper := cOps c8_1
theorem e8_1 : c8_1 = .region 0 r8_1 false := by kernel_rfl
theorem l8_1 : r8_1.toList = [⟨(some 12), .assign (.const (.bool false)), (opN r8_1 0).type, (opN r8_1 0).pos, (opN r8_1 0).after, none⟩] := by kernel_rfl
theorem w8_1 : Wp c3 fn nt tm (.code c8_1 :: k) ds rnd h Q = WpS c3 fn nt r8_1 false [⟨(some 12), .assign (.const (.bool false)), (opN r8_1 0).type, (opN r8_1 0).pos, (opN r8_1 0).after, none⟩] tm k ds rnd h Q := by rw [e8_1, Fal.wp_region, l8_1]
noncomputable def c8_2 : Code := cB c8_0
noncomputable def c8_3 : Code := cA c8_2
noncomputable def r8_3 : Array Oper := cOps c8_3
theorem e8_3 : c8_3 = .region 1 r8_3 false := by kernel_rfl
theorem l8_3 : r8_3.toList = [⟨(some 13), .assign (.const (.slice none 0 0)), (opN r8_3 0).type, (opN r8_3 0).pos, (opN r8_3 0).after, none⟩, ⟨(some 14), .assign (.const (.slice none 0 0)), (opN r8_3 1).type, (opN r8_3 1).pos, (opN r8_3 1).after, none⟩] := by kernel_rfl
theorem w8_3 : Wp c3 fn nt tm (.code c8_3 :: k) ds rnd h Q = WpS c3 fn nt r8_3 false [⟨(some 13), .assign (.const (.slice none 0 0)), (opN r8_3 0).type, (opN r8_3 0).pos, (opN r8_3 0).after, none⟩, ⟨(some 14), .assign (.const (.slice none 0 0)), (opN r8_3 1).type, (opN r8_3 1).pos, (opN r8_3 1).after, none⟩] tm k ds rnd h Q := by rw [e8_3, Fal.wp_region, l8_3]
noncomputable def c8_4 : Code := cB c8_2
noncomputable def c8_5 : Code := cA c8_4
noncomputable def c8_6 : Code := cA c8_5
noncomputable def r8_6 : Array Oper := cOps c8_6
theorem e8_6 : c8_6 = .region 2 r8_6 false := by kernel_rfl
theorem l8_6 : r8_6.toList = [⟨(some 32), .move (.tmp 0), (opN r8_6 0).type, (opN r8_6 0).pos, (opN r8_6 0).after, none⟩, ⟨(some 33), .move (.tmp 0), (opN r8_6 1).type, (opN r8_6 1).pos, (opN r8_6 1).after, none⟩, ⟨(some 34), .call ⟨.builtin .len, #[(.tmp 33)], #[46]⟩, (opN r8_6 2).type, (opN r8_6 2).pos, (opN r8_6 2).after, none⟩, ⟨(some 35), .call ⟨.builtin .min, #[(.tmp 34), (.const (.int .i64 (8)))], #[3, 3]⟩, (opN r8_6 3).type, (opN r8_6 3).pos, (opN r8_6 3).after, none⟩, ⟨(some 36), .slice 46 (.tmp 32) none (some (.tmp 35)) none, (opN r8_6 4).type, (opN r8_6 4).pos, (opN r8_6 4).after, none⟩, ⟨(some 37), .call ⟨.builtin .len, #[(.tmp 36)], #[46]⟩, (opN r8_6 5).type, (opN r8_6 5).pos, (opN r8_6 5).after, none⟩, ⟨(some 38), .move (.const (.int .i64 (0))), (opN r8_6 6).type, (opN r8_6 6).pos, (opN r8_6 6).after, none⟩] := by kernel_rfl
theorem w8_6 : Wp c3 fn nt tm (.code c8_6 :: k) ds rnd h Q = WpS c3 fn nt r8_6 false [⟨(some 32), .move (.tmp 0), (opN r8_6 0).type, (opN r8_6 0).pos, (opN r8_6 0).after, none⟩, ⟨(some 33), .move (.tmp 0), (opN r8_6 1).type, (opN r8_6 1).pos, (opN r8_6 1).after, none⟩, ⟨(some 34), .call ⟨.builtin .len, #[(.tmp 33)], #[46]⟩, (opN r8_6 2).type, (opN r8_6 2).pos, (opN r8_6 2).after, none⟩, ⟨(some 35), .call ⟨.builtin .min, #[(.tmp 34), (.const (.int .i64 (8)))], #[3, 3]⟩, (opN r8_6 3).type, (opN r8_6 3).pos, (opN r8_6 3).after, none⟩, ⟨(some 36), .slice 46 (.tmp 32) none (some (.tmp 35)) none, (opN r8_6 4).type, (opN r8_6 4).pos, (opN r8_6 4).after, none⟩, ⟨(some 37), .call ⟨.builtin .len, #[(.tmp 36)], #[46]⟩, (opN r8_6 5).type, (opN r8_6 5).pos, (opN r8_6 5).after, none⟩, ⟨(some 38), .move (.const (.int .i64 (0))), (opN r8_6 6).type, (opN r8_6 6).pos, (opN r8_6 6).after, none⟩] tm k ds rnd h Q := by rw [e8_6, Fal.wp_region, l8_6]
noncomputable def c8_7 : Code := cB c8_5
noncomputable def c8_8 : Code := cA c8_7
noncomputable def c8_9 : Code := cA c8_8
noncomputable def c8_10 : Code := cA c8_9
noncomputable def r8_10 : Array Oper := cOps c8_10
theorem e8_10 : c8_10 = .region 3 r8_10 false := by kernel_rfl
theorem l8_10 : r8_10.toList = [⟨(some 39), .binOp .lss 3 (.tmp 38) (.tmp 37) 3, (opN r8_10 0).type, (opN r8_10 0).pos, (opN r8_10 0).after, none⟩] := by kernel_rfl
theorem w8_10 : Wp c3 fn nt tm (.code c8_10 :: k) ds rnd h Q = WpS c3 fn nt r8_10 false [⟨(some 39), .binOp .lss 3 (.tmp 38) (.tmp 37) 3, (opN r8_10 0).type, (opN r8_10 0).pos, (opN r8_10 0).after, none⟩] tm k ds rnd h Q := by rw [e8_10, Fal.wp_region, l8_10]
noncomputable def c8_11 : Code := cB c8_9
noncomputable def c8_12 : Code := cA c8_11
noncomputable def c8_13 : Code := cA c8_12
theorem e8_13 : c8_13 = .skip := by kernel_rfl
theorem w8_13 : Wp c3 fn nt tm (.code c8_13 :: k) ds rnd h Q = Wp c3 fn nt tm k ds rnd h Q := by rw [e8_13, Fal.wp_skip]
noncomputable def c8_14 : Code := cB c8_12
theorem e8_14 : c8_14 = .exit 0 := by kernel_rfl
theorem w8_14 : Wp c3 fn nt tm (.code c8_14 :: k) ds rnd h Q = Wp c3 fn nt tm (.code (.exit 0) :: k) ds rnd h Q := by rw [e8_14]
theorem e8_12 : c8_12 = .cond (.tmp 39) c8_13 c8_14 := by kernel_rfl
theorem w8_12 : Wp c3 fn nt tm (.code c8_12 :: k) ds rnd h Q = bo (ev c3.ng tm (.tmp 39)) fun v => vB v fun t => if t = true then Wp c3 fn nt tm (.code c8_13 :: k) ds rnd h Q else Wp c3 fn nt tm (.code c8_14 :: k) ds rnd h Q := by rw [e8_12, Fal.wp_cond]
noncomputable def c8_15 : Code := cB c8_11
noncomputable def c8_16 : Code := cA c8_15
noncomputable def c8_17 : Code := cA c8_16
noncomputable def c8_18 : Code := cA c8_17
noncomputable def r8_18 : Array Oper := cOps c8_18
theorem e8_18 : c8_18 = .region 4 r8_18 false := by kernel_rfl
theorem l8_18 : r8_18.toList = [⟨(some 40), .move (.tmp 38), (opN r8_18 0).type, (opN r8_18 0).pos, (opN r8_18 0).after, none⟩, ⟨(some 41), .indexAddr 46 (.tmp 36) (.tmp 38), (opN r8_18 1).type, (opN r8_18 1).pos, (opN r8_18 1).after, none⟩, ⟨(some 42), .load 5 (.tmp 41), (opN r8_18 2).type, (opN r8_18 2).pos, (opN r8_18 2).after, none⟩, ⟨(some 15), .assign (.tmp 40), (opN r8_18 3).type, (opN r8_18 3).pos, (opN r8_18 3).after, none⟩, ⟨(some 16), .assign (.tmp 42), (opN r8_18 4).type, (opN r8_18 4).pos, (opN r8_18 4).after, none⟩] := by kernel_rfl
theorem w8_18 : Wp c3 fn nt tm (.code c8_18 :: k) ds rnd h Q = WpS c3 fn nt r8_18 false [⟨(some 40), .move (.tmp 38), (opN r8_18 0).type, (opN r8_18 0).pos, (opN r8_18 0).after, none⟩, ⟨(some 41), .indexAddr 46 (.tmp 36) (.tmp 38), (opN r8_18 1).type, (opN r8_18 1).pos, (opN r8_18 1).after, none⟩, ⟨(some 42), .load 5 (.tmp 41), (opN r8_18 2).type, (opN r8_18 2).pos, (opN r8_18 2).after, none⟩, ⟨(some 15), .assign (.tmp 40), (opN r8_18 3).type, (opN r8_18 3).pos, (opN r8_18 3).after, none⟩, ⟨(some 16), .assign (.tmp 42), (opN r8_18 4).type, (opN r8_18 4).pos, (opN r8_18 4).after, none⟩] tm k ds rnd h Q := by rw [e8_18, Fal.wp_region, l8_18]
noncomputable def c8_19 : Code := cB c8_17
noncomputable def c8_20 : Code := cA c8_19
noncomputable def r8_20 : Array Oper := cOps c8_20
theorem e8_20 : c8_20 = .region 5 r8_20 false := by kernel_rfl
theorem l8_20 : r8_20.toList = [⟨(some 43), .move (.tmp 13), (opN r8_20 0).type, (opN r8_20 0).pos, (opN r8_20 0).after, none⟩, ⟨(some 44), .move (.tmp 16), (opN r8_20 1).type, (opN r8_20 1).pos, (opN r8_20 1).after, none⟩, ⟨(some 45), .binOp .rem 5 (.tmp 44) (.const (.int .u8 (5))) 5, (opN r8_20 2).type, (opN r8_20 2).pos, (opN r8_20 2).after, none⟩, ⟨(some 46), .convert 5 3 (.tmp 45), (opN r8_20 3).type, (opN r8_20 3).pos, (opN r8_20 3).after, none⟩, ⟨(some 47), .buildSlice 67 1 #[(0, (.tmp 46))], (opN r8_20 4).type, (opN r8_20 4).pos, (opN r8_20 4).after, none⟩, ⟨(some 48), .call ⟨.builtin .append, #[(.tmp 43), (.tmp 47)], #[67, 67]⟩, (opN r8_20 5).type, (opN r8_20 5).pos, (opN r8_20 5).after, none⟩, ⟨(some 13), .assign (.tmp 48), (opN r8_20 6).type, (opN r8_20 6).pos, (opN r8_20 6).after, none⟩] := by kernel_rfl
theorem w8_20 : Wp c3 fn nt tm (.code c8_20 :: k) ds rnd h Q = WpS c3 fn nt r8_20 false [⟨(some 43), .move (.tmp 13), (opN r8_20 0).type, (opN r8_20 0).pos, (opN r8_20 0).after, none⟩, ⟨(some 44), .move (.tmp 16), (opN r8_20 1).type, (opN r8_20 1).pos, (opN r8_20 1).after, none⟩, ⟨(some 45), .binOp .rem 5 (.tmp 44) (.const (.int .u8 (5))) 5, (opN r8_20 2).type, (opN r8_20 2).pos, (opN r8_20 2).after, none⟩, ⟨(some 46), .convert 5 3 (.tmp 45), (opN r8_20 3).type, (opN r8_20 3).pos, (opN r8_20 3).after, none⟩, ⟨(some 47), .buildSlice 67 1 #[(0, (.tmp 46))], (opN r8_20 4).type, (opN r8_20 4).pos, (opN r8_20 4).after, none⟩, ⟨(some 48), .call ⟨.builtin .append, #[(.tmp 43), (.tmp 47)], #[67, 67]⟩, (opN r8_20 5).type, (opN r8_20 5).pos, (opN r8_20 5).after, none⟩, ⟨(some 13), .assign (.tmp 48), (opN r8_20 6).type, (opN r8_20 6).pos, (opN r8_20 6).after, none⟩] tm k ds rnd h Q := by rw [e8_20, Fal.wp_region, l8_20]
noncomputable def c8_21 : Code := cB c8_19
noncomputable def c8_22 : Code := cA c8_21
noncomputable def r8_22 : Array Oper := cOps c8_22
theorem e8_22 : c8_22 = .region 6 r8_22 false := by kernel_rfl
theorem l8_22 : r8_22.toList = [⟨(some 49), .move (.tmp 16), (opN r8_22 0).type, (opN r8_22 0).pos, (opN r8_22 0).after, none⟩, ⟨(some 50), .binOp .rem 5 (.tmp 49) (.const (.int .u8 (5))) 5, (opN r8_22 1).type, (opN r8_22 1).pos, (opN r8_22 1).after, none⟩, ⟨(some 51), .binOp .eql 5 (.tmp 50) (.const (.int .u8 (0))) 5, (opN r8_22 2).type, (opN r8_22 2).pos, (opN r8_22 2).after, none⟩] := by kernel_rfl
theorem w8_22 : Wp c3 fn nt tm (.code c8_22 :: k) ds rnd h Q = WpS c3 fn nt r8_22 false [⟨(some 49), .move (.tmp 16), (opN r8_22 0).type, (opN r8_22 0).pos, (opN r8_22 0).after, none⟩, ⟨(some 50), .binOp .rem 5 (.tmp 49) (.const (.int .u8 (5))) 5, (opN r8_22 1).type, (opN r8_22 1).pos, (opN r8_22 1).after, none⟩, ⟨(some 51), .binOp .eql 5 (.tmp 50) (.const (.int .u8 (0))) 5, (opN r8_22 2).type, (opN r8_22 2).pos, (opN r8_22 2).after, none⟩] tm k ds rnd h Q := by rw [e8_22, Fal.wp_region, l8_22]
noncomputable def c8_23 : Code := cB c8_21
noncomputable def c8_24 : Code := cA c8_23
noncomputable def r8_24 : Array Oper := cOps c8_24
theorem e8_24 : c8_24 = .region 7 r8_24 false := by kernel_rfl
theorem l8_24 : r8_24.toList = [⟨(some 52), .move (.tmp 14), (opN r8_24 0).type, (opN r8_24 0).pos, (opN r8_24 0).after, none⟩, ⟨(some 53), .move (.tmp 15), (opN r8_24 1).type, (opN r8_24 1).pos, (opN r8_24 1).after, none⟩, ⟨(some 54), .buildSlice 67 1 #[(0, (.tmp 53))], (opN r8_24 2).type, (opN r8_24 2).pos, (opN r8_24 2).after, none⟩, ⟨(some 55), .call ⟨.builtin .append, #[(.tmp 52), (.tmp 54)], #[67, 67]⟩, (opN r8_24 3).type, (opN r8_24 3).pos, (opN r8_24 3).after, none⟩, ⟨(some 14), .assign (.tmp 55), (opN r8_24 4).type, (opN r8_24 4).pos, (opN r8_24 4).after, none⟩] := by kernel_rfl
theorem w8_24 : Wp c3 fn nt tm (.code c8_24 :: k) ds rnd h Q = WpS c3 fn nt r8_24 false [⟨(some 52), .move (.tmp 14), (opN r8_24 0).type, (opN r8_24 0).pos, (opN r8_24 0).after, none⟩, ⟨(some 53), .move (.tmp 15), (opN r8_24 1).type, (opN r8_24 1).pos, (opN r8_24 1).after, none⟩, ⟨(some 54), .buildSlice 67 1 #[(0, (.tmp 53))], (opN r8_24 2).type, (opN r8_24 2).pos, (opN r8_24 2).after, none⟩, ⟨(some 55), .call ⟨.builtin .append, #[(.tmp 52), (.tmp 54)], #[67, 67]⟩, (opN r8_24 3).type, (opN r8_24 3).pos, (opN r8_24 3).after, none⟩, ⟨(some 14), .assign (.tmp 55), (opN r8_24 4).type, (opN r8_24 4).pos, (opN r8_24 4).after, none⟩] tm k ds rnd h Q := by rw [e8_24, Fal.wp_region, l8_24]
noncomputable def c8_25 : Code := cB c8_23
theorem e8_25 : c8_25 = .skip := by kernel_rfl
theorem w8_25 : Wp c3 fn nt tm (.code c8_25 :: k) ds rnd h Q = Wp c3 fn nt tm k ds rnd h Q := by rw [e8_25, Fal.wp_skip]
theorem e8_23 : c8_23 = .cond (.tmp 51) c8_24 c8_25 := by kernel_rfl
theorem w8_23 : Wp c3 fn nt tm (.code c8_23 :: k) ds rnd h Q = bo (ev c3.ng tm (.tmp 51)) fun v => vB v fun t => if t = true then Wp c3 fn nt tm (.code c8_24 :: k) ds rnd h Q else Wp c3 fn nt tm (.code c8_25 :: k) ds rnd h Q := by rw [e8_23, Fal.wp_cond]
theorem e8_21 : c8_21 = .seq c8_22 c8_23 := by kernel_rfl
theorem w8_21 : Wp c3 fn nt tm (.code c8_21 :: k) ds rnd h Q = Wp c3 fn nt tm (.code c8_22 :: .code c8_23 :: k) ds rnd h Q := by rw [e8_21, Fal.wp_seq]
theorem e8_19 : c8_19 = .seq c8_20 c8_21 := by kernel_rfl
theorem w8_19 : Wp c3 fn nt tm (.code c8_19 :: k) ds rnd h Q = Wp c3 fn nt tm (.code c8_20 :: .code c8_21 :: k) ds rnd h Q := by rw [e8_19, Fal.wp_seq]
theorem e8_17 : c8_17 = .seq c8_18 c8_19 := by kernel_rfl
theorem w8_17 : Wp c3 fn nt tm (.code c8_17 :: k) ds rnd h Q = Wp c3 fn nt tm (.code c8_18 :: .code c8_19 :: k) ds rnd h Q := by rw [e8_17, Fal.wp_seq]
theorem e8_16 : c8_16 = .block 1 c8_17 := by kernel_rfl
theorem w8_16 : Wp c3 fn nt tm (.code c8_16 :: k) ds rnd h Q = Wp c3 fn nt tm (.code c8_17 :: .inBlock 1 :: k) ds rnd h Q := by rw [e8_16, Fal.wp_block]
noncomputable def c8_26 : Code := cB c8_15
noncomputable def r8_26 : Array Oper := cOps c8_26
theorem e8_26 : c8_26 = .region 8 r8_26 false := by kernel_rfl
theorem l8_26 : r8_26.toList = [⟨(some 56), .binOp .add 3 (.tmp 38) (.const (.int .i64 (1))) 3, (opN r8_26 0).type, (opN r8_26 0).pos, (opN r8_26 0).after, none⟩, ⟨(some 38), .move (.tmp 56), (opN r8_26 1).type, (opN r8_26 1).pos, (opN r8_26 1).after, none⟩] := by kernel_rfl
theorem w8_26 : Wp c3 fn nt tm (.code c8_26 :: k) ds rnd h Q = WpS c3 fn nt r8_26 false [⟨(some 56), .binOp .add 3 (.tmp 38) (.const (.int .i64 (1))) 3, (opN r8_26 0).type, (opN r8_26 0).pos, (opN r8_26 0).after, none⟩, ⟨(some 38), .move (.tmp 56), (opN r8_26 1).type, (opN r8_26 1).pos, (opN r8_26 1).after, none⟩] tm k ds rnd h Q := by rw [e8_26, Fal.wp_region, l8_26]
theorem e8_15 : c8_15 = .seq c8_16 c8_26 := by kernel_rfl
theorem w8_15 : Wp c3 fn nt tm (.code c8_15 :: k) ds rnd h Q = Wp c3 fn nt tm (.code c8_16 :: .code c8_26 :: k) ds rnd h Q := by rw [e8_15, Fal.wp_seq]
theorem e8_11 : c8_11 = .seq c8_12 c8_15 := by kernel_rfl
theorem w8_11 : Wp c3 fn nt tm (.code c8_11 :: k) ds rnd h Q = Wp c3 fn nt tm (.code c8_12 :: .code c8_15 :: k) ds rnd h Q := by rw [e8_11, Fal.wp_seq]
theorem e8_9 : c8_9 = .seq c8_10 c8_11 := by kernel_rfl
theorem w8_9 : Wp c3 fn nt tm (.code c8_9 :: k) ds rnd h Q = Wp c3 fn nt tm (.code c8_10 :: .code c8_11 :: k) ds rnd h Q := by rw [e8_9, Fal.wp_seq]
theorem e8_8 : c8_8 = .loop c8_9 := by kernel_rfl
theorem w8_8 : Wp c3 fn nt tm (.code c8_8 :: k) ds rnd h Q = Wp c3 fn nt tm (.code c8_9 :: .inLoop c8_9 :: k) ds rnd h Q := by rw [e8_8, Fal.wp_loop]
theorem e8_7 : c8_7 = .block 0 c8_8 := by kernel_rfl
theorem w8_7 : Wp c3 fn nt tm (.code c8_7 :: k) ds rnd h Q = Wp c3 fn nt tm (.code c8_8 :: .inBlock 0 :: k) ds rnd h Q := by rw [e8_7, Fal.wp_block]
theorem e8_5 : c8_5 = .seq c8_6 c8_7 := by kernel_rfl
theorem w8_5 : Wp c3 fn nt tm (.code c8_5 :: k) ds rnd h Q = Wp c3 fn nt tm (.code c8_6 :: .code c8_7 :: k) ds rnd h Q := by rw [e8_5, Fal.wp_seq]
noncomputable def c8_27 : Code := cB c8_4
noncomputable def c8_28 : Code := cA c8_27
noncomputable def c8_29 : Code := cA c8_28
noncomputable def r8_29 : Array Oper := cOps c8_29
theorem e8_29 : c8_29 = .region 9 r8_29 false := by kernel_rfl
theorem l8_29 : r8_29.toList = [⟨(some 57), .move (.tmp 1), (opN r8_29 0).type, (opN r8_29 0).pos, (opN r8_29 0).after, none⟩] := by kernel_rfl
theorem w8_29 : Wp c3 fn nt tm (.code c8_29 :: k) ds rnd h Q = WpS c3 fn nt r8_29 false [⟨(some 57), .move (.tmp 1), (opN r8_29 0).type, (opN r8_29 0).pos, (opN r8_29 0).after, none⟩] tm k ds rnd h Q := by rw [e8_29, Fal.wp_region, l8_29]
noncomputable def c8_30 : Code := cB c8_28
noncomputable def c8_31 : Code := cA c8_30
noncomputable def r8_31 : Array Oper := cOps c8_31
theorem e8_31 : c8_31 = .region 10 r8_31 false := by kernel_rfl
theorem l8_31 : r8_31.toList = [⟨(some 58), .move (.tmp 14), (opN r8_31 0).type, (opN r8_31 0).pos, (opN r8_31 0).after, none⟩, ⟨(some 59), .move (.tmp 13), (opN r8_31 1).type, (opN r8_31 1).pos, (opN r8_31 1).after, none⟩, ⟨(some 60), .call ⟨.builtin .len, #[(.tmp 59)], #[67]⟩, (opN r8_31 2).type, (opN r8_31 2).pos, (opN r8_31 2).after, none⟩, ⟨(some 61), .buildSlice 67 1 #[(0, (.tmp 60))], (opN r8_31 3).type, (opN r8_31 3).pos, (opN r8_31 3).after, none⟩, ⟨(some 62), .call ⟨.builtin .append, #[(.tmp 58), (.tmp 61)], #[67, 67]⟩, (opN r8_31 4).type, (opN r8_31 4).pos, (opN r8_31 4).after, none⟩, ⟨(some 14), .assign (.tmp 62), (opN r8_31 5).type, (opN r8_31 5).pos, (opN r8_31 5).after, none⟩] := by kernel_rfl
theorem w8_31 : Wp c3 fn nt tm (.code c8_31 :: k) ds rnd h Q = WpS c3 fn nt r8_31 false [⟨(some 58), .move (.tmp 14), (opN r8_31 0).type, (opN r8_31 0).pos, (opN r8_31 0).after, none⟩, ⟨(some 59), .move (.tmp 13), (opN r8_31 1).type, (opN r8_31 1).pos, (opN r8_31 1).after, none⟩, ⟨(some 60), .call ⟨.builtin .len, #[(.tmp 59)], #[67]⟩, (opN r8_31 2).type, (opN r8_31 2).pos, (opN r8_31 2).after, none⟩, ⟨(some 61), .buildSlice 67 1 #[(0, (.tmp 60))], (opN r8_31 3).type, (opN r8_31 3).pos, (opN r8_31 3).after, none⟩, ⟨(some 62), .call ⟨.builtin .append, #[(.tmp 58), (.tmp 61)], #[67, 67]⟩, (opN r8_31 4).type, (opN r8_31 4).pos, (opN r8_31 4).after, none⟩, ⟨(some 14), .assign (.tmp 62), (opN r8_31 5).type, (opN r8_31 5).pos, (opN r8_31 5).after, none⟩] tm k ds rnd h Q := by rw [e8_31, Fal.wp_region, l8_31]
noncomputable def c8_32 : Code := cB c8_30
theorem e8_32 : c8_32 = .skip := by kernel_rfl
theorem w8_32 : Wp c3 fn nt tm (.code c8_32 :: k) ds rnd h Q = Wp c3 fn nt tm k ds rnd h Q := by rw [e8_32, Fal.wp_skip]
theorem e8_30 : c8_30 = .cond (.tmp 57) c8_31 c8_32 := by kernel_rfl
theorem w8_30 : Wp c3 fn nt tm (.code c8_30 :: k) ds rnd h Q = bo (ev c3.ng tm (.tmp 57)) fun v => vB v fun t => if t = true then Wp c3 fn nt tm (.code c8_31 :: k) ds rnd h Q else Wp c3 fn nt tm (.code c8_32 :: k) ds rnd h Q := by rw [e8_30, Fal.wp_cond]
theorem e8_28 : c8_28 = .seq c8_29 c8_30 := by kernel_rfl
theorem w8_28 : Wp c3 fn nt tm (.code c8_28 :: k) ds rnd h Q = Wp c3 fn nt tm (.code c8_29 :: .code c8_30 :: k) ds rnd h Q := by rw [e8_28, Fal.wp_seq]
noncomputable def c8_33 : Code := cB c8_27
noncomputable def c8_34 : Code := cA c8_33
noncomputable def r8_34 : Array Oper := cOps c8_34
theorem e8_34 : c8_34 = .region 11 r8_34 false := by kernel_rfl
theorem l8_34 : r8_34.toList = [⟨(some 63), .buildSlice 67 0 #[], (opN r8_34 0).type, (opN r8_34 0).pos, (opN r8_34 0).after, none⟩, ⟨(some 64), .move (.tmp 13), (opN r8_34 1).type, (opN r8_34 1).pos, (opN r8_34 1).after, none⟩, ⟨(some 65), .call ⟨.builtin .append, #[(.tmp 63), (.tmp 64)], #[67, 67]⟩, (opN r8_34 2).type, (opN r8_34 2).pos, (opN r8_34 2).after, none⟩, ⟨(some 66), .move (.tmp 1), (opN r8_34 3).type, (opN r8_34 3).pos, (opN r8_34 3).after, none⟩, ⟨(some 67), .call ⟨.value (.func 93), #[(.tmp 65), (.tmp 66)], #[67, 4]⟩, (opN r8_34 4).type, (opN r8_34 4).pos, (opN r8_34 4).after, none⟩, ⟨(some 17), .assign (.tmp 67), (opN r8_34 5).type, (opN r8_34 5).pos, (opN r8_34 5).after, none⟩] := by kernel_rfl
theorem w8_34 : Wp c3 fn nt tm (.code c8_34 :: k) ds rnd h Q = WpS c3 fn nt r8_34 false [⟨(some 63), .buildSlice 67 0 #[], (opN r8_34 0).type, (opN r8_34 0).pos, (opN r8_34 0).after, none⟩, ⟨(some 64), .move (.tmp 13), (opN r8_34 1).type, (opN r8_34 1).pos, (opN r8_34 1).after, none⟩, ⟨(some 65), .call ⟨.builtin .append, #[(.tmp 63), (.tmp 64)], #[67, 67]⟩, (opN r8_34 2).type, (opN r8_34 2).pos, (opN r8_34 2).after, none⟩, ⟨(some 66), .move (.tmp 1), (opN r8_34 3).type, (opN r8_34 3).pos, (opN r8_34 3).after, none⟩, ⟨(some 67), .call ⟨.value (.func 93), #[(.tmp 65), (.tmp 66)], #[67, 4]⟩, (opN r8_34 4).type, (opN r8_34 4).pos, (opN r8_34 4).after, none⟩, ⟨(some 17), .assign (.tmp 67), (opN r8_34 5).type, (opN r8_34 5).pos, (opN r8_34 5).after, none⟩] tm k ds rnd h Q := by rw [e8_34, Fal.wp_region, l8_34]
noncomputable def c8_35 : Code := cB c8_33
noncomputable def c8_36 : Code := cA c8_35
noncomputable def c8_37 : Code := cA c8_36
noncomputable def r8_37 : Array Oper := cOps c8_37
theorem e8_37 : c8_37 = .region 12 r8_37 false := by kernel_rfl
theorem l8_37 : r8_37.toList = [⟨(some 68), .move (.tmp 17), (opN r8_37 0).type, (opN r8_37 0).pos, (opN r8_37 0).after, none⟩, ⟨(some 69), .call ⟨.builtin .len, #[(.tmp 68)], #[67]⟩, (opN r8_37 1).type, (opN r8_37 1).pos, (opN r8_37 1).after, none⟩, ⟨(some 70), .move (.tmp 14), (opN r8_37 2).type, (opN r8_37 2).pos, (opN r8_37 2).after, none⟩, ⟨(some 71), .call ⟨.builtin .len, #[(.tmp 70)], #[67]⟩, (opN r8_37 3).type, (opN r8_37 3).pos, (opN r8_37 3).after, none⟩, ⟨(some 72), .binOp .neq 3 (.tmp 69) (.tmp 71) 3, (opN r8_37 4).type, (opN r8_37 4).pos, (opN r8_37 4).after, none⟩] := by kernel_rfl
theorem w8_37 : Wp c3 fn nt tm (.code c8_37 :: k) ds rnd h Q = WpS c3 fn nt r8_37 false [⟨(some 68), .move (.tmp 17), (opN r8_37 0).type, (opN r8_37 0).pos, (opN r8_37 0).after, none⟩, ⟨(some 69), .call ⟨.builtin .len, #[(.tmp 68)], #[67]⟩, (opN r8_37 1).type, (opN r8_37 1).pos, (opN r8_37 1).after, none⟩, ⟨(some 70), .move (.tmp 14), (opN r8_37 2).type, (opN r8_37 2).pos, (opN r8_37 2).after, none⟩, ⟨(some 71), .call ⟨.builtin .len, #[(.tmp 70)], #[67]⟩, (opN r8_37 3).type, (opN r8_37 3).pos, (opN r8_37 3).after, none⟩, ⟨(some 72), .binOp .neq 3 (.tmp 69) (.tmp 71) 3, (opN r8_37 4).type, (opN r8_37 4).pos, (opN r8_37 4).after, none⟩] tm k ds rnd h Q := by rw [e8_37, Fal.wp_region, l8_37]
noncomputable def c8_38 : Code := cB c8_36
noncomputable def c8_39 : Code := cA c8_38
noncomputable def c8_40 : Code := cA c8_39
noncomputable def r8_40 : Array Oper := cOps c8_40
theorem e8_40 : c8_40 = .region 13 r8_40 false := by kernel_rfl
theorem l8_40 : r8_40.toList = [⟨(some 12), .assign (.const (.bool false)), (opN r8_40 0).type, (opN r8_40 0).pos, (opN r8_40 0).after, none⟩] := by kernel_rfl
theorem w8_40 : Wp c3 fn nt tm (.code c8_40 :: k) ds rnd h Q = WpS c3 fn nt r8_40 false [⟨(some 12), .assign (.const (.bool false)), (opN r8_40 0).type, (opN r8_40 0).pos, (opN r8_40 0).after, none⟩] tm k ds rnd h Q := by rw [e8_40, Fal.wp_region, l8_40]
noncomputable def c8_41 : Code := cB c8_39
theorem e8_41 : c8_41 = .ret := by kernel_rfl
theorem w8_41 : Wp c3 fn nt tm (.code c8_41 :: k) ds rnd h Q = Wp c3 fn nt tm (.code .ret :: k) ds rnd h Q := by rw [e8_41]
theorem e8_39 : c8_39 = .seq c8_40 c8_41 := by kernel_rfl
theorem w8_39 : Wp c3 fn nt tm (.code c8_39 :: k) ds rnd h Q = Wp c3 fn nt tm (.code c8_40 :: .code c8_41 :: k) ds rnd h Q := by rw [e8_39, Fal.wp_seq]
noncomputable def c8_42 : Code := cB c8_38
theorem e8_42 : c8_42 = .skip := by kernel_rfl
theorem w8_42 : Wp c3 fn nt tm (.code c8_42 :: k) ds rnd h Q = Wp c3 fn nt tm k ds rnd h Q := by rw [e8_42, Fal.wp_skip]
theorem e8_38 : c8_38 = .cond (.tmp 72) c8_39 c8_42 := by kernel_rfl
theorem w8_38 : Wp c3 fn nt tm (.code c8_38 :: k) ds rnd h Q = bo (ev c3.ng tm (.tmp 72)) fun v => vB v fun t => if t = true then Wp c3 fn nt tm (.code c8_39 :: k) ds rnd h Q else Wp c3 fn nt tm (.code c8_42 :: k) ds rnd h Q := by rw [e8_38, Fal.wp_cond]
theorem e8_36 : c8_36 = .seq c8_37 c8_38 := by kernel_rfl
theorem w8_36 : Wp c3 fn nt tm (.code c8_36 :: k) ds rnd h Q = Wp c3 fn nt tm (.code c8_37 :: .code c8_38 :: k) ds rnd h Q := by rw [e8_36, Fal.wp_seq]
noncomputable def c8_43 : Code := cB c8_35
noncomputable def c8_44 : Code := cA c8_43
noncomputable def c8_45 : Code := cA c8_44
noncomputable def r8_45 : Array Oper := cOps c8_45
theorem e8_45 : c8_45 = .region 14 r8_45 false := by kernel_rfl
theorem l8_45 : r8_45.toList = [⟨(some 73), .move (.tmp 14), (opN r8_45 0).type, (opN r8_45 0).pos, (opN r8_45 0).after, none⟩, ⟨(some 74), .call ⟨.builtin .len, #[(.tmp 73)], #[67]⟩, (opN r8_45 1).type, (opN r8_45 1).pos, (opN r8_45 1).after, none⟩, ⟨(some 75), .move (.const (.int .i64 (0))), (opN r8_45 2).type, (opN r8_45 2).pos, (opN r8_45 2).after, none⟩] := by kernel_rfl
theorem w8_45 : Wp c3 fn nt tm (.code c8_45 :: k) ds rnd h Q = WpS c3 fn nt r8_45 false [⟨(some 73), .move (.tmp 14), (opN r8_45 0).type, (opN r8_45 0).pos, (opN r8_45 0).after, none⟩, ⟨(some 74), .call ⟨.builtin .len, #[(.tmp 73)], #[67]⟩, (opN r8_45 1).type, (opN r8_45 1).pos, (opN r8_45 1).after, none⟩, ⟨(some 75), .move (.const (.int .i64 (0))), (opN r8_45 2).type, (opN r8_45 2).pos, (opN r8_45 2).after, none⟩] tm k ds rnd h Q := by rw [e8_45, Fal.wp_region, l8_45]
noncomputable def c8_46 : Code := cB c8_44
noncomputable def c8_47 : Code := cA c8_46
noncomputable def c8_48 : Code := cA c8_47
noncomputable def c8_49 : Code := cA c8_48
noncomputable def r8_49 : Array Oper := cOps c8_49
theorem e8_49 : c8_49 = .region 15 r8_49 false := by kernel_rfl
theorem l8_49 : r8_49.toList = [⟨(some 76), .binOp .lss 3 (.tmp 75) (.tmp 74) 3, (opN r8_49 0).type, (opN r8_49 0).pos, (opN r8_49 0).after, none⟩] := by kernel_rfl
theorem w8_49 : Wp c3 fn nt tm (.code c8_49 :: k) ds rnd h Q = WpS c3 fn nt r8_49 false [⟨(some 76), .binOp .lss 3 (.tmp 75) (.tmp 74) 3, (opN r8_49 0).type, (opN r8_49 0).pos, (opN r8_49 0).after, none⟩] tm k ds rnd h Q := by rw [e8_49, Fal.wp_region, l8_49]
noncomputable def c8_50 : Code := cB c8_48
noncomputable def c8_51 : Code := cA c8_50
noncomputable def c8_52 : Code := cA c8_51
theorem e8_52 : c8_52 = .skip := by kernel_rfl
theorem w8_52 : Wp c3 fn nt tm (.code c8_52 :: k) ds rnd h Q = Wp c3 fn nt tm k ds rnd h Q := by rw [e8_52, Fal.wp_skip]
noncomputable def c8_53 : Code := cB c8_51
theorem e8_53 : c8_53 = .exit 2 := by kernel_rfl
theorem w8_53 : Wp c3 fn nt tm (.code c8_53 :: k) ds rnd h Q = Wp c3 fn nt tm (.code (.exit 2) :: k) ds rnd h Q := by rw [e8_53]
theorem e8_51 : c8_51 = .cond (.tmp 76) c8_52 c8_53 := by kernel_rfl
theorem w8_51 : Wp c3 fn nt tm (.code c8_51 :: k) ds rnd h Q = bo (ev c3.ng tm (.tmp 76)) fun v => vB v fun t => if t = true then Wp c3 fn nt tm (.code c8_52 :: k) ds rnd h Q else Wp c3 fn nt tm (.code c8_53 :: k) ds rnd h Q := by rw [e8_51, Fal.wp_cond]
noncomputable def c8_54 : Code := cB c8_50
noncomputable def c8_55 : Code := cA c8_54
noncomputable def c8_56 : Code := cA c8_55
noncomputable def c8_57 : Code := cA c8_56
noncomputable def r8_57 : Array Oper := cOps c8_57
theorem e8_57 : c8_57 = .region 16 r8_57 false := by kernel_rfl
theorem l8_57 : r8_57.toList = [⟨(some 77), .move (.tmp 75), (opN r8_57 0).type, (opN r8_57 0).pos, (opN r8_57 0).after, none⟩, ⟨(some 18), .assign (.tmp 77), (opN r8_57 1).type, (opN r8_57 1).pos, (opN r8_57 1).after, none⟩] := by kernel_rfl
theorem w8_57 : Wp c3 fn nt tm (.code c8_57 :: k) ds rnd h Q = WpS c3 fn nt r8_57 false [⟨(some 77), .move (.tmp 75), (opN r8_57 0).type, (opN r8_57 0).pos, (opN r8_57 0).after, none⟩, ⟨(some 18), .assign (.tmp 77), (opN r8_57 1).type, (opN r8_57 1).pos, (opN r8_57 1).after, none⟩] tm k ds rnd h Q := by rw [e8_57, Fal.wp_region, l8_57]
noncomputable def c8_58 : Code := cB c8_56
noncomputable def c8_59 : Code := cA c8_58
noncomputable def r8_59 : Array Oper := cOps c8_59
theorem e8_59 : c8_59 = .region 17 r8_59 true := by kernel_rfl
theorem l8_59 : r8_59.toList = [⟨(some 78), .move (.tmp 17), (opN r8_59 0).type, (opN r8_59 0).pos, (opN r8_59 0).after, none⟩, ⟨(some 79), .move (.tmp 18), (opN r8_59 1).type, (opN r8_59 1).pos, (opN r8_59 1).after, none⟩, ⟨(some 80), .indexAddr 67 (.tmp 78) (.tmp 79), (opN r8_59 2).type, (opN r8_59 2).pos, (opN r8_59 2).after, none⟩, ⟨(some 81), .load 3 (.tmp 80), (opN r8_59 3).type, (opN r8_59 3).pos, (opN r8_59 3).after, none⟩, ⟨(some 82), .move (.tmp 14), (opN r8_59 4).type, (opN r8_59 4).pos, (opN r8_59 4).after, none⟩, ⟨(some 83), .move (.tmp 18), (opN r8_59 5).type, (opN r8_59 5).pos, (opN r8_59 5).after, none⟩, ⟨(some 84), .indexAddr 67 (.tmp 82) (.tmp 83), (opN r8_59 6).type, (opN r8_59 6).pos, (opN r8_59 6).after, none⟩, ⟨(some 85), .load 3 (.tmp 84), (opN r8_59 7).type, (opN r8_59 7).pos, (opN r8_59 7).after, none⟩, ⟨(some 86), .binOp .neq 3 (.tmp 81) (.tmp 85) 3, (opN r8_59 8).type, (opN r8_59 8).pos, (opN r8_59 8).after, none⟩] := by kernel_rfl
theorem d8_59 : drawOk Tryz.prog r8_59 = true := by kernel_rfl
theorem n8_59 : noE Tryz.prog r8_59 = true := by kernel_rfl
theorem w8_59 (hw : WpS c3 fn nt r8_59 true [⟨(some 78), .move (.tmp 17), (opN r8_59 0).type, (opN r8_59 0).pos, (opN r8_59 0).after, none⟩, ⟨(some 79), .move (.tmp 18), (opN r8_59 1).type, (opN r8_59 1).pos, (opN r8_59 1).after, none⟩, ⟨(some 80), .indexAddr 67 (.tmp 78) (.tmp 79), (opN r8_59 2).type, (opN r8_59 2).pos, (opN r8_59 2).after, none⟩, ⟨(some 81), .load 3 (.tmp 80), (opN r8_59 3).type, (opN r8_59 3).pos, (opN r8_59 3).after, none⟩, ⟨(some 82), .move (.tmp 14), (opN r8_59 4).type, (opN r8_59 4).pos, (opN r8_59 4).after, none⟩, ⟨(some 83), .move (.tmp 18), (opN r8_59 5).type, (opN r8_59 5).pos, (opN r8_59 5).after, none⟩, ⟨(some 84), .indexAddr 67 (.tmp 82) (.tmp 83), (opN r8_59 6).type, (opN r8_59 6).pos, (opN r8_59 6).after, none⟩, ⟨(some 85), .load 3 (.tmp 84), (opN r8_59 7).type, (opN r8_59 7).pos, (opN r8_59 7).after, none⟩, ⟨(some 86), .binOp .neq 3 (.tmp 81) (.tmp 85) 3, (opN r8_59 8).type, (opN r8_59 8).pos, (opN r8_59 8).after, none⟩] tm k ds rnd h Q) : Wp c3 fn nt tm (.code c8_59 :: k) ds rnd h Q := by rw [e8_59]; exact Fal.wp_regionD 17 d8_59 n8_59 (by rw [l8_59]; exact hw)
noncomputable def c8_60 : Code := cB c8_58
noncomputable def c8_61 : Code := cA c8_60
noncomputable def c8_62 : Code := cA c8_61
noncomputable def r8_62 : Array Oper := cOps c8_62
theorem e8_62 : c8_62 = .region 18 r8_62 false := by kernel_rfl
theorem l8_62 : r8_62.toList = [⟨(some 12), .assign (.const (.bool false)), (opN r8_62 0).type, (opN r8_62 0).pos, (opN r8_62 0).after, none⟩] := by kernel_rfl
theorem w8_62 : Wp c3 fn nt tm (.code c8_62 :: k) ds rnd h Q = WpS c3 fn nt r8_62 false [⟨(some 12), .assign (.const (.bool false)), (opN r8_62 0).type, (opN r8_62 0).pos, (opN r8_62 0).after, none⟩] tm k ds rnd h Q := by rw [e8_62, Fal.wp_region, l8_62]
noncomputable def c8_63 : Code := cB c8_61
theorem e8_63 : c8_63 = .ret := by kernel_rfl
theorem w8_63 : Wp c3 fn nt tm (.code c8_63 :: k) ds rnd h Q = Wp c3 fn nt tm (.code .ret :: k) ds rnd h Q := by rw [e8_63]
theorem e8_61 : c8_61 = .seq c8_62 c8_63 := by kernel_rfl
theorem w8_61 : Wp c3 fn nt tm (.code c8_61 :: k) ds rnd h Q = Wp c3 fn nt tm (.code c8_62 :: .code c8_63 :: k) ds rnd h Q := by rw [e8_61, Fal.wp_seq]
noncomputable def c8_64 : Code := cB c8_60
theorem e8_64 : c8_64 = .skip := by kernel_rfl
theorem w8_64 : Wp c3 fn nt tm (.code c8_64 :: k) ds rnd h Q = Wp c3 fn nt tm k ds rnd h Q := by rw [e8_64, Fal.wp_skip]
theorem e8_60 : c8_60 = .cond (.tmp 86) c8_61 c8_64 := by kernel_rfl
theorem w8_60 : Wp c3 fn nt tm (.code c8_60 :: k) ds rnd h Q = bo (ev c3.ng tm (.tmp 86)) fun v => vB v fun t => if t = true then Wp c3 fn nt tm (.code c8_61 :: k) ds rnd h Q else Wp c3 fn nt tm (.code c8_64 :: k) ds rnd h Q := by rw [e8_60, Fal.wp_cond]
theorem e8_58 : c8_58 = .seq c8_59 c8_60 := by kernel_rfl
theorem w8_58 : Wp c3 fn nt tm (.code c8_58 :: k) ds rnd h Q = Wp c3 fn nt tm (.code c8_59 :: .code c8_60 :: k) ds rnd h Q := by rw [e8_58, Fal.wp_seq]
theorem e8_56 : c8_56 = .seq c8_57 c8_58 := by kernel_rfl
theorem w8_56 : Wp c3 fn nt tm (.code c8_56 :: k) ds rnd h Q = Wp c3 fn nt tm (.code c8_57 :: .code c8_58 :: k) ds rnd h Q := by rw [e8_56, Fal.wp_seq]
theorem e8_55 : c8_55 = .block 3 c8_56 := by kernel_rfl
theorem w8_55 : Wp c3 fn nt tm (.code c8_55 :: k) ds rnd h Q = Wp c3 fn nt tm (.code c8_56 :: .inBlock 3 :: k) ds rnd h Q := by rw [e8_55, Fal.wp_block]
noncomputable def c8_65 : Code := cB c8_54
noncomputable def r8_65 : Array Oper := cOps c8_65
theorem e8_65 : c8_65 = .region 19 r8_65 false := by kernel_rfl
theorem l8_65 : r8_65.toList = [⟨(some 87), .binOp .add 3 (.tmp 75) (.const (.int .i64 (1))) 3, (opN r8_65 0).type, (opN r8_65 0).pos, (opN r8_65 0).after, none⟩, ⟨(some 75), .move (.tmp 87), (opN r8_65 1).type, (opN r8_65 1).pos, (opN r8_65 1).after, none⟩] := by kernel_rfl
theorem w8_65 : Wp c3 fn nt tm (.code c8_65 :: k) ds rnd h Q = WpS c3 fn nt r8_65 false [⟨(some 87), .binOp .add 3 (.tmp 75) (.const (.int .i64 (1))) 3, (opN r8_65 0).type, (opN r8_65 0).pos, (opN r8_65 0).after, none⟩, ⟨(some 75), .move (.tmp 87), (opN r8_65 1).type, (opN r8_65 1).pos, (opN r8_65 1).after, none⟩] tm k ds rnd h Q := by rw [e8_65, Fal.wp_region, l8_65]
theorem e8_54 : c8_54 = .seq c8_55 c8_65 := by kernel_rfl
theorem w8_54 : Wp c3 fn nt tm (.code c8_54 :: k) ds rnd h Q = Wp c3 fn nt tm (.code c8_55 :: .code c8_65 :: k) ds rnd h Q := by rw [e8_54, Fal.wp_seq]
theorem e8_50 : c8_50 = .seq c8_51 c8_54 := by kernel_rfl
theorem w8_50 : Wp c3 fn nt tm (.code c8_50 :: k) ds rnd h Q = Wp c3 fn nt tm (.code c8_51 :: .code c8_54 :: k) ds rnd h Q := by rw [e8_50, Fal.wp_seq]
theorem e8_48 : c8_48 = .seq c8_49 c8_50 := by kernel_rfl
theorem w8_48 : Wp c3 fn nt tm (.code c8_48 :: k) ds rnd h Q = Wp c3 fn nt tm (.code c8_49 :: .code c8_50 :: k) ds rnd h Q := by rw [e8_48, Fal.wp_seq]
theorem e8_47 : c8_47 = .loop c8_48 := by kernel_rfl
theorem w8_47 : Wp c3 fn nt tm (.code c8_47 :: k) ds rnd h Q = Wp c3 fn nt tm (.code c8_48 :: .inLoop c8_48 :: k) ds rnd h Q := by rw [e8_47, Fal.wp_loop]
theorem e8_46 : c8_46 = .block 2 c8_47 := by kernel_rfl
theorem w8_46 : Wp c3 fn nt tm (.code c8_46 :: k) ds rnd h Q = Wp c3 fn nt tm (.code c8_47 :: .inBlock 2 :: k) ds rnd h Q := by rw [e8_46, Fal.wp_block]
theorem e8_44 : c8_44 = .seq c8_45 c8_46 := by kernel_rfl
theorem w8_44 : Wp c3 fn nt tm (.code c8_44 :: k) ds rnd h Q = Wp c3 fn nt tm (.code c8_45 :: .code c8_46 :: k) ds rnd h Q := by rw [e8_44, Fal.wp_seq]
noncomputable def c8_66 : Code := cB c8_43
noncomputable def c8_67 : Code := cA c8_66
noncomputable def r8_67 : Array Oper := cOps c8_67
theorem e8_67 : c8_67 = .region 20 r8_67 false := by kernel_rfl
theorem l8_67 : r8_67.toList = [⟨(some 89), .buildSlice 67 0 #[], (opN r8_67 0).type, (opN r8_67 0).pos, (opN r8_67 0).after, none⟩, ⟨(some 90), .move (.tmp 14), (opN r8_67 1).type, (opN r8_67 1).pos, (opN r8_67 1).after, none⟩, ⟨(some 91), .call ⟨.builtin .append, #[(.tmp 89), (.tmp 90)], #[67, 67]⟩, (opN r8_67 2).type, (opN r8_67 2).pos, (opN r8_67 2).after, none⟩, ⟨(some 92), .move (.tmp 2), (opN r8_67 3).type, (opN r8_67 3).pos, (opN r8_67 3).after, none⟩, ⟨(some 93), .call ⟨.value (.func 94), #[(.tmp 91), (.tmp 92)], #[67, 5]⟩, (opN r8_67 4).type, (opN r8_67 4).pos, (opN r8_67 4).after, none⟩, ⟨(some 88), .move (.tmp 93), (opN r8_67 5).type, (opN r8_67 5).pos, (opN r8_67 5).after, none⟩, ⟨(some 94), .extract (.tmp 88) 0, (opN r8_67 6).type, (opN r8_67 6).pos, (opN r8_67 6).after, none⟩, ⟨(some 95), .extract (.tmp 88) 1, (opN r8_67 7).type, (opN r8_67 7).pos, (opN r8_67 7).after, none⟩, ⟨(some 19), .assign (.tmp 94), (opN r8_67 8).type, (opN r8_67 8).pos, (opN r8_67 8).after, none⟩, ⟨(some 20), .assign (.tmp 95), (opN r8_67 9).type, (opN r8_67 9).pos, (opN r8_67 9).after, none⟩] := by kernel_rfl
theorem w8_67 : Wp c3 fn nt tm (.code c8_67 :: k) ds rnd h Q = WpS c3 fn nt r8_67 false [⟨(some 89), .buildSlice 67 0 #[], (opN r8_67 0).type, (opN r8_67 0).pos, (opN r8_67 0).after, none⟩, ⟨(some 90), .move (.tmp 14), (opN r8_67 1).type, (opN r8_67 1).pos, (opN r8_67 1).after, none⟩, ⟨(some 91), .call ⟨.builtin .append, #[(.tmp 89), (.tmp 90)], #[67, 67]⟩, (opN r8_67 2).type, (opN r8_67 2).pos, (opN r8_67 2).after, none⟩, ⟨(some 92), .move (.tmp 2), (opN r8_67 3).type, (opN r8_67 3).pos, (opN r8_67 3).after, none⟩, ⟨(some 93), .call ⟨.value (.func 94), #[(.tmp 91), (.tmp 92)], #[67, 5]⟩, (opN r8_67 4).type, (opN r8_67 4).pos, (opN r8_67 4).after, none⟩, ⟨(some 88), .move (.tmp 93), (opN r8_67 5).type, (opN r8_67 5).pos, (opN r8_67 5).after, none⟩, ⟨(some 94), .extract (.tmp 88) 0, (opN r8_67 6).type, (opN r8_67 6).pos, (opN r8_67 6).after, none⟩, ⟨(some 95), .extract (.tmp 88) 1, (opN r8_67 7).type, (opN r8_67 7).pos, (opN r8_67 7).after, none⟩, ⟨(some 19), .assign (.tmp 94), (opN r8_67 8).type, (opN r8_67 8).pos, (opN r8_67 8).after, none⟩, ⟨(some 20), .assign (.tmp 95), (opN r8_67 9).type, (opN r8_67 9).pos, (opN r8_67 9).after, none⟩] tm k ds rnd h Q := by rw [e8_67, Fal.wp_region, l8_67]
noncomputable def c8_68 : Code := cB c8_66
noncomputable def c8_69 : Code := cA c8_68
noncomputable def c8_70 : Code := cA c8_69
noncomputable def r8_70 : Array Oper := cOps c8_70
theorem e8_70 : c8_70 = .region 21 r8_70 false := by kernel_rfl
theorem l8_70 : r8_70.toList = [⟨(some 96), .move (.tmp 14), (opN r8_70 0).type, (opN r8_70 0).pos, (opN r8_70 0).after, none⟩, ⟨(some 97), .call ⟨.builtin .len, #[(.tmp 96)], #[67]⟩, (opN r8_70 1).type, (opN r8_70 1).pos, (opN r8_70 1).after, none⟩, ⟨(some 98), .binOp .eql 3 (.tmp 97) (.const (.int .i64 (0))) 3, (opN r8_70 2).type, (opN r8_70 2).pos, (opN r8_70 2).after, none⟩] := by kernel_rfl
theorem w8_70 : Wp c3 fn nt tm (.code c8_70 :: k) ds rnd h Q = WpS c3 fn nt r8_70 false [⟨(some 96), .move (.tmp 14), (opN r8_70 0).type, (opN r8_70 0).pos, (opN r8_70 0).after, none⟩, ⟨(some 97), .call ⟨.builtin .len, #[(.tmp 96)], #[67]⟩, (opN r8_70 1).type, (opN r8_70 1).pos, (opN r8_70 1).after, none⟩, ⟨(some 98), .binOp .eql 3 (.tmp 97) (.const (.int .i64 (0))) 3, (opN r8_70 2).type, (opN r8_70 2).pos, (opN r8_70 2).after, none⟩] tm k ds rnd h Q := by rw [e8_70, Fal.wp_region, l8_70]
noncomputable def c8_71 : Code := cB c8_69
noncomputable def c8_72 : Code := cA c8_71
noncomputable def c8_73 : Code := cA c8_72
noncomputable def r8_73 : Array Oper := cOps c8_73
theorem e8_73 : c8_73 = .region 22 r8_73 false := by kernel_rfl
theorem l8_73 : r8_73.toList = [⟨(some 99), .move (.tmp 20), (opN r8_73 0).type, (opN r8_73 0).pos, (opN r8_73 0).after, none⟩, ⟨(some 100), .binOp .neq 50 (.tmp 99) (.const (.int .i64 (14))) 50, (opN r8_73 1).type, (opN r8_73 1).pos, (opN r8_73 1).after, none⟩] := by kernel_rfl
theorem w8_73 : Wp c3 fn nt tm (.code c8_73 :: k) ds rnd h Q = WpS c3 fn nt r8_73 false [⟨(some 99), .move (.tmp 20), (opN r8_73 0).type, (opN r8_73 0).pos, (opN r8_73 0).after, none⟩, ⟨(some 100), .binOp .neq 50 (.tmp 99) (.const (.int .i64 (14))) 50, (opN r8_73 1).type, (opN r8_73 1).pos, (opN r8_73 1).after, none⟩] tm k ds rnd h Q := by rw [e8_73, Fal.wp_region, l8_73]
noncomputable def c8_74 : Code := cB c8_72
noncomputable def c8_75 : Code := cA c8_74
noncomputable def c8_76 : Code := cA c8_75
noncomputable def r8_76 : Array Oper := cOps c8_76
theorem e8_76 : c8_76 = .region 23 r8_76 false := by kernel_rfl
theorem l8_76 : r8_76.toList = [⟨(some 12), .assign (.const (.bool false)), (opN r8_76 0).type, (opN r8_76 0).pos, (opN r8_76 0).after, none⟩] := by kernel_rfl
theorem w8_76 : Wp c3 fn nt tm (.code c8_76 :: k) ds rnd h Q = WpS c3 fn nt r8_76 false [⟨(some 12), .assign (.const (.bool false)), (opN r8_76 0).type, (opN r8_76 0).pos, (opN r8_76 0).after, none⟩] tm k ds rnd h Q := by rw [e8_76, Fal.wp_region, l8_76]
noncomputable def c8_77 : Code := cB c8_75
theorem e8_77 : c8_77 = .ret := by kernel_rfl
theorem w8_77 : Wp c3 fn nt tm (.code c8_77 :: k) ds rnd h Q = Wp c3 fn nt tm (.code .ret :: k) ds rnd h Q := by rw [e8_77]
theorem e8_75 : c8_75 = .seq c8_76 c8_77 := by kernel_rfl
theorem w8_75 : Wp c3 fn nt tm (.code c8_75 :: k) ds rnd h Q = Wp c3 fn nt tm (.code c8_76 :: .code c8_77 :: k) ds rnd h Q := by rw [e8_75, Fal.wp_seq]
noncomputable def c8_78 : Code := cB c8_74
theorem e8_78 : c8_78 = .skip := by kernel_rfl
theorem w8_78 : Wp c3 fn nt tm (.code c8_78 :: k) ds rnd h Q = Wp c3 fn nt tm k ds rnd h Q := by rw [e8_78, Fal.wp_skip]
theorem e8_74 : c8_74 = .cond (.tmp 100) c8_75 c8_78 := by kernel_rfl
theorem w8_74 : Wp c3 fn nt tm (.code c8_74 :: k) ds rnd h Q = bo (ev c3.ng tm (.tmp 100)) fun v => vB v fun t => if t = true then Wp c3 fn nt tm (.code c8_75 :: k) ds rnd h Q else Wp c3 fn nt tm (.code c8_78 :: k) ds rnd h Q := by rw [e8_74, Fal.wp_cond]
theorem e8_72 : c8_72 = .seq c8_73 c8_74 := by kernel_rfl
theorem w8_72 : Wp c3 fn nt tm (.code c8_72 :: k) ds rnd h Q = Wp c3 fn nt tm (.code c8_73 :: .code c8_74 :: k) ds rnd h Q := by rw [e8_72, Fal.wp_seq]
noncomputable def c8_79 : Code := cB c8_71
noncomputable def c8_80 : Code := cA c8_79
noncomputable def r8_80 : Array Oper := cOps c8_80
theorem e8_80 : c8_80 = .region 24 r8_80 false := by kernel_rfl
theorem l8_80 : r8_80.toList = [⟨(some 101), .move (.tmp 20), (opN r8_80 0).type, (opN r8_80 0).pos, (opN r8_80 0).after, none⟩, ⟨(some 102), .binOp .neq 50 (.tmp 101) (.const (.int .i64 (0))) 50, (opN r8_80 1).type, (opN r8_80 1).pos, (opN r8_80 1).after, none⟩, ⟨(some 103), .move (.tmp 102), (opN r8_80 2).type, (opN r8_80 2).pos, (opN r8_80 2).after, none⟩, ⟨(some 104), .move (.tmp 19), (opN r8_80 3).type, (opN r8_80 3).pos, (opN r8_80 3).after, (some (2, false))⟩, ⟨(some 105), .move (.tmp 14), (opN r8_80 4).type, (opN r8_80 4).pos, (opN r8_80 4).after, (some (2, false))⟩, ⟨(some 106), .move (.tmp 2), (opN r8_80 5).type, (opN r8_80 5).pos, (opN r8_80 5).after, (some (2, false))⟩, ⟨(some 107), .convert 5 3 (.tmp 106), (opN r8_80 6).type, (opN r8_80 6).pos, (opN r8_80 6).after, (some (2, false))⟩, ⟨(some 108), .move (.tmp 14), (opN r8_80 7).type, (opN r8_80 7).pos, (opN r8_80 7).after, (some (2, false))⟩, ⟨(some 109), .call ⟨.builtin .len, #[(.tmp 108)], #[67]⟩, (opN r8_80 8).type, (opN r8_80 8).pos, (opN r8_80 8).after, (some (2, false))⟩, ⟨(some 110), .binOp .rem 3 (.tmp 107) (.tmp 109) 3, (opN r8_80 9).type, (opN r8_80 9).pos, (opN r8_80 9).after, (some (2, false))⟩, ⟨(some 111), .indexAddr 67 (.tmp 105) (.tmp 110), (opN r8_80 10).type, (opN r8_80 10).pos, (opN r8_80 10).after, (some (2, false))⟩, ⟨(some 112), .load 3 (.tmp 111), (opN r8_80 11).type, (opN r8_80 11).pos, (opN r8_80 11).after, (some (2, false))⟩, ⟨(some 113), .binOp .neq 3 (.tmp 104) (.tmp 112) 3, (opN r8_80 12).type, (opN r8_80 12).pos, (opN r8_80 12).after, (some (2, false))⟩, ⟨(some 114), .pick (.tmp 103) (.const (.bool true)) (.tmp 113), (opN r8_80 13).type, (opN r8_80 13).pos, (opN r8_80 13).after, none⟩] := by kernel_rfl
theorem g8_80_2 : gTmp r8_80 2 = some 103 := by kernel_rfl
theorem w8_80 : Wp c3 fn nt tm (.code c8_80 :: k) ds rnd h Q = WpS c3 fn nt r8_80 false [⟨(some 101), .move (.tmp 20), (opN r8_80 0).type, (opN r8_80 0).pos, (opN r8_80 0).after, none⟩, ⟨(some 102), .binOp .neq 50 (.tmp 101) (.const (.int .i64 (0))) 50, (opN r8_80 1).type, (opN r8_80 1).pos, (opN r8_80 1).after, none⟩, ⟨(some 103), .move (.tmp 102), (opN r8_80 2).type, (opN r8_80 2).pos, (opN r8_80 2).after, none⟩, ⟨(some 104), .move (.tmp 19), (opN r8_80 3).type, (opN r8_80 3).pos, (opN r8_80 3).after, (some (2, false))⟩, ⟨(some 105), .move (.tmp 14), (opN r8_80 4).type, (opN r8_80 4).pos, (opN r8_80 4).after, (some (2, false))⟩, ⟨(some 106), .move (.tmp 2), (opN r8_80 5).type, (opN r8_80 5).pos, (opN r8_80 5).after, (some (2, false))⟩, ⟨(some 107), .convert 5 3 (.tmp 106), (opN r8_80 6).type, (opN r8_80 6).pos, (opN r8_80 6).after, (some (2, false))⟩, ⟨(some 108), .move (.tmp 14), (opN r8_80 7).type, (opN r8_80 7).pos, (opN r8_80 7).after, (some (2, false))⟩, ⟨(some 109), .call ⟨.builtin .len, #[(.tmp 108)], #[67]⟩, (opN r8_80 8).type, (opN r8_80 8).pos, (opN r8_80 8).after, (some (2, false))⟩, ⟨(some 110), .binOp .rem 3 (.tmp 107) (.tmp 109) 3, (opN r8_80 9).type, (opN r8_80 9).pos, (opN r8_80 9).after, (some (2, false))⟩, ⟨(some 111), .indexAddr 67 (.tmp 105) (.tmp 110), (opN r8_80 10).type, (opN r8_80 10).pos, (opN r8_80 10).after, (some (2, false))⟩, ⟨(some 112), .load 3 (.tmp 111), (opN r8_80 11).type, (opN r8_80 11).pos, (opN r8_80 11).after, (some (2, false))⟩, ⟨(some 113), .binOp .neq 3 (.tmp 104) (.tmp 112) 3, (opN r8_80 12).type, (opN r8_80 12).pos, (opN r8_80 12).after, (some (2, false))⟩, ⟨(some 114), .pick (.tmp 103) (.const (.bool true)) (.tmp 113), (opN r8_80 13).type, (opN r8_80 13).pos, (opN r8_80 13).after, none⟩] tm k ds rnd h Q := by rw [e8_80, Fal.wp_region, l8_80]
noncomputable def c8_81 : Code := cB c8_79
noncomputable def c8_82 : Code := cA c8_81
noncomputable def c8_83 : Code := cA c8_82
noncomputable def r8_83 : Array Oper := cOps c8_83
theorem e8_83 : c8_83 = .region 25 r8_83 false := by kernel_rfl
theorem l8_83 : r8_83.toList = [⟨(some 12), .assign (.const (.bool false)), (opN r8_83 0).type, (opN r8_83 0).pos, (opN r8_83 0).after, none⟩] := by kernel_rfl
theorem w8_83 : Wp c3 fn nt tm (.code c8_83 :: k) ds rnd h Q = WpS c3 fn nt r8_83 false [⟨(some 12), .assign (.const (.bool false)), (opN r8_83 0).type, (opN r8_83 0).pos, (opN r8_83 0).after, none⟩] tm k ds rnd h Q := by rw [e8_83, Fal.wp_region, l8_83]
noncomputable def c8_84 : Code := cB c8_82
theorem e8_84 : c8_84 = .ret := by kernel_rfl
theorem w8_84 : Wp c3 fn nt tm (.code c8_84 :: k) ds rnd h Q = Wp c3 fn nt tm (.code .ret :: k) ds rnd h Q := by rw [e8_84]
theorem e8_82 : c8_82 = .seq c8_83 c8_84 := by kernel_rfl
theorem w8_82 : Wp c3 fn nt tm (.code c8_82 :: k) ds rnd h Q = Wp c3 fn nt tm (.code c8_83 :: .code c8_84 :: k) ds rnd h Q := by rw [e8_82, Fal.wp_seq]
noncomputable def c8_85 : Code := cB c8_81
theorem e8_85 : c8_85 = .skip := by kernel_rfl
theorem w8_85 : Wp c3 fn nt tm (.code c8_85 :: k) ds rnd h Q = Wp c3 fn nt tm k ds rnd h Q := by rw [e8_85, Fal.wp_skip]
theorem e8_81 : c8_81 = .cond (.tmp 114) c8_82 c8_85 := by kernel_rfl
theorem w8_81 : Wp c3 fn nt tm (.code c8_81 :: k) ds rnd h Q = bo (ev c3.ng tm (.tmp 114)) fun v => vB v fun t => if t = true then Wp c3 fn nt tm (.code c8_82 :: k) ds rnd h Q else Wp c3 fn nt tm (.code c8_85 :: k) ds rnd h Q := by rw [e8_81, Fal.wp_cond]
theorem e8_79 : c8_79 = .seq c8_80 c8_81 := by kernel_rfl
theorem w8_79 : Wp c3 fn nt tm (.code c8_79 :: k) ds rnd h Q = Wp c3 fn nt tm (.code c8_80 :: .code c8_81 :: k) ds rnd h Q := by rw [e8_79, Fal.wp_seq]
theorem e8_71 : c8_71 = .cond (.tmp 98) c8_72 c8_79 := by kernel_rfl
theorem w8_71 : Wp c3 fn nt tm (.code c8_71 :: k) ds rnd h Q = bo (ev c3.ng tm (.tmp 98)) fun v => vB v fun t => if t = true then Wp c3 fn nt tm (.code c8_72 :: k) ds rnd h Q else Wp c3 fn nt tm (.code c8_79 :: k) ds rnd h Q := by rw [e8_71, Fal.wp_cond]
theorem e8_69 : c8_69 = .seq c8_70 c8_71 := by kernel_rfl
theorem w8_69 : Wp c3 fn nt tm (.code c8_69 :: k) ds rnd h Q = Wp c3 fn nt tm (.code c8_70 :: .code c8_71 :: k) ds rnd h Q := by rw [e8_69, Fal.wp_seq]
noncomputable def c8_86 : Code := cB c8_68
noncomputable def c8_87 : Code := cA c8_86
noncomputable def r8_87 : Array Oper := cOps c8_87
theorem e8_87 : c8_87 = .region 26 r8_87 false := by kernel_rfl
theorem l8_87 : r8_87.toList = [⟨(some 21), .assign (.const (.slice none 0 0)), (opN r8_87 0).type, (opN r8_87 0).pos, (opN r8_87 0).after, none⟩] := by kernel_rfl
theorem w8_87 : Wp c3 fn nt tm (.code c8_87 :: k) ds rnd h Q = WpS c3 fn nt r8_87 false [⟨(some 21), .assign (.const (.slice none 0 0)), (opN r8_87 0).type, (opN r8_87 0).pos, (opN r8_87 0).after, none⟩] tm k ds rnd h Q := by rw [e8_87, Fal.wp_region, l8_87]
noncomputable def c8_88 : Code := cB c8_86
noncomputable def c8_89 : Code := cA c8_88
noncomputable def c8_90 : Code := cA c8_89
noncomputable def r8_90 : Array Oper := cOps c8_90
theorem e8_90 : c8_90 = .region 27 r8_90 false := by kernel_rfl
theorem l8_90 : r8_90.toList = [⟨(some 115), .move (.tmp 3), (opN r8_90 0).type, (opN r8_90 0).pos, (opN r8_90 0).after, none⟩, ⟨(some 116), .move (.tmp 3), (opN r8_90 1).type, (opN r8_90 1).pos, (opN r8_90 1).after, none⟩, ⟨(some 117), .call ⟨.builtin .len, #[(.tmp 116)], #[46]⟩, (opN r8_90 2).type, (opN r8_90 2).pos, (opN r8_90 2).after, none⟩, ⟨(some 118), .call ⟨.builtin .min, #[(.tmp 117), (.const (.int .i64 (40)))], #[3, 3]⟩, (opN r8_90 3).type, (opN r8_90 3).pos, (opN r8_90 3).after, none⟩, ⟨(some 119), .slice 46 (.tmp 115) none (some (.tmp 118)) none, (opN r8_90 4).type, (opN r8_90 4).pos, (opN r8_90 4).after, none⟩, ⟨(some 120), .call ⟨.builtin .len, #[(.tmp 119)], #[46]⟩, (opN r8_90 5).type, (opN r8_90 5).pos, (opN r8_90 5).after, none⟩, ⟨(some 121), .move (.const (.int .i64 (0))), (opN r8_90 6).type, (opN r8_90 6).pos, (opN r8_90 6).after, none⟩] := by kernel_rfl
theorem w8_90 : Wp c3 fn nt tm (.code c8_90 :: k) ds rnd h Q = WpS c3 fn nt r8_90 false [⟨(some 115), .move (.tmp 3), (opN r8_90 0).type, (opN r8_90 0).pos, (opN r8_90 0).after, none⟩, ⟨(some 116), .move (.tmp 3), (opN r8_90 1).type, (opN r8_90 1).pos, (opN r8_90 1).after, none⟩, ⟨(some 117), .call ⟨.builtin .len, #[(.tmp 116)], #[46]⟩, (opN r8_90 2).type, (opN r8_90 2).pos, (opN r8_90 2).after, none⟩, ⟨(some 118), .call ⟨.builtin .min, #[(.tmp 117), (.const (.int .i64 (40)))], #[3, 3]⟩, (opN r8_90 3).type, (opN r8_90 3).pos, (opN r8_90 3).after, none⟩, ⟨(some 119), .slice 46 (.tmp 115) none (some (.tmp 118)) none, (opN r8_90 4).type, (opN r8_90 4).pos, (opN r8_90 4).after, none⟩, ⟨(some 120), .call ⟨.builtin .len, #[(.tmp 119)], #[46]⟩, (opN r8_90 5).type, (opN r8_90 5).pos, (opN r8_90 5).after, none⟩, ⟨(some 121), .move (.const (.int .i64 (0))), (opN r8_90 6).type, (opN r8_90 6).pos, (opN r8_90 6).after, none⟩] tm k ds rnd h Q := by rw [e8_90, Fal.wp_region, l8_90]
noncomputable def c8_91 : Code := cB c8_89
noncomputable def c8_92 : Code := cA c8_91
noncomputable def c8_93 : Code := cA c8_92
noncomputable def c8_94 : Code := cA c8_93
noncomputable def r8_94 : Array Oper := cOps c8_94
theorem e8_94 : c8_94 = .region 28 r8_94 false := by kernel_rfl
theorem l8_94 : r8_94.toList = [⟨(some 122), .binOp .lss 3 (.tmp 121) (.tmp 120) 3, (opN r8_94 0).type, (opN r8_94 0).pos, (opN r8_94 0).after, none⟩] := by kernel_rfl
theorem w8_94 : Wp c3 fn nt tm (.code c8_94 :: k) ds rnd h Q = WpS c3 fn nt r8_94 false [⟨(some 122), .binOp .lss 3 (.tmp 121) (.tmp 120) 3, (opN r8_94 0).type, (opN r8_94 0).pos, (opN r8_94 0).after, none⟩] tm k ds rnd h Q := by rw [e8_94, Fal.wp_region, l8_94]
noncomputable def c8_95 : Code := cB c8_93
noncomputable def c8_96 : Code := cA c8_95
noncomputable def c8_97 : Code := cA c8_96
theorem e8_97 : c8_97 = .skip := by kernel_rfl
theorem w8_97 : Wp c3 fn nt tm (.code c8_97 :: k) ds rnd h Q = Wp c3 fn nt tm k ds rnd h Q := by rw [e8_97, Fal.wp_skip]
noncomputable def c8_98 : Code := cB c8_96
theorem e8_98 : c8_98 = .exit 4 := by kernel_rfl
theorem w8_98 : Wp c3 fn nt tm (.code c8_98 :: k) ds rnd h Q = Wp c3 fn nt tm (.code (.exit 4) :: k) ds rnd h Q := by rw [e8_98]
theorem e8_96 : c8_96 = .cond (.tmp 122) c8_97 c8_98 := by kernel_rfl
theorem w8_96 : Wp c3 fn nt tm (.code c8_96 :: k) ds rnd h Q = bo (ev c3.ng tm (.tmp 122)) fun v => vB v fun t => if t = true then Wp c3 fn nt tm (.code c8_97 :: k) ds rnd h Q else Wp c3 fn nt tm (.code c8_98 :: k) ds rnd h Q := by rw [e8_96, Fal.wp_cond]
noncomputable def c8_99 : Code := cB c8_95
noncomputable def c8_100 : Code := cA c8_99
noncomputable def c8_101 : Code := cA c8_100
noncomputable def c8_102 : Code := cA c8_101
noncomputable def r8_102 : Array Oper := cOps c8_102
theorem e8_102 : c8_102 = .region 29 r8_102 false := by kernel_rfl
theorem l8_102 : r8_102.toList = [⟨(some 123), .indexAddr 46 (.tmp 119) (.tmp 121), (opN r8_102 0).type, (opN r8_102 0).pos, (opN r8_102 0).after, none⟩, ⟨(some 124), .load 5 (.tmp 123), (opN r8_102 1).type, (opN r8_102 1).pos, (opN r8_102 1).after, none⟩, ⟨(some 23), .assign (.tmp 124), (opN r8_102 2).type, (opN r8_102 2).pos, (opN r8_102 2).after, none⟩] := by kernel_rfl
theorem w8_102 : Wp c3 fn nt tm (.code c8_102 :: k) ds rnd h Q = WpS c3 fn nt r8_102 false [⟨(some 123), .indexAddr 46 (.tmp 119) (.tmp 121), (opN r8_102 0).type, (opN r8_102 0).pos, (opN r8_102 0).after, none⟩, ⟨(some 124), .load 5 (.tmp 123), (opN r8_102 1).type, (opN r8_102 1).pos, (opN r8_102 1).after, none⟩, ⟨(some 23), .assign (.tmp 124), (opN r8_102 2).type, (opN r8_102 2).pos, (opN r8_102 2).after, none⟩] tm k ds rnd h Q := by rw [e8_102, Fal.wp_region, l8_102]
noncomputable def c8_103 : Code := cB c8_101
noncomputable def r8_103 : Array Oper := cOps c8_103
theorem e8_103 : c8_103 = .region 30 r8_103 false := by kernel_rfl
theorem l8_103 : r8_103.toList = [⟨(some 125), .move (.tmp 21), (opN r8_103 0).type, (opN r8_103 0).pos, (opN r8_103 0).after, none⟩, ⟨(some 126), .move (.tmp 23), (opN r8_103 1).type, (opN r8_103 1).pos, (opN r8_103 1).after, none⟩, ⟨(some 127), .binOp .rem 5 (.tmp 126) (.const (.int .u8 (5))) 5, (opN r8_103 2).type, (opN r8_103 2).pos, (opN r8_103 2).after, none⟩, ⟨(some 128), .convert 5 3 (.tmp 127), (opN r8_103 3).type, (opN r8_103 3).pos, (opN r8_103 3).after, none⟩, ⟨(some 129), .buildSlice 67 1 #[(0, (.tmp 128))], (opN r8_103 4).type, (opN r8_103 4).pos, (opN r8_103 4).after, none⟩, ⟨(some 130), .call ⟨.builtin .append, #[(.tmp 125), (.tmp 129)], #[67, 67]⟩, (opN r8_103 5).type, (opN r8_103 5).pos, (opN r8_103 5).after, none⟩, ⟨(some 21), .assign (.tmp 130), (opN r8_103 6).type, (opN r8_103 6).pos, (opN r8_103 6).after, none⟩] := by kernel_rfl
theorem w8_103 : Wp c3 fn nt tm (.code c8_103 :: k) ds rnd h Q = WpS c3 fn nt r8_103 false [⟨(some 125), .move (.tmp 21), (opN r8_103 0).type, (opN r8_103 0).pos, (opN r8_103 0).after, none⟩, ⟨(some 126), .move (.tmp 23), (opN r8_103 1).type, (opN r8_103 1).pos, (opN r8_103 1).after, none⟩, ⟨(some 127), .binOp .rem 5 (.tmp 126) (.const (.int .u8 (5))) 5, (opN r8_103 2).type, (opN r8_103 2).pos, (opN r8_103 2).after, none⟩, ⟨(some 128), .convert 5 3 (.tmp 127), (opN r8_103 3).type, (opN r8_103 3).pos, (opN r8_103 3).after, none⟩, ⟨(some 129), .buildSlice 67 1 #[(0, (.tmp 128))], (opN r8_103 4).type, (opN r8_103 4).pos, (opN r8_103 4).after, none⟩, ⟨(some 130), .call ⟨.builtin .append, #[(.tmp 125), (.tmp 129)], #[67, 67]⟩, (opN r8_103 5).type, (opN r8_103 5).pos, (opN r8_103 5).after, none⟩, ⟨(some 21), .assign (.tmp 130), (opN r8_103 6).type, (opN r8_103 6).pos, (opN r8_103 6).after, none⟩] tm k ds rnd h Q := by rw [e8_103, Fal.wp_region, l8_103]
theorem e8_101 : c8_101 = .seq c8_102 c8_103 := by kernel_rfl
theorem w8_101 : Wp c3 fn nt tm (.code c8_101 :: k) ds rnd h Q = Wp c3 fn nt tm (.code c8_102 :: .code c8_103 :: k) ds rnd h Q := by rw [e8_101, Fal.wp_seq]
theorem e8_100 : c8_100 = .block 5 c8_101 := by kernel_rfl
theorem w8_100 : Wp c3 fn nt tm (.code c8_100 :: k) ds rnd h Q = Wp c3 fn nt tm (.code c8_101 :: .inBlock 5 :: k) ds rnd h Q := by rw [e8_100, Fal.wp_block]
noncomputable def c8_104 : Code := cB c8_99
noncomputable def r8_104 : Array Oper := cOps c8_104
theorem e8_104 : c8_104 = .region 31 r8_104 false := by kernel_rfl
theorem l8_104 : r8_104.toList = [⟨(some 131), .binOp .add 3 (.tmp 121) (.const (.int .i64 (1))) 3, (opN r8_104 0).type, (opN r8_104 0).pos, (opN r8_104 0).after, none⟩, ⟨(some 121), .move (.tmp 131), (opN r8_104 1).type, (opN r8_104 1).pos, (opN r8_104 1).after, none⟩] := by kernel_rfl
theorem w8_104 : Wp c3 fn nt tm (.code c8_104 :: k) ds rnd h Q = WpS c3 fn nt r8_104 false [⟨(some 131), .binOp .add 3 (.tmp 121) (.const (.int .i64 (1))) 3, (opN r8_104 0).type, (opN r8_104 0).pos, (opN r8_104 0).after, none⟩, ⟨(some 121), .move (.tmp 131), (opN r8_104 1).type, (opN r8_104 1).pos, (opN r8_104 1).after, none⟩] tm k ds rnd h Q := by rw [e8_104, Fal.wp_region, l8_104]
theorem e8_99 : c8_99 = .seq c8_100 c8_104 := by kernel_rfl
theorem w8_99 : Wp c3 fn nt tm (.code c8_99 :: k) ds rnd h Q = Wp c3 fn nt tm (.code c8_100 :: .code c8_104 :: k) ds rnd h Q := by rw [e8_99, Fal.wp_seq]
theorem e8_95 : c8_95 = .seq c8_96 c8_99 := by kernel_rfl
theorem w8_95 : Wp c3 fn nt tm (.code c8_95 :: k) ds rnd h Q = Wp c3 fn nt tm (.code c8_96 :: .code c8_99 :: k) ds rnd h Q := by rw [e8_95, Fal.wp_seq]
theorem e8_93 : c8_93 = .seq c8_94 c8_95 := by kernel_rfl
theorem w8_93 : Wp c3 fn nt tm (.code c8_93 :: k) ds rnd h Q = Wp c3 fn nt tm (.code c8_94 :: .code c8_95 :: k) ds rnd h Q := by rw [e8_93, Fal.wp_seq]
theorem e8_92 : c8_92 = .loop c8_93 := by kernel_rfl
theorem w8_92 : Wp c3 fn nt tm (.code c8_92 :: k) ds rnd h Q = Wp c3 fn nt tm (.code c8_93 :: .inLoop c8_93 :: k) ds rnd h Q := by rw [e8_92, Fal.wp_loop]
theorem e8_91 : c8_91 = .block 4 c8_92 := by kernel_rfl
theorem w8_91 : Wp c3 fn nt tm (.code c8_91 :: k) ds rnd h Q = Wp c3 fn nt tm (.code c8_92 :: .inBlock 4 :: k) ds rnd h Q := by rw [e8_91, Fal.wp_block]
theorem e8_89 : c8_89 = .seq c8_90 c8_91 := by kernel_rfl
theorem w8_89 : Wp c3 fn nt tm (.code c8_89 :: k) ds rnd h Q = Wp c3 fn nt tm (.code c8_90 :: .code c8_91 :: k) ds rnd h Q := by rw [e8_89, Fal.wp_seq]
noncomputable def c8_105 : Code := cB c8_88
noncomputable def c8_106 : Code := cA c8_105
noncomputable def r8_106 : Array Oper := cOps c8_106
theorem e8_106 : c8_106 = .region 32 r8_106 false := by kernel_rfl
theorem l8_106 : r8_106.toList = [⟨(some 132), .move (.tmp 4), (opN r8_106 0).type, (opN r8_106 0).pos, (opN r8_106 0).after, none⟩, ⟨(some 133), .binOp .rem 5 (.tmp 132) (.const (.int .u8 (7))) 5, (opN r8_106 1).type, (opN r8_106 1).pos, (opN r8_106 1).after, none⟩, ⟨(some 134), .convert 5 3 (.tmp 133), (opN r8_106 2).type, (opN r8_106 2).pos, (opN r8_106 2).after, none⟩, ⟨(some 135), .binOp .sub 3 (.tmp 134) (.const (.int .i64 (1))) 3, (opN r8_106 3).type, (opN r8_106 3).pos, (opN r8_106 3).after, none⟩, ⟨(some 136), .move (.tmp 5), (opN r8_106 4).type, (opN r8_106 4).pos, (opN r8_106 4).after, none⟩, ⟨(some 137), .binOp .rem 5 (.tmp 136) (.const (.int .u8 (9))) 5, (opN r8_106 5).type, (opN r8_106 5).pos, (opN r8_106 5).after, none⟩, ⟨(some 138), .convert 5 3 (.tmp 137), (opN r8_106 6).type, (opN r8_106 6).pos, (opN r8_106 6).after, none⟩, ⟨(some 139), .binOp .sub 3 (.tmp 138) (.const (.int .i64 (1))) 3, (opN r8_106 7).type, (opN r8_106 7).pos, (opN r8_106 7).after, none⟩, ⟨(some 24), .assign (.tmp 135), (opN r8_106 8).type, (opN r8_106 8).pos, (opN r8_106 8).after, none⟩, ⟨(some 25), .assign (.tmp 139), (opN r8_106 9).type, (opN r8_106 9).pos, (opN r8_106 9).after, none⟩] := by kernel_rfl
theorem w8_106 : Wp c3 fn nt tm (.code c8_106 :: k) ds rnd h Q = WpS c3 fn nt r8_106 false [⟨(some 132), .move (.tmp 4), (opN r8_106 0).type, (opN r8_106 0).pos, (opN r8_106 0).after, none⟩, ⟨(some 133), .binOp .rem 5 (.tmp 132) (.const (.int .u8 (7))) 5, (opN r8_106 1).type, (opN r8_106 1).pos, (opN r8_106 1).after, none⟩, ⟨(some 134), .convert 5 3 (.tmp 133), (opN r8_106 2).type, (opN r8_106 2).pos, (opN r8_106 2).after, none⟩, ⟨(some 135), .binOp .sub 3 (.tmp 134) (.const (.int .i64 (1))) 3, (opN r8_106 3).type, (opN r8_106 3).pos, (opN r8_106 3).after, none⟩, ⟨(some 136), .move (.tmp 5), (opN r8_106 4).type, (opN r8_106 4).pos, (opN r8_106 4).after, none⟩, ⟨(some 137), .binOp .rem 5 (.tmp 136) (.const (.int .u8 (9))) 5, (opN r8_106 5).type, (opN r8_106 5).pos, (opN r8_106 5).after, none⟩, ⟨(some 138), .convert 5 3 (.tmp 137), (opN r8_106 6).type, (opN r8_106 6).pos, (opN r8_106 6).after, none⟩, ⟨(some 139), .binOp .sub 3 (.tmp 138) (.const (.int .i64 (1))) 3, (opN r8_106 7).type, (opN r8_106 7).pos, (opN r8_106 7).after, none⟩, ⟨(some 24), .assign (.tmp 135), (opN r8_106 8).type, (opN r8_106 8).pos, (opN r8_106 8).after, none⟩, ⟨(some 25), .assign (.tmp 139), (opN r8_106 9).type, (opN r8_106 9).pos, (opN r8_106 9).after, none⟩] tm k ds rnd h Q := by rw [e8_106, Fal.wp_region, l8_106]
noncomputable def c8_107 : Code := cB c8_105
noncomputable def c8_108 : Code := cA c8_107
noncomputable def r8_108 : Array Oper := cOps c8_108
theorem e8_108 : c8_108 = .region 33 r8_108 false := by kernel_rfl
theorem l8_108 : r8_108.toList = [⟨(some 140), .move (.tmp 24), (opN r8_108 0).type, (opN r8_108 0).pos, (opN r8_108 0).after, none⟩, ⟨(some 141), .binOp .geq 3 (.tmp 140) (.const (.int .i64 (0))) 3, (opN r8_108 1).type, (opN r8_108 1).pos, (opN r8_108 1).after, none⟩, ⟨(some 142), .move (.tmp 141), (opN r8_108 2).type, (opN r8_108 2).pos, (opN r8_108 2).after, none⟩, ⟨(some 143), .move (.tmp 25), (opN r8_108 3).type, (opN r8_108 3).pos, (opN r8_108 3).after, (some (2, true))⟩, ⟨(some 144), .binOp .geq 3 (.tmp 143) (.const (.int .i64 (1))) 3, (opN r8_108 4).type, (opN r8_108 4).pos, (opN r8_108 4).after, (some (2, true))⟩, ⟨(some 145), .pick (.tmp 142) (.tmp 144) (.const (.bool false)), (opN r8_108 5).type, (opN r8_108 5).pos, (opN r8_108 5).after, none⟩, ⟨(some 26), .assign (.tmp 145), (opN r8_108 6).type, (opN r8_108 6).pos, (opN r8_108 6).after, none⟩] := by kernel_rfl
theorem g8_108_2 : gTmp r8_108 2 = some 142 := by kernel_rfl
theorem w8_108 : Wp c3 fn nt tm (.code c8_108 :: k) ds rnd h Q = WpS c3 fn nt r8_108 false [⟨(some 140), .move (.tmp 24), (opN r8_108 0).type, (opN r8_108 0).pos, (opN r8_108 0).after, none⟩, ⟨(some 141), .binOp .geq 3 (.tmp 140) (.const (.int .i64 (0))) 3, (opN r8_108 1).type, (opN r8_108 1).pos, (opN r8_108 1).after, none⟩, ⟨(some 142), .move (.tmp 141), (opN r8_108 2).type, (opN r8_108 2).pos, (opN r8_108 2).after, none⟩, ⟨(some 143), .move (.tmp 25), (opN r8_108 3).type, (opN r8_108 3).pos, (opN r8_108 3).after, (some (2, true))⟩, ⟨(some 144), .binOp .geq 3 (.tmp 143) (.const (.int .i64 (1))) 3, (opN r8_108 4).type, (opN r8_108 4).pos, (opN r8_108 4).after, (some (2, true))⟩, ⟨(some 145), .pick (.tmp 142) (.tmp 144) (.const (.bool false)), (opN r8_108 5).type, (opN r8_108 5).pos, (opN r8_108 5).after, none⟩, ⟨(some 26), .assign (.tmp 145), (opN r8_108 6).type, (opN r8_108 6).pos, (opN r8_108 6).after, none⟩] tm k ds rnd h Q := by rw [e8_108, Fal.wp_region, l8_108]
noncomputable def c8_109 : Code := cB c8_107
noncomputable def c8_110 : Code := cA c8_109
noncomputable def c8_111 : Code := cA c8_110
noncomputable def r8_111 : Array Oper := cOps c8_111
theorem e8_111 : c8_111 = .region 34 r8_111 false := by kernel_rfl
theorem l8_111 : r8_111.toList = [⟨(some 27), .assign (.const (.int .i64 (0))), (opN r8_111 0).type, (opN r8_111 0).pos, (opN r8_111 0).after, none⟩] := by kernel_rfl
theorem w8_111 : Wp c3 fn nt tm (.code c8_111 :: k) ds rnd h Q = WpS c3 fn nt r8_111 false [⟨(some 27), .assign (.const (.int .i64 (0))), (opN r8_111 0).type, (opN r8_111 0).pos, (opN r8_111 0).after, none⟩] tm k ds rnd h Q := by rw [e8_111, Fal.wp_region, l8_111]
noncomputable def c8_112 : Code := cB c8_110
noncomputable def c8_113 : Code := cA c8_112
noncomputable def c8_114 : Code := cA c8_113
noncomputable def c8_115 : Code := cA c8_114
noncomputable def c8_116 : Code := cA c8_115
noncomputable def r8_116 : Array Oper := cOps c8_116
theorem e8_116 : c8_116 = .region 35 r8_116 false := by kernel_rfl
theorem l8_116 : r8_116.toList = [⟨(some 146), .move (.tmp 26), (opN r8_116 0).type, (opN r8_116 0).pos, (opN r8_116 0).after, none⟩, ⟨(some 147), .move (.tmp 146), (opN r8_116 1).type, (opN r8_116 1).pos, (opN r8_116 1).after, none⟩, ⟨(some 148), .move (.tmp 27), (opN r8_116 2).type, (opN r8_116 2).pos, (opN r8_116 2).after, (some (1, true))⟩, ⟨(some 149), .move (.tmp 25), (opN r8_116 3).type, (opN r8_116 3).pos, (opN r8_116 3).after, (some (1, true))⟩, ⟨(some 150), .binOp .add 3 (.tmp 148) (.tmp 149) 3, (opN r8_116 4).type, (opN r8_116 4).pos, (opN r8_116 4).after, (some (1, true))⟩, ⟨(some 151), .move (.tmp 21), (opN r8_116 5).type, (opN r8_116 5).pos, (opN r8_116 5).after, (some (1, true))⟩, ⟨(some 152), .call ⟨.builtin .len, #[(.tmp 151)], #[67]⟩, (opN r8_116 6).type, (opN r8_116 6).pos, (opN r8_116 6).after, (some (1, true))⟩, ⟨(some 153), .binOp .leq 3 (.tmp 150) (.tmp 152) 3, (opN r8_116 7).type, (opN r8_116 7).pos, (opN r8_116 7).after, (some (1, true))⟩, ⟨(some 154), .pick (.tmp 147) (.tmp 153) (.const (.bool false)), (opN r8_116 8).type, (opN r8_116 8).pos, (opN r8_116 8).after, none⟩] := by kernel_rfl
theorem g8_116_1 : gTmp r8_116 1 = some 147 := by kernel_rfl
theorem w8_116 : Wp c3 fn nt tm (.code c8_116 :: k) ds rnd h Q = WpS c3 fn nt r8_116 false [⟨(some 146), .move (.tmp 26), (opN r8_116 0).type, (opN r8_116 0).pos, (opN r8_116 0).after, none⟩, ⟨(some 147), .move (.tmp 146), (opN r8_116 1).type, (opN r8_116 1).pos, (opN r8_116 1).after, none⟩, ⟨(some 148), .move (.tmp 27), (opN r8_116 2).type, (opN r8_116 2).pos, (opN r8_116 2).after, (some (1, true))⟩, ⟨(some 149), .move (.tmp 25), (opN r8_116 3).type, (opN r8_116 3).pos, (opN r8_116 3).after, (some (1, true))⟩, ⟨(some 150), .binOp .add 3 (.tmp 148) (.tmp 149) 3, (opN r8_116 4).type, (opN r8_116 4).pos, (opN r8_116 4).after, (some (1, true))⟩, ⟨(some 151), .move (.tmp 21), (opN r8_116 5).type, (opN r8_116 5).pos, (opN r8_116 5).after, (some (1, true))⟩, ⟨(some 152), .call ⟨.builtin .len, #[(.tmp 151)], #[67]⟩, (opN r8_116 6).type, (opN r8_116 6).pos, (opN r8_116 6).after, (some (1, true))⟩, ⟨(some 153), .binOp .leq 3 (.tmp 150) (.tmp 152) 3, (opN r8_116 7).type, (opN r8_116 7).pos, (opN r8_116 7).after, (some (1, true))⟩, ⟨(some 154), .pick (.tmp 147) (.tmp 153) (.const (.bool false)), (opN r8_116 8).type, (opN r8_116 8).pos, (opN r8_116 8).after, none⟩] tm k ds rnd h Q := by rw [e8_116, Fal.wp_region, l8_116]
noncomputable def c8_117 : Code := cB c8_115
noncomputable def c8_118 : Code := cA c8_117
theorem e8_118 : c8_118 = .skip := by kernel_rfl
theorem w8_118 : Wp c3 fn nt tm (.code c8_118 :: k) ds rnd h Q = Wp c3 fn nt tm k ds rnd h Q := by rw [e8_118, Fal.wp_skip]
noncomputable def c8_119 : Code := cB c8_117
theorem e8_119 : c8_119 = .exit 6 := by kernel_rfl
theorem w8_119 : Wp c3 fn nt tm (.code c8_119 :: k) ds rnd h Q = Wp c3 fn nt tm (.code (.exit 6) :: k) ds rnd h Q := by rw [e8_119]
theorem e8_117 : c8_117 = .cond (.tmp 154) c8_118 c8_119 := by kernel_rfl
theorem w8_117 : Wp c3 fn nt tm (.code c8_117 :: k) ds rnd h Q = bo (ev c3.ng tm (.tmp 154)) fun v => vB v fun t => if t = true then Wp c3 fn nt tm (.code c8_118 :: k) ds rnd h Q else Wp c3 fn nt tm (.code c8_119 :: k) ds rnd h Q := by rw [e8_117, Fal.wp_cond]
theorem e8_115 : c8_115 = .seq c8_116 c8_117 := by kernel_rfl
theorem w8_115 : Wp c3 fn nt tm (.code c8_115 :: k) ds rnd h Q = Wp c3 fn nt tm (.code c8_116 :: .code c8_117 :: k) ds rnd h Q := by rw [e8_115, Fal.wp_seq]
noncomputable def c8_120 : Code := cB c8_114
noncomputable def c8_121 : Code := cA c8_120
noncomputable def c8_122 : Code := cA c8_121
noncomputable def c8_123 : Code := cA c8_122
noncomputable def r8_123 : Array Oper := cOps c8_123
theorem e8_123 : c8_123 = .region 37 r8_123 false := by kernel_rfl
theorem l8_123 : r8_123.toList = [⟨(some 157), .move (.tmp 24), (opN r8_123 0).type, (opN r8_123 0).pos, (opN r8_123 0).after, none⟩, ⟨(some 158), .move (.const (.int .i64 (0))), (opN r8_123 1).type, (opN r8_123 1).pos, (opN r8_123 1).after, none⟩] := by kernel_rfl
theorem w8_123 : Wp c3 fn nt tm (.code c8_123 :: k) ds rnd h Q = WpS c3 fn nt r8_123 false [⟨(some 157), .move (.tmp 24), (opN r8_123 0).type, (opN r8_123 0).pos, (opN r8_123 0).after, none⟩, ⟨(some 158), .move (.const (.int .i64 (0))), (opN r8_123 1).type, (opN r8_123 1).pos, (opN r8_123 1).after, none⟩] tm k ds rnd h Q := by rw [e8_123, Fal.wp_region, l8_123]
noncomputable def c8_124 : Code := cB c8_122
noncomputable def c8_125 : Code := cA c8_124
noncomputable def c8_126 : Code := cA c8_125
noncomputable def c8_127 : Code := cA c8_126
noncomputable def r8_127 : Array Oper := cOps c8_127
theorem e8_127 : c8_127 = .region 38 r8_127 false := by kernel_rfl
theorem l8_127 : r8_127.toList = [⟨(some 159), .binOp .lss 3 (.tmp 158) (.tmp 157) 3, (opN r8_127 0).type, (opN r8_127 0).pos, (opN r8_127 0).after, none⟩] := by kernel_rfl
theorem w8_127 : Wp c3 fn nt tm (.code c8_127 :: k) ds rnd h Q = WpS c3 fn nt r8_127 false [⟨(some 159), .binOp .lss 3 (.tmp 158) (.tmp 157) 3, (opN r8_127 0).type, (opN r8_127 0).pos, (opN r8_127 0).after, none⟩] tm k ds rnd h Q := by rw [e8_127, Fal.wp_region, l8_127]
noncomputable def c8_128 : Code := cB c8_126
noncomputable def c8_129 : Code := cA c8_128
noncomputable def c8_130 : Code := cA c8_129
theorem e8_130 : c8_130 = .skip := by kernel_rfl
theorem w8_130 : Wp c3 fn nt tm (.code c8_130 :: k) ds rnd h Q = Wp c3 fn nt tm k ds rnd h Q := by rw [e8_130, Fal.wp_skip]
noncomputable def c8_131 : Code := cB c8_129
theorem e8_131 : c8_131 = .exit 8 := by kernel_rfl
theorem w8_131 : Wp c3 fn nt tm (.code c8_131 :: k) ds rnd h Q = Wp c3 fn nt tm (.code (.exit 8) :: k) ds rnd h Q := by rw [e8_131]
theorem e8_129 : c8_129 = .cond (.tmp 159) c8_130 c8_131 := by kernel_rfl
theorem w8_129 : Wp c3 fn nt tm (.code c8_129 :: k) ds rnd h Q = bo (ev c3.ng tm (.tmp 159)) fun v => vB v fun t => if t = true then Wp c3 fn nt tm (.code c8_130 :: k) ds rnd h Q else Wp c3 fn nt tm (.code c8_131 :: k) ds rnd h Q := by rw [e8_129, Fal.wp_cond]
noncomputable def c8_132 : Code := cB c8_128
noncomputable def c8_133 : Code := cA c8_132
noncomputable def c8_134 : Code := cA c8_133
noncomputable def c8_135 : Code := cA c8_134
noncomputable def r8_135 : Array Oper := cOps c8_135
theorem e8_135 : c8_135 = .region 39 r8_135 false := by kernel_rfl
theorem l8_135 : r8_135.toList = [⟨(some 160), .move (.tmp 158), (opN r8_135 0).type, (opN r8_135 0).pos, (opN r8_135 0).after, none⟩, ⟨(some 28), .assign (.tmp 160), (opN r8_135 1).type, (opN r8_135 1).pos, (opN r8_135 1).after, none⟩] := by kernel_rfl
theorem w8_135 : Wp c3 fn nt tm (.code c8_135 :: k) ds rnd h Q = WpS c3 fn nt r8_135 false [⟨(some 160), .move (.tmp 158), (opN r8_135 0).type, (opN r8_135 0).pos, (opN r8_135 0).after, none⟩, ⟨(some 28), .assign (.tmp 160), (opN r8_135 1).type, (opN r8_135 1).pos, (opN r8_135 1).after, none⟩] tm k ds rnd h Q := by rw [e8_135, Fal.wp_region, l8_135]
noncomputable def c8_136 : Code := cB c8_134
noncomputable def c8_137 : Code := cA c8_136
noncomputable def r8_137 : Array Oper := cOps c8_137
theorem e8_137 : c8_137 = .region 40 r8_137 false := by kernel_rfl
theorem l8_137 : r8_137.toList = [⟨(some 29), .assign (.const (.bool false)), (opN r8_137 0).type, (opN r8_137 0).pos, (opN r8_137 0).after, none⟩] := by kernel_rfl
theorem w8_137 : Wp c3 fn nt tm (.code c8_137 :: k) ds rnd h Q = WpS c3 fn nt r8_137 false [⟨(some 29), .assign (.const (.bool false)), (opN r8_137 0).type, (opN r8_137 0).pos, (opN r8_137 0).after, none⟩] tm k ds rnd h Q := by rw [e8_137, Fal.wp_region, l8_137]
noncomputable def c8_138 : Code := cB c8_136
noncomputable def c8_139 : Code := cA c8_138
noncomputable def c8_140 : Code := cA c8_139
noncomputable def r8_140 : Array Oper := cOps c8_140
theorem e8_140 : c8_140 = .region 41 r8_140 false := by kernel_rfl
theorem l8_140 : r8_140.toList = [⟨(some 161), .move (.tmp 21), (opN r8_140 0).type, (opN r8_140 0).pos, (opN r8_140 0).after, none⟩, ⟨(some 162), .move (.tmp 27), (opN r8_140 1).type, (opN r8_140 1).pos, (opN r8_140 1).after, none⟩, ⟨(some 163), .move (.tmp 27), (opN r8_140 2).type, (opN r8_140 2).pos, (opN r8_140 2).after, none⟩, ⟨(some 164), .move (.tmp 25), (opN r8_140 3).type, (opN r8_140 3).pos, (opN r8_140 3).after, none⟩, ⟨(some 165), .binOp .add 3 (.tmp 163) (.tmp 164) 3, (opN r8_140 4).type, (opN r8_140 4).pos, (opN r8_140 4).after, none⟩, ⟨(some 166), .slice 67 (.tmp 161) (some (.tmp 162)) (some (.tmp 165)) none, (opN r8_140 5).type, (opN r8_140 5).pos, (opN r8_140 5).after, none⟩, ⟨(some 167), .call ⟨.builtin .len, #[(.tmp 166)], #[67]⟩, (opN r8_140 6).type, (opN r8_140 6).pos, (opN r8_140 6).after, none⟩, ⟨(some 168), .move (.const (.int .i64 (0))), (opN r8_140 7).type, (opN r8_140 7).pos, (opN r8_140 7).after, none⟩] := by kernel_rfl
theorem w8_140 : Wp c3 fn nt tm (.code c8_140 :: k) ds rnd h Q = WpS c3 fn nt r8_140 false [⟨(some 161), .move (.tmp 21), (opN r8_140 0).type, (opN r8_140 0).pos, (opN r8_140 0).after, none⟩, ⟨(some 162), .move (.tmp 27), (opN r8_140 1).type, (opN r8_140 1).pos, (opN r8_140 1).after, none⟩, ⟨(some 163), .move (.tmp 27), (opN r8_140 2).type, (opN r8_140 2).pos, (opN r8_140 2).after, none⟩, ⟨(some 164), .move (.tmp 25), (opN r8_140 3).type, (opN r8_140 3).pos, (opN r8_140 3).after, none⟩, ⟨(some 165), .binOp .add 3 (.tmp 163) (.tmp 164) 3, (opN r8_140 4).type, (opN r8_140 4).pos, (opN r8_140 4).after, none⟩, ⟨(some 166), .slice 67 (.tmp 161) (some (.tmp 162)) (some (.tmp 165)) none, (opN r8_140 5).type, (opN r8_140 5).pos, (opN r8_140 5).after, none⟩, ⟨(some 167), .call ⟨.builtin .len, #[(.tmp 166)], #[67]⟩, (opN r8_140 6).type, (opN r8_140 6).pos, (opN r8_140 6).after, none⟩, ⟨(some 168), .move (.const (.int .i64 (0))), (opN r8_140 7).type, (opN r8_140 7).pos, (opN r8_140 7).after, none⟩] tm k ds rnd h Q := by rw [e8_140, Fal.wp_region, l8_140]
noncomputable def c8_141 : Code := cB c8_139
noncomputable def c8_142 : Code := cA c8_141
noncomputable def c8_143 : Code := cA c8_142
noncomputable def c8_144 : Code := cA c8_143
noncomputable def r8_144 : Array Oper := cOps c8_144
theorem e8_144 : c8_144 = .region 42 r8_144 false := by kernel_rfl
theorem l8_144 : r8_144.toList = [⟨(some 169), .binOp .lss 3 (.tmp 168) (.tmp 167) 3, (opN r8_144 0).type, (opN r8_144 0).pos, (opN r8_144 0).after, none⟩] := by kernel_rfl
theorem w8_144 : Wp c3 fn nt tm (.code c8_144 :: k) ds rnd h Q = WpS c3 fn nt r8_144 false [⟨(some 169), .binOp .lss 3 (.tmp 168) (.tmp 167) 3, (opN r8_144 0).type, (opN r8_144 0).pos, (opN r8_144 0).after, none⟩] tm k ds rnd h Q := by rw [e8_144, Fal.wp_region, l8_144]
noncomputable def c8_145 : Code := cB c8_143
noncomputable def c8_146 : Code := cA c8_145
noncomputable def c8_147 : Code := cA c8_146
theorem e8_147 : c8_147 = .skip := by kernel_rfl
theorem w8_147 : Wp c3 fn nt tm (.code c8_147 :: k) ds rnd h Q = Wp c3 fn nt tm k ds rnd h Q := by rw [e8_147, Fal.wp_skip]
noncomputable def c8_148 : Code := cB c8_146
theorem e8_148 : c8_148 = .exit 10 := by kernel_rfl
theorem w8_148 : Wp c3 fn nt tm (.code c8_148 :: k) ds rnd h Q = Wp c3 fn nt tm (.code (.exit 10) :: k) ds rnd h Q := by rw [e8_148]
theorem e8_146 : c8_146 = .cond (.tmp 169) c8_147 c8_148 := by kernel_rfl
theorem w8_146 : Wp c3 fn nt tm (.code c8_146 :: k) ds rnd h Q = bo (ev c3.ng tm (.tmp 169)) fun v => vB v fun t => if t = true then Wp c3 fn nt tm (.code c8_147 :: k) ds rnd h Q else Wp c3 fn nt tm (.code c8_148 :: k) ds rnd h Q := by rw [e8_146, Fal.wp_cond]
noncomputable def c8_149 : Code := cB c8_145
noncomputable def c8_150 : Code := cA c8_149
noncomputable def c8_151 : Code := cA c8_150
noncomputable def c8_152 : Code := cA c8_151
noncomputable def r8_152 : Array Oper := cOps c8_152
theorem e8_152 : c8_152 = .region 43 r8_152 false := by kernel_rfl
theorem l8_152 : r8_152.toList = [⟨(some 170), .indexAddr 67 (.tmp 166) (.tmp 168), (opN r8_152 0).type, (opN r8_152 0).pos, (opN r8_152 0).after, none⟩, ⟨(some 171), .load 3 (.tmp 170), (opN r8_152 1).type, (opN r8_152 1).pos, (opN r8_152 1).after, none⟩, ⟨(some 31), .assign (.tmp 171), (opN r8_152 2).type, (opN r8_152 2).pos, (opN r8_152 2).after, none⟩] := by kernel_rfl
theorem w8_152 : Wp c3 fn nt tm (.code c8_152 :: k) ds rnd h Q = WpS c3 fn nt r8_152 false [⟨(some 170), .indexAddr 67 (.tmp 166) (.tmp 168), (opN r8_152 0).type, (opN r8_152 0).pos, (opN r8_152 0).after, none⟩, ⟨(some 171), .load 3 (.tmp 170), (opN r8_152 1).type, (opN r8_152 1).pos, (opN r8_152 1).after, none⟩, ⟨(some 31), .assign (.tmp 171), (opN r8_152 2).type, (opN r8_152 2).pos, (opN r8_152 2).after, none⟩] tm k ds rnd h Q := by rw [e8_152, Fal.wp_region, l8_152]
noncomputable def c8_153 : Code := cB c8_151
noncomputable def r8_153 : Array Oper := cOps c8_153
theorem e8_153 : c8_153 = .region 44 r8_153 false := by kernel_rfl
theorem l8_153 : r8_153.toList = [⟨(some 172), .move (.tmp 29), (opN r8_153 0).type, (opN r8_153 0).pos, (opN r8_153 0).after, none⟩, ⟨(some 173), .move (.tmp 172), (opN r8_153 1).type, (opN r8_153 1).pos, (opN r8_153 1).after, none⟩, ⟨(some 174), .move (.tmp 31), (opN r8_153 2).type, (opN r8_153 2).pos, (opN r8_153 2).after, (some (1, false))⟩, ⟨(some 175), .move (.tmp 28), (opN r8_153 3).type, (opN r8_153 3).pos, (opN r8_153 3).after, (some (1, false))⟩, ⟨(some 176), .binOp .eql 3 (.tmp 174) (.tmp 175) 3, (opN r8_153 4).type, (opN r8_153 4).pos, (opN r8_153 4).after, (some (1, false))⟩, ⟨(some 177), .pick (.tmp 173) (.const (.bool true)) (.tmp 176), (opN r8_153 5).type, (opN r8_153 5).pos, (opN r8_153 5).after, none⟩, ⟨(some 29), .assign (.tmp 177), (opN r8_153 6).type, (opN r8_153 6).pos, (opN r8_153 6).after, none⟩] := by kernel_rfl
theorem g8_153_1 : gTmp r8_153 1 = some 173 := by kernel_rfl
theorem w8_153 : Wp c3 fn nt tm (.code c8_153 :: k) ds rnd h Q = WpS c3 fn nt r8_153 false [⟨(some 172), .move (.tmp 29), (opN r8_153 0).type, (opN r8_153 0).pos, (opN r8_153 0).after, none⟩, ⟨(some 173), .move (.tmp 172), (opN r8_153 1).type, (opN r8_153 1).pos, (opN r8_153 1).after, none⟩, ⟨(some 174), .move (.tmp 31), (opN r8_153 2).type, (opN r8_153 2).pos, (opN r8_153 2).after, (some (1, false))⟩, ⟨(some 175), .move (.tmp 28), (opN r8_153 3).type, (opN r8_153 3).pos, (opN r8_153 3).after, (some (1, false))⟩, ⟨(some 176), .binOp .eql 3 (.tmp 174) (.tmp 175) 3, (opN r8_153 4).type, (opN r8_153 4).pos, (opN r8_153 4).after, (some (1, false))⟩, ⟨(some 177), .pick (.tmp 173) (.const (.bool true)) (.tmp 176), (opN r8_153 5).type, (opN r8_153 5).pos, (opN r8_153 5).after, none⟩, ⟨(some 29), .assign (.tmp 177), (opN r8_153 6).type, (opN r8_153 6).pos, (opN r8_153 6).after, none⟩] tm k ds rnd h Q := by rw [e8_153, Fal.wp_region, l8_153]
theorem e8_151 : c8_151 = .seq c8_152 c8_153 := by kernel_rfl
theorem w8_151 : Wp c3 fn nt tm (.code c8_151 :: k) ds rnd h Q = Wp c3 fn nt tm (.code c8_152 :: .code c8_153 :: k) ds rnd h Q := by rw [e8_151, Fal.wp_seq]
theorem e8_150 : c8_150 = .block 11 c8_151 := by kernel_rfl
theorem w8_150 : Wp c3 fn nt tm (.code c8_150 :: k) ds rnd h Q = Wp c3 fn nt tm (.code c8_151 :: .inBlock 11 :: k) ds rnd h Q := by rw [e8_150, Fal.wp_block]
noncomputable def c8_154 : Code := cB c8_149
noncomputable def r8_154 : Array Oper := cOps c8_154
theorem e8_154 : c8_154 = .region 45 r8_154 false := by kernel_rfl
theorem l8_154 : r8_154.toList = [⟨(some 178), .binOp .add 3 (.tmp 168) (.const (.int .i64 (1))) 3, (opN r8_154 0).type, (opN r8_154 0).pos, (opN r8_154 0).after, none⟩, ⟨(some 168), .move (.tmp 178), (opN r8_154 1).type, (opN r8_154 1).pos, (opN r8_154 1).after, none⟩] := by kernel_rfl
theorem w8_154 : Wp c3 fn nt tm (.code c8_154 :: k) ds rnd h Q = WpS c3 fn nt r8_154 false [⟨(some 178), .binOp .add 3 (.tmp 168) (.const (.int .i64 (1))) 3, (opN r8_154 0).type, (opN r8_154 0).pos, (opN r8_154 0).after, none⟩, ⟨(some 168), .move (.tmp 178), (opN r8_154 1).type, (opN r8_154 1).pos, (opN r8_154 1).after, none⟩] tm k ds rnd h Q := by rw [e8_154, Fal.wp_region, l8_154]
theorem e8_149 : c8_149 = .seq c8_150 c8_154 := by kernel_rfl
theorem w8_149 : Wp c3 fn nt tm (.code c8_149 :: k) ds rnd h Q = Wp c3 fn nt tm (.code c8_150 :: .code c8_154 :: k) ds rnd h Q := by rw [e8_149, Fal.wp_seq]
theorem e8_145 : c8_145 = .seq c8_146 c8_149 := by kernel_rfl
theorem w8_145 : Wp c3 fn nt tm (.code c8_145 :: k) ds rnd h Q = Wp c3 fn nt tm (.code c8_146 :: .code c8_149 :: k) ds rnd h Q := by rw [e8_145, Fal.wp_seq]
theorem e8_143 : c8_143 = .seq c8_144 c8_145 := by kernel_rfl
theorem w8_143 : Wp c3 fn nt tm (.code c8_143 :: k) ds rnd h Q = Wp c3 fn nt tm (.code c8_144 :: .code c8_145 :: k) ds rnd h Q := by rw [e8_143, Fal.wp_seq]
theorem e8_142 : c8_142 = .loop c8_143 := by kernel_rfl
theorem w8_142 : Wp c3 fn nt tm (.code c8_142 :: k) ds rnd h Q = Wp c3 fn nt tm (.code c8_143 :: .inLoop c8_143 :: k) ds rnd h Q := by rw [e8_142, Fal.wp_loop]
theorem e8_141 : c8_141 = .block 10 c8_142 := by kernel_rfl
theorem w8_141 : Wp c3 fn nt tm (.code c8_141 :: k) ds rnd h Q = Wp c3 fn nt tm (.code c8_142 :: .inBlock 10 :: k) ds rnd h Q := by rw [e8_141, Fal.wp_block]
theorem e8_139 : c8_139 = .seq c8_140 c8_141 := by kernel_rfl
theorem w8_139 : Wp c3 fn nt tm (.code c8_139 :: k) ds rnd h Q = Wp c3 fn nt tm (.code c8_140 :: .code c8_141 :: k) ds rnd h Q := by rw [e8_139, Fal.wp_seq]
noncomputable def c8_155 : Code := cB c8_138
noncomputable def r8_155 : Array Oper := cOps c8_155
theorem e8_155 : c8_155 = .region 46 r8_155 false := by kernel_rfl
theorem l8_155 : r8_155.toList = [⟨(some 179), .move (.tmp 26), (opN r8_155 0).type, (opN r8_155 0).pos, (opN r8_155 0).after, none⟩, ⟨(some 180), .move (.tmp 179), (opN r8_155 1).type, (opN r8_155 1).pos, (opN r8_155 1).after, none⟩, ⟨(some 181), .move (.tmp 29), (opN r8_155 2).type, (opN r8_155 2).pos, (opN r8_155 2).after, (some (1, true))⟩, ⟨(some 182), .pick (.tmp 180) (.tmp 181) (.const (.bool false)), (opN r8_155 3).type, (opN r8_155 3).pos, (opN r8_155 3).after, none⟩, ⟨(some 26), .assign (.tmp 182), (opN r8_155 4).type, (opN r8_155 4).pos, (opN r8_155 4).after, none⟩] := by kernel_rfl
theorem g8_155_1 : gTmp r8_155 1 = some 180 := by kernel_rfl
theorem w8_155 : Wp c3 fn nt tm (.code c8_155 :: k) ds rnd h Q = WpS c3 fn nt r8_155 false [⟨(some 179), .move (.tmp 26), (opN r8_155 0).type, (opN r8_155 0).pos, (opN r8_155 0).after, none⟩, ⟨(some 180), .move (.tmp 179), (opN r8_155 1).type, (opN r8_155 1).pos, (opN r8_155 1).after, none⟩, ⟨(some 181), .move (.tmp 29), (opN r8_155 2).type, (opN r8_155 2).pos, (opN r8_155 2).after, (some (1, true))⟩, ⟨(some 182), .pick (.tmp 180) (.tmp 181) (.const (.bool false)), (opN r8_155 3).type, (opN r8_155 3).pos, (opN r8_155 3).after, none⟩, ⟨(some 26), .assign (.tmp 182), (opN r8_155 4).type, (opN r8_155 4).pos, (opN r8_155 4).after, none⟩] tm k ds rnd h Q := by rw [e8_155, Fal.wp_region, l8_155]
theorem e8_138 : c8_138 = .seq c8_139 c8_155 := by kernel_rfl
theorem w8_138 : Wp c3 fn nt tm (.code c8_138 :: k) ds rnd h Q = Wp c3 fn nt tm (.code c8_139 :: .code c8_155 :: k) ds rnd h Q := by rw [e8_138, Fal.wp_seq]
theorem e8_136 : c8_136 = .seq c8_137 c8_138 := by kernel_rfl
theorem w8_136 : Wp c3 fn nt tm (.code c8_136 :: k) ds rnd h Q = Wp c3 fn nt tm (.code c8_137 :: .code c8_138 :: k) ds rnd h Q := by rw [e8_136, Fal.wp_seq]
theorem e8_134 : c8_134 = .seq c8_135 c8_136 := by kernel_rfl
theorem w8_134 : Wp c3 fn nt tm (.code c8_134 :: k) ds rnd h Q = Wp c3 fn nt tm (.code c8_135 :: .code c8_136 :: k) ds rnd h Q := by rw [e8_134, Fal.wp_seq]
theorem e8_133 : c8_133 = .block 9 c8_134 := by kernel_rfl
theorem w8_133 : Wp c3 fn nt tm (.code c8_133 :: k) ds rnd h Q = Wp c3 fn nt tm (.code c8_134 :: .inBlock 9 :: k) ds rnd h Q := by rw [e8_133, Fal.wp_block]
noncomputable def c8_156 : Code := cB c8_132
noncomputable def r8_156 : Array Oper := cOps c8_156
theorem e8_156 : c8_156 = .region 47 r8_156 false := by kernel_rfl
theorem l8_156 : r8_156.toList = [⟨(some 183), .binOp .add 3 (.tmp 158) (.const (.int .i64 (1))) 3, (opN r8_156 0).type, (opN r8_156 0).pos, (opN r8_156 0).after, none⟩, ⟨(some 158), .move (.tmp 183), (opN r8_156 1).type, (opN r8_156 1).pos, (opN r8_156 1).after, none⟩] := by kernel_rfl
theorem w8_156 : Wp c3 fn nt tm (.code c8_156 :: k) ds rnd h Q = WpS c3 fn nt r8_156 false [⟨(some 183), .binOp .add 3 (.tmp 158) (.const (.int .i64 (1))) 3, (opN r8_156 0).type, (opN r8_156 0).pos, (opN r8_156 0).after, none⟩, ⟨(some 158), .move (.tmp 183), (opN r8_156 1).type, (opN r8_156 1).pos, (opN r8_156 1).after, none⟩] tm k ds rnd h Q := by rw [e8_156, Fal.wp_region, l8_156]
theorem e8_132 : c8_132 = .seq c8_133 c8_156 := by kernel_rfl
theorem w8_132 : Wp c3 fn nt tm (.code c8_132 :: k) ds rnd h Q = Wp c3 fn nt tm (.code c8_133 :: .code c8_156 :: k) ds rnd h Q := by rw [e8_132, Fal.wp_seq]
theorem e8_128 : c8_128 = .seq c8_129 c8_132 := by kernel_rfl
theorem w8_128 : Wp c3 fn nt tm (.code c8_128 :: k) ds rnd h Q = Wp c3 fn nt tm (.code c8_129 :: .code c8_132 :: k) ds rnd h Q := by rw [e8_128, Fal.wp_seq]
theorem e8_126 : c8_126 = .seq c8_127 c8_128 := by kernel_rfl
theorem w8_126 : Wp c3 fn nt tm (.code c8_126 :: k) ds rnd h Q = Wp c3 fn nt tm (.code c8_127 :: .code c8_128 :: k) ds rnd h Q := by rw [e8_126, Fal.wp_seq]
theorem e8_125 : c8_125 = .loop c8_126 := by kernel_rfl
theorem w8_125 : Wp c3 fn nt tm (.code c8_125 :: k) ds rnd h Q = Wp c3 fn nt tm (.code c8_126 :: .inLoop c8_126 :: k) ds rnd h Q := by rw [e8_125, Fal.wp_loop]
theorem e8_124 : c8_124 = .block 8 c8_125 := by kernel_rfl
theorem w8_124 : Wp c3 fn nt tm (.code c8_124 :: k) ds rnd h Q = Wp c3 fn nt tm (.code c8_125 :: .inBlock 8 :: k) ds rnd h Q := by rw [e8_124, Fal.wp_block]
theorem e8_122 : c8_122 = .seq c8_123 c8_124 := by kernel_rfl
theorem w8_122 : Wp c3 fn nt tm (.code c8_122 :: k) ds rnd h Q = Wp c3 fn nt tm (.code c8_123 :: .code c8_124 :: k) ds rnd h Q := by rw [e8_122, Fal.wp_seq]
theorem e8_121 : c8_121 = .block 7 c8_122 := by kernel_rfl
theorem w8_121 : Wp c3 fn nt tm (.code c8_121 :: k) ds rnd h Q = Wp c3 fn nt tm (.code c8_122 :: .inBlock 7 :: k) ds rnd h Q := by rw [e8_121, Fal.wp_block]
noncomputable def c8_157 : Code := cB c8_120
noncomputable def r8_157 : Array Oper := cOps c8_157
theorem e8_157 : c8_157 = .region 36 r8_157 false := by kernel_rfl
theorem l8_157 : r8_157.toList = [⟨(some 155), .move (.tmp 27), (opN r8_157 0).type, (opN r8_157 0).pos, (opN r8_157 0).after, none⟩, ⟨(some 156), .binOp .add 3 (.tmp 155) (.const (.int .i64 (1))) 3, (opN r8_157 1).type, (opN r8_157 1).pos, (opN r8_157 1).after, none⟩, ⟨(some 27), .assign (.tmp 156), (opN r8_157 2).type, (opN r8_157 2).pos, (opN r8_157 2).after, none⟩] := by kernel_rfl
theorem w8_157 : Wp c3 fn nt tm (.code c8_157 :: k) ds rnd h Q = WpS c3 fn nt r8_157 false [⟨(some 155), .move (.tmp 27), (opN r8_157 0).type, (opN r8_157 0).pos, (opN r8_157 0).after, none⟩, ⟨(some 156), .binOp .add 3 (.tmp 155) (.const (.int .i64 (1))) 3, (opN r8_157 1).type, (opN r8_157 1).pos, (opN r8_157 1).after, none⟩, ⟨(some 27), .assign (.tmp 156), (opN r8_157 2).type, (opN r8_157 2).pos, (opN r8_157 2).after, none⟩] tm k ds rnd h Q := by rw [e8_157, Fal.wp_region, l8_157]
theorem e8_120 : c8_120 = .seq c8_121 c8_157 := by kernel_rfl
theorem w8_120 : Wp c3 fn nt tm (.code c8_120 :: k) ds rnd h Q = Wp c3 fn nt tm (.code c8_121 :: .code c8_157 :: k) ds rnd h Q := by rw [e8_120, Fal.wp_seq]
theorem e8_114 : c8_114 = .seq c8_115 c8_120 := by kernel_rfl
theorem w8_114 : Wp c3 fn nt tm (.code c8_114 :: k) ds rnd h Q = Wp c3 fn nt tm (.code c8_115 :: .code c8_120 :: k) ds rnd h Q := by rw [e8_114, Fal.wp_seq]
theorem e8_113 : c8_113 = .loop c8_114 := by kernel_rfl
theorem w8_113 : Wp c3 fn nt tm (.code c8_113 :: k) ds rnd h Q = Wp c3 fn nt tm (.code c8_114 :: .inLoop c8_114 :: k) ds rnd h Q := by rw [e8_113, Fal.wp_loop]
theorem e8_112 : c8_112 = .block 6 c8_113 := by kernel_rfl
theorem w8_112 : Wp c3 fn nt tm (.code c8_112 :: k) ds rnd h Q = Wp c3 fn nt tm (.code c8_113 :: .inBlock 6 :: k) ds rnd h Q := by rw [e8_112, Fal.wp_block]
theorem e8_110 : c8_110 = .seq c8_111 c8_112 := by kernel_rfl
theorem w8_110 : Wp c3 fn nt tm (.code c8_110 :: k) ds rnd h Q = Wp c3 fn nt tm (.code c8_111 :: .code c8_112 :: k) ds rnd h Q := by rw [e8_110, Fal.wp_seq]
noncomputable def c8_158 : Code := cB c8_109
noncomputable def c8_159 : Code := cA c8_158
noncomputable def r8_159 : Array Oper := cOps c8_159
theorem e8_159 : c8_159 = .region 48 r8_159 false := by kernel_rfl
theorem l8_159 : r8_159.toList = [⟨(some 184), .buildSlice 67 0 #[], (opN r8_159 0).type, (opN r8_159 0).pos, (opN r8_159 0).after, none⟩, ⟨(some 185), .move (.tmp 21), (opN r8_159 1).type, (opN r8_159 1).pos, (opN r8_159 1).after, none⟩, ⟨(some 186), .call ⟨.builtin .append, #[(.tmp 184), (.tmp 185)], #[67, 67]⟩, (opN r8_159 2).type, (opN r8_159 2).pos, (opN r8_159 2).after, none⟩, ⟨(some 187), .move (.tmp 24), (opN r8_159 3).type, (opN r8_159 3).pos, (opN r8_159 3).after, none⟩, ⟨(some 188), .move (.tmp 25), (opN r8_159 4).type, (opN r8_159 4).pos, (opN r8_159 4).after, none⟩, ⟨(some 189), .call ⟨.value (.func 95), #[(.tmp 186), (.tmp 187), (.tmp 188)], #[67, 3, 3]⟩, (opN r8_159 5).type, (opN r8_159 5).pos, (opN r8_159 5).after, none⟩, ⟨(some 190), .move (.tmp 26), (opN r8_159 6).type, (opN r8_159 6).pos, (opN r8_159 6).after, none⟩, ⟨(some 191), .binOp .eql 4 (.tmp 189) (.tmp 190) 4, (opN r8_159 7).type, (opN r8_159 7).pos, (opN r8_159 7).after, none⟩, ⟨(some 192), .move (.tmp 191), (opN r8_159 8).type, (opN r8_159 8).pos, (opN r8_159 8).after, none⟩, ⟨(some 193), .call ⟨.value (.func 24), #[], #[]⟩, (opN r8_159 9).type, (opN r8_159 9).pos, (opN r8_159 9).after, (some (8, true))⟩, ⟨(some 194), .pick (.tmp 192) (.tmp 193) (.const (.bool false)), (opN r8_159 10).type, (opN r8_159 10).pos, (opN r8_159 10).after, none⟩, ⟨(some 12), .assign (.tmp 194), (opN r8_159 11).type, (opN r8_159 11).pos, (opN r8_159 11).after, none⟩] := by kernel_rfl
theorem g8_159_8 : gTmp r8_159 8 = some 192 := by kernel_rfl
theorem w8_159 : Wp c3 fn nt tm (.code c8_159 :: k) ds rnd h Q = WpS c3 fn nt r8_159 false [⟨(some 184), .buildSlice 67 0 #[], (opN r8_159 0).type, (opN r8_159 0).pos, (opN r8_159 0).after, none⟩, ⟨(some 185), .move (.tmp 21), (opN r8_159 1).type, (opN r8_159 1).pos, (opN r8_159 1).after, none⟩, ⟨(some 186), .call ⟨.builtin .append, #[(.tmp 184), (.tmp 185)], #[67, 67]⟩, (opN r8_159 2).type, (opN r8_159 2).pos, (opN r8_159 2).after, none⟩, ⟨(some 187), .move (.tmp 24), (opN r8_159 3).type, (opN r8_159 3).pos, (opN r8_159 3).after, none⟩, ⟨(some 188), .move (.tmp 25), (opN r8_159 4).type, (opN r8_159 4).pos, (opN r8_159 4).after, none⟩, ⟨(some 189), .call ⟨.value (.func 95), #[(.tmp 186), (.tmp 187), (.tmp 188)], #[67, 3, 3]⟩, (opN r8_159 5).type, (opN r8_159 5).pos, (opN r8_159 5).after, none⟩, ⟨(some 190), .move (.tmp 26), (opN r8_159 6).type, (opN r8_159 6).pos, (opN r8_159 6).after, none⟩, ⟨(some 191), .binOp .eql 4 (.tmp 189) (.tmp 190) 4, (opN r8_159 7).type, (opN r8_159 7).pos, (opN r8_159 7).after, none⟩, ⟨(some 192), .move (.tmp 191), (opN r8_159 8).type, (opN r8_159 8).pos, (opN r8_159 8).after, none⟩, ⟨(some 193), .call ⟨.value (.func 24), #[], #[]⟩, (opN r8_159 9).type, (opN r8_159 9).pos, (opN r8_159 9).after, (some (8, true))⟩, ⟨(some 194), .pick (.tmp 192) (.tmp 193) (.const (.bool false)), (opN r8_159 10).type, (opN r8_159 10).pos, (opN r8_159 10).after, none⟩, ⟨(some 12), .assign (.tmp 194), (opN r8_159 11).type, (opN r8_159 11).pos, (opN r8_159 11).after, none⟩] tm k ds rnd h Q := by rw [e8_159, Fal.wp_region, l8_159]
noncomputable def c8_160 : Code := cB c8_158
theorem e8_160 : c8_160 = .ret := by kernel_rfl
theorem w8_160 : Wp c3 fn nt tm (.code c8_160 :: k) ds rnd h Q = Wp c3 fn nt tm (.code .ret :: k) ds rnd h Q := by rw [e8_160]
theorem e8_158 : c8_158 = .seq c8_159 c8_160 := by kernel_rfl
theorem w8_158 : Wp c3 fn nt tm (.code c8_158 :: k) ds rnd h Q = Wp c3 fn nt tm (.code c8_159 :: .code c8_160 :: k) ds rnd h Q := by rw [e8_158, Fal.wp_seq]
theorem e8_109 : c8_109 = .seq c8_110 c8_158 := by kernel_rfl
theorem w8_109 : Wp c3 fn nt tm (.code c8_109 :: k) ds rnd h Q = Wp c3 fn nt tm (.code c8_110 :: .code c8_158 :: k) ds rnd h Q := by rw [e8_109, Fal.wp_seq]
theorem e8_107 : c8_107 = .seq c8_108 c8_109 := by kernel_rfl
theorem w8_107 : Wp c3 fn nt tm (.code c8_107 :: k) ds rnd h Q = Wp c3 fn nt tm (.code c8_108 :: .code c8_109 :: k) ds rnd h Q := by rw [e8_107, Fal.wp_seq]
theorem e8_105 : c8_105 = .seq c8_106 c8_107 := by kernel_rfl
theorem w8_105 : Wp c3 fn nt tm (.code c8_105 :: k) ds rnd h Q = Wp c3 fn nt tm (.code c8_106 :: .code c8_107 :: k) ds rnd h Q := by rw [e8_105, Fal.wp_seq]
theorem e8_88 : c8_88 = .seq c8_89 c8_105 := by kernel_rfl
theorem w8_88 : Wp c3 fn nt tm (.code c8_88 :: k) ds rnd h Q = Wp c3 fn nt tm (.code c8_89 :: .code c8_105 :: k) ds rnd h Q := by rw [e8_88, Fal.wp_seq]
theorem e8_86 : c8_86 = .seq c8_87 c8_88 := by kernel_rfl
theorem w8_86 : Wp c3 fn nt tm (.code c8_86 :: k) ds rnd h Q = Wp c3 fn nt tm (.code c8_87 :: .code c8_88 :: k) ds rnd h Q := by rw [e8_86, Fal.wp_seq]
theorem e8_68 : c8_68 = .seq c8_69 c8_86 := by kernel_rfl
theorem w8_68 : Wp c3 fn nt tm (.code c8_68 :: k) ds rnd h Q = Wp c3 fn nt tm (.code c8_69 :: .code c8_86 :: k) ds rnd h Q := by rw [e8_68, Fal.wp_seq]
theorem e8_66 : c8_66 = .seq c8_67 c8_68 := by kernel_rfl
theorem w8_66 : Wp c3 fn nt tm (.code c8_66 :: k) ds rnd h Q = Wp c3 fn nt tm (.code c8_67 :: .code c8_68 :: k) ds rnd h Q := by rw [e8_66, Fal.wp_seq]
theorem e8_43 : c8_43 = .seq c8_44 c8_66 := by kernel_rfl
theorem w8_43 : Wp c3 fn nt tm (.code c8_43 :: k) ds rnd h Q = Wp c3 fn nt tm (.code c8_44 :: .code c8_66 :: k) ds rnd h Q := by rw [e8_43, Fal.wp_seq]
theorem e8_35 : c8_35 = .seq c8_36 c8_43 := by kernel_rfl
theorem w8_35 : Wp c3 fn nt tm (.code c8_35 :: k) ds rnd h Q = Wp c3 fn nt tm (.code c8_36 :: .code c8_43 :: k) ds rnd h Q := by rw [e8_35, Fal.wp_seq]
theorem e8_33 : c8_33 = .seq c8_34 c8_35 := by kernel_rfl
theorem w8_33 : Wp c3 fn nt tm (.code c8_33 :: k) ds rnd h Q = Wp c3 fn nt tm (.code c8_34 :: .code c8_35 :: k) ds rnd h Q := by rw [e8_33, Fal.wp_seq]
theorem e8_27 : c8_27 = .seq c8_28 c8_33 := by kernel_rfl
theorem w8_27 : Wp c3 fn nt tm (.code c8_27 :: k) ds rnd h Q = Wp c3 fn nt tm (.code c8_28 :: .code c8_33 :: k) ds rnd h Q := by rw [e8_27, Fal.wp_seq]
theorem e8_4 : c8_4 = .seq c8_5 c8_27 := by kernel_rfl
theorem w8_4 : Wp c3 fn nt tm (.code c8_4 :: k) ds rnd h Q = Wp c3 fn nt tm (.code c8_5 :: .code c8_27 :: k) ds rnd h Q := by rw [e8_4, Fal.wp_seq]
theorem e8_2 : c8_2 = .seq c8_3 c8_4 := by kernel_rfl
theorem w8_2 : Wp c3 fn nt tm (.code c8_2 :: k) ds rnd h Q = Wp c3 fn nt tm (.code c8_3 :: .code c8_4 :: k) ds rnd h Q := by rw [e8_2, Fal.wp_seq]
theorem e8_0 : c8_0 = .seq c8_1 c8_2 := by kernel_rfl
theorem w8_0 : Wp c3 fn nt tm (.code c8_0 :: k) ds rnd h Q = Wp c3 fn nt tm (.code c8_1 :: .code c8_2 :: k) ds rnd h Q := by rw [e8_0, Fal.wp_seq]
theorem fn8 : fnOf Tryz.prog 8 = some (195, c8_0) := by kernel_rfl
theorem res8 : resOf Tryz.prog 8 = some [.tmp 12] := by kernel_rfl
theorem bod8 : bodyB Tryz.prog 8 = true := by kernel_rfl
theorem mem8 (args : List V) : c3.memo 8 args = none := by rfl
-- fallow/sched.Ready
noncomputable def c93_0 : Code := bodyOf Tryz.f93
noncomputable def c93_1 : Code := cA c93_0
noncomputable def r93_1 : Array Oper := cOps c93_1
theorem e93_1 : c93_1 = .region 0 r93_1 false := by kernel_rfl
theorem l93_1 : r93_1.toList = [⟨(some 4), .assign (.const (.slice none 0 0)), (opN r93_1 0).type, (opN r93_1 0).pos, (opN r93_1 0).after, none⟩] := by kernel_rfl
theorem w93_1 : Wp c3 fn nt tm (.code c93_1 :: k) ds rnd h Q = WpS c3 fn nt r93_1 false [⟨(some 4), .assign (.const (.slice none 0 0)), (opN r93_1 0).type, (opN r93_1 0).pos, (opN r93_1 0).after, none⟩] tm k ds rnd h Q := by rw [e93_1, Fal.wp_region, l93_1]
noncomputable def c93_2 : Code := cB c93_0
noncomputable def c93_3 : Code := cA c93_2
noncomputable def r93_3 : Array Oper := cOps c93_3
theorem e93_3 : c93_3 = .region 1 r93_3 false := by kernel_rfl
theorem l93_3 : r93_3.toList = [⟨(some 5), .alloc 67, (opN r93_3 0).type, (opN r93_3 0).pos, (opN r93_3 0).after, none⟩] := by kernel_rfl
theorem w93_3 : Wp c3 fn nt tm (.code c93_3 :: k) ds rnd h Q = WpS c3 fn nt r93_3 false [⟨(some 5), .alloc 67, (opN r93_3 0).type, (opN r93_3 0).pos, (opN r93_3 0).after, none⟩] tm k ds rnd h Q := by rw [e93_3, Fal.wp_region, l93_3]
noncomputable def c93_4 : Code := cB c93_2
noncomputable def c93_5 : Code := cA c93_4
noncomputable def c93_6 : Code := cA c93_5
noncomputable def r93_6 : Array Oper := cOps c93_6
theorem e93_6 : c93_6 = .region 2 r93_6 false := by kernel_rfl
theorem l93_6 : r93_6.toList = [⟨(some 7), .move (.tmp 0), (opN r93_6 0).type, (opN r93_6 0).pos, (opN r93_6 0).after, none⟩, ⟨(some 8), .move (.tmp 1), (opN r93_6 1).type, (opN r93_6 1).pos, (opN r93_6 1).after, none⟩, ⟨(some 9), .call ⟨.value (.func 163), #[(.tmp 7), (.tmp 8)], #[67, 4]⟩, (opN r93_6 2).type, (opN r93_6 2).pos, (opN r93_6 2).after, none⟩] := by kernel_rfl
theorem w93_6 : Wp c3 fn nt tm (.code c93_6 :: k) ds rnd h Q = WpS c3 fn nt r93_6 false [⟨(some 7), .move (.tmp 0), (opN r93_6 0).type, (opN r93_6 0).pos, (opN r93_6 0).after, none⟩, ⟨(some 8), .move (.tmp 1), (opN r93_6 1).type, (opN r93_6 1).pos, (opN r93_6 1).after, none⟩, ⟨(some 9), .call ⟨.value (.func 163), #[(.tmp 7), (.tmp 8)], #[67, 4]⟩, (opN r93_6 2).type, (opN r93_6 2).pos, (opN r93_6 2).after, none⟩] tm k ds rnd h Q := by rw [e93_6, Fal.wp_region, l93_6]
noncomputable def c93_7 : Code := cB c93_5
noncomputable def c93_8 : Code := cA c93_7
noncomputable def c93_9 : Code := cA c93_8
noncomputable def r93_9 : Array Oper := cOps c93_9
theorem e93_9 : c93_9 = .region 3 r93_9 false := by kernel_rfl
theorem l93_9 : r93_9.toList = [⟨(some 6), .assign (.tmp 10), (opN r93_9 0).type, (opN r93_9 0).pos, (opN r93_9 0).after, none⟩] := by kernel_rfl
theorem w93_9 : Wp c3 fn nt tm (.code c93_9 :: k) ds rnd h Q = WpS c3 fn nt r93_9 false [⟨(some 6), .assign (.tmp 10), (opN r93_9 0).type, (opN r93_9 0).pos, (opN r93_9 0).after, none⟩] tm k ds rnd h Q := by rw [e93_9, Fal.wp_region, l93_9]
noncomputable def c93_10 : Code := cB c93_8
noncomputable def c93_11 : Code := cA c93_10
noncomputable def r93_11 : Array Oper := cOps c93_11
theorem e93_11 : c93_11 = .region 4 r93_11 false := by kernel_rfl
theorem l93_11 : r93_11.toList = [⟨(some 11), .load 67 (.tmp 5), (opN r93_11 0).type, (opN r93_11 0).pos, (opN r93_11 0).after, none⟩, ⟨(some 12), .move (.tmp 6), (opN r93_11 1).type, (opN r93_11 1).pos, (opN r93_11 1).after, none⟩, ⟨(some 13), .buildSlice 67 1 #[(0, (.tmp 12))], (opN r93_11 2).type, (opN r93_11 2).pos, (opN r93_11 2).after, none⟩, ⟨(some 14), .call ⟨.builtin .append, #[(.tmp 11), (.tmp 13)], #[67, 67]⟩, (opN r93_11 3).type, (opN r93_11 3).pos, (opN r93_11 3).after, none⟩, ⟨none, .store 67 (.tmp 5) (.tmp 14), (opN r93_11 4).type, (opN r93_11 4).pos, (opN r93_11 4).after, none⟩] := by kernel_rfl
theorem w93_11 : Wp c3 fn nt tm (.code c93_11 :: k) ds rnd h Q = WpS c3 fn nt r93_11 false [⟨(some 11), .load 67 (.tmp 5), (opN r93_11 0).type, (opN r93_11 0).pos, (opN r93_11 0).after, none⟩, ⟨(some 12), .move (.tmp 6), (opN r93_11 1).type, (opN r93_11 1).pos, (opN r93_11 1).after, none⟩, ⟨(some 13), .buildSlice 67 1 #[(0, (.tmp 12))], (opN r93_11 2).type, (opN r93_11 2).pos, (opN r93_11 2).after, none⟩, ⟨(some 14), .call ⟨.builtin .append, #[(.tmp 11), (.tmp 13)], #[67, 67]⟩, (opN r93_11 3).type, (opN r93_11 3).pos, (opN r93_11 3).after, none⟩, ⟨none, .store 67 (.tmp 5) (.tmp 14), (opN r93_11 4).type, (opN r93_11 4).pos, (opN r93_11 4).after, none⟩] tm k ds rnd h Q := by rw [e93_11, Fal.wp_region, l93_11]
theorem e93_10 : c93_10 = .block 1 c93_11 := by kernel_rfl
theorem w93_10 : Wp c3 fn nt tm (.code c93_10 :: k) ds rnd h Q = Wp c3 fn nt tm (.code c93_11 :: .inBlock 1 :: k) ds rnd h Q := by rw [e93_10, Fal.wp_block]
theorem e93_8 : c93_8 = .rangeFunc (.tmp 9) #[10] c93_9 c93_10 := by kernel_rfl
theorem w93_8 : Wp c3 fn nt tm (.code c93_8 :: k) ds rnd h Q = Wp c3 fn nt tm (.code (.rangeFunc (.tmp 9) #[10] c93_9 c93_10) :: k) ds rnd h Q := by rw [e93_8]
theorem e93_7 : c93_7 = .block 0 c93_8 := by kernel_rfl
theorem w93_7 : Wp c3 fn nt tm (.code c93_7 :: k) ds rnd h Q = Wp c3 fn nt tm (.code c93_8 :: .inBlock 0 :: k) ds rnd h Q := by rw [e93_7, Fal.wp_block]
theorem e93_5 : c93_5 = .seq c93_6 c93_7 := by kernel_rfl
theorem w93_5 : Wp c3 fn nt tm (.code c93_5 :: k) ds rnd h Q = Wp c3 fn nt tm (.code c93_6 :: .code c93_7 :: k) ds rnd h Q := by rw [e93_5, Fal.wp_seq]
noncomputable def c93_12 : Code := cB c93_4
noncomputable def c93_13 : Code := cA c93_12
noncomputable def r93_13 : Array Oper := cOps c93_13
theorem e93_13 : c93_13 = .region 5 r93_13 false := by kernel_rfl
theorem l93_13 : r93_13.toList = [⟨(some 15), .load 67 (.tmp 5), (opN r93_13 0).type, (opN r93_13 0).pos, (opN r93_13 0).after, none⟩, ⟨(some 4), .assign (.tmp 15), (opN r93_13 1).type, (opN r93_13 1).pos, (opN r93_13 1).after, none⟩] := by kernel_rfl
theorem w93_13 : Wp c3 fn nt tm (.code c93_13 :: k) ds rnd h Q = WpS c3 fn nt r93_13 false [⟨(some 15), .load 67 (.tmp 5), (opN r93_13 0).type, (opN r93_13 0).pos, (opN r93_13 0).after, none⟩, ⟨(some 4), .assign (.tmp 15), (opN r93_13 1).type, (opN r93_13 1).pos, (opN r93_13 1).after, none⟩] tm k ds rnd h Q := by rw [e93_13, Fal.wp_region, l93_13]
noncomputable def c93_14 : Code := cB c93_12
theorem e93_14 : c93_14 = .ret := by kernel_rfl
theorem w93_14 : Wp c3 fn nt tm (.code c93_14 :: k) ds rnd h Q = Wp c3 fn nt tm (.code .ret :: k) ds rnd h Q := by rw [e93_14]
theorem e93_12 : c93_12 = .seq c93_13 c93_14 := by kernel_rfl
theorem w93_12 : Wp c3 fn nt tm (.code c93_12 :: k) ds rnd h Q = Wp c3 fn nt tm (.code c93_13 :: .code c93_14 :: k) ds rnd h Q := by rw [e93_12, Fal.wp_seq]
theorem e93_4 : c93_4 = .seq c93_5 c93_12 := by kernel_rfl
theorem w93_4 : Wp c3 fn nt tm (.code c93_4 :: k) ds rnd h Q = Wp c3 fn nt tm (.code c93_5 :: .code c93_12 :: k) ds rnd h Q := by rw [e93_4, Fal.wp_seq]
theorem e93_2 : c93_2 = .seq c93_3 c93_4 := by kernel_rfl
theorem w93_2 : Wp c3 fn nt tm (.code c93_2 :: k) ds rnd h Q = Wp c3 fn nt tm (.code c93_3 :: .code c93_4 :: k) ds rnd h Q := by rw [e93_2, Fal.wp_seq]
theorem e93_0 : c93_0 = .seq c93_1 c93_2 := by kernel_rfl
theorem w93_0 : Wp c3 fn nt tm (.code c93_0 :: k) ds rnd h Q = Wp c3 fn nt tm (.code c93_1 :: .code c93_2 :: k) ds rnd h Q := by rw [e93_0, Fal.wp_seq]
theorem fn93 : fnOf Tryz.prog 93 = some (16, c93_0) := by kernel_rfl
theorem res93 : resOf Tryz.prog 93 = some [.tmp 4] := by kernel_rfl
theorem bod93 : bodyB Tryz.prog 93 = true := by kernel_rfl
theorem mem93 (args : List V) : c3.memo 93 args = none := by rfl
-- fallow/sched.agents
noncomputable def c163_0 : Code := bodyOf Tryz.f163
noncomputable def c163_1 : Code := cA c163_0
noncomputable def r163_1 : Array Oper := cOps c163_1
theorem e163_1 : c163_1 = .region 0 r163_1 false := by kernel_rfl
theorem l163_1 : r163_1.toList = [⟨(some 2), .box 67 (.tmp 0), (opN r163_1 0).type, (opN r163_1 0).pos, (opN r163_1 0).after, none⟩, ⟨(some 3), .box 4 (.tmp 1), (opN r163_1 1).type, (opN r163_1 1).pos, (opN r163_1 1).after, none⟩, ⟨(some 4), .assign (.const .nilFunc), (opN r163_1 2).type, (opN r163_1 2).pos, (opN r163_1 2).after, none⟩] := by kernel_rfl
theorem w163_1 : Wp c3 fn nt tm (.code c163_1 :: k) ds rnd h Q = WpS c3 fn nt r163_1 false [⟨(some 2), .box 67 (.tmp 0), (opN r163_1 0).type, (opN r163_1 0).pos, (opN r163_1 0).after, none⟩, ⟨(some 3), .box 4 (.tmp 1), (opN r163_1 1).type, (opN r163_1 1).pos, (opN r163_1 1).after, none⟩, ⟨(some 4), .assign (.const .nilFunc), (opN r163_1 2).type, (opN r163_1 2).pos, (opN r163_1 2).after, none⟩] tm k ds rnd h Q := by rw [e163_1, Fal.wp_region, l163_1]
noncomputable def c163_2 : Code := cB c163_0
noncomputable def c163_3 : Code := cA c163_2
noncomputable def r163_3 : Array Oper := cOps c163_3
theorem e163_3 : c163_3 = .region 1 r163_3 false := by kernel_rfl
theorem l163_3 : r163_3.toList = [⟨(some 5), .makeFunc (.func 222) #[] #[(.tmp 2), (.tmp 3)], (opN r163_3 0).type, (opN r163_3 0).pos, (opN r163_3 0).after, none⟩, ⟨(some 4), .assign (.tmp 5), (opN r163_3 1).type, (opN r163_3 1).pos, (opN r163_3 1).after, none⟩] := by kernel_rfl
theorem w163_3 : Wp c3 fn nt tm (.code c163_3 :: k) ds rnd h Q = WpS c3 fn nt r163_3 false [⟨(some 5), .makeFunc (.func 222) #[] #[(.tmp 2), (.tmp 3)], (opN r163_3 0).type, (opN r163_3 0).pos, (opN r163_3 0).after, none⟩, ⟨(some 4), .assign (.tmp 5), (opN r163_3 1).type, (opN r163_3 1).pos, (opN r163_3 1).after, none⟩] tm k ds rnd h Q := by rw [e163_3, Fal.wp_region, l163_3]
noncomputable def c163_4 : Code := cB c163_2
theorem e163_4 : c163_4 = .ret := by kernel_rfl
theorem w163_4 : Wp c3 fn nt tm (.code c163_4 :: k) ds rnd h Q = Wp c3 fn nt tm (.code .ret :: k) ds rnd h Q := by rw [e163_4]
theorem e163_2 : c163_2 = .seq c163_3 c163_4 := by kernel_rfl
theorem w163_2 : Wp c3 fn nt tm (.code c163_2 :: k) ds rnd h Q = Wp c3 fn nt tm (.code c163_3 :: .code c163_4 :: k) ds rnd h Q := by rw [e163_2, Fal.wp_seq]
theorem e163_0 : c163_0 = .seq c163_1 c163_2 := by kernel_rfl
theorem w163_0 : Wp c3 fn nt tm (.code c163_0 :: k) ds rnd h Q = Wp c3 fn nt tm (.code c163_1 :: .code c163_2 :: k) ds rnd h Q := by rw [e163_0, Fal.wp_seq]
theorem fn163 : fnOf Tryz.prog 163 = some (6, c163_0) := by kernel_rfl
theorem res163 : resOf Tryz.prog 163 = some [.tmp 4] := by kernel_rfl
theorem bod163 : bodyB Tryz.prog 163 = true := by kernel_rfl
theorem mem163 (args : List V) : c3.memo 163 args = none := by rfl
-- fallow/sched.agents$1
noncomputable def c222_0 : Code := bodyOf Tryz.f222
noncomputable def c222_1 : Code := cA c222_0
noncomputable def c222_2 : Code := cA c222_1
noncomputable def r222_2 : Array Oper := cOps c222_2
theorem e222_2 : c222_2 = .region 0 r222_2 false := by kernel_rfl
theorem l222_2 : r222_2.toList = [⟨(some 6), .load 67 (.tmp 1), (opN r222_2 0).type, (opN r222_2 0).pos, (opN r222_2 0).after, none⟩, ⟨(some 7), .call ⟨.builtin .len, #[(.tmp 6)], #[67]⟩, (opN r222_2 1).type, (opN r222_2 1).pos, (opN r222_2 1).after, none⟩, ⟨(some 8), .move (.const (.int .i64 (0))), (opN r222_2 2).type, (opN r222_2 2).pos, (opN r222_2 2).after, none⟩] := by kernel_rfl
theorem w222_2 : Wp c3 fn nt tm (.code c222_2 :: k) ds rnd h Q = WpS c3 fn nt r222_2 false [⟨(some 6), .load 67 (.tmp 1), (opN r222_2 0).type, (opN r222_2 0).pos, (opN r222_2 0).after, none⟩, ⟨(some 7), .call ⟨.builtin .len, #[(.tmp 6)], #[67]⟩, (opN r222_2 1).type, (opN r222_2 1).pos, (opN r222_2 1).after, none⟩, ⟨(some 8), .move (.const (.int .i64 (0))), (opN r222_2 2).type, (opN r222_2 2).pos, (opN r222_2 2).after, none⟩] tm k ds rnd h Q := by rw [e222_2, Fal.wp_region, l222_2]
noncomputable def c222_3 : Code := cB c222_1
noncomputable def c222_4 : Code := cA c222_3
noncomputable def c222_5 : Code := cA c222_4
noncomputable def c222_6 : Code := cA c222_5
noncomputable def r222_6 : Array Oper := cOps c222_6
theorem e222_6 : c222_6 = .region 1 r222_6 false := by kernel_rfl
theorem l222_6 : r222_6.toList = [⟨(some 9), .binOp .lss 3 (.tmp 8) (.tmp 7) 3, (opN r222_6 0).type, (opN r222_6 0).pos, (opN r222_6 0).after, none⟩] := by kernel_rfl
theorem w222_6 : Wp c3 fn nt tm (.code c222_6 :: k) ds rnd h Q = WpS c3 fn nt r222_6 false [⟨(some 9), .binOp .lss 3 (.tmp 8) (.tmp 7) 3, (opN r222_6 0).type, (opN r222_6 0).pos, (opN r222_6 0).after, none⟩] tm k ds rnd h Q := by rw [e222_6, Fal.wp_region, l222_6]
noncomputable def c222_7 : Code := cB c222_5
noncomputable def c222_8 : Code := cA c222_7
noncomputable def c222_9 : Code := cA c222_8
theorem e222_9 : c222_9 = .skip := by kernel_rfl
theorem w222_9 : Wp c3 fn nt tm (.code c222_9 :: k) ds rnd h Q = Wp c3 fn nt tm k ds rnd h Q := by rw [e222_9, Fal.wp_skip]
noncomputable def c222_10 : Code := cB c222_8
theorem e222_10 : c222_10 = .exit 0 := by kernel_rfl
theorem w222_10 : Wp c3 fn nt tm (.code c222_10 :: k) ds rnd h Q = Wp c3 fn nt tm (.code (.exit 0) :: k) ds rnd h Q := by rw [e222_10]
theorem e222_8 : c222_8 = .cond (.tmp 9) c222_9 c222_10 := by kernel_rfl
theorem w222_8 : Wp c3 fn nt tm (.code c222_8 :: k) ds rnd h Q = bo (ev c3.ng tm (.tmp 9)) fun v => vB v fun t => if t = true then Wp c3 fn nt tm (.code c222_9 :: k) ds rnd h Q else Wp c3 fn nt tm (.code c222_10 :: k) ds rnd h Q := by rw [e222_8, Fal.wp_cond]
noncomputable def c222_11 : Code := cB c222_7
noncomputable def c222_12 : Code := cA c222_11
noncomputable def c222_13 : Code := cA c222_12
noncomputable def c222_14 : Code := cA c222_13
noncomputable def r222_14 : Array Oper := cOps c222_14
theorem e222_14 : c222_14 = .region 2 r222_14 false := by kernel_rfl
theorem l222_14 : r222_14.toList = [⟨(some 10), .move (.tmp 8), (opN r222_14 0).type, (opN r222_14 0).pos, (opN r222_14 0).after, none⟩, ⟨(some 11), .indexAddr 67 (.tmp 6) (.tmp 8), (opN r222_14 1).type, (opN r222_14 1).pos, (opN r222_14 1).after, none⟩, ⟨(some 12), .load 3 (.tmp 11), (opN r222_14 2).type, (opN r222_14 2).pos, (opN r222_14 2).after, none⟩, ⟨(some 4), .assign (.tmp 10), (opN r222_14 3).type, (opN r222_14 3).pos, (opN r222_14 3).after, none⟩, ⟨(some 5), .assign (.tmp 12), (opN r222_14 4).type, (opN r222_14 4).pos, (opN r222_14 4).after, none⟩] := by kernel_rfl
theorem w222_14 : Wp c3 fn nt tm (.code c222_14 :: k) ds rnd h Q = WpS c3 fn nt r222_14 false [⟨(some 10), .move (.tmp 8), (opN r222_14 0).type, (opN r222_14 0).pos, (opN r222_14 0).after, none⟩, ⟨(some 11), .indexAddr 67 (.tmp 6) (.tmp 8), (opN r222_14 1).type, (opN r222_14 1).pos, (opN r222_14 1).after, none⟩, ⟨(some 12), .load 3 (.tmp 11), (opN r222_14 2).type, (opN r222_14 2).pos, (opN r222_14 2).after, none⟩, ⟨(some 4), .assign (.tmp 10), (opN r222_14 3).type, (opN r222_14 3).pos, (opN r222_14 3).after, none⟩, ⟨(some 5), .assign (.tmp 12), (opN r222_14 4).type, (opN r222_14 4).pos, (opN r222_14 4).after, none⟩] tm k ds rnd h Q := by rw [e222_14, Fal.wp_region, l222_14]
noncomputable def c222_15 : Code := cB c222_13
noncomputable def c222_16 : Code := cA c222_15
noncomputable def r222_16 : Array Oper := cOps c222_16
theorem e222_16 : c222_16 = .region 3 r222_16 false := by kernel_rfl
theorem l222_16 : r222_16.toList = [⟨(some 13), .move (.tmp 5), (opN r222_16 0).type, (opN r222_16 0).pos, (opN r222_16 0).after, none⟩, ⟨(some 14), .binOp .eql 3 (.tmp 13) (.const (.int .i64 (0))) 3, (opN r222_16 1).type, (opN r222_16 1).pos, (opN r222_16 1).after, none⟩, ⟨(some 15), .move (.tmp 14), (opN r222_16 2).type, (opN r222_16 2).pos, (opN r222_16 2).after, none⟩, ⟨(some 16), .move (.tmp 0), (opN r222_16 3).type, (opN r222_16 3).pos, (opN r222_16 3).after, (some (2, true))⟩, ⟨(some 17), .move (.tmp 4), (opN r222_16 4).type, (opN r222_16 4).pos, (opN r222_16 4).after, (some (2, true))⟩, ⟨(some 18), .call ⟨.value (.tmp 16), #[(.tmp 17)], #[3]⟩, (opN r222_16 5).type, (opN r222_16 5).pos, (opN r222_16 5).after, (some (2, true))⟩, ⟨(some 19), .unOp .not 4 (.tmp 18), (opN r222_16 6).type, (opN r222_16 6).pos, (opN r222_16 6).after, (some (2, true))⟩, ⟨(some 20), .pick (.tmp 15) (.tmp 19) (.const (.bool false)), (opN r222_16 7).type, (opN r222_16 7).pos, (opN r222_16 7).after, none⟩] := by kernel_rfl
theorem g222_16_2 : gTmp r222_16 2 = some 15 := by kernel_rfl
theorem w222_16 : Wp c3 fn nt tm (.code c222_16 :: k) ds rnd h Q = WpS c3 fn nt r222_16 false [⟨(some 13), .move (.tmp 5), (opN r222_16 0).type, (opN r222_16 0).pos, (opN r222_16 0).after, none⟩, ⟨(some 14), .binOp .eql 3 (.tmp 13) (.const (.int .i64 (0))) 3, (opN r222_16 1).type, (opN r222_16 1).pos, (opN r222_16 1).after, none⟩, ⟨(some 15), .move (.tmp 14), (opN r222_16 2).type, (opN r222_16 2).pos, (opN r222_16 2).after, none⟩, ⟨(some 16), .move (.tmp 0), (opN r222_16 3).type, (opN r222_16 3).pos, (opN r222_16 3).after, (some (2, true))⟩, ⟨(some 17), .move (.tmp 4), (opN r222_16 4).type, (opN r222_16 4).pos, (opN r222_16 4).after, (some (2, true))⟩, ⟨(some 18), .call ⟨.value (.tmp 16), #[(.tmp 17)], #[3]⟩, (opN r222_16 5).type, (opN r222_16 5).pos, (opN r222_16 5).after, (some (2, true))⟩, ⟨(some 19), .unOp .not 4 (.tmp 18), (opN r222_16 6).type, (opN r222_16 6).pos, (opN r222_16 6).after, (some (2, true))⟩, ⟨(some 20), .pick (.tmp 15) (.tmp 19) (.const (.bool false)), (opN r222_16 7).type, (opN r222_16 7).pos, (opN r222_16 7).after, none⟩] tm k ds rnd h Q := by rw [e222_16, Fal.wp_region, l222_16]
noncomputable def c222_17 : Code := cB c222_15
noncomputable def c222_18 : Code := cA c222_17
theorem e222_18 : c222_18 = .ret := by kernel_rfl
theorem w222_18 : Wp c3 fn nt tm (.code c222_18 :: k) ds rnd h Q = Wp c3 fn nt tm (.code .ret :: k) ds rnd h Q := by rw [e222_18]
noncomputable def c222_19 : Code := cB c222_17
theorem e222_19 : c222_19 = .skip := by kernel_rfl
theorem w222_19 : Wp c3 fn nt tm (.code c222_19 :: k) ds rnd h Q = Wp c3 fn nt tm k ds rnd h Q := by rw [e222_19, Fal.wp_skip]
theorem e222_17 : c222_17 = .cond (.tmp 20) c222_18 c222_19 := by kernel_rfl
theorem w222_17 : Wp c3 fn nt tm (.code c222_17 :: k) ds rnd h Q = bo (ev c3.ng tm (.tmp 20)) fun v => vB v fun t => if t = true then Wp c3 fn nt tm (.code c222_18 :: k) ds rnd h Q else Wp c3 fn nt tm (.code c222_19 :: k) ds rnd h Q := by rw [e222_17, Fal.wp_cond]
theorem e222_15 : c222_15 = .seq c222_16 c222_17 := by kernel_rfl
theorem w222_15 : Wp c3 fn nt tm (.code c222_15 :: k) ds rnd h Q = Wp c3 fn nt tm (.code c222_16 :: .code c222_17 :: k) ds rnd h Q := by rw [e222_15, Fal.wp_seq]
theorem e222_13 : c222_13 = .seq c222_14 c222_15 := by kernel_rfl
theorem w222_13 : Wp c3 fn nt tm (.code c222_13 :: k) ds rnd h Q = Wp c3 fn nt tm (.code c222_14 :: .code c222_15 :: k) ds rnd h Q := by rw [e222_13, Fal.wp_seq]
theorem e222_12 : c222_12 = .block 1 c222_13 := by kernel_rfl
theorem w222_12 : Wp c3 fn nt tm (.code c222_12 :: k) ds rnd h Q = Wp c3 fn nt tm (.code c222_13 :: .inBlock 1 :: k) ds rnd h Q := by rw [e222_12, Fal.wp_block]
noncomputable def c222_20 : Code := cB c222_11
noncomputable def r222_20 : Array Oper := cOps c222_20
theorem e222_20 : c222_20 = .region 4 r222_20 false := by kernel_rfl
theorem l222_20 : r222_20.toList = [⟨(some 21), .binOp .add 3 (.tmp 8) (.const (.int .i64 (1))) 3, (opN r222_20 0).type, (opN r222_20 0).pos, (opN r222_20 0).after, none⟩, ⟨(some 8), .move (.tmp 21), (opN r222_20 1).type, (opN r222_20 1).pos, (opN r222_20 1).after, none⟩] := by kernel_rfl
theorem w222_20 : Wp c3 fn nt tm (.code c222_20 :: k) ds rnd h Q = WpS c3 fn nt r222_20 false [⟨(some 21), .binOp .add 3 (.tmp 8) (.const (.int .i64 (1))) 3, (opN r222_20 0).type, (opN r222_20 0).pos, (opN r222_20 0).after, none⟩, ⟨(some 8), .move (.tmp 21), (opN r222_20 1).type, (opN r222_20 1).pos, (opN r222_20 1).after, none⟩] tm k ds rnd h Q := by rw [e222_20, Fal.wp_region, l222_20]
theorem e222_11 : c222_11 = .seq c222_12 c222_20 := by kernel_rfl
theorem w222_11 : Wp c3 fn nt tm (.code c222_11 :: k) ds rnd h Q = Wp c3 fn nt tm (.code c222_12 :: .code c222_20 :: k) ds rnd h Q := by rw [e222_11, Fal.wp_seq]
theorem e222_7 : c222_7 = .seq c222_8 c222_11 := by kernel_rfl
theorem w222_7 : Wp c3 fn nt tm (.code c222_7 :: k) ds rnd h Q = Wp c3 fn nt tm (.code c222_8 :: .code c222_11 :: k) ds rnd h Q := by rw [e222_7, Fal.wp_seq]
theorem e222_5 : c222_5 = .seq c222_6 c222_7 := by kernel_rfl
theorem w222_5 : Wp c3 fn nt tm (.code c222_5 :: k) ds rnd h Q = Wp c3 fn nt tm (.code c222_6 :: .code c222_7 :: k) ds rnd h Q := by rw [e222_5, Fal.wp_seq]
theorem e222_4 : c222_4 = .loop c222_5 := by kernel_rfl
theorem w222_4 : Wp c3 fn nt tm (.code c222_4 :: k) ds rnd h Q = Wp c3 fn nt tm (.code c222_5 :: .inLoop c222_5 :: k) ds rnd h Q := by rw [e222_4, Fal.wp_loop]
theorem e222_3 : c222_3 = .block 0 c222_4 := by kernel_rfl
theorem w222_3 : Wp c3 fn nt tm (.code c222_3 :: k) ds rnd h Q = Wp c3 fn nt tm (.code c222_4 :: .inBlock 0 :: k) ds rnd h Q := by rw [e222_3, Fal.wp_block]
theorem e222_1 : c222_1 = .seq c222_2 c222_3 := by kernel_rfl
theorem w222_1 : Wp c3 fn nt tm (.code c222_1 :: k) ds rnd h Q = Wp c3 fn nt tm (.code c222_2 :: .code c222_3 :: k) ds rnd h Q := by rw [e222_1, Fal.wp_seq]
noncomputable def c222_21 : Code := cB c222_0
noncomputable def c222_22 : Code := cA c222_21
noncomputable def r222_22 : Array Oper := cOps c222_22
theorem e222_22 : c222_22 = .region 5 r222_22 false := by kernel_rfl
theorem l222_22 : r222_22.toList = [⟨(some 22), .load 4 (.tmp 2), (opN r222_22 0).type, (opN r222_22 0).pos, (opN r222_22 0).after, none⟩] := by kernel_rfl
theorem w222_22 : Wp c3 fn nt tm (.code c222_22 :: k) ds rnd h Q = WpS c3 fn nt r222_22 false [⟨(some 22), .load 4 (.tmp 2), (opN r222_22 0).type, (opN r222_22 0).pos, (opN r222_22 0).after, none⟩] tm k ds rnd h Q := by rw [e222_22, Fal.wp_region, l222_22]
noncomputable def c222_23 : Code := cB c222_21
noncomputable def c222_24 : Code := cA c222_23
noncomputable def r222_24 : Array Oper := cOps c222_24
theorem e222_24 : c222_24 = .region 6 r222_24 false := by kernel_rfl
theorem l222_24 : r222_24.toList = [⟨(some 23), .move (.tmp 0), (opN r222_24 0).type, (opN r222_24 0).pos, (opN r222_24 0).after, none⟩, ⟨(some 24), .load 67 (.tmp 1), (opN r222_24 1).type, (opN r222_24 1).pos, (opN r222_24 1).after, none⟩, ⟨(some 25), .call ⟨.builtin .len, #[(.tmp 24)], #[67]⟩, (opN r222_24 2).type, (opN r222_24 2).pos, (opN r222_24 2).after, none⟩, ⟨(some 26), .call ⟨.value (.tmp 23), #[(.tmp 25)], #[3]⟩, (opN r222_24 3).type, (opN r222_24 3).pos, (opN r222_24 3).after, none⟩] := by kernel_rfl
theorem w222_24 : Wp c3 fn nt tm (.code c222_24 :: k) ds rnd h Q = WpS c3 fn nt r222_24 false [⟨(some 23), .move (.tmp 0), (opN r222_24 0).type, (opN r222_24 0).pos, (opN r222_24 0).after, none⟩, ⟨(some 24), .load 67 (.tmp 1), (opN r222_24 1).type, (opN r222_24 1).pos, (opN r222_24 1).after, none⟩, ⟨(some 25), .call ⟨.builtin .len, #[(.tmp 24)], #[67]⟩, (opN r222_24 2).type, (opN r222_24 2).pos, (opN r222_24 2).after, none⟩, ⟨(some 26), .call ⟨.value (.tmp 23), #[(.tmp 25)], #[3]⟩, (opN r222_24 3).type, (opN r222_24 3).pos, (opN r222_24 3).after, none⟩] tm k ds rnd h Q := by rw [e222_24, Fal.wp_region, l222_24]
noncomputable def c222_25 : Code := cB c222_23
theorem e222_25 : c222_25 = .skip := by kernel_rfl
theorem w222_25 : Wp c3 fn nt tm (.code c222_25 :: k) ds rnd h Q = Wp c3 fn nt tm k ds rnd h Q := by rw [e222_25, Fal.wp_skip]
theorem e222_23 : c222_23 = .cond (.tmp 22) c222_24 c222_25 := by kernel_rfl
theorem w222_23 : Wp c3 fn nt tm (.code c222_23 :: k) ds rnd h Q = bo (ev c3.ng tm (.tmp 22)) fun v => vB v fun t => if t = true then Wp c3 fn nt tm (.code c222_24 :: k) ds rnd h Q else Wp c3 fn nt tm (.code c222_25 :: k) ds rnd h Q := by rw [e222_23, Fal.wp_cond]
theorem e222_21 : c222_21 = .seq c222_22 c222_23 := by kernel_rfl
theorem w222_21 : Wp c3 fn nt tm (.code c222_21 :: k) ds rnd h Q = Wp c3 fn nt tm (.code c222_22 :: .code c222_23 :: k) ds rnd h Q := by rw [e222_21, Fal.wp_seq]
theorem e222_0 : c222_0 = .seq c222_1 c222_21 := by kernel_rfl
theorem w222_0 : Wp c3 fn nt tm (.code c222_0 :: k) ds rnd h Q = Wp c3 fn nt tm (.code c222_1 :: .code c222_21 :: k) ds rnd h Q := by rw [e222_0, Fal.wp_seq]
theorem fn222 : fnOf Tryz.prog 222 = some (27, c222_0) := by kernel_rfl
theorem res222 : resOf Tryz.prog 222 = some [] := by kernel_rfl
theorem bod222 : bodyB Tryz.prog 222 = true := by kernel_rfl
theorem mem222 (args : List V) : c3.memo 222 args = none := by rfl
-- fallow/sched.Pick
noncomputable def c94_0 : Code := bodyOf Tryz.f94
noncomputable def c94_1 : Code := cA c94_0
noncomputable def r94_1 : Array Oper := cOps c94_1
theorem e94_1 : c94_1 = .region 0 r94_1 false := by kernel_rfl
theorem l94_1 : r94_1.toList = [⟨(some 4), .assign (.const (.int .i64 (0))), (opN r94_1 0).type, (opN r94_1 0).pos, (opN r94_1 0).after, none⟩, ⟨(some 5), .assign (.const (.int .i64 (0))), (opN r94_1 1).type, (opN r94_1 1).pos, (opN r94_1 1).after, none⟩] := by kernel_rfl
theorem w94_1 : Wp c3 fn nt tm (.code c94_1 :: k) ds rnd h Q = WpS c3 fn nt r94_1 false [⟨(some 4), .assign (.const (.int .i64 (0))), (opN r94_1 0).type, (opN r94_1 0).pos, (opN r94_1 0).after, none⟩, ⟨(some 5), .assign (.const (.int .i64 (0))), (opN r94_1 1).type, (opN r94_1 1).pos, (opN r94_1 1).after, none⟩] tm k ds rnd h Q := by rw [e94_1, Fal.wp_region, l94_1]
noncomputable def c94_2 : Code := cB c94_0
noncomputable def c94_3 : Code := cA c94_2
noncomputable def c94_4 : Code := cA c94_3
noncomputable def r94_4 : Array Oper := cOps c94_4
theorem e94_4 : c94_4 = .region 1 r94_4 false := by kernel_rfl
theorem l94_4 : r94_4.toList = [⟨(some 6), .move (.tmp 0), (opN r94_4 0).type, (opN r94_4 0).pos, (opN r94_4 0).after, none⟩, ⟨(some 7), .call ⟨.builtin .len, #[(.tmp 6)], #[67]⟩, (opN r94_4 1).type, (opN r94_4 1).pos, (opN r94_4 1).after, none⟩, ⟨(some 8), .binOp .eql 3 (.tmp 7) (.const (.int .i64 (0))) 3, (opN r94_4 2).type, (opN r94_4 2).pos, (opN r94_4 2).after, none⟩] := by kernel_rfl
theorem w94_4 : Wp c3 fn nt tm (.code c94_4 :: k) ds rnd h Q = WpS c3 fn nt r94_4 false [⟨(some 6), .move (.tmp 0), (opN r94_4 0).type, (opN r94_4 0).pos, (opN r94_4 0).after, none⟩, ⟨(some 7), .call ⟨.builtin .len, #[(.tmp 6)], #[67]⟩, (opN r94_4 1).type, (opN r94_4 1).pos, (opN r94_4 1).after, none⟩, ⟨(some 8), .binOp .eql 3 (.tmp 7) (.const (.int .i64 (0))) 3, (opN r94_4 2).type, (opN r94_4 2).pos, (opN r94_4 2).after, none⟩] tm k ds rnd h Q := by rw [e94_4, Fal.wp_region, l94_4]
noncomputable def c94_5 : Code := cB c94_3
noncomputable def c94_6 : Code := cA c94_5
noncomputable def c94_7 : Code := cA c94_6
noncomputable def r94_7 : Array Oper := cOps c94_7
theorem e94_7 : c94_7 = .region 2 r94_7 false := by kernel_rfl
theorem l94_7 : r94_7.toList = [⟨(some 4), .assign (.const (.int .i64 (0))), (opN r94_7 0).type, (opN r94_7 0).pos, (opN r94_7 0).after, none⟩, ⟨(some 5), .assign (.const (.int .i64 (14))), (opN r94_7 1).type, (opN r94_7 1).pos, (opN r94_7 1).after, none⟩] := by kernel_rfl
theorem w94_7 : Wp c3 fn nt tm (.code c94_7 :: k) ds rnd h Q = WpS c3 fn nt r94_7 false [⟨(some 4), .assign (.const (.int .i64 (0))), (opN r94_7 0).type, (opN r94_7 0).pos, (opN r94_7 0).after, none⟩, ⟨(some 5), .assign (.const (.int .i64 (14))), (opN r94_7 1).type, (opN r94_7 1).pos, (opN r94_7 1).after, none⟩] tm k ds rnd h Q := by rw [e94_7, Fal.wp_region, l94_7]
noncomputable def c94_8 : Code := cB c94_6
theorem e94_8 : c94_8 = .ret := by kernel_rfl
theorem w94_8 : Wp c3 fn nt tm (.code c94_8 :: k) ds rnd h Q = Wp c3 fn nt tm (.code .ret :: k) ds rnd h Q := by rw [e94_8]
theorem e94_6 : c94_6 = .seq c94_7 c94_8 := by kernel_rfl
theorem w94_6 : Wp c3 fn nt tm (.code c94_6 :: k) ds rnd h Q = Wp c3 fn nt tm (.code c94_7 :: .code c94_8 :: k) ds rnd h Q := by rw [e94_6, Fal.wp_seq]
noncomputable def c94_9 : Code := cB c94_5
theorem e94_9 : c94_9 = .skip := by kernel_rfl
theorem w94_9 : Wp c3 fn nt tm (.code c94_9 :: k) ds rnd h Q = Wp c3 fn nt tm k ds rnd h Q := by rw [e94_9, Fal.wp_skip]
theorem e94_5 : c94_5 = .cond (.tmp 8) c94_6 c94_9 := by kernel_rfl
theorem w94_5 : Wp c3 fn nt tm (.code c94_5 :: k) ds rnd h Q = bo (ev c3.ng tm (.tmp 8)) fun v => vB v fun t => if t = true then Wp c3 fn nt tm (.code c94_6 :: k) ds rnd h Q else Wp c3 fn nt tm (.code c94_9 :: k) ds rnd h Q := by rw [e94_5, Fal.wp_cond]
theorem e94_3 : c94_3 = .seq c94_4 c94_5 := by kernel_rfl
theorem w94_3 : Wp c3 fn nt tm (.code c94_3 :: k) ds rnd h Q = Wp c3 fn nt tm (.code c94_4 :: .code c94_5 :: k) ds rnd h Q := by rw [e94_3, Fal.wp_seq]
noncomputable def c94_10 : Code := cB c94_2
noncomputable def c94_11 : Code := cA c94_10
noncomputable def r94_11 : Array Oper := cOps c94_11
theorem e94_11 : c94_11 = .region 3 r94_11 false := by kernel_rfl
theorem l94_11 : r94_11.toList = [⟨(some 9), .move (.tmp 0), (opN r94_11 0).type, (opN r94_11 0).pos, (opN r94_11 0).after, none⟩, ⟨(some 10), .move (.tmp 1), (opN r94_11 1).type, (opN r94_11 1).pos, (opN r94_11 1).after, none⟩, ⟨(some 11), .convert 5 3 (.tmp 10), (opN r94_11 2).type, (opN r94_11 2).pos, (opN r94_11 2).after, none⟩, ⟨(some 12), .move (.tmp 0), (opN r94_11 3).type, (opN r94_11 3).pos, (opN r94_11 3).after, none⟩, ⟨(some 13), .call ⟨.builtin .len, #[(.tmp 12)], #[67]⟩, (opN r94_11 4).type, (opN r94_11 4).pos, (opN r94_11 4).after, none⟩, ⟨(some 14), .binOp .rem 3 (.tmp 11) (.tmp 13) 3, (opN r94_11 5).type, (opN r94_11 5).pos, (opN r94_11 5).after, none⟩, ⟨(some 15), .indexAddr 67 (.tmp 9) (.tmp 14), (opN r94_11 6).type, (opN r94_11 6).pos, (opN r94_11 6).after, none⟩, ⟨(some 16), .load 3 (.tmp 15), (opN r94_11 7).type, (opN r94_11 7).pos, (opN r94_11 7).after, none⟩, ⟨(some 4), .assign (.tmp 16), (opN r94_11 8).type, (opN r94_11 8).pos, (opN r94_11 8).after, none⟩, ⟨(some 5), .assign (.const (.int .i64 (0))), (opN r94_11 9).type, (opN r94_11 9).pos, (opN r94_11 9).after, none⟩] := by kernel_rfl
theorem w94_11 : Wp c3 fn nt tm (.code c94_11 :: k) ds rnd h Q = WpS c3 fn nt r94_11 false [⟨(some 9), .move (.tmp 0), (opN r94_11 0).type, (opN r94_11 0).pos, (opN r94_11 0).after, none⟩, ⟨(some 10), .move (.tmp 1), (opN r94_11 1).type, (opN r94_11 1).pos, (opN r94_11 1).after, none⟩, ⟨(some 11), .convert 5 3 (.tmp 10), (opN r94_11 2).type, (opN r94_11 2).pos, (opN r94_11 2).after, none⟩, ⟨(some 12), .move (.tmp 0), (opN r94_11 3).type, (opN r94_11 3).pos, (opN r94_11 3).after, none⟩, ⟨(some 13), .call ⟨.builtin .len, #[(.tmp 12)], #[67]⟩, (opN r94_11 4).type, (opN r94_11 4).pos, (opN r94_11 4).after, none⟩, ⟨(some 14), .binOp .rem 3 (.tmp 11) (.tmp 13) 3, (opN r94_11 5).type, (opN r94_11 5).pos, (opN r94_11 5).after, none⟩, ⟨(some 15), .indexAddr 67 (.tmp 9) (.tmp 14), (opN r94_11 6).type, (opN r94_11 6).pos, (opN r94_11 6).after, none⟩, ⟨(some 16), .load 3 (.tmp 15), (opN r94_11 7).type, (opN r94_11 7).pos, (opN r94_11 7).after, none⟩, ⟨(some 4), .assign (.tmp 16), (opN r94_11 8).type, (opN r94_11 8).pos, (opN r94_11 8).after, none⟩, ⟨(some 5), .assign (.const (.int .i64 (0))), (opN r94_11 9).type, (opN r94_11 9).pos, (opN r94_11 9).after, none⟩] tm k ds rnd h Q := by rw [e94_11, Fal.wp_region, l94_11]
noncomputable def c94_12 : Code := cB c94_10
theorem e94_12 : c94_12 = .ret := by kernel_rfl
theorem w94_12 : Wp c3 fn nt tm (.code c94_12 :: k) ds rnd h Q = Wp c3 fn nt tm (.code .ret :: k) ds rnd h Q := by rw [e94_12]
theorem e94_10 : c94_10 = .seq c94_11 c94_12 := by kernel_rfl
theorem w94_10 : Wp c3 fn nt tm (.code c94_10 :: k) ds rnd h Q = Wp c3 fn nt tm (.code c94_11 :: .code c94_12 :: k) ds rnd h Q := by rw [e94_10, Fal.wp_seq]
theorem e94_2 : c94_2 = .seq c94_3 c94_10 := by kernel_rfl
theorem w94_2 : Wp c3 fn nt tm (.code c94_2 :: k) ds rnd h Q = Wp c3 fn nt tm (.code c94_3 :: .code c94_10 :: k) ds rnd h Q := by rw [e94_2, Fal.wp_seq]
theorem e94_0 : c94_0 = .seq c94_1 c94_2 := by kernel_rfl
theorem w94_0 : Wp c3 fn nt tm (.code c94_0 :: k) ds rnd h Q = Wp c3 fn nt tm (.code c94_1 :: .code c94_2 :: k) ds rnd h Q := by rw [e94_0, Fal.wp_seq]
theorem fn94 : fnOf Tryz.prog 94 = some (17, c94_0) := by kernel_rfl
theorem res94 : resOf Tryz.prog 94 = some [.tmp 4, .tmp 5] := by kernel_rfl
theorem bod94 : bodyB Tryz.prog 94 = true := by kernel_rfl
theorem mem94 (args : List V) : c3.memo 94 args = none := by rfl
-- fallow/sched.Fair
noncomputable def c95_0 : Code := bodyOf Tryz.f95
noncomputable def c95_1 : Code := cA c95_0
noncomputable def r95_1 : Array Oper := cOps c95_1
theorem e95_1 : c95_1 = .region 0 r95_1 false := by kernel_rfl
theorem l95_1 : r95_1.toList = [⟨(some 3), .box 67 (.tmp 0), (opN r95_1 0).type, (opN r95_1 0).pos, (opN r95_1 0).after, none⟩, ⟨(some 5), .box 3 (.tmp 2), (opN r95_1 1).type, (opN r95_1 1).pos, (opN r95_1 1).after, none⟩, ⟨(some 6), .assign (.const (.bool false)), (opN r95_1 2).type, (opN r95_1 2).pos, (opN r95_1 2).after, none⟩] := by kernel_rfl
theorem w95_1 : Wp c3 fn nt tm (.code c95_1 :: k) ds rnd h Q = WpS c3 fn nt r95_1 false [⟨(some 3), .box 67 (.tmp 0), (opN r95_1 0).type, (opN r95_1 0).pos, (opN r95_1 0).after, none⟩, ⟨(some 5), .box 3 (.tmp 2), (opN r95_1 1).type, (opN r95_1 1).pos, (opN r95_1 1).after, none⟩, ⟨(some 6), .assign (.const (.bool false)), (opN r95_1 2).type, (opN r95_1 2).pos, (opN r95_1 2).after, none⟩] tm k ds rnd h Q := by rw [e95_1, Fal.wp_region, l95_1]
noncomputable def c95_2 : Code := cB c95_0
noncomputable def c95_3 : Code := cA c95_2
noncomputable def c95_4 : Code := cA c95_3
noncomputable def r95_4 : Array Oper := cOps c95_4
theorem e95_4 : c95_4 = .region 1 r95_4 false := by kernel_rfl
theorem l95_4 : r95_4.toList = [⟨(some 11), .move (.tmp 1), (opN r95_4 0).type, (opN r95_4 0).pos, (opN r95_4 0).after, none⟩, ⟨(some 12), .binOp .lss 3 (.tmp 11) (.const (.int .i64 (0))) 3, (opN r95_4 1).type, (opN r95_4 1).pos, (opN r95_4 1).after, none⟩, ⟨(some 13), .move (.tmp 12), (opN r95_4 2).type, (opN r95_4 2).pos, (opN r95_4 2).after, none⟩, ⟨(some 14), .load 3 (.tmp 5), (opN r95_4 3).type, (opN r95_4 3).pos, (opN r95_4 3).after, (some (2, false))⟩, ⟨(some 15), .binOp .lss 3 (.tmp 14) (.const (.int .i64 (1))) 3, (opN r95_4 4).type, (opN r95_4 4).pos, (opN r95_4 4).after, (some (2, false))⟩, ⟨(some 16), .pick (.tmp 13) (.const (.bool true)) (.tmp 15), (opN r95_4 5).type, (opN r95_4 5).pos, (opN r95_4 5).after, none⟩] := by kernel_rfl
theorem g95_4_2 : gTmp r95_4 2 = some 13 := by kernel_rfl
theorem w95_4 : Wp c3 fn nt tm (.code c95_4 :: k) ds rnd h Q = WpS c3 fn nt r95_4 false [⟨(some 11), .move (.tmp 1), (opN r95_4 0).type, (opN r95_4 0).pos, (opN r95_4 0).after, none⟩, ⟨(some 12), .binOp .lss 3 (.tmp 11) (.const (.int .i64 (0))) 3, (opN r95_4 1).type, (opN r95_4 1).pos, (opN r95_4 1).after, none⟩, ⟨(some 13), .move (.tmp 12), (opN r95_4 2).type, (opN r95_4 2).pos, (opN r95_4 2).after, none⟩, ⟨(some 14), .load 3 (.tmp 5), (opN r95_4 3).type, (opN r95_4 3).pos, (opN r95_4 3).after, (some (2, false))⟩, ⟨(some 15), .binOp .lss 3 (.tmp 14) (.const (.int .i64 (1))) 3, (opN r95_4 4).type, (opN r95_4 4).pos, (opN r95_4 4).after, (some (2, false))⟩, ⟨(some 16), .pick (.tmp 13) (.const (.bool true)) (.tmp 15), (opN r95_4 5).type, (opN r95_4 5).pos, (opN r95_4 5).after, none⟩] tm k ds rnd h Q := by rw [e95_4, Fal.wp_region, l95_4]
noncomputable def c95_5 : Code := cB c95_3
noncomputable def c95_6 : Code := cA c95_5
noncomputable def c95_7 : Code := cA c95_6
noncomputable def r95_7 : Array Oper := cOps c95_7
theorem e95_7 : c95_7 = .region 2 r95_7 false := by kernel_rfl
theorem l95_7 : r95_7.toList = [⟨(some 6), .assign (.const (.bool false)), (opN r95_7 0).type, (opN r95_7 0).pos, (opN r95_7 0).after, none⟩] := by kernel_rfl
theorem w95_7 : Wp c3 fn nt tm (.code c95_7 :: k) ds rnd h Q = WpS c3 fn nt r95_7 false [⟨(some 6), .assign (.const (.bool false)), (opN r95_7 0).type, (opN r95_7 0).pos, (opN r95_7 0).after, none⟩] tm k ds rnd h Q := by rw [e95_7, Fal.wp_region, l95_7]
noncomputable def c95_8 : Code := cB c95_6
theorem e95_8 : c95_8 = .ret := by kernel_rfl
theorem w95_8 : Wp c3 fn nt tm (.code c95_8 :: k) ds rnd h Q = Wp c3 fn nt tm (.code .ret :: k) ds rnd h Q := by rw [e95_8]
theorem e95_6 : c95_6 = .seq c95_7 c95_8 := by kernel_rfl
theorem w95_6 : Wp c3 fn nt tm (.code c95_6 :: k) ds rnd h Q = Wp c3 fn nt tm (.code c95_7 :: .code c95_8 :: k) ds rnd h Q := by rw [e95_6, Fal.wp_seq]
noncomputable def c95_9 : Code := cB c95_5
theorem e95_9 : c95_9 = .skip := by kernel_rfl
theorem w95_9 : Wp c3 fn nt tm (.code c95_9 :: k) ds rnd h Q = Wp c3 fn nt tm k ds rnd h Q := by rw [e95_9, Fal.wp_skip]
theorem e95_5 : c95_5 = .cond (.tmp 16) c95_6 c95_9 := by kernel_rfl
theorem w95_5 : Wp c3 fn nt tm (.code c95_5 :: k) ds rnd h Q = bo (ev c3.ng tm (.tmp 16)) fun v => vB v fun t => if t = true then Wp c3 fn nt tm (.code c95_6 :: k) ds rnd h Q else Wp c3 fn nt tm (.code c95_9 :: k) ds rnd h Q := by rw [e95_5, Fal.wp_cond]
theorem e95_3 : c95_3 = .seq c95_4 c95_5 := by kernel_rfl
theorem w95_3 : Wp c3 fn nt tm (.code c95_3 :: k) ds rnd h Q = Wp c3 fn nt tm (.code c95_4 :: .code c95_5 :: k) ds rnd h Q := by rw [e95_3, Fal.wp_seq]
noncomputable def c95_10 : Code := cB c95_2
noncomputable def c95_11 : Code := cA c95_10
noncomputable def c95_12 : Code := cA c95_11
noncomputable def r95_12 : Array Oper := cOps c95_12
theorem e95_12 : c95_12 = .region 3 r95_12 false := by kernel_rfl
theorem l95_12 : r95_12.toList = [⟨(some 17), .move (.tmp 1), (opN r95_12 0).type, (opN r95_12 0).pos, (opN r95_12 0).after, none⟩, ⟨(some 18), .binOp .eql 3 (.tmp 17) (.const (.int .i64 (0))) 3, (opN r95_12 1).type, (opN r95_12 1).pos, (opN r95_12 1).after, none⟩, ⟨(some 19), .move (.tmp 18), (opN r95_12 2).type, (opN r95_12 2).pos, (opN r95_12 2).after, none⟩, ⟨(some 20), .load 67 (.tmp 3), (opN r95_12 3).type, (opN r95_12 3).pos, (opN r95_12 3).after, (some (2, false))⟩, ⟨(some 21), .call ⟨.builtin .len, #[(.tmp 20)], #[67]⟩, (opN r95_12 4).type, (opN r95_12 4).pos, (opN r95_12 4).after, (some (2, false))⟩, ⟨(some 22), .load 3 (.tmp 5), (opN r95_12 5).type, (opN r95_12 5).pos, (opN r95_12 5).after, (some (2, false))⟩, ⟨(some 23), .binOp .lss 3 (.tmp 21) (.tmp 22) 3, (opN r95_12 6).type, (opN r95_12 6).pos, (opN r95_12 6).after, (some (2, false))⟩, ⟨(some 24), .pick (.tmp 19) (.const (.bool true)) (.tmp 23), (opN r95_12 7).type, (opN r95_12 7).pos, (opN r95_12 7).after, none⟩] := by kernel_rfl
theorem g95_12_2 : gTmp r95_12 2 = some 19 := by kernel_rfl
theorem w95_12 : Wp c3 fn nt tm (.code c95_12 :: k) ds rnd h Q = WpS c3 fn nt r95_12 false [⟨(some 17), .move (.tmp 1), (opN r95_12 0).type, (opN r95_12 0).pos, (opN r95_12 0).after, none⟩, ⟨(some 18), .binOp .eql 3 (.tmp 17) (.const (.int .i64 (0))) 3, (opN r95_12 1).type, (opN r95_12 1).pos, (opN r95_12 1).after, none⟩, ⟨(some 19), .move (.tmp 18), (opN r95_12 2).type, (opN r95_12 2).pos, (opN r95_12 2).after, none⟩, ⟨(some 20), .load 67 (.tmp 3), (opN r95_12 3).type, (opN r95_12 3).pos, (opN r95_12 3).after, (some (2, false))⟩, ⟨(some 21), .call ⟨.builtin .len, #[(.tmp 20)], #[67]⟩, (opN r95_12 4).type, (opN r95_12 4).pos, (opN r95_12 4).after, (some (2, false))⟩, ⟨(some 22), .load 3 (.tmp 5), (opN r95_12 5).type, (opN r95_12 5).pos, (opN r95_12 5).after, (some (2, false))⟩, ⟨(some 23), .binOp .lss 3 (.tmp 21) (.tmp 22) 3, (opN r95_12 6).type, (opN r95_12 6).pos, (opN r95_12 6).after, (some (2, false))⟩, ⟨(some 24), .pick (.tmp 19) (.const (.bool true)) (.tmp 23), (opN r95_12 7).type, (opN r95_12 7).pos, (opN r95_12 7).after, none⟩] tm k ds rnd h Q := by rw [e95_12, Fal.wp_region, l95_12]
noncomputable def c95_13 : Code := cB c95_11
noncomputable def c95_14 : Code := cA c95_13
noncomputable def c95_15 : Code := cA c95_14
noncomputable def r95_15 : Array Oper := cOps c95_15
theorem e95_15 : c95_15 = .region 4 r95_15 false := by kernel_rfl
theorem l95_15 : r95_15.toList = [⟨(some 6), .assign (.const (.bool true)), (opN r95_15 0).type, (opN r95_15 0).pos, (opN r95_15 0).after, none⟩] := by kernel_rfl
theorem w95_15 : Wp c3 fn nt tm (.code c95_15 :: k) ds rnd h Q = WpS c3 fn nt r95_15 false [⟨(some 6), .assign (.const (.bool true)), (opN r95_15 0).type, (opN r95_15 0).pos, (opN r95_15 0).after, none⟩] tm k ds rnd h Q := by rw [e95_15, Fal.wp_region, l95_15]
noncomputable def c95_16 : Code := cB c95_14
theorem e95_16 : c95_16 = .ret := by kernel_rfl
theorem w95_16 : Wp c3 fn nt tm (.code c95_16 :: k) ds rnd h Q = Wp c3 fn nt tm (.code .ret :: k) ds rnd h Q := by rw [e95_16]
theorem e95_14 : c95_14 = .seq c95_15 c95_16 := by kernel_rfl
theorem w95_14 : Wp c3 fn nt tm (.code c95_14 :: k) ds rnd h Q = Wp c3 fn nt tm (.code c95_15 :: .code c95_16 :: k) ds rnd h Q := by rw [e95_14, Fal.wp_seq]
noncomputable def c95_17 : Code := cB c95_13
theorem e95_17 : c95_17 = .skip := by kernel_rfl
theorem w95_17 : Wp c3 fn nt tm (.code c95_17 :: k) ds rnd h Q = Wp c3 fn nt tm k ds rnd h Q := by rw [e95_17, Fal.wp_skip]
theorem e95_13 : c95_13 = .cond (.tmp 24) c95_14 c95_17 := by kernel_rfl
theorem w95_13 : Wp c3 fn nt tm (.code c95_13 :: k) ds rnd h Q = bo (ev c3.ng tm (.tmp 24)) fun v => vB v fun t => if t = true then Wp c3 fn nt tm (.code c95_14 :: k) ds rnd h Q else Wp c3 fn nt tm (.code c95_17 :: k) ds rnd h Q := by rw [e95_13, Fal.wp_cond]
theorem e95_11 : c95_11 = .seq c95_12 c95_13 := by kernel_rfl
theorem w95_11 : Wp c3 fn nt tm (.code c95_11 :: k) ds rnd h Q = Wp c3 fn nt tm (.code c95_12 :: .code c95_13 :: k) ds rnd h Q := by rw [e95_11, Fal.wp_seq]
noncomputable def c95_18 : Code := cB c95_10
noncomputable def c95_19 : Code := cA c95_18
noncomputable def c95_20 : Code := cA c95_19
noncomputable def r95_20 : Array Oper := cOps c95_20
theorem e95_20 : c95_20 = .region 5 r95_20 false := by kernel_rfl
theorem l95_20 : r95_20.toList = [⟨(some 25), .move (.tmp 1), (opN r95_20 0).type, (opN r95_20 0).pos, (opN r95_20 0).after, none⟩, ⟨(some 26), .load 3 (.tmp 5), (opN r95_20 1).type, (opN r95_20 1).pos, (opN r95_20 1).after, none⟩, ⟨(some 27), .binOp .gtr 3 (.tmp 25) (.tmp 26) 3, (opN r95_20 2).type, (opN r95_20 2).pos, (opN r95_20 2).after, none⟩] := by kernel_rfl
theorem w95_20 : Wp c3 fn nt tm (.code c95_20 :: k) ds rnd h Q = WpS c3 fn nt r95_20 false [⟨(some 25), .move (.tmp 1), (opN r95_20 0).type, (opN r95_20 0).pos, (opN r95_20 0).after, none⟩, ⟨(some 26), .load 3 (.tmp 5), (opN r95_20 1).type, (opN r95_20 1).pos, (opN r95_20 1).after, none⟩, ⟨(some 27), .binOp .gtr 3 (.tmp 25) (.tmp 26) 3, (opN r95_20 2).type, (opN r95_20 2).pos, (opN r95_20 2).after, none⟩] tm k ds rnd h Q := by rw [e95_20, Fal.wp_region, l95_20]
noncomputable def c95_21 : Code := cB c95_19
noncomputable def c95_22 : Code := cA c95_21
noncomputable def c95_23 : Code := cA c95_22
noncomputable def r95_23 : Array Oper := cOps c95_23
theorem e95_23 : c95_23 = .region 6 r95_23 false := by kernel_rfl
theorem l95_23 : r95_23.toList = [⟨(some 6), .assign (.const (.bool false)), (opN r95_23 0).type, (opN r95_23 0).pos, (opN r95_23 0).after, none⟩] := by kernel_rfl
theorem w95_23 : Wp c3 fn nt tm (.code c95_23 :: k) ds rnd h Q = WpS c3 fn nt r95_23 false [⟨(some 6), .assign (.const (.bool false)), (opN r95_23 0).type, (opN r95_23 0).pos, (opN r95_23 0).after, none⟩] tm k ds rnd h Q := by rw [e95_23, Fal.wp_region, l95_23]
noncomputable def c95_24 : Code := cB c95_22
theorem e95_24 : c95_24 = .ret := by kernel_rfl
theorem w95_24 : Wp c3 fn nt tm (.code c95_24 :: k) ds rnd h Q = Wp c3 fn nt tm (.code .ret :: k) ds rnd h Q := by rw [e95_24]
theorem e95_22 : c95_22 = .seq c95_23 c95_24 := by kernel_rfl
theorem w95_22 : Wp c3 fn nt tm (.code c95_22 :: k) ds rnd h Q = Wp c3 fn nt tm (.code c95_23 :: .code c95_24 :: k) ds rnd h Q := by rw [e95_22, Fal.wp_seq]
noncomputable def c95_25 : Code := cB c95_21
theorem e95_25 : c95_25 = .skip := by kernel_rfl
theorem w95_25 : Wp c3 fn nt tm (.code c95_25 :: k) ds rnd h Q = Wp c3 fn nt tm k ds rnd h Q := by rw [e95_25, Fal.wp_skip]
theorem e95_21 : c95_21 = .cond (.tmp 27) c95_22 c95_25 := by kernel_rfl
theorem w95_21 : Wp c3 fn nt tm (.code c95_21 :: k) ds rnd h Q = bo (ev c3.ng tm (.tmp 27)) fun v => vB v fun t => if t = true then Wp c3 fn nt tm (.code c95_22 :: k) ds rnd h Q else Wp c3 fn nt tm (.code c95_25 :: k) ds rnd h Q := by rw [e95_21, Fal.wp_cond]
theorem e95_19 : c95_19 = .seq c95_20 c95_21 := by kernel_rfl
theorem w95_19 : Wp c3 fn nt tm (.code c95_19 :: k) ds rnd h Q = Wp c3 fn nt tm (.code c95_20 :: .code c95_21 :: k) ds rnd h Q := by rw [e95_19, Fal.wp_seq]
noncomputable def c95_26 : Code := cB c95_18
noncomputable def c95_27 : Code := cA c95_26
noncomputable def r95_27 : Array Oper := cOps c95_27
theorem e95_27 : c95_27 = .region 7 r95_27 false := by kernel_rfl
theorem l95_27 : r95_27.toList = [⟨(some 28), .makeMap 264 none, (opN r95_27 0).type, (opN r95_27 0).pos, (opN r95_27 0).after, none⟩, ⟨(some 7), .alloc 264, (opN r95_27 1).type, (opN r95_27 1).pos, (opN r95_27 1).after, none⟩, ⟨none, .store 264 (.tmp 7) (.tmp 28), (opN r95_27 2).type, (opN r95_27 2).pos, (opN r95_27 2).after, none⟩] := by kernel_rfl
theorem w95_27 : Wp c3 fn nt tm (.code c95_27 :: k) ds rnd h Q = WpS c3 fn nt r95_27 false [⟨(some 28), .makeMap 264 none, (opN r95_27 0).type, (opN r95_27 0).pos, (opN r95_27 0).after, none⟩, ⟨(some 7), .alloc 264, (opN r95_27 1).type, (opN r95_27 1).pos, (opN r95_27 1).after, none⟩, ⟨none, .store 264 (.tmp 7) (.tmp 28), (opN r95_27 2).type, (opN r95_27 2).pos, (opN r95_27 2).after, none⟩] tm k ds rnd h Q := by rw [e95_27, Fal.wp_region, l95_27]
noncomputable def c95_28 : Code := cB c95_26
noncomputable def c95_29 : Code := cA c95_28
noncomputable def r95_29 : Array Oper := cOps c95_29
theorem e95_29 : c95_29 = .region 8 r95_29 false := by kernel_rfl
theorem l95_29 : r95_29.toList = [⟨(some 29), .makeFunc (.func 164) #[] #[(.tmp 7), (.tmp 5)], (opN r95_29 0).type, (opN r95_29 0).pos, (opN r95_29 0).after, none⟩, ⟨(some 8), .alloc 128, (opN r95_29 1).type, (opN r95_29 1).pos, (opN r95_29 1).after, none⟩, ⟨none, .store 128 (.tmp 8) (.tmp 29), (opN r95_29 2).type, (opN r95_29 2).pos, (opN r95_29 2).after, none⟩] := by kernel_rfl
theorem w95_29 : Wp c3 fn nt tm (.code c95_29 :: k) ds rnd h Q = WpS c3 fn nt r95_29 false [⟨(some 29), .makeFunc (.func 164) #[] #[(.tmp 7), (.tmp 5)], (opN r95_29 0).type, (opN r95_29 0).pos, (opN r95_29 0).after, none⟩, ⟨(some 8), .alloc 128, (opN r95_29 1).type, (opN r95_29 1).pos, (opN r95_29 1).after, none⟩, ⟨none, .store 128 (.tmp 8) (.tmp 29), (opN r95_29 2).type, (opN r95_29 2).pos, (opN r95_29 2).after, none⟩] tm k ds rnd h Q := by rw [e95_29, Fal.wp_region, l95_29]
noncomputable def c95_30 : Code := cB c95_28
noncomputable def c95_31 : Code := cA c95_30
noncomputable def c95_32 : Code := cA c95_31
noncomputable def r95_32 : Array Oper := cOps c95_32
theorem e95_32 : c95_32 = .region 9 r95_32 false := by kernel_rfl
theorem l95_32 : r95_32.toList = [⟨(some 30), .load 67 (.tmp 3), (opN r95_32 0).type, (opN r95_32 0).pos, (opN r95_32 0).after, none⟩, ⟨(some 31), .call ⟨.builtin .len, #[(.tmp 30)], #[67]⟩, (opN r95_32 1).type, (opN r95_32 1).pos, (opN r95_32 1).after, none⟩, ⟨(some 32), .move (.const (.int .i64 (0))), (opN r95_32 2).type, (opN r95_32 2).pos, (opN r95_32 2).after, none⟩] := by kernel_rfl
theorem w95_32 : Wp c3 fn nt tm (.code c95_32 :: k) ds rnd h Q = WpS c3 fn nt r95_32 false [⟨(some 30), .load 67 (.tmp 3), (opN r95_32 0).type, (opN r95_32 0).pos, (opN r95_32 0).after, none⟩, ⟨(some 31), .call ⟨.builtin .len, #[(.tmp 30)], #[67]⟩, (opN r95_32 1).type, (opN r95_32 1).pos, (opN r95_32 1).after, none⟩, ⟨(some 32), .move (.const (.int .i64 (0))), (opN r95_32 2).type, (opN r95_32 2).pos, (opN r95_32 2).after, none⟩] tm k ds rnd h Q := by rw [e95_32, Fal.wp_region, l95_32]
noncomputable def c95_33 : Code := cB c95_31
noncomputable def c95_34 : Code := cA c95_33
noncomputable def c95_35 : Code := cA c95_34
noncomputable def c95_36 : Code := cA c95_35
noncomputable def r95_36 : Array Oper := cOps c95_36
theorem e95_36 : c95_36 = .region 10 r95_36 false := by kernel_rfl
theorem l95_36 : r95_36.toList = [⟨(some 33), .binOp .lss 3 (.tmp 32) (.tmp 31) 3, (opN r95_36 0).type, (opN r95_36 0).pos, (opN r95_36 0).after, none⟩] := by kernel_rfl
theorem w95_36 : Wp c3 fn nt tm (.code c95_36 :: k) ds rnd h Q = WpS c3 fn nt r95_36 false [⟨(some 33), .binOp .lss 3 (.tmp 32) (.tmp 31) 3, (opN r95_36 0).type, (opN r95_36 0).pos, (opN r95_36 0).after, none⟩] tm k ds rnd h Q := by rw [e95_36, Fal.wp_region, l95_36]
noncomputable def c95_37 : Code := cB c95_35
noncomputable def c95_38 : Code := cA c95_37
noncomputable def c95_39 : Code := cA c95_38
theorem e95_39 : c95_39 = .skip := by kernel_rfl
theorem w95_39 : Wp c3 fn nt tm (.code c95_39 :: k) ds rnd h Q = Wp c3 fn nt tm k ds rnd h Q := by rw [e95_39, Fal.wp_skip]
noncomputable def c95_40 : Code := cB c95_38
theorem e95_40 : c95_40 = .exit 0 := by kernel_rfl
theorem w95_40 : Wp c3 fn nt tm (.code c95_40 :: k) ds rnd h Q = Wp c3 fn nt tm (.code (.exit 0) :: k) ds rnd h Q := by rw [e95_40]
theorem e95_38 : c95_38 = .cond (.tmp 33) c95_39 c95_40 := by kernel_rfl
theorem w95_38 : Wp c3 fn nt tm (.code c95_38 :: k) ds rnd h Q = bo (ev c3.ng tm (.tmp 33)) fun v => vB v fun t => if t = true then Wp c3 fn nt tm (.code c95_39 :: k) ds rnd h Q else Wp c3 fn nt tm (.code c95_40 :: k) ds rnd h Q := by rw [e95_38, Fal.wp_cond]
noncomputable def c95_41 : Code := cB c95_37
noncomputable def c95_42 : Code := cA c95_41
noncomputable def c95_43 : Code := cA c95_42
noncomputable def c95_44 : Code := cA c95_43
noncomputable def r95_44 : Array Oper := cOps c95_44
theorem e95_44 : c95_44 = .region 11 r95_44 false := by kernel_rfl
theorem l95_44 : r95_44.toList = [⟨(some 34), .move (.tmp 32), (opN r95_44 0).type, (opN r95_44 0).pos, (opN r95_44 0).after, none⟩, ⟨(some 35), .indexAddr 67 (.tmp 30) (.tmp 32), (opN r95_44 1).type, (opN r95_44 1).pos, (opN r95_44 1).after, none⟩, ⟨(some 36), .load 3 (.tmp 35), (opN r95_44 2).type, (opN r95_44 2).pos, (opN r95_44 2).after, none⟩, ⟨(some 9), .assign (.tmp 34), (opN r95_44 3).type, (opN r95_44 3).pos, (opN r95_44 3).after, none⟩, ⟨(some 10), .assign (.tmp 36), (opN r95_44 4).type, (opN r95_44 4).pos, (opN r95_44 4).after, none⟩] := by kernel_rfl
theorem w95_44 : Wp c3 fn nt tm (.code c95_44 :: k) ds rnd h Q = WpS c3 fn nt r95_44 false [⟨(some 34), .move (.tmp 32), (opN r95_44 0).type, (opN r95_44 0).pos, (opN r95_44 0).after, none⟩, ⟨(some 35), .indexAddr 67 (.tmp 30) (.tmp 32), (opN r95_44 1).type, (opN r95_44 1).pos, (opN r95_44 1).after, none⟩, ⟨(some 36), .load 3 (.tmp 35), (opN r95_44 2).type, (opN r95_44 2).pos, (opN r95_44 2).after, none⟩, ⟨(some 9), .assign (.tmp 34), (opN r95_44 3).type, (opN r95_44 3).pos, (opN r95_44 3).after, none⟩, ⟨(some 10), .assign (.tmp 36), (opN r95_44 4).type, (opN r95_44 4).pos, (opN r95_44 4).after, none⟩] tm k ds rnd h Q := by rw [e95_44, Fal.wp_region, l95_44]
noncomputable def c95_45 : Code := cB c95_43
noncomputable def c95_46 : Code := cA c95_45
noncomputable def r95_46 : Array Oper := cOps c95_46
theorem e95_46 : c95_46 = .region 12 r95_46 false := by kernel_rfl
theorem l95_46 : r95_46.toList = [⟨(some 37), .move (.tmp 10), (opN r95_46 0).type, (opN r95_46 0).pos, (opN r95_46 0).after, none⟩, ⟨(some 38), .binOp .geq 3 (.tmp 37) (.const (.int .i64 (0))) 3, (opN r95_46 1).type, (opN r95_46 1).pos, (opN r95_46 1).after, none⟩, ⟨(some 39), .move (.tmp 38), (opN r95_46 2).type, (opN r95_46 2).pos, (opN r95_46 2).after, none⟩, ⟨(some 40), .move (.tmp 10), (opN r95_46 3).type, (opN r95_46 3).pos, (opN r95_46 3).after, (some (2, true))⟩, ⟨(some 41), .move (.tmp 1), (opN r95_46 4).type, (opN r95_46 4).pos, (opN r95_46 4).after, (some (2, true))⟩, ⟨(some 42), .binOp .lss 3 (.tmp 40) (.tmp 41) 3, (opN r95_46 5).type, (opN r95_46 5).pos, (opN r95_46 5).after, (some (2, true))⟩, ⟨(some 43), .pick (.tmp 39) (.tmp 42) (.const (.bool false)), (opN r95_46 6).type, (opN r95_46 6).pos, (opN r95_46 6).after, none⟩] := by kernel_rfl
theorem g95_46_2 : gTmp r95_46 2 = some 39 := by kernel_rfl
theorem w95_46 : Wp c3 fn nt tm (.code c95_46 :: k) ds rnd h Q = WpS c3 fn nt r95_46 false [⟨(some 37), .move (.tmp 10), (opN r95_46 0).type, (opN r95_46 0).pos, (opN r95_46 0).after, none⟩, ⟨(some 38), .binOp .geq 3 (.tmp 37) (.const (.int .i64 (0))) 3, (opN r95_46 1).type, (opN r95_46 1).pos, (opN r95_46 1).after, none⟩, ⟨(some 39), .move (.tmp 38), (opN r95_46 2).type, (opN r95_46 2).pos, (opN r95_46 2).after, none⟩, ⟨(some 40), .move (.tmp 10), (opN r95_46 3).type, (opN r95_46 3).pos, (opN r95_46 3).after, (some (2, true))⟩, ⟨(some 41), .move (.tmp 1), (opN r95_46 4).type, (opN r95_46 4).pos, (opN r95_46 4).after, (some (2, true))⟩, ⟨(some 42), .binOp .lss 3 (.tmp 40) (.tmp 41) 3, (opN r95_46 5).type, (opN r95_46 5).pos, (opN r95_46 5).after, (some (2, true))⟩, ⟨(some 43), .pick (.tmp 39) (.tmp 42) (.const (.bool false)), (opN r95_46 6).type, (opN r95_46 6).pos, (opN r95_46 6).after, none⟩] tm k ds rnd h Q := by rw [e95_46, Fal.wp_region, l95_46]
noncomputable def c95_47 : Code := cB c95_45
noncomputable def c95_48 : Code := cA c95_47
noncomputable def c95_49 : Code := cA c95_48
noncomputable def c95_50 : Code := cA c95_49
noncomputable def r95_50 : Array Oper := cOps c95_50
theorem e95_50 : c95_50 = .region 13 r95_50 false := by kernel_rfl
theorem l95_50 : r95_50.toList = [⟨(some 44), .load 128 (.tmp 8), (opN r95_50 0).type, (opN r95_50 0).pos, (opN r95_50 0).after, none⟩, ⟨(some 45), .move (.tmp 10), (opN r95_50 1).type, (opN r95_50 1).pos, (opN r95_50 1).after, none⟩, ⟨(some 46), .move (.tmp 9), (opN r95_50 2).type, (opN r95_50 2).pos, (opN r95_50 2).after, none⟩, ⟨(some 47), .call ⟨.value (.tmp 44), #[(.tmp 45), (.tmp 46)], #[3, 3]⟩, (opN r95_50 3).type, (opN r95_50 3).pos, (opN r95_50 3).after, none⟩] := by kernel_rfl
theorem w95_50 : Wp c3 fn nt tm (.code c95_50 :: k) ds rnd h Q = WpS c3 fn nt r95_50 false [⟨(some 44), .load 128 (.tmp 8), (opN r95_50 0).type, (opN r95_50 0).pos, (opN r95_50 0).after, none⟩, ⟨(some 45), .move (.tmp 10), (opN r95_50 1).type, (opN r95_50 1).pos, (opN r95_50 1).after, none⟩, ⟨(some 46), .move (.tmp 9), (opN r95_50 2).type, (opN r95_50 2).pos, (opN r95_50 2).after, none⟩, ⟨(some 47), .call ⟨.value (.tmp 44), #[(.tmp 45), (.tmp 46)], #[3, 3]⟩, (opN r95_50 3).type, (opN r95_50 3).pos, (opN r95_50 3).after, none⟩] tm k ds rnd h Q := by rw [e95_50, Fal.wp_region, l95_50]
noncomputable def c95_51 : Code := cB c95_49
noncomputable def c95_52 : Code := cA c95_51
noncomputable def c95_53 : Code := cA c95_52
noncomputable def r95_53 : Array Oper := cOps c95_53
theorem e95_53 : c95_53 = .region 14 r95_53 false := by kernel_rfl
theorem l95_53 : r95_53.toList = [⟨(some 6), .assign (.const (.bool false)), (opN r95_53 0).type, (opN r95_53 0).pos, (opN r95_53 0).after, none⟩] := by kernel_rfl
theorem w95_53 : Wp c3 fn nt tm (.code c95_53 :: k) ds rnd h Q = WpS c3 fn nt r95_53 false [⟨(some 6), .assign (.const (.bool false)), (opN r95_53 0).type, (opN r95_53 0).pos, (opN r95_53 0).after, none⟩] tm k ds rnd h Q := by rw [e95_53, Fal.wp_region, l95_53]
noncomputable def c95_54 : Code := cB c95_52
theorem e95_54 : c95_54 = .ret := by kernel_rfl
theorem w95_54 : Wp c3 fn nt tm (.code c95_54 :: k) ds rnd h Q = Wp c3 fn nt tm (.code .ret :: k) ds rnd h Q := by rw [e95_54]
theorem e95_52 : c95_52 = .seq c95_53 c95_54 := by kernel_rfl
theorem w95_52 : Wp c3 fn nt tm (.code c95_52 :: k) ds rnd h Q = Wp c3 fn nt tm (.code c95_53 :: .code c95_54 :: k) ds rnd h Q := by rw [e95_52, Fal.wp_seq]
noncomputable def c95_55 : Code := cB c95_51
theorem e95_55 : c95_55 = .skip := by kernel_rfl
theorem w95_55 : Wp c3 fn nt tm (.code c95_55 :: k) ds rnd h Q = Wp c3 fn nt tm k ds rnd h Q := by rw [e95_55, Fal.wp_skip]
theorem e95_51 : c95_51 = .cond (.tmp 47) c95_52 c95_55 := by kernel_rfl
theorem w95_51 : Wp c3 fn nt tm (.code c95_51 :: k) ds rnd h Q = bo (ev c3.ng tm (.tmp 47)) fun v => vB v fun t => if t = true then Wp c3 fn nt tm (.code c95_52 :: k) ds rnd h Q else Wp c3 fn nt tm (.code c95_55 :: k) ds rnd h Q := by rw [e95_51, Fal.wp_cond]
theorem e95_49 : c95_49 = .seq c95_50 c95_51 := by kernel_rfl
theorem w95_49 : Wp c3 fn nt tm (.code c95_49 :: k) ds rnd h Q = Wp c3 fn nt tm (.code c95_50 :: .code c95_51 :: k) ds rnd h Q := by rw [e95_49, Fal.wp_seq]
noncomputable def c95_56 : Code := cB c95_48
noncomputable def r95_56 : Array Oper := cOps c95_56
theorem e95_56 : c95_56 = .region 15 r95_56 false := by kernel_rfl
theorem l95_56 : r95_56.toList = [⟨(some 48), .load 264 (.tmp 7), (opN r95_56 0).type, (opN r95_56 0).pos, (opN r95_56 0).after, none⟩, ⟨(some 49), .move (.tmp 10), (opN r95_56 1).type, (opN r95_56 1).pos, (opN r95_56 1).after, none⟩, ⟨(some 50), .move (.tmp 9), (opN r95_56 2).type, (opN r95_56 2).pos, (opN r95_56 2).after, none⟩, ⟨none, .mapUpdate 264 (.tmp 48) (.tmp 49) (.tmp 50), (opN r95_56 3).type, (opN r95_56 3).pos, (opN r95_56 3).after, none⟩] := by kernel_rfl
theorem w95_56 : Wp c3 fn nt tm (.code c95_56 :: k) ds rnd h Q = WpS c3 fn nt r95_56 false [⟨(some 48), .load 264 (.tmp 7), (opN r95_56 0).type, (opN r95_56 0).pos, (opN r95_56 0).after, none⟩, ⟨(some 49), .move (.tmp 10), (opN r95_56 1).type, (opN r95_56 1).pos, (opN r95_56 1).after, none⟩, ⟨(some 50), .move (.tmp 9), (opN r95_56 2).type, (opN r95_56 2).pos, (opN r95_56 2).after, none⟩, ⟨none, .mapUpdate 264 (.tmp 48) (.tmp 49) (.tmp 50), (opN r95_56 3).type, (opN r95_56 3).pos, (opN r95_56 3).after, none⟩] tm k ds rnd h Q := by rw [e95_56, Fal.wp_region, l95_56]
theorem e95_48 : c95_48 = .seq c95_49 c95_56 := by kernel_rfl
theorem w95_48 : Wp c3 fn nt tm (.code c95_48 :: k) ds rnd h Q = Wp c3 fn nt tm (.code c95_49 :: .code c95_56 :: k) ds rnd h Q := by rw [e95_48, Fal.wp_seq]
noncomputable def c95_57 : Code := cB c95_47
theorem e95_57 : c95_57 = .skip := by kernel_rfl
theorem w95_57 : Wp c3 fn nt tm (.code c95_57 :: k) ds rnd h Q = Wp c3 fn nt tm k ds rnd h Q := by rw [e95_57, Fal.wp_skip]
theorem e95_47 : c95_47 = .cond (.tmp 43) c95_48 c95_57 := by kernel_rfl
theorem w95_47 : Wp c3 fn nt tm (.code c95_47 :: k) ds rnd h Q = bo (ev c3.ng tm (.tmp 43)) fun v => vB v fun t => if t = true then Wp c3 fn nt tm (.code c95_48 :: k) ds rnd h Q else Wp c3 fn nt tm (.code c95_57 :: k) ds rnd h Q := by rw [e95_47, Fal.wp_cond]
theorem e95_45 : c95_45 = .seq c95_46 c95_47 := by kernel_rfl
theorem w95_45 : Wp c3 fn nt tm (.code c95_45 :: k) ds rnd h Q = Wp c3 fn nt tm (.code c95_46 :: .code c95_47 :: k) ds rnd h Q := by rw [e95_45, Fal.wp_seq]
theorem e95_43 : c95_43 = .seq c95_44 c95_45 := by kernel_rfl
theorem w95_43 : Wp c3 fn nt tm (.code c95_43 :: k) ds rnd h Q = Wp c3 fn nt tm (.code c95_44 :: .code c95_45 :: k) ds rnd h Q := by rw [e95_43, Fal.wp_seq]
theorem e95_42 : c95_42 = .block 1 c95_43 := by kernel_rfl
theorem w95_42 : Wp c3 fn nt tm (.code c95_42 :: k) ds rnd h Q = Wp c3 fn nt tm (.code c95_43 :: .inBlock 1 :: k) ds rnd h Q := by rw [e95_42, Fal.wp_block]
noncomputable def c95_58 : Code := cB c95_41
noncomputable def r95_58 : Array Oper := cOps c95_58
theorem e95_58 : c95_58 = .region 16 r95_58 false := by kernel_rfl
theorem l95_58 : r95_58.toList = [⟨(some 51), .binOp .add 3 (.tmp 32) (.const (.int .i64 (1))) 3, (opN r95_58 0).type, (opN r95_58 0).pos, (opN r95_58 0).after, none⟩, ⟨(some 32), .move (.tmp 51), (opN r95_58 1).type, (opN r95_58 1).pos, (opN r95_58 1).after, none⟩] := by kernel_rfl
theorem w95_58 : Wp c3 fn nt tm (.code c95_58 :: k) ds rnd h Q = WpS c3 fn nt r95_58 false [⟨(some 51), .binOp .add 3 (.tmp 32) (.const (.int .i64 (1))) 3, (opN r95_58 0).type, (opN r95_58 0).pos, (opN r95_58 0).after, none⟩, ⟨(some 32), .move (.tmp 51), (opN r95_58 1).type, (opN r95_58 1).pos, (opN r95_58 1).after, none⟩] tm k ds rnd h Q := by rw [e95_58, Fal.wp_region, l95_58]
theorem e95_41 : c95_41 = .seq c95_42 c95_58 := by kernel_rfl
theorem w95_41 : Wp c3 fn nt tm (.code c95_41 :: k) ds rnd h Q = Wp c3 fn nt tm (.code c95_42 :: .code c95_58 :: k) ds rnd h Q := by rw [e95_41, Fal.wp_seq]
theorem e95_37 : c95_37 = .seq c95_38 c95_41 := by kernel_rfl
theorem w95_37 : Wp c3 fn nt tm (.code c95_37 :: k) ds rnd h Q = Wp c3 fn nt tm (.code c95_38 :: .code c95_41 :: k) ds rnd h Q := by rw [e95_37, Fal.wp_seq]
theorem e95_35 : c95_35 = .seq c95_36 c95_37 := by kernel_rfl
theorem w95_35 : Wp c3 fn nt tm (.code c95_35 :: k) ds rnd h Q = Wp c3 fn nt tm (.code c95_36 :: .code c95_37 :: k) ds rnd h Q := by rw [e95_35, Fal.wp_seq]
theorem e95_34 : c95_34 = .loop c95_35 := by kernel_rfl
theorem w95_34 : Wp c3 fn nt tm (.code c95_34 :: k) ds rnd h Q = Wp c3 fn nt tm (.code c95_35 :: .inLoop c95_35 :: k) ds rnd h Q := by rw [e95_34, Fal.wp_loop]
theorem e95_33 : c95_33 = .block 0 c95_34 := by kernel_rfl
theorem w95_33 : Wp c3 fn nt tm (.code c95_33 :: k) ds rnd h Q = Wp c3 fn nt tm (.code c95_34 :: .inBlock 0 :: k) ds rnd h Q := by rw [e95_33, Fal.wp_block]
theorem e95_31 : c95_31 = .seq c95_32 c95_33 := by kernel_rfl
theorem w95_31 : Wp c3 fn nt tm (.code c95_31 :: k) ds rnd h Q = Wp c3 fn nt tm (.code c95_32 :: .code c95_33 :: k) ds rnd h Q := by rw [e95_31, Fal.wp_seq]
noncomputable def c95_59 : Code := cB c95_30
noncomputable def c95_60 : Code := cA c95_59
noncomputable def r95_60 : Array Oper := cOps c95_60
theorem e95_60 : c95_60 = .region 17 r95_60 false := by kernel_rfl
theorem l95_60 : r95_60.toList = [⟨(some 52), .move (.tmp 1), (opN r95_60 0).type, (opN r95_60 0).pos, (opN r95_60 0).after, none⟩, ⟨(some 53), .makeSlice 67 (.tmp 52) (.tmp 52), (opN r95_60 1).type, (opN r95_60 1).pos, (opN r95_60 1).after, none⟩, ⟨(some 54), .call ⟨.value (.func 93), #[(.tmp 53), (.const (.bool false))], #[67, 4]⟩, (opN r95_60 2).type, (opN r95_60 2).pos, (opN r95_60 2).after, none⟩, ⟨(some 55), .makeFunc (.func 166) #[] #[(.tmp 8), (.tmp 3)], (opN r95_60 3).type, (opN r95_60 3).pos, (opN r95_60 3).after, none⟩, ⟨(some 56), .call ⟨.value (.func 165), #[(.tmp 54), (.tmp 55)], #[67, 150]⟩, (opN r95_60 4).type, (opN r95_60 4).pos, (opN r95_60 4).after, none⟩, ⟨(some 57), .unOp .not 4 (.tmp 56), (opN r95_60 5).type, (opN r95_60 5).pos, (opN r95_60 5).after, none⟩, ⟨(some 6), .assign (.tmp 57), (opN r95_60 6).type, (opN r95_60 6).pos, (opN r95_60 6).after, none⟩] := by kernel_rfl
theorem w95_60 : Wp c3 fn nt tm (.code c95_60 :: k) ds rnd h Q = WpS c3 fn nt r95_60 false [⟨(some 52), .move (.tmp 1), (opN r95_60 0).type, (opN r95_60 0).pos, (opN r95_60 0).after, none⟩, ⟨(some 53), .makeSlice 67 (.tmp 52) (.tmp 52), (opN r95_60 1).type, (opN r95_60 1).pos, (opN r95_60 1).after, none⟩, ⟨(some 54), .call ⟨.value (.func 93), #[(.tmp 53), (.const (.bool false))], #[67, 4]⟩, (opN r95_60 2).type, (opN r95_60 2).pos, (opN r95_60 2).after, none⟩, ⟨(some 55), .makeFunc (.func 166) #[] #[(.tmp 8), (.tmp 3)], (opN r95_60 3).type, (opN r95_60 3).pos, (opN r95_60 3).after, none⟩, ⟨(some 56), .call ⟨.value (.func 165), #[(.tmp 54), (.tmp 55)], #[67, 150]⟩, (opN r95_60 4).type, (opN r95_60 4).pos, (opN r95_60 4).after, none⟩, ⟨(some 57), .unOp .not 4 (.tmp 56), (opN r95_60 5).type, (opN r95_60 5).pos, (opN r95_60 5).after, none⟩, ⟨(some 6), .assign (.tmp 57), (opN r95_60 6).type, (opN r95_60 6).pos, (opN r95_60 6).after, none⟩] tm k ds rnd h Q := by rw [e95_60, Fal.wp_region, l95_60]
noncomputable def c95_61 : Code := cB c95_59
theorem e95_61 : c95_61 = .ret := by kernel_rfl
theorem w95_61 : Wp c3 fn nt tm (.code c95_61 :: k) ds rnd h Q = Wp c3 fn nt tm (.code .ret :: k) ds rnd h Q := by rw [e95_61]
theorem e95_59 : c95_59 = .seq c95_60 c95_61 := by kernel_rfl
theorem w95_59 : Wp c3 fn nt tm (.code c95_59 :: k) ds rnd h Q = Wp c3 fn nt tm (.code c95_60 :: .code c95_61 :: k) ds rnd h Q := by rw [e95_59, Fal.wp_seq]
theorem e95_30 : c95_30 = .seq c95_31 c95_59 := by kernel_rfl
theorem w95_30 : Wp c3 fn nt tm (.code c95_30 :: k) ds rnd h Q = Wp c3 fn nt tm (.code c95_31 :: .code c95_59 :: k) ds rnd h Q := by rw [e95_30, Fal.wp_seq]
theorem e95_28 : c95_28 = .seq c95_29 c95_30 := by kernel_rfl
theorem w95_28 : Wp c3 fn nt tm (.code c95_28 :: k) ds rnd h Q = Wp c3 fn nt tm (.code c95_29 :: .code c95_30 :: k) ds rnd h Q := by rw [e95_28, Fal.wp_seq]
theorem e95_26 : c95_26 = .seq c95_27 c95_28 := by kernel_rfl
theorem w95_26 : Wp c3 fn nt tm (.code c95_26 :: k) ds rnd h Q = Wp c3 fn nt tm (.code c95_27 :: .code c95_28 :: k) ds rnd h Q := by rw [e95_26, Fal.wp_seq]
theorem e95_18 : c95_18 = .seq c95_19 c95_26 := by kernel_rfl
theorem w95_18 : Wp c3 fn nt tm (.code c95_18 :: k) ds rnd h Q = Wp c3 fn nt tm (.code c95_19 :: .code c95_26 :: k) ds rnd h Q := by rw [e95_18, Fal.wp_seq]
theorem e95_10 : c95_10 = .seq c95_11 c95_18 := by kernel_rfl
theorem w95_10 : Wp c3 fn nt tm (.code c95_10 :: k) ds rnd h Q = Wp c3 fn nt tm (.code c95_11 :: .code c95_18 :: k) ds rnd h Q := by rw [e95_10, Fal.wp_seq]
theorem e95_2 : c95_2 = .seq c95_3 c95_10 := by kernel_rfl
theorem w95_2 : Wp c3 fn nt tm (.code c95_2 :: k) ds rnd h Q = Wp c3 fn nt tm (.code c95_3 :: .code c95_10 :: k) ds rnd h Q := by rw [e95_2, Fal.wp_seq]
theorem e95_0 : c95_0 = .seq c95_1 c95_2 := by kernel_rfl
theorem w95_0 : Wp c3 fn nt tm (.code c95_0 :: k) ds rnd h Q = Wp c3 fn nt tm (.code c95_1 :: .code c95_2 :: k) ds rnd h Q := by rw [e95_0, Fal.wp_seq]
theorem fn95 : fnOf Tryz.prog 95 = some (58, c95_0) := by kernel_rfl
theorem res95 : resOf Tryz.prog 95 = some [.tmp 6] := by kernel_rfl
theorem bod95 : bodyB Tryz.prog 95 = true := by kernel_rfl
theorem mem95 (args : List V) : c3.memo 95 args = none := by rfl
-- fallow/sched.Fair$1
noncomputable def c164_0 : Code := bodyOf Tryz.f164
noncomputable def c164_1 : Code := cA c164_0
noncomputable def r164_1 : Array Oper := cOps c164_1
theorem e164_1 : c164_1 = .region 0 r164_1 false := by kernel_rfl
theorem l164_1 : r164_1.toList = [⟨(some 6), .assign (.const (.bool false)), (opN r164_1 0).type, (opN r164_1 0).pos, (opN r164_1 0).after, none⟩] := by kernel_rfl
theorem w164_1 : Wp c3 fn nt tm (.code c164_1 :: k) ds rnd h Q = WpS c3 fn nt r164_1 false [⟨(some 6), .assign (.const (.bool false)), (opN r164_1 0).type, (opN r164_1 0).pos, (opN r164_1 0).after, none⟩] tm k ds rnd h Q := by rw [e164_1, Fal.wp_region, l164_1]
noncomputable def c164_2 : Code := cB c164_0
noncomputable def c164_3 : Code := cA c164_2
noncomputable def r164_3 : Array Oper := cOps c164_3
theorem e164_3 : c164_3 = .region 1 r164_3 false := by kernel_rfl
theorem l164_3 : r164_3.toList = [⟨(some 10), .load 264 (.tmp 2), (opN r164_3 0).type, (opN r164_3 0).pos, (opN r164_3 0).after, none⟩, ⟨(some 11), .move (.tmp 0), (opN r164_3 1).type, (opN r164_3 1).pos, (opN r164_3 1).after, none⟩, ⟨(some 12), .lookup 264 (.tmp 10) (.tmp 11) true, (opN r164_3 2).type, (opN r164_3 2).pos, (opN r164_3 2).after, none⟩, ⟨(some 9), .move (.tmp 12), (opN r164_3 3).type, (opN r164_3 3).pos, (opN r164_3 3).after, none⟩, ⟨(some 13), .extract (.tmp 9) 0, (opN r164_3 4).type, (opN r164_3 4).pos, (opN r164_3 4).after, none⟩, ⟨(some 14), .extract (.tmp 9) 1, (opN r164_3 5).type, (opN r164_3 5).pos, (opN r164_3 5).after, none⟩, ⟨(some 7), .assign (.tmp 13), (opN r164_3 6).type, (opN r164_3 6).pos, (opN r164_3 6).after, none⟩, ⟨(some 8), .assign (.tmp 14), (opN r164_3 7).type, (opN r164_3 7).pos, (opN r164_3 7).after, none⟩] := by kernel_rfl
theorem w164_3 : Wp c3 fn nt tm (.code c164_3 :: k) ds rnd h Q = WpS c3 fn nt r164_3 false [⟨(some 10), .load 264 (.tmp 2), (opN r164_3 0).type, (opN r164_3 0).pos, (opN r164_3 0).after, none⟩, ⟨(some 11), .move (.tmp 0), (opN r164_3 1).type, (opN r164_3 1).pos, (opN r164_3 1).after, none⟩, ⟨(some 12), .lookup 264 (.tmp 10) (.tmp 11) true, (opN r164_3 2).type, (opN r164_3 2).pos, (opN r164_3 2).after, none⟩, ⟨(some 9), .move (.tmp 12), (opN r164_3 3).type, (opN r164_3 3).pos, (opN r164_3 3).after, none⟩, ⟨(some 13), .extract (.tmp 9) 0, (opN r164_3 4).type, (opN r164_3 4).pos, (opN r164_3 4).after, none⟩, ⟨(some 14), .extract (.tmp 9) 1, (opN r164_3 5).type, (opN r164_3 5).pos, (opN r164_3 5).after, none⟩, ⟨(some 7), .assign (.tmp 13), (opN r164_3 6).type, (opN r164_3 6).pos, (opN r164_3 6).after, none⟩, ⟨(some 8), .assign (.tmp 14), (opN r164_3 7).type, (opN r164_3 7).pos, (opN r164_3 7).after, none⟩] tm k ds rnd h Q := by rw [e164_3, Fal.wp_region, l164_3]
noncomputable def c164_4 : Code := cB c164_2
noncomputable def c164_5 : Code := cA c164_4
noncomputable def c164_6 : Code := cA c164_5
noncomputable def r164_6 : Array Oper := cOps c164_6
theorem e164_6 : c164_6 = .region 2 r164_6 false := by kernel_rfl
theorem l164_6 : r164_6.toList = [⟨(some 15), .move (.tmp 8), (opN r164_6 0).type, (opN r164_6 0).pos, (opN r164_6 0).after, none⟩, ⟨(some 16), .unOp .not 4 (.tmp 15), (opN r164_6 1).type, (opN r164_6 1).pos, (opN r164_6 1).after, none⟩] := by kernel_rfl
theorem w164_6 : Wp c3 fn nt tm (.code c164_6 :: k) ds rnd h Q = WpS c3 fn nt r164_6 false [⟨(some 15), .move (.tmp 8), (opN r164_6 0).type, (opN r164_6 0).pos, (opN r164_6 0).after, none⟩, ⟨(some 16), .unOp .not 4 (.tmp 15), (opN r164_6 1).type, (opN r164_6 1).pos, (opN r164_6 1).after, none⟩] tm k ds rnd h Q := by rw [e164_6, Fal.wp_region, l164_6]
noncomputable def c164_7 : Code := cB c164_5
noncomputable def c164_8 : Code := cA c164_7
noncomputable def r164_8 : Array Oper := cOps c164_8
theorem e164_8 : c164_8 = .region 3 r164_8 false := by kernel_rfl
theorem l164_8 : r164_8.toList = [⟨(some 7), .assign (.const (.int .i64 (-1))), (opN r164_8 0).type, (opN r164_8 0).pos, (opN r164_8 0).after, none⟩] := by kernel_rfl
theorem w164_8 : Wp c3 fn nt tm (.code c164_8 :: k) ds rnd h Q = WpS c3 fn nt r164_8 false [⟨(some 7), .assign (.const (.int .i64 (-1))), (opN r164_8 0).type, (opN r164_8 0).pos, (opN r164_8 0).after, none⟩] tm k ds rnd h Q := by rw [e164_8, Fal.wp_region, l164_8]
noncomputable def c164_9 : Code := cB c164_7
theorem e164_9 : c164_9 = .skip := by kernel_rfl
theorem w164_9 : Wp c3 fn nt tm (.code c164_9 :: k) ds rnd h Q = Wp c3 fn nt tm k ds rnd h Q := by rw [e164_9, Fal.wp_skip]
theorem e164_7 : c164_7 = .cond (.tmp 16) c164_8 c164_9 := by kernel_rfl
theorem w164_7 : Wp c3 fn nt tm (.code c164_7 :: k) ds rnd h Q = bo (ev c3.ng tm (.tmp 16)) fun v => vB v fun t => if t = true then Wp c3 fn nt tm (.code c164_8 :: k) ds rnd h Q else Wp c3 fn nt tm (.code c164_9 :: k) ds rnd h Q := by rw [e164_7, Fal.wp_cond]
theorem e164_5 : c164_5 = .seq c164_6 c164_7 := by kernel_rfl
theorem w164_5 : Wp c3 fn nt tm (.code c164_5 :: k) ds rnd h Q = Wp c3 fn nt tm (.code c164_6 :: .code c164_7 :: k) ds rnd h Q := by rw [e164_5, Fal.wp_seq]
noncomputable def c164_10 : Code := cB c164_4
noncomputable def c164_11 : Code := cA c164_10
noncomputable def r164_11 : Array Oper := cOps c164_11
theorem e164_11 : c164_11 = .region 4 r164_11 false := by kernel_rfl
theorem l164_11 : r164_11.toList = [⟨(some 17), .move (.tmp 1), (opN r164_11 0).type, (opN r164_11 0).pos, (opN r164_11 0).after, none⟩, ⟨(some 18), .move (.tmp 7), (opN r164_11 1).type, (opN r164_11 1).pos, (opN r164_11 1).after, none⟩, ⟨(some 19), .binOp .sub 3 (.tmp 17) (.tmp 18) 3, (opN r164_11 2).type, (opN r164_11 2).pos, (opN r164_11 2).after, none⟩, ⟨(some 20), .load 3 (.tmp 3), (opN r164_11 3).type, (opN r164_11 3).pos, (opN r164_11 3).after, none⟩, ⟨(some 21), .binOp .gtr 3 (.tmp 19) (.tmp 20) 3, (opN r164_11 4).type, (opN r164_11 4).pos, (opN r164_11 4).after, none⟩, ⟨(some 6), .assign (.tmp 21), (opN r164_11 5).type, (opN r164_11 5).pos, (opN r164_11 5).after, none⟩] := by kernel_rfl
theorem w164_11 : Wp c3 fn nt tm (.code c164_11 :: k) ds rnd h Q = WpS c3 fn nt r164_11 false [⟨(some 17), .move (.tmp 1), (opN r164_11 0).type, (opN r164_11 0).pos, (opN r164_11 0).after, none⟩, ⟨(some 18), .move (.tmp 7), (opN r164_11 1).type, (opN r164_11 1).pos, (opN r164_11 1).after, none⟩, ⟨(some 19), .binOp .sub 3 (.tmp 17) (.tmp 18) 3, (opN r164_11 2).type, (opN r164_11 2).pos, (opN r164_11 2).after, none⟩, ⟨(some 20), .load 3 (.tmp 3), (opN r164_11 3).type, (opN r164_11 3).pos, (opN r164_11 3).after, none⟩, ⟨(some 21), .binOp .gtr 3 (.tmp 19) (.tmp 20) 3, (opN r164_11 4).type, (opN r164_11 4).pos, (opN r164_11 4).after, none⟩, ⟨(some 6), .assign (.tmp 21), (opN r164_11 5).type, (opN r164_11 5).pos, (opN r164_11 5).after, none⟩] tm k ds rnd h Q := by rw [e164_11, Fal.wp_region, l164_11]
noncomputable def c164_12 : Code := cB c164_10
theorem e164_12 : c164_12 = .ret := by kernel_rfl
theorem w164_12 : Wp c3 fn nt tm (.code c164_12 :: k) ds rnd h Q = Wp c3 fn nt tm (.code .ret :: k) ds rnd h Q := by rw [e164_12]
theorem e164_10 : c164_10 = .seq c164_11 c164_12 := by kernel_rfl
theorem w164_10 : Wp c3 fn nt tm (.code c164_10 :: k) ds rnd h Q = Wp c3 fn nt tm (.code c164_11 :: .code c164_12 :: k) ds rnd h Q := by rw [e164_10, Fal.wp_seq]
theorem e164_4 : c164_4 = .seq c164_5 c164_10 := by kernel_rfl
theorem w164_4 : Wp c3 fn nt tm (.code c164_4 :: k) ds rnd h Q = Wp c3 fn nt tm (.code c164_5 :: .code c164_10 :: k) ds rnd h Q := by rw [e164_4, Fal.wp_seq]
theorem e164_2 : c164_2 = .seq c164_3 c164_4 := by kernel_rfl
theorem w164_2 : Wp c3 fn nt tm (.code c164_2 :: k) ds rnd h Q = Wp c3 fn nt tm (.code c164_3 :: .code c164_4 :: k) ds rnd h Q := by rw [e164_2, Fal.wp_seq]
theorem e164_0 : c164_0 = .seq c164_1 c164_2 := by kernel_rfl
theorem w164_0 : Wp c3 fn nt tm (.code c164_0 :: k) ds rnd h Q = Wp c3 fn nt tm (.code c164_1 :: .code c164_2 :: k) ds rnd h Q := by rw [e164_0, Fal.wp_seq]
theorem fn164 : fnOf Tryz.prog 164 = some (22, c164_0) := by kernel_rfl
theorem res164 : resOf Tryz.prog 164 = some [.tmp 6] := by kernel_rfl
theorem bod164 : bodyB Tryz.prog 164 = true := by kernel_rfl
theorem mem164 (args : List V) : c3.memo 164 args = none := by rfl
-- fallow/sched.Fair$2
noncomputable def c166_0 : Code := bodyOf Tryz.f166
noncomputable def c166_1 : Code := cA c166_0
noncomputable def r166_1 : Array Oper := cOps c166_1
theorem e166_1 : c166_1 = .region 0 r166_1 false := by kernel_rfl
theorem l166_1 : r166_1.toList = [⟨(some 4), .assign (.const (.bool false)), (opN r166_1 0).type, (opN r166_1 0).pos, (opN r166_1 0).after, none⟩] := by kernel_rfl
theorem w166_1 : Wp c3 fn nt tm (.code c166_1 :: k) ds rnd h Q = WpS c3 fn nt r166_1 false [⟨(some 4), .assign (.const (.bool false)), (opN r166_1 0).type, (opN r166_1 0).pos, (opN r166_1 0).after, none⟩] tm k ds rnd h Q := by rw [e166_1, Fal.wp_region, l166_1]
noncomputable def c166_2 : Code := cB c166_0
noncomputable def c166_3 : Code := cA c166_2
noncomputable def r166_3 : Array Oper := cOps c166_3
theorem e166_3 : c166_3 = .region 1 r166_3 false := by kernel_rfl
theorem l166_3 : r166_3.toList = [⟨(some 5), .load 128 (.tmp 1), (opN r166_3 0).type, (opN r166_3 0).pos, (opN r166_3 0).after, none⟩, ⟨(some 6), .move (.tmp 0), (opN r166_3 1).type, (opN r166_3 1).pos, (opN r166_3 1).after, none⟩, ⟨(some 7), .load 67 (.tmp 2), (opN r166_3 2).type, (opN r166_3 2).pos, (opN r166_3 2).after, none⟩, ⟨(some 8), .call ⟨.builtin .len, #[(.tmp 7)], #[67]⟩, (opN r166_3 3).type, (opN r166_3 3).pos, (opN r166_3 3).after, none⟩, ⟨(some 9), .call ⟨.value (.tmp 5), #[(.tmp 6), (.tmp 8)], #[3, 3]⟩, (opN r166_3 4).type, (opN r166_3 4).pos, (opN r166_3 4).after, none⟩, ⟨(some 4), .assign (.tmp 9), (opN r166_3 5).type, (opN r166_3 5).pos, (opN r166_3 5).after, none⟩] := by kernel_rfl
theorem w166_3 : Wp c3 fn nt tm (.code c166_3 :: k) ds rnd h Q = WpS c3 fn nt r166_3 false [⟨(some 5), .load 128 (.tmp 1), (opN r166_3 0).type, (opN r166_3 0).pos, (opN r166_3 0).after, none⟩, ⟨(some 6), .move (.tmp 0), (opN r166_3 1).type, (opN r166_3 1).pos, (opN r166_3 1).after, none⟩, ⟨(some 7), .load 67 (.tmp 2), (opN r166_3 2).type, (opN r166_3 2).pos, (opN r166_3 2).after, none⟩, ⟨(some 8), .call ⟨.builtin .len, #[(.tmp 7)], #[67]⟩, (opN r166_3 3).type, (opN r166_3 3).pos, (opN r166_3 3).after, none⟩, ⟨(some 9), .call ⟨.value (.tmp 5), #[(.tmp 6), (.tmp 8)], #[3, 3]⟩, (opN r166_3 4).type, (opN r166_3 4).pos, (opN r166_3 4).after, none⟩, ⟨(some 4), .assign (.tmp 9), (opN r166_3 5).type, (opN r166_3 5).pos, (opN r166_3 5).after, none⟩] tm k ds rnd h Q := by rw [e166_3, Fal.wp_region, l166_3]
noncomputable def c166_4 : Code := cB c166_2
theorem e166_4 : c166_4 = .ret := by kernel_rfl
theorem w166_4 : Wp c3 fn nt tm (.code c166_4 :: k) ds rnd h Q = Wp c3 fn nt tm (.code .ret :: k) ds rnd h Q := by rw [e166_4]
theorem e166_2 : c166_2 = .seq c166_3 c166_4 := by kernel_rfl
theorem w166_2 : Wp c3 fn nt tm (.code c166_2 :: k) ds rnd h Q = Wp c3 fn nt tm (.code c166_3 :: .code c166_4 :: k) ds rnd h Q := by rw [e166_2, Fal.wp_seq]
theorem e166_0 : c166_0 = .seq c166_1 c166_2 := by kernel_rfl
theorem w166_0 : Wp c3 fn nt tm (.code c166_0 :: k) ds rnd h Q = Wp c3 fn nt tm (.code c166_1 :: .code c166_2 :: k) ds rnd h Q := by rw [e166_0, Fal.wp_seq]
theorem fn166 : fnOf Tryz.prog 166 = some (10, c166_0) := by kernel_rfl
theorem res166 : resOf Tryz.prog 166 = some [.tmp 4] := by kernel_rfl
theorem bod166 : bodyB Tryz.prog 166 = true := by kernel_rfl
theorem mem166 (args : List V) : c3.memo 166 args = none := by rfl
-- slices.ContainsFunc[[]int,int]
noncomputable def c165_0 : Code := bodyOf Tryz.f165
noncomputable def c165_1 : Code := cA c165_0
noncomputable def r165_1 : Array Oper := cOps c165_1
theorem e165_1 : c165_1 = .region 0 r165_1 false := by kernel_rfl
theorem l165_1 : r165_1.toList = [⟨(some 4), .assign (.const (.bool false)), (opN r165_1 0).type, (opN r165_1 0).pos, (opN r165_1 0).after, none⟩] := by kernel_rfl
theorem w165_1 : Wp c3 fn nt tm (.code c165_1 :: k) ds rnd h Q = WpS c3 fn nt r165_1 false [⟨(some 4), .assign (.const (.bool false)), (opN r165_1 0).type, (opN r165_1 0).pos, (opN r165_1 0).after, none⟩] tm k ds rnd h Q := by rw [e165_1, Fal.wp_region, l165_1]
noncomputable def c165_2 : Code := cB c165_0
noncomputable def c165_3 : Code := cA c165_2
noncomputable def r165_3 : Array Oper := cOps c165_3
theorem e165_3 : c165_3 = .region 1 r165_3 false := by kernel_rfl
theorem l165_3 : r165_3.toList = [⟨(some 5), .move (.tmp 0), (opN r165_3 0).type, (opN r165_3 0).pos, (opN r165_3 0).after, none⟩, ⟨(some 6), .move (.tmp 1), (opN r165_3 1).type, (opN r165_3 1).pos, (opN r165_3 1).after, none⟩, ⟨(some 7), .call ⟨.value (.func 223), #[(.tmp 5), (.tmp 6)], #[67, 150]⟩, (opN r165_3 2).type, (opN r165_3 2).pos, (opN r165_3 2).after, none⟩, ⟨(some 8), .binOp .geq 3 (.tmp 7) (.const (.int .i64 (0))) 3, (opN r165_3 3).type, (opN r165_3 3).pos, (opN r165_3 3).after, none⟩, ⟨(some 4), .assign (.tmp 8), (opN r165_3 4).type, (opN r165_3 4).pos, (opN r165_3 4).after, none⟩] := by kernel_rfl
theorem w165_3 : Wp c3 fn nt tm (.code c165_3 :: k) ds rnd h Q = WpS c3 fn nt r165_3 false [⟨(some 5), .move (.tmp 0), (opN r165_3 0).type, (opN r165_3 0).pos, (opN r165_3 0).after, none⟩, ⟨(some 6), .move (.tmp 1), (opN r165_3 1).type, (opN r165_3 1).pos, (opN r165_3 1).after, none⟩, ⟨(some 7), .call ⟨.value (.func 223), #[(.tmp 5), (.tmp 6)], #[67, 150]⟩, (opN r165_3 2).type, (opN r165_3 2).pos, (opN r165_3 2).after, none⟩, ⟨(some 8), .binOp .geq 3 (.tmp 7) (.const (.int .i64 (0))) 3, (opN r165_3 3).type, (opN r165_3 3).pos, (opN r165_3 3).after, none⟩, ⟨(some 4), .assign (.tmp 8), (opN r165_3 4).type, (opN r165_3 4).pos, (opN r165_3 4).after, none⟩] tm k ds rnd h Q := by rw [e165_3, Fal.wp_region, l165_3]
noncomputable def c165_4 : Code := cB c165_2
theorem e165_4 : c165_4 = .ret := by kernel_rfl
theorem w165_4 : Wp c3 fn nt tm (.code c165_4 :: k) ds rnd h Q = Wp c3 fn nt tm (.code .ret :: k) ds rnd h Q := by rw [e165_4]
theorem e165_2 : c165_2 = .seq c165_3 c165_4 := by kernel_rfl
theorem w165_2 : Wp c3 fn nt tm (.code c165_2 :: k) ds rnd h Q = Wp c3 fn nt tm (.code c165_3 :: .code c165_4 :: k) ds rnd h Q := by rw [e165_2, Fal.wp_seq]
theorem e165_0 : c165_0 = .seq c165_1 c165_2 := by kernel_rfl
theorem w165_0 : Wp c3 fn nt tm (.code c165_0 :: k) ds rnd h Q = Wp c3 fn nt tm (.code c165_1 :: .code c165_2 :: k) ds rnd h Q := by rw [e165_0, Fal.wp_seq]
theorem fn165 : fnOf Tryz.prog 165 = some (9, c165_0) := by kernel_rfl
theorem res165 : resOf Tryz.prog 165 = some [.tmp 4] := by kernel_rfl
theorem bod165 : bodyB Tryz.prog 165 = true := by kernel_rfl
theorem mem165 (args : List V) : c3.memo 165 args = none := by rfl
-- slices.IndexFunc[[]int,int]
noncomputable def c223_0 : Code := bodyOf Tryz.f223
noncomputable def c223_1 : Code := cA c223_0
noncomputable def r223_1 : Array Oper := cOps c223_1
theorem e223_1 : c223_1 = .region 0 r223_1 false := by kernel_rfl
theorem l223_1 : r223_1.toList = [⟨(some 4), .assign (.const (.int .i64 (0))), (opN r223_1 0).type, (opN r223_1 0).pos, (opN r223_1 0).after, none⟩] := by kernel_rfl
theorem w223_1 : Wp c3 fn nt tm (.code c223_1 :: k) ds rnd h Q = WpS c3 fn nt r223_1 false [⟨(some 4), .assign (.const (.int .i64 (0))), (opN r223_1 0).type, (opN r223_1 0).pos, (opN r223_1 0).after, none⟩] tm k ds rnd h Q := by rw [e223_1, Fal.wp_region, l223_1]
noncomputable def c223_2 : Code := cB c223_0
noncomputable def c223_3 : Code := cA c223_2
noncomputable def c223_4 : Code := cA c223_3
noncomputable def r223_4 : Array Oper := cOps c223_4
theorem e223_4 : c223_4 = .region 1 r223_4 false := by kernel_rfl
theorem l223_4 : r223_4.toList = [⟨(some 6), .move (.tmp 0), (opN r223_4 0).type, (opN r223_4 0).pos, (opN r223_4 0).after, none⟩, ⟨(some 7), .call ⟨.builtin .len, #[(.tmp 6)], #[67]⟩, (opN r223_4 1).type, (opN r223_4 1).pos, (opN r223_4 1).after, none⟩, ⟨(some 8), .move (.const (.int .i64 (0))), (opN r223_4 2).type, (opN r223_4 2).pos, (opN r223_4 2).after, none⟩] := by kernel_rfl
theorem w223_4 : Wp c3 fn nt tm (.code c223_4 :: k) ds rnd h Q = WpS c3 fn nt r223_4 false [⟨(some 6), .move (.tmp 0), (opN r223_4 0).type, (opN r223_4 0).pos, (opN r223_4 0).after, none⟩, ⟨(some 7), .call ⟨.builtin .len, #[(.tmp 6)], #[67]⟩, (opN r223_4 1).type, (opN r223_4 1).pos, (opN r223_4 1).after, none⟩, ⟨(some 8), .move (.const (.int .i64 (0))), (opN r223_4 2).type, (opN r223_4 2).pos, (opN r223_4 2).after, none⟩] tm k ds rnd h Q := by rw [e223_4, Fal.wp_region, l223_4]
noncomputable def c223_5 : Code := cB c223_3
noncomputable def c223_6 : Code := cA c223_5
noncomputable def c223_7 : Code := cA c223_6
noncomputable def c223_8 : Code := cA c223_7
noncomputable def r223_8 : Array Oper := cOps c223_8
theorem e223_8 : c223_8 = .region 2 r223_8 false := by kernel_rfl
theorem l223_8 : r223_8.toList = [⟨(some 9), .binOp .lss 3 (.tmp 8) (.tmp 7) 3, (opN r223_8 0).type, (opN r223_8 0).pos, (opN r223_8 0).after, none⟩] := by kernel_rfl
theorem w223_8 : Wp c3 fn nt tm (.code c223_8 :: k) ds rnd h Q = WpS c3 fn nt r223_8 false [⟨(some 9), .binOp .lss 3 (.tmp 8) (.tmp 7) 3, (opN r223_8 0).type, (opN r223_8 0).pos, (opN r223_8 0).after, none⟩] tm k ds rnd h Q := by rw [e223_8, Fal.wp_region, l223_8]
noncomputable def c223_9 : Code := cB c223_7
noncomputable def c223_10 : Code := cA c223_9
noncomputable def c223_11 : Code := cA c223_10
theorem e223_11 : c223_11 = .skip := by kernel_rfl
theorem w223_11 : Wp c3 fn nt tm (.code c223_11 :: k) ds rnd h Q = Wp c3 fn nt tm k ds rnd h Q := by rw [e223_11, Fal.wp_skip]
noncomputable def c223_12 : Code := cB c223_10
theorem e223_12 : c223_12 = .exit 0 := by kernel_rfl
theorem w223_12 : Wp c3 fn nt tm (.code c223_12 :: k) ds rnd h Q = Wp c3 fn nt tm (.code (.exit 0) :: k) ds rnd h Q := by rw [e223_12]
theorem e223_10 : c223_10 = .cond (.tmp 9) c223_11 c223_12 := by kernel_rfl
theorem w223_10 : Wp c3 fn nt tm (.code c223_10 :: k) ds rnd h Q = bo (ev c3.ng tm (.tmp 9)) fun v => vB v fun t => if t = true then Wp c3 fn nt tm (.code c223_11 :: k) ds rnd h Q else Wp c3 fn nt tm (.code c223_12 :: k) ds rnd h Q := by rw [e223_10, Fal.wp_cond]
noncomputable def c223_13 : Code := cB c223_9
noncomputable def c223_14 : Code := cA c223_13
noncomputable def c223_15 : Code := cA c223_14
noncomputable def c223_16 : Code := cA c223_15
noncomputable def r223_16 : Array Oper := cOps c223_16
theorem e223_16 : c223_16 = .region 3 r223_16 false := by kernel_rfl
theorem l223_16 : r223_16.toList = [⟨(some 10), .move (.tmp 8), (opN r223_16 0).type, (opN r223_16 0).pos, (opN r223_16 0).after, none⟩, ⟨(some 5), .assign (.tmp 10), (opN r223_16 1).type, (opN r223_16 1).pos, (opN r223_16 1).after, none⟩] := by kernel_rfl
theorem w223_16 : Wp c3 fn nt tm (.code c223_16 :: k) ds rnd h Q = WpS c3 fn nt r223_16 false [⟨(some 10), .move (.tmp 8), (opN r223_16 0).type, (opN r223_16 0).pos, (opN r223_16 0).after, none⟩, ⟨(some 5), .assign (.tmp 10), (opN r223_16 1).type, (opN r223_16 1).pos, (opN r223_16 1).after, none⟩] tm k ds rnd h Q := by rw [e223_16, Fal.wp_region, l223_16]
noncomputable def c223_17 : Code := cB c223_15
noncomputable def c223_18 : Code := cA c223_17
noncomputable def r223_18 : Array Oper := cOps c223_18
theorem e223_18 : c223_18 = .region 4 r223_18 false := by kernel_rfl
theorem l223_18 : r223_18.toList = [⟨(some 11), .move (.tmp 1), (opN r223_18 0).type, (opN r223_18 0).pos, (opN r223_18 0).after, none⟩, ⟨(some 12), .move (.tmp 0), (opN r223_18 1).type, (opN r223_18 1).pos, (opN r223_18 1).after, none⟩, ⟨(some 13), .move (.tmp 5), (opN r223_18 2).type, (opN r223_18 2).pos, (opN r223_18 2).after, none⟩, ⟨(some 14), .indexAddr 67 (.tmp 12) (.tmp 13), (opN r223_18 3).type, (opN r223_18 3).pos, (opN r223_18 3).after, none⟩, ⟨(some 15), .load 3 (.tmp 14), (opN r223_18 4).type, (opN r223_18 4).pos, (opN r223_18 4).after, none⟩, ⟨(some 16), .call ⟨.value (.tmp 11), #[(.tmp 15)], #[3]⟩, (opN r223_18 5).type, (opN r223_18 5).pos, (opN r223_18 5).after, none⟩] := by kernel_rfl
theorem w223_18 : Wp c3 fn nt tm (.code c223_18 :: k) ds rnd h Q = WpS c3 fn nt r223_18 false [⟨(some 11), .move (.tmp 1), (opN r223_18 0).type, (opN r223_18 0).pos, (opN r223_18 0).after, none⟩, ⟨(some 12), .move (.tmp 0), (opN r223_18 1).type, (opN r223_18 1).pos, (opN r223_18 1).after, none⟩, ⟨(some 13), .move (.tmp 5), (opN r223_18 2).type, (opN r223_18 2).pos, (opN r223_18 2).after, none⟩, ⟨(some 14), .indexAddr 67 (.tmp 12) (.tmp 13), (opN r223_18 3).type, (opN r223_18 3).pos, (opN r223_18 3).after, none⟩, ⟨(some 15), .load 3 (.tmp 14), (opN r223_18 4).type, (opN r223_18 4).pos, (opN r223_18 4).after, none⟩, ⟨(some 16), .call ⟨.value (.tmp 11), #[(.tmp 15)], #[3]⟩, (opN r223_18 5).type, (opN r223_18 5).pos, (opN r223_18 5).after, none⟩] tm k ds rnd h Q := by rw [e223_18, Fal.wp_region, l223_18]
noncomputable def c223_19 : Code := cB c223_17
noncomputable def c223_20 : Code := cA c223_19
noncomputable def c223_21 : Code := cA c223_20
noncomputable def r223_21 : Array Oper := cOps c223_21
theorem e223_21 : c223_21 = .region 5 r223_21 false := by kernel_rfl
theorem l223_21 : r223_21.toList = [⟨(some 17), .move (.tmp 5), (opN r223_21 0).type, (opN r223_21 0).pos, (opN r223_21 0).after, none⟩, ⟨(some 4), .assign (.tmp 17), (opN r223_21 1).type, (opN r223_21 1).pos, (opN r223_21 1).after, none⟩] := by kernel_rfl
theorem w223_21 : Wp c3 fn nt tm (.code c223_21 :: k) ds rnd h Q = WpS c3 fn nt r223_21 false [⟨(some 17), .move (.tmp 5), (opN r223_21 0).type, (opN r223_21 0).pos, (opN r223_21 0).after, none⟩, ⟨(some 4), .assign (.tmp 17), (opN r223_21 1).type, (opN r223_21 1).pos, (opN r223_21 1).after, none⟩] tm k ds rnd h Q := by rw [e223_21, Fal.wp_region, l223_21]
noncomputable def c223_22 : Code := cB c223_20
theorem e223_22 : c223_22 = .ret := by kernel_rfl
theorem w223_22 : Wp c3 fn nt tm (.code c223_22 :: k) ds rnd h Q = Wp c3 fn nt tm (.code .ret :: k) ds rnd h Q := by rw [e223_22]
theorem e223_20 : c223_20 = .seq c223_21 c223_22 := by kernel_rfl
theorem w223_20 : Wp c3 fn nt tm (.code c223_20 :: k) ds rnd h Q = Wp c3 fn nt tm (.code c223_21 :: .code c223_22 :: k) ds rnd h Q := by rw [e223_20, Fal.wp_seq]
noncomputable def c223_23 : Code := cB c223_19
theorem e223_23 : c223_23 = .skip := by kernel_rfl
theorem w223_23 : Wp c3 fn nt tm (.code c223_23 :: k) ds rnd h Q = Wp c3 fn nt tm k ds rnd h Q := by rw [e223_23, Fal.wp_skip]
theorem e223_19 : c223_19 = .cond (.tmp 16) c223_20 c223_23 := by kernel_rfl
theorem w223_19 : Wp c3 fn nt tm (.code c223_19 :: k) ds rnd h Q = bo (ev c3.ng tm (.tmp 16)) fun v => vB v fun t => if t = true then Wp c3 fn nt tm (.code c223_20 :: k) ds rnd h Q else Wp c3 fn nt tm (.code c223_23 :: k) ds rnd h Q := by rw [e223_19, Fal.wp_cond]
theorem e223_17 : c223_17 = .seq c223_18 c223_19 := by kernel_rfl
theorem w223_17 : Wp c3 fn nt tm (.code c223_17 :: k) ds rnd h Q = Wp c3 fn nt tm (.code c223_18 :: .code c223_19 :: k) ds rnd h Q := by rw [e223_17, Fal.wp_seq]
theorem e223_15 : c223_15 = .seq c223_16 c223_17 := by kernel_rfl
theorem w223_15 : Wp c3 fn nt tm (.code c223_15 :: k) ds rnd h Q = Wp c3 fn nt tm (.code c223_16 :: .code c223_17 :: k) ds rnd h Q := by rw [e223_15, Fal.wp_seq]
theorem e223_14 : c223_14 = .block 1 c223_15 := by kernel_rfl
theorem w223_14 : Wp c3 fn nt tm (.code c223_14 :: k) ds rnd h Q = Wp c3 fn nt tm (.code c223_15 :: .inBlock 1 :: k) ds rnd h Q := by rw [e223_14, Fal.wp_block]
noncomputable def c223_24 : Code := cB c223_13
noncomputable def r223_24 : Array Oper := cOps c223_24
theorem e223_24 : c223_24 = .region 6 r223_24 false := by kernel_rfl
theorem l223_24 : r223_24.toList = [⟨(some 18), .binOp .add 3 (.tmp 8) (.const (.int .i64 (1))) 3, (opN r223_24 0).type, (opN r223_24 0).pos, (opN r223_24 0).after, none⟩, ⟨(some 8), .move (.tmp 18), (opN r223_24 1).type, (opN r223_24 1).pos, (opN r223_24 1).after, none⟩] := by kernel_rfl
theorem w223_24 : Wp c3 fn nt tm (.code c223_24 :: k) ds rnd h Q = WpS c3 fn nt r223_24 false [⟨(some 18), .binOp .add 3 (.tmp 8) (.const (.int .i64 (1))) 3, (opN r223_24 0).type, (opN r223_24 0).pos, (opN r223_24 0).after, none⟩, ⟨(some 8), .move (.tmp 18), (opN r223_24 1).type, (opN r223_24 1).pos, (opN r223_24 1).after, none⟩] tm k ds rnd h Q := by rw [e223_24, Fal.wp_region, l223_24]
theorem e223_13 : c223_13 = .seq c223_14 c223_24 := by kernel_rfl
theorem w223_13 : Wp c3 fn nt tm (.code c223_13 :: k) ds rnd h Q = Wp c3 fn nt tm (.code c223_14 :: .code c223_24 :: k) ds rnd h Q := by rw [e223_13, Fal.wp_seq]
theorem e223_9 : c223_9 = .seq c223_10 c223_13 := by kernel_rfl
theorem w223_9 : Wp c3 fn nt tm (.code c223_9 :: k) ds rnd h Q = Wp c3 fn nt tm (.code c223_10 :: .code c223_13 :: k) ds rnd h Q := by rw [e223_9, Fal.wp_seq]
theorem e223_7 : c223_7 = .seq c223_8 c223_9 := by kernel_rfl
theorem w223_7 : Wp c3 fn nt tm (.code c223_7 :: k) ds rnd h Q = Wp c3 fn nt tm (.code c223_8 :: .code c223_9 :: k) ds rnd h Q := by rw [e223_7, Fal.wp_seq]
theorem e223_6 : c223_6 = .loop c223_7 := by kernel_rfl
theorem w223_6 : Wp c3 fn nt tm (.code c223_6 :: k) ds rnd h Q = Wp c3 fn nt tm (.code c223_7 :: .inLoop c223_7 :: k) ds rnd h Q := by rw [e223_6, Fal.wp_loop]
theorem e223_5 : c223_5 = .block 0 c223_6 := by kernel_rfl
theorem w223_5 : Wp c3 fn nt tm (.code c223_5 :: k) ds rnd h Q = Wp c3 fn nt tm (.code c223_6 :: .inBlock 0 :: k) ds rnd h Q := by rw [e223_5, Fal.wp_block]
theorem e223_3 : c223_3 = .seq c223_4 c223_5 := by kernel_rfl
theorem w223_3 : Wp c3 fn nt tm (.code c223_3 :: k) ds rnd h Q = Wp c3 fn nt tm (.code c223_4 :: .code c223_5 :: k) ds rnd h Q := by rw [e223_3, Fal.wp_seq]
noncomputable def c223_25 : Code := cB c223_2
noncomputable def c223_26 : Code := cA c223_25
noncomputable def r223_26 : Array Oper := cOps c223_26
theorem e223_26 : c223_26 = .region 7 r223_26 false := by kernel_rfl
theorem l223_26 : r223_26.toList = [⟨(some 4), .assign (.const (.int .i64 (-1))), (opN r223_26 0).type, (opN r223_26 0).pos, (opN r223_26 0).after, none⟩] := by kernel_rfl
theorem w223_26 : Wp c3 fn nt tm (.code c223_26 :: k) ds rnd h Q = WpS c3 fn nt r223_26 false [⟨(some 4), .assign (.const (.int .i64 (-1))), (opN r223_26 0).type, (opN r223_26 0).pos, (opN r223_26 0).after, none⟩] tm k ds rnd h Q := by rw [e223_26, Fal.wp_region, l223_26]
noncomputable def c223_27 : Code := cB c223_25
theorem e223_27 : c223_27 = .ret := by kernel_rfl
theorem w223_27 : Wp c3 fn nt tm (.code c223_27 :: k) ds rnd h Q = Wp c3 fn nt tm (.code .ret :: k) ds rnd h Q := by rw [e223_27]
theorem e223_25 : c223_25 = .seq c223_26 c223_27 := by kernel_rfl
theorem w223_25 : Wp c3 fn nt tm (.code c223_25 :: k) ds rnd h Q = Wp c3 fn nt tm (.code c223_26 :: .code c223_27 :: k) ds rnd h Q := by rw [e223_25, Fal.wp_seq]
theorem e223_2 : c223_2 = .seq c223_3 c223_25 := by kernel_rfl
theorem w223_2 : Wp c3 fn nt tm (.code c223_2 :: k) ds rnd h Q = Wp c3 fn nt tm (.code c223_3 :: .code c223_25 :: k) ds rnd h Q := by rw [e223_2, Fal.wp_seq]
theorem e223_0 : c223_0 = .seq c223_1 c223_2 := by kernel_rfl
theorem w223_0 : Wp c3 fn nt tm (.code c223_0 :: k) ds rnd h Q = Wp c3 fn nt tm (.code c223_1 :: .code c223_2 :: k) ds rnd h Q := by rw [e223_0, Fal.wp_seq]
theorem fn223 : fnOf Tryz.prog 223 = some (19, c223_0) := by kernel_rfl
theorem res223 : resOf Tryz.prog 223 = some [.tmp 4] := by kernel_rfl
theorem bod223 : bodyB Tryz.prog 223 = true := by kernel_rfl
theorem mem223 (args : List V) : c3.memo 223 args = none := by rfl
end
end K
