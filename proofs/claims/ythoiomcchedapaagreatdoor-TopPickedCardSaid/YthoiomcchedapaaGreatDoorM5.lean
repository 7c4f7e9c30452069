/-
  stands(), and what it asks, reckoned once for all by the kernel over the heap of the listed rows: from there each call of them may be taken as done.
-/
import Derived.Test.YthoiomcchedapaaGreatDoorM2
import Derived.Test.YthoiomcchedapaaGreatDoorM3
import Derived.Test.YthoiomcchedapaaGreatDoorM4
set_option autoImplicit true
set_option relaxedAutoImplicit true
set_option linter.unusedVariables false
set_option linter.unusedSimpArgs false
open Go Go.Proofs Go.Fal
namespace K
theorem ib_f : Option.bind (Tryz.prog.funcs[401]?) Extern.find = some Extern.BytealgIndexByte.indexByte := by kernel_rfl
theorem ix_f : Option.bind (Tryz.prog.funcs[491]?) Extern.find = some Extern.BytealgIndex.index := by kernel_rfl
theorem ib_n : Option.map (fun fn => (Extern.findNext fn).isNone && !(fn.name == "runtime.NumGoroutine")) (Tryz.prog.funcs[401]?) = some true := by kernel_rfl
theorem ix_n : Option.map (fun fn => (Extern.findNext fn).isNone && !(fn.name == "runtime.NumGoroutine")) (Tryz.prog.funcs[491]?) = some true := by kernel_rfl
theorem names_b : (Tryz.prog.funcs.toList.all fun fn => !(fn.name == "runtime.NumGoroutine")) = true := by kernel_rfl
theorem ml_b : Tryz.prog.globals.findIdx? (·.name == "internal/bytealg.MaxLen") = some 5 := by kernel_rfl
theorem mixed_b : Tryz.prog.follows .mixedOrders = true := by kernel_rfl
theorem body_index : Option.map (fun fn : Func => fn.body.isSome) (Tryz.prog.funcs[483]?) = some true := by kernel_rfl
theorem body_compile : Option.map (fun fn : Func => fn.body.isSome) (Tryz.prog.funcs[169]?) = some true := by kernel_rfl
theorem body_stands : Option.map (fun fn : Func => fn.body.isSome) (Tryz.prog.funcs[24]?) = some true := by kernel_rfl

theorem extern_run {P : Program} {f : Nat} {e : Array Value → Sem Value} (h1 : Option.bind (P.funcs[f]?) Extern.find = some e) (h2 : Option.map (fun fn => (Extern.findNext fn).isNone && !(fn.name == "runtime.NumGoroutine")) (P.funcs[f]?) = some true)
    (fn : Func) (args : Array Value) (w : World) (hf : P.funcs[f]? = some fn) (hb : fn.body = none) : (callFunc f args).run P w = ((e args).run P w).andThen fun v w' => .ok (.value v) w' := by
  rw [hf] at h1 h2
  simp only [Option.bind_some] at h1
  simp only [Option.map_some, Option.some.injEq, Bool.and_eq_true, Option.isNone_iff_eq_none, Bool.not_eq_true'] at h2
  simp only [callFunc, Sem.run_bind, run_program, Result.andThen_ok, hf, h2.2, hb, Option.isNone_none, if_true, h2.1, h1, Bool.false_eq_true, if_false]
  rfl
theorem body_some {P : Program} {f : Nat} (h : Option.map (fun fn : Func => fn.body.isSome) (P.funcs[f]?) = some true) : ∃ fn, P.funcs[f]? = some fn ∧ fn.body.isSome = true := by
  cases hf : P.funcs[f]? with
  | none => rw [hf] at h; cases h
  | some fn => rw [hf] at h; exact ⟨fn, rfl, by simpa using h⟩

theorem cfg_of (memo : Nat → List V → Option V) (base : H → Bool)
    (mb : ∀ (f : Nat) (args : List V) (v : V), memo f args = some v → ∃ fn, Tryz.prog.funcs[f]? = some fn ∧ fn.body.isSome = true)
    (mm : ∀ (f : Nat) (args : List V) (v : V), memo f args = some v → ∀ (φ : Phi) (h : H) (w : World) (xs : Array Value), Sim φ h w → Glob 11 φ → base h = true → VRs φ args xs.toList → ∀ (cr : Frame) (cs : List Frame),
      ∃ φ' w' v', Steps Tryz.prog (lone (Frame.enter Tryz.prog f xs .normal) (cr :: cs) w) (lone (cr.finish v') cs w') ∧ VR φ' v v' ∧ Tr φ h w φ' h w' ∧ Sim φ' h w') :
    CfgOk ⟨Tryz.prog, 11, 401, 491, 5, memo, base⟩ where
  names := fun f fn hf _ => by
    have h := names_b
    rw [List.all_eq_true] at h
    have hm : fn ∈ Tryz.prog.funcs.toList := by
      obtain ⟨hlt, he⟩ := Array.getElem?_eq_some_iff.1 hf
      rw [← he]; exact Array.getElem_mem_toList hlt
    simpa using h fn hm
  ib := fun fn args w hf hb => extern_run ib_f ib_n fn args w hf hb
  ix := fun fn args w hf hb => extern_run ix_f ix_n fn args w hf hb
  ml := ml_b
  mlt := (by show (5 : Nat) < 11; omega)
  mixed := mixed_b
  memoBody := mb
  memo := mm

theorem cond_memo {f n : Nat} {args A : List V} {r v : V} {rest : Option V} (h : cond (Nat.beq f n) (cond (vsF args A) (some r) none) rest = some v) : (f = n ∧ args = A ∧ v = r) ∨ rest = some v := by
  cases h1 : Nat.beq f n with
  | false => rw [h1] at h; exact .inr h
  | true =>
    rw [h1] at h
    cases h2 : vsF args A with
    | false => rw [h2] at h; cases h
    | true =>
      rw [h2] at h; cases h
      rw [vsF_eq] at h2
      exact .inl ⟨Nat.eq_of_beq_eq_true h1, vsbeq_eq _ _ h2, rfl⟩

theorem cfg0 : CfgOk c0 := cfg_of _ _ (fun _ _ _ h => by cases h) (fun _ _ _ h => by cases h)
theorem clean_compile : V.clean (.tup [.str imgS, .nili]) = true := rfl

theorem body1 (f : Nat) (args : List V) (v : V) (h : memo1 f args = some v) : ∃ fn, Tryz.prog.funcs[f]? = some fn ∧ fn.body.isSome = true := by
  rcases cond_memo h with ⟨rfl, rfl, rfl⟩ | h
  · exact body_some body_index
  · cases h
theorem body2 (f : Nat) (args : List V) (v : V) (h : memo2 f args = some v) : ∃ fn, Tryz.prog.funcs[f]? = some fn ∧ fn.body.isSome = true := by
  rcases cond_memo h with ⟨rfl, rfl, rfl⟩ | h
  · exact body_some body_compile
  · exact body1 _ _ _ h
theorem body3 (f : Nat) (args : List V) (v : V) (h : memo3 f args = some v) : ∃ fn, Tryz.prog.funcs[f]? = some fn ∧ fn.body.isSome = true := by
  rcases cond_memo h with ⟨rfl, rfl, rfl⟩ | h
  · exact body_some body_stands
  · exact body2 _ _ _ h

def MemoOk (memo : Nat → List V → Option V) : Prop := ∀ (f : Nat) (args : List V) (v : V), memo f args = some v → ∀ (φ : Phi) (h : H) (w : World) (xs : Array Value), Sim φ h w → Glob 11 φ → baseB h = true → VRs φ args xs.toList → ∀ (cr : Frame) (cs : List Frame),
      ∃ φ' w' v', Steps Tryz.prog (lone (Frame.enter Tryz.prog f xs .normal) (cr :: cs) w) (lone (cr.finish v') cs w') ∧ VR φ' v v' ∧ Tr φ h w φ' h w' ∧ Sim φ' h w'

theorem memo1_ok : MemoOk memo1 := by
  intro f args v hv φ h w xs s hg hb ha cr cs
  rcases cond_memo hv with ⟨rfl, rfl, rfl⟩ | hv
  · obtain ⟨m, hsub⟩ := base_spec hb
    exact closed_of_runK cfg0 (run_index m) (Nat.le_refl _) (hb_ro m) rfl rfl s hg hsub ha cr cs
  · cases hv
theorem cfg1 : CfgOk c1 := cfg_of memo1 baseB body1 memo1_ok
theorem memo2_ok : MemoOk memo2 := by
  intro f args v hv φ h w xs s hg hb ha cr cs
  rcases cond_memo hv with ⟨rfl, rfl, rfl⟩ | hv
  · obtain ⟨m, hsub⟩ := base_spec hb
    exact closed_of_runK cfg1 (run_compile m) (Nat.le_refl _) (hb_ro m) rfl clean_compile s hg hsub ha cr cs
  · exact memo1_ok _ _ _ hv φ h w xs s hg hb ha cr cs
theorem cfg2 : CfgOk c2 := cfg_of memo2 baseB body2 memo2_ok
theorem memo3_ok : MemoOk memo3 := by
  intro f args v hv φ h w xs s hg hb ha cr cs
  rcases cond_memo hv with ⟨rfl, rfl, rfl⟩ | hv
  · obtain ⟨m, hsub⟩ := base_spec hb
    exact closed_of_runK cfg2 (run_stands m) (Nat.le_refl _) (hb_ro m) rfl rfl s hg hsub ha cr cs
  · exact memo2_ok _ _ _ hv φ h w xs s hg hb ha cr cs
/-- stands(), and all that it asks, may be taken as done -/
theorem cfg3 : CfgOk c3 := cfg_of memo3 baseB body3 memo3_ok
end K
