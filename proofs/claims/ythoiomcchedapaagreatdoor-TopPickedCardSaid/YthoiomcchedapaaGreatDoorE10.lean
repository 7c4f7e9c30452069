/-
  THE ENGINE: an interpreter of our own for the model's programs, and the proof that each of its runs is a call of the model, for every start that it sees.
-/
import Derived.Test.YthoiomcchedapaaGreatDoorE09
set_option autoImplicit true
set_option relaxedAutoImplicit true
set_option linter.unusedVariables false
set_option linter.unusedSimpArgs false
namespace Go.Fal

/-! # Runs with letters in them: rules for what a run comes to -/
section
variable (c : Cfg)

/-- whatever the fuel, from some on -/
def EvF (fr : Fr) (h : H) (v : V) (h' : H) : Prop := ∃ N, ∀ n, N ≤ n → run c n fr h = some (v, h')
def Wp (fn nt : Nat) (tm : T V) (todo : List Item) (ds : List D) (rnd : Option Nat) (h : H) (Q : V → H → Prop) : Prop := ∃ v h', EvF c ⟨fn, nt, tm, todo, ds, rnd⟩ h v h' ∧ Q v h'
/-- a call -/
def WpC (f : Nat) (args : List V) (h : H) (Q : V → H → Prop) : Prop := ∃ v h', (∃ N, ∀ n, N ≤ n → callF c (run c n) (.call f args) h = some (v, h')) ∧ Q v h'
/-- a round of a range over a function -/
def WpR (l : Nat) (args : List V) (h : H) (Q : V → H → Prop) : Prop := ∃ v h', (∃ N, ∀ n, N ≤ n → callF c (run c n) (.round l args) h = some (v, h')) ∧ Q v h'

def bo {α : Type} (o : Option α) (Q : α → Prop) : Prop := match o with | some x => Q x | none => False
@[simp] theorem bo_some {α : Type} (x : α) (Q : α → Prop) : bo (some x) Q = Q x := rfl
@[simp] theorem bo_none {α : Type} (Q : α → Prop) : bo none Q = False := rfl
def vB (v : V) (Q : Bool → Prop) : Prop := match v with | .bool b => Q b | _ => False
@[simp] theorem vB_bool (b : Bool) (Q : Bool → Prop) : vB (.bool b) Q = Q b := rfl

variable {c}
theorem Wp.mono {fn nt : Nat} {tm : T V} {todo : List Item} {ds : List D} {rnd : Option Nat} {h : H} {Q R : V → H → Prop} (hw : Wp c fn nt tm todo ds rnd h Q) (hq : ∀ v h', Q v h' → R v h') : Wp c fn nt tm todo ds rnd h R :=
  let ⟨v, h', e, q⟩ := hw; ⟨v, h', e, hq v h' q⟩
theorem WpC.mono {f : Nat} {args : List V} {h : H} {Q R : V → H → Prop} (hw : WpC c f args h Q) (hq : ∀ v h', Q v h' → R v h') : WpC c f args h R :=
  let ⟨v, h', e, q⟩ := hw; ⟨v, h', e, hq v h' q⟩
theorem WpR.mono {l : Nat} {args : List V} {h : H} {Q R : V → H → Prop} (hw : WpR c l args h Q) (hq : ∀ v h', Q v h' → R v h') : WpR c l args h R :=
  let ⟨v, h', e, q⟩ := hw; ⟨v, h', e, hq v h' q⟩

theorem wp_eq {fn nt fn' nt' : Nat} {tm tm' : T V} {todo todo' : List Item} {ds ds' : List D} {rnd rnd' : Option Nat} {h h' : H}
    (hs : ∀ runf, stepF c runf ⟨fn, nt, tm, todo, ds, rnd⟩ h = runf ⟨fn', nt', tm', todo', ds', rnd'⟩ h') (Q : V → H → Prop) : Wp c fn nt tm todo ds rnd h Q = Wp c fn' nt' tm' todo' ds' rnd' h' Q := by
  refine propext ⟨?_, ?_⟩
  · rintro ⟨v, h1, ⟨N, hN⟩, q⟩
    refine ⟨v, h1, ⟨N, fun n hn => ?_⟩, q⟩
    have := hN (n + 1) (by omega)
    rw [run, hs] at this; exact this
  · rintro ⟨v, h1, ⟨N, hN⟩, q⟩
    refine ⟨v, h1, ⟨N + 1, fun n hn => ?_⟩, q⟩
    obtain ⟨m, rfl⟩ : ∃ m, n = m + 1 := ⟨n - 1, by omega⟩
    rw [run, hs]; exact hN m (by omega)

section
variable {fn nt : Nat} {tm : T V} {k : List Item} {ds : List D} {rnd : Option Nat} {h : H} {Q : V → H → Prop}

theorem wp_seq (a b : Code) : Wp c fn nt tm (.code (.seq a b) :: k) ds rnd h Q = Wp c fn nt tm (.code a :: .code b :: k) ds rnd h Q := wp_eq (fun _ => rfl) Q
theorem wp_skip : Wp c fn nt tm (.code .skip :: k) ds rnd h Q = Wp c fn nt tm k ds rnd h Q := wp_eq (fun _ => rfl) Q
theorem wp_block (id : Nat) (b : Code) : Wp c fn nt tm (.code (.block id b) :: k) ds rnd h Q = Wp c fn nt tm (.code b :: .inBlock id :: k) ds rnd h Q := wp_eq (fun _ => rfl) Q
theorem wp_loop (b : Code) : Wp c fn nt tm (.code (.loop b) :: k) ds rnd h Q = Wp c fn nt tm (.code b :: .inLoop b :: k) ds rnd h Q := wp_eq (fun _ => rfl) Q
theorem wp_scope (b : Code) : Wp c fn nt tm (.code (.scope b) :: k) ds rnd h Q = Wp c fn nt tm (.code b :: .inScope b :: k) ds rnd h Q := wp_eq (fun _ => rfl) Q
theorem wp_inBlock (id : Nat) : Wp c fn nt tm (.inBlock id :: k) ds rnd h Q = Wp c fn nt tm k ds rnd h Q := wp_eq (fun _ => rfl) Q
theorem wp_inScope (b : Code) : Wp c fn nt tm (.inScope b :: k) ds rnd h Q = Wp c fn nt tm k ds rnd h Q := wp_eq (fun _ => rfl) Q
theorem wp_inLoop (b : Code) : Wp c fn nt tm (.inLoop b :: k) ds rnd h Q = Wp c fn nt tm (.code b :: .inLoop b :: k) ds rnd h Q := wp_eq (fun _ => rfl) Q

theorem wp_none {fr : Fr} {h : H} {Q : V → H → Prop} (hs : ∀ runf, stepF c runf fr h = none) : Wp c fr.fn fr.nt fr.tm fr.todo fr.ds fr.rnd h Q = False := by
  refine propext ⟨?_, False.elim⟩
  rintro ⟨v, h1, ⟨N, hN⟩, q⟩
  have := hN (N + 1) (by omega)
  rw [run, hs] at this; cases this
theorem wp_some {fr : Fr} {h h' : H} {v : V} {Q : V → H → Prop} (hs : ∀ runf, stepF c runf fr h = some (v, h')) : Wp c fr.fn fr.nt fr.tm fr.todo fr.ds fr.rnd h Q = Q v h' := by
  refine propext ⟨?_, fun q => ⟨v, h', ⟨1, fun n hn => ?_⟩, q⟩⟩
  · rintro ⟨v', h1, ⟨N, hN⟩, q⟩
    have := hN (N + 1) (by omega)
    rw [run, hs] at this; cases this; exact q
  · obtain ⟨m, rfl⟩ : ∃ m, n = m + 1 := ⟨n - 1, by omega⟩
    rw [run, hs]

theorem wp_cond (q : Operand) (a b : Code) : Wp c fn nt tm (.code (.cond q a b) :: k) ds rnd h Q =
    bo (ev c.ng tm q) fun v => vB v fun t => if t = true then Wp c fn nt tm (.code a :: k) ds rnd h Q else Wp c fn nt tm (.code b :: k) ds rnd h Q := by
  cases hv : ev c.ng tm q with
  | none => exact wp_none (fr := ⟨fn, nt, tm, .code (.cond q a b) :: k, ds, rnd⟩) (fun _ => by simp only [stepF, hv])
  | some v =>
    simp only [bo_some]
    cases v with
    | bool t =>
      simp only [vB_bool]
      cases t with
      | true => rw [if_pos rfl]; exact wp_eq (fun _ => by simp only [stepF, hv, if_true]) Q
      | false => rw [if_neg (by simp)]; exact wp_eq (fun _ => by simp only [stepF, hv]; rfl) Q
    | _ => exact wp_none (fr := ⟨fn, nt, tm, .code (.cond q a b) :: k, ds, rnd⟩) (fun _ => by simp only [stepF, hv])

theorem wp_exit {id : Nat} {k' : List Item} (hx : exitO id k = some k') : Wp c fn nt tm (.code (.exit id) :: k) ds rnd h Q = Wp c fn nt tm k' ds rnd h Q := wp_eq (fun _ => by simp only [stepF, hx]) Q

theorem wp_ret : Wp c fn nt tm (.code .ret :: k) [] none h Q = bo (resOf c.P fn) fun rs => bo (resultsO c.P h tm rs) fun vs => Q (oneOr vs) h := by
  unfold resOf
  cases hf : c.P.funcs[fn]? with
  | none => exact wp_none (fr := ⟨fn, nt, tm, .code .ret :: k, [], none⟩) (fun _ => by simp only [stepF, leaveF, isRet, if_true, unwind, hf])
  | some f =>
    simp only [bo_some]
    cases hr : resultsO c.P h tm f.results.toList with
    | none => exact wp_none (fr := ⟨fn, nt, tm, .code .ret :: k, [], none⟩) (fun _ => by simp only [stepF, leaveF, isRet, if_true, unwind, hf, hr])
    | some vs => exact wp_some (fr := ⟨fn, nt, tm, .code .ret :: k, [], none⟩) (fun _ => by simp only [stepF, leaveF, isRet, if_true, unwind, hf, hr])
end

/-! ## Regions -/
/-- a read, in a region whose order is open, of a block that is not there yet -/
def rdBad (c : Cfg) (tm : T V) (h : H) (op : Op) : Bool :=
  match op with
  | .load _ x => (match ev c.ng tm x with | some x => !rdOld h x | none => true)
  | .convert s d x => (match clsOf c.P (.convert s d x) with
    | .R => (match ev c.ng tm x with | some x => !rdOld h x | none => true)
    | _ => false)
  | _ => false

/-- dr: is the order open? -/
def regS (c : Cfg) (call : Out → H → Option (V × H)) (nt : Nat) (rnd : Option Nat) (ops : Array Oper) (dr : Bool) : List Oper → T V → List D → H → Option (T V × List D × H)
  | [], tm, ds, h => some (tm, ds, h)
  | o :: l, tm, ds, h => match wantO ops tm o with
    | none => none
    | some false => match putT nt tm o.dst undefV with
      | some tm => regS c call nt rnd ops dr l tm ds h
      | none => none
    | some true => if (dr && rdBad c tm h o.op) = true then none else match opRun c call rnd tm ds h o with
      | none => none
      | some (v, ds, h) => match putT nt tm o.dst v with
        | some tm => regS c call nt rnd ops dr l tm ds h
        | none => none
theorem regL_regS (call : Out → H → Option (V × H)) (nt : Nat) (rnd : Option Nat) (ops : Array Oper) : ∀ (m i : Nat) (tm : T V) (ds : List D) (h : H), i + m = ops.size →
    regL c call nt rnd ops (List.range' i m) tm ds h = regS c call nt rnd ops false (ops.toList.drop i) tm ds h
  | 0, i, tm, ds, h, hm => by rw [List.drop_of_length_le (by simp; omega)]; rfl
  | m + 1, i, tm, ds, h, hm => by
    have hi : i < ops.toList.length := by simp; omega
    have ho : ops[i]? = some ops.toList[i] := by simp
    rw [List.drop_eq_getElem_cons hi, List.range'_succ]
    simp only [regL, ho, regS]
    generalize ops.toList[i] = o
    have ih := fun tm ds h => regL_regS call nt rnd ops m (i + 1) tm ds h (by omega)
    simp only [ih, Bool.false_and, Bool.false_eq_true, if_false]
    rfl

def WpS (c : Cfg) (fn nt : Nat) (ops : Array Oper) (dr : Bool) (l : List Oper) (tm : T V) (k : List Item) (ds : List D) (rnd : Option Nat) (h : H) (Q : V → H → Prop) : Prop :=
  ∃ v h', (∃ N, ∀ n, N ≤ n → (match regS c (callF c (run c n)) nt rnd ops dr l tm ds h with | some (tm', ds', h1) => run c n ⟨fn, nt, tm', k, ds', rnd⟩ h1 | none => none) = some (v, h')) ∧ Q v h'

section
variable {fn nt : Nat} {ops : Array Oper} {dr : Bool} {l : List Oper} {tm : T V} {k : List Item} {ds : List D} {rnd : Option Nat} {h : H} {Q : V → H → Prop}

theorem wp_region (id : Nat) : Wp c fn nt tm (.code (.region id ops false) :: k) ds rnd h Q = WpS c fn nt ops false ops.toList tm k ds rnd h Q := by
  have e : ∀ runf, stepF c runf ⟨fn, nt, tm, .code (.region id ops false) :: k, ds, rnd⟩ h = (match regS c (callF c runf) nt rnd ops false ops.toList tm ds h with | some (tm', ds', h1) => runf ⟨fn, nt, tm', k, ds', rnd⟩ h1 | none => none) := by
    intro runf
    simp only [stepF, regionF, Bool.false_eq_true, if_false]
    rw [List.range_eq_range', regL_regS _ _ _ _ _ 0 _ _ _ (by omega), List.drop_zero]; rfl
  refine propext ⟨?_, ?_⟩
  · rintro ⟨v, h1, ⟨N, hN⟩, q⟩
    refine ⟨v, h1, ⟨N, fun n hn => ?_⟩, q⟩
    have := hN (n + 1) (by omega)
    rw [run, e] at this; exact this
  · rintro ⟨v, h1, ⟨N, hN⟩, q⟩
    refine ⟨v, h1, ⟨N + 1, fun n hn => ?_⟩, q⟩
    obtain ⟨m, rfl⟩ : ∃ m, n = m + 1 := ⟨n - 1, by omega⟩
    rw [run, e]; exact hN m (by omega)

/-- no operation whose place among the others is open calls, or writes what was -/
def noE (P : Program) (ops : Array Oper) : Bool := ops.toList.all fun o => match clsOf P o.op with | .E => false | .R => (rdOperand o.op).isSome | _ => true
theorem regD_regS (call : Out → H → Option (V × H)) (nt : Nat) (rnd : Option Nat) (ops : Array Oper) (bs : List Nat) (hne : noE c.P ops = true) : ∀ (m i : Nat) (tm : T V) (ds : List D) (h : H) (rds : List Rd) (r : T V × List D × H), i + m = ops.size →
    regS c call nt rnd ops true (ops.toList.drop i) tm ds h = some r → regD c call nt rnd ops bs (List.range' i m) tm ds h [] rds = some r
  | 0, i, tm, ds, h, rds, r, hm, hr => by
    rw [List.drop_of_length_le (by simp; omega)] at hr; exact hr
  | m + 1, i, tm, ds, h, rds, r, hm, hr => by
    have hi : i < ops.toList.length := by simp; omega
    have ho : ops[i]? = some ops.toList[i] := by simp
    have hmem : ops.toList[i] ∈ ops.toList := List.getElem_mem hi
    rw [List.drop_eq_getElem_cons hi] at hr
    rw [List.range'_succ]
    simp only [regD, ho]
    unfold noE at hne
    have hcl := List.all_eq_true.1 hne _ hmem
    have hne' : noE c.P ops = true := hne
    generalize ops.toList[i] = o at *
    have ih := fun tm ds h rds r => regD_regS call nt rnd ops bs hne' m (i + 1) tm ds h rds r (by omega)
    simp only [regS] at hr
    split at hr
    · cases hr
    · rename_i hw
      rw [hw]
      simp only
      split at hr
      · rename_i hp; rw [hp]; exact ih _ _ _ _ _ hr
      · cases hr
    · rename_i hw
      rw [hw]
      simp only
      split at hr
      · cases hr
      · rename_i hbad
        split at hr
        · cases hr
        · rename_i v ds1 h1 hrun
          rw [hrun]
          simp only
          split at hr
          · rename_i tm' hp
            rw [hp]
            simp only
            cases hc : clsOf c.P o.op with
            | E => rw [hc] at hcl; cases hcl
            | P => exact ih _ _ _ _ _ hr
            | A => exact ih _ _ _ _ _ hr
            | R =>
              simp only
              rw [hc] at hcl
              simp only [Bool.true_and] at hbad
              cases hop : o.op <;> (rw [hop] at hcl hc hbad; simp only [rdOperand, Option.isSome_some, Option.isSome_none, Bool.false_eq_true] at hcl hbad ⊢)
              · rename_i t x
                simp only [rdBad] at hbad
                cases hx : ev c.ng tm x with
                | none => rw [hx] at hbad; simp at hbad
                | some x =>
                  rw [hx] at hbad
                  simp only [Bool.not_eq_true', Bool.not_eq_true] at hbad
                  simp only [List.all_nil, Bool.and_true]
                  have : rdOld h x = true := by simpa using hbad
                  rw [this, if_pos rfl]
                  exact ih _ _ _ _ _ hr
              · rename_i s d x
                simp only [rdBad, hc] at hbad
                cases hx : ev c.ng tm x with
                | none => rw [hx] at hbad; simp at hbad
                | some x =>
                  rw [hx] at hbad
                  simp only [List.all_nil, Bool.and_true]
                  have : rdOld h x = true := by simpa using hbad
                  rw [this, if_pos rfl]
                  exact ih _ _ _ _ _ hr
          · cases hr

theorem wp_regionD (id : Nat) (hok : drawOk c.P ops = true) (hne : noE c.P ops = true) (hw : WpS c fn nt ops true ops.toList tm k ds rnd h Q) : Wp c fn nt tm (.code (.region id ops true) :: k) ds rnd h Q := by
  obtain ⟨v, h1, ⟨N, hN⟩, q⟩ := hw
  refine ⟨v, h1, ⟨N + 1, fun n hn => ?_⟩, q⟩
  obtain ⟨m, rfl⟩ : ∃ m, n = m + 1 := ⟨n - 1, by omega⟩
  have := hN m (by omega)
  split at this
  · rename_i tm' ds' h2 hr
    simp only [run, stepF, regionF, hok, if_true]
    rw [List.range_eq_range', regD_regS _ _ _ _ _ hne _ 0 _ _ _ _ _ (by omega) (by rw [List.drop_zero]; exact hr)]
    exact this
  · cases this

theorem wps_nil : WpS c fn nt ops dr [] tm k ds rnd h Q = Wp c fn nt tm k ds rnd h Q := rfl

theorem wps_congr {l' : List Oper} {tm' : T V} {ds' : List D} {h' : H} (he : ∀ call, regS c call nt rnd ops dr l tm ds h = regS c call nt rnd ops dr l' tm' ds' h') : WpS c fn nt ops dr l tm k ds rnd h Q = WpS c fn nt ops dr l' tm' k ds' rnd h' Q := by
  unfold WpS; simp only [he]
theorem wps_none (he : ∀ call, regS c call nt rnd ops dr l tm ds h = none) : WpS c fn nt ops dr l tm k ds rnd h Q = False := by
  refine propext ⟨?_, False.elim⟩
  rintro ⟨v, h1, ⟨N, hN⟩, q⟩
  have := hN N (Nat.le_refl _)
  rw [he] at this; cases this

/-- an operation that is no call -/
theorem wps_op {d : Option Tmp} {op : Op} {ty : TypeId} {pos : String} {af : Array Edge} {r : Option (V × H)}
    (ho : (if (dr && rdBad c tm h op) = true then none else opx c tm h op) = match r with | some (v, h1) => some (.val v, h1) | none => none) :
    WpS c fn nt ops dr (⟨d, op, ty, pos, af, none⟩ :: l) tm k ds rnd h Q = bo r fun p => bo (putT nt tm d p.1) fun tm => WpS c fn nt ops dr l tm k ds rnd p.2 Q := by
  cases hb : dr && rdBad c tm h op with
  | true =>
    rw [hb, if_pos rfl] at ho
    cases r with
    | none => exact wps_none (fun call => by simp only [regS, wantO, hb, if_true])
    | some p => cases ho
  | false =>
    rw [hb, if_neg (by simp)] at ho
    cases r with
    | none => exact wps_none (fun call => by simp only [regS, wantO, hb, Bool.false_eq_true, if_false, opRun, ho])
    | some p =>
      obtain ⟨v, h1⟩ := p
      simp only [bo_some]
      cases hp : putT nt tm d v with
      | none => exact wps_none (fun call => by simp only [regS, wantO, hb, Bool.false_eq_true, if_false, opRun, ho, hp])
      | some tm' => exact wps_congr (fun call => by simp only [regS, wantO, hb, Bool.false_eq_true, if_false, opRun, ho, hp])
theorem wps_skip {d : Option Tmp} {op : Op} {ty : TypeId} {pos : String} {af : Array Edge} {r : Option H} (hb : rdBad c tm h op = false)
    (ho : opx c tm h op = match r with | some h1 => some (.skip, h1) | none => none) :
    WpS c fn nt ops dr (⟨d, op, ty, pos, af, none⟩ :: l) tm k ds rnd h Q = bo r fun h1 => bo (putT nt tm d undefV) fun tm => WpS c fn nt ops dr l tm k ds rnd h1 Q := by
  cases r with
  | none => exact wps_none (fun call => by simp only [regS, wantO, hb, Bool.and_false, Bool.false_eq_true, if_false, opRun, ho])
  | some h1 =>
    simp only [bo_some]
    cases hp : putT nt tm d undefV with
    | none => exact wps_none (fun call => by simp only [regS, wantO, hb, Bool.and_false, Bool.false_eq_true, if_false, opRun, ho, hp])
    | some tm' => exact wps_congr (fun call => by simp only [regS, wantO, hb, Bool.and_false, Bool.false_eq_true, if_false, opRun, ho, hp])

/-- a call: by what is known of it -/
theorem wps_call {d : Option Tmp} {kc : Call} {ty : TypeId} {pos : String} {af : Array Edge} {f : Nat} {args : List V} {h1 : H} {P : V → H → Prop}
    (ho : opx c tm h (.call kc) = some (.call f args, h1)) (hc : WpC c f args h1 P) (hk : ∀ v h2, P v h2 → bo (putT nt tm d v) fun tm => WpS c fn nt ops dr l tm k ds rnd h2 Q) :
    WpS c fn nt ops dr (⟨d, .call kc, ty, pos, af, none⟩ :: l) tm k ds rnd h Q := by
  obtain ⟨v, h2, ⟨N, hN⟩, p⟩ := hc
  have := hk v h2 p
  cases hp : putT nt tm d v with
  | none => rw [hp] at this; exact this.elim
  | some tm' =>
    rw [hp] at this
    obtain ⟨v', h', ⟨M, hM⟩, q⟩ := this
    refine ⟨v', h', ⟨max N M, fun n hn => ?_⟩, q⟩
    have e := hN n (by omega)
    have e' := hM n (by omega)
    simp only [regS, wantO, rdBad, Bool.and_false, Bool.false_eq_true, if_false, opRun, ho, e, hp]
    exact e'
theorem wps_round {d : Option Tmp} {kc : Call} {ty : TypeId} {pos : String} {af : Array Edge} {b : Nat} {args : List V} {h1 : H} {P : V → H → Prop}
    (ho : opx c tm h (.call kc) = some (.round b args, h1)) (hc : WpR c b args h1 P) (hk : ∀ v h2, P v h2 → bo (putT nt tm d v) fun tm => WpS c fn nt ops dr l tm k ds rnd h2 Q) :
    WpS c fn nt ops dr (⟨d, .call kc, ty, pos, af, none⟩ :: l) tm k ds rnd h Q := by
  obtain ⟨v, h2, ⟨N, hN⟩, p⟩ := hc
  have := hk v h2 p
  cases hp : putT nt tm d v with
  | none => rw [hp] at this; exact this.elim
  | some tm' =>
    rw [hp] at this
    obtain ⟨v', h', ⟨M, hM⟩, q⟩ := this
    refine ⟨v', h', ⟨max N M, fun n hn => ?_⟩, q⟩
    have e := hN n (by omega)
    have e' := hM n (by omega)
    simp only [regS, wantO, rdBad, Bool.and_false, Bool.false_eq_true, if_false, opRun, ho, e, hp]
    exact e'

/-- an operation under a guard -/
theorem wps_guard {d : Option Tmp} {op : Op} {ty : TypeId} {pos : String} {af : Array Edge} {j : Nat} {want : Bool} :
    WpS c fn nt ops dr (⟨d, op, ty, pos, af, some (j, want)⟩ :: l) tm k ds rnd h Q = bo (wantO ops tm ⟨d, op, ty, pos, af, some (j, want)⟩) fun t =>
      if t = true then WpS c fn nt ops dr (⟨d, op, ty, pos, af, none⟩ :: l) tm k ds rnd h Q else bo (putT nt tm d undefV) fun tm => WpS c fn nt ops dr l tm k ds rnd h Q := by
  cases hw : wantO ops tm ⟨d, op, ty, pos, af, some (j, want)⟩ with
  | none => exact wps_none (fun call => by simp only [regS, hw])
  | some t =>
    simp only [bo_some]
    cases t with
    | true =>
      rw [if_pos rfl]
      exact wps_congr (fun call => by simp only [regS, hw]; rfl)
    | false =>
      rw [if_neg (by simp)]
      cases hp : putT nt tm d undefV with
      | none => exact wps_none (fun call => by simp only [regS, hw, hp])
      | some tm' => exact wps_congr (fun call => by simp only [regS, hw, hp])
end

/-! ## Calls -/
theorem wpc_enter {f : Nat} {args : List V} {h : H} {Q : V → H → Prop} {nt : Nat} {b : Code} (hm : c.memo f args = none) (hf : fnOf c.P f = some (nt, b)) :
    WpC c f args h Q = Wp c f (max args.length nt) (setArgs .e 0 args) [.code b] [] none h Q := by
  have e : ∀ runf, callF c runf (.call f args) h = runf ⟨f, max args.length nt, setArgs .e 0 args, [.code b], [], none⟩ h := by
    intro runf
    unfold fnOf at hf
    simp only [callF, hm, enterFr]
    split at hf
    · cases hf
    · rename_i fn hfn
      rw [hfn]
      simp only
      split at hf
      · cases hf
      · rename_i b' hb
        cases hf
        simp only [hb]
  unfold WpC Wp EvF
  simp only [e]
theorem wpc_memo {f : Nat} {args : List V} {h : H} {Q : V → H → Prop} {v : V} (hm : c.memo f args = some v) (hb : c.base h = true) (hq : Q v h) : WpC c f args h Q :=
  ⟨v, h, ⟨0, fun n _ => by simp only [callF, hm, hb, if_true]⟩, hq⟩

/-- what is known at last -/
theorem wpc_run {f : Nat} {args : List V} {h : H} {v : V} (hw : WpC c f args h (fun u _ => u = v)) (hm : c.memo f args = none) : ∃ n fr h', enterFr c.P f args = some fr ∧ run c n fr h = some (v, h') := by
  obtain ⟨u, h', ⟨N, hN⟩, rfl⟩ := hw
  have := hN N (Nat.le_refl _)
  simp only [callF, hm] at this
  split at this
  · rename_i fr hen; exact ⟨N, fr, h', hen, this⟩
  · cases this
end
end Go.Fal
namespace Go.Fal

/-! # Rules for each operation -/
section
variable {c : Cfg} {fn nt : Nat} {ops : Array Oper} {dr : Bool} {l : List Oper} {tm : T V} {k : List Item} {ds : List D} {rnd : Option Nat} {h : H} {Q : V → H → Prop} {d : Option Tmp} {ty : TypeId} {pos : String} {af : Array Edge}

def bo2 {α β : Type} (o : Option (α × β)) (Q : α → β → Prop) : Prop := match o with | some (x, y) => Q x y | none => False
@[simp] theorem bo2_some {α β : Type} (x : α) (y : β) (Q : α → β → Prop) : bo2 (some (x, y)) Q = Q x y := rfl
@[simp] theorem bo2_none {α β : Type} (Q : α → β → Prop) : bo2 none Q = False := rfl

/-- laid into a temporary -/
def putP (nt : Nat) (tm : T V) (d : Option Tmp) (v : V) (Q : T V → Prop) : Prop := bo (putT nt tm d v) Q
theorem putP_some {nt : Nat} {tm : T V} {t : Tmp} {v : V} {Q : T V → Prop} (h : t < nt) : putP nt tm (some t) v Q = Q (tm.set t v) := by
  simp only [putP, putT, h, if_true, bo_some]
theorem putP_none {nt : Nat} {tm : T V} {v : V} {Q : T V → Prop} : putP nt tm none v Q = Q tm := rfl

theorem ifBad {α : Type} {dr : Bool} {op : Op} {x y : Option α} (hb : rdBad c tm h op = false) : (if (dr && rdBad c tm h op) = true then x else y) = y := by rw [hb, Bool.and_false, if_neg (by simp)]
theorem wps_val {op : Op} {r : Option V} (ho : opx c tm h op = ret r h) (hb : rdBad c tm h op = false := by rfl) :
    WpS c fn nt ops dr (⟨d, op, ty, pos, af, none⟩ :: l) tm k ds rnd h Q = bo r fun v => putP nt tm d v fun tm => WpS c fn nt ops dr l tm k ds rnd h Q := by
  cases r with
  | none => exact wps_op (r := none) ((ifBad hb).trans ho)
  | some v => exact wps_op (r := some (v, h)) ((ifBad hb).trans ho)
theorem wps_val2 {op : Op} {r : Option (V × H)} (ho : opx c tm h op = ret2 r) (hb : rdBad c tm h op = false := by rfl) :
    WpS c fn nt ops dr (⟨d, op, ty, pos, af, none⟩ :: l) tm k ds rnd h Q = bo2 r fun v h => putP nt tm d v fun tm => WpS c fn nt ops dr l tm k ds rnd h Q := by
  cases r with
  | none => exact wps_op (r := none) ((ifBad hb).trans ho)
  | some p => exact wps_op (r := some p) ((ifBad hb).trans ho)
theorem wps_stp {op : Op} {r : Option H} (ho : opx c tm h op = retH r) (hb : rdBad c tm h op = false := by rfl) :
    WpS c fn nt ops dr (⟨d, op, ty, pos, af, none⟩ :: l) tm k ds rnd h Q = bo r fun h => putP nt tm d undefV fun tm => WpS c fn nt ops dr l tm k ds rnd h Q := by
  cases r with
  | none => exact wps_skip (r := none) hb ho
  | some p => exact wps_skip (r := some p) hb ho

/-- one value, then what it comes to -/
def e1 (o : Option V) (f : V → Option V) : Option V := match o with | some v => f v | none => none
def e2 (o p : Option V) (f : V → V → Option V) : Option V := match o with | some v => (match p with | some u => f v u | none => none) | none => none
@[simp] theorem e1_some (v : V) (f : V → Option V) : e1 (some v) f = f v := rfl
@[simp] theorem e2_some (v u : V) (f : V → V → Option V) : e2 (some v) (some u) f = f v u := rfl

theorem wps_move (x : Operand) : WpS c fn nt ops dr (⟨d, .move x, ty, pos, af, none⟩ :: l) tm k ds rnd h Q = bo (ev c.ng tm x) fun v => putP nt tm d v fun tm => WpS c fn nt ops dr l tm k ds rnd h Q :=
  wps_val (by simp only [opx, ev1]; cases ev c.ng tm x <;> rfl)
theorem wps_assign (x : Operand) : WpS c fn nt ops dr (⟨d, .assign x, ty, pos, af, none⟩ :: l) tm k ds rnd h Q = bo (ev c.ng tm x) fun v => putP nt tm d v fun tm => WpS c fn nt ops dr l tm k ds rnd h Q :=
  wps_val (by simp only [opx, ev1]; cases ev c.ng tm x <;> rfl)
theorem wps_pick (q a b : Operand) : WpS c fn nt ops dr (⟨d, .pick q a b, ty, pos, af, none⟩ :: l) tm k ds rnd h Q =
    bo (ev c.ng tm q) fun v => vB v fun t => if t = true then (bo (ev c.ng tm a) fun v => putP nt tm d v fun tm => WpS c fn nt ops dr l tm k ds rnd h Q) else (bo (ev c.ng tm b) fun v => putP nt tm d v fun tm => WpS c fn nt ops dr l tm k ds rnd h Q) := by
  rw [wps_val (r := match ev c.ng tm q with | some (.bool true) => ev c.ng tm a | some (.bool false) => ev c.ng tm b | _ => none) (by
    simp only [opx, ev1]
    cases ev c.ng tm q with
    | none => rfl
    | some v =>
      cases v <;> try rfl
      rename_i t; cases t
      · simp only; cases ev c.ng tm b <;> rfl
      · simp only; cases ev c.ng tm a <;> rfl)]
  cases ev c.ng tm q with
  | none => rfl
  | some v =>
    cases v <;> try rfl
    rename_i t; cases t <;> simp
theorem wps_binOp (op : BinOp) (t u : TypeId) (x y : Operand) : WpS c fn nt ops dr (⟨d, .binOp op t x y u, ty, pos, af, none⟩ :: l) tm k ds rnd h Q =
    bo (e2 (ev c.ng tm x) (ev c.ng tm y) fun a b => binO c.P h op t x y a b) fun v => putP nt tm d v fun tm => WpS c fn nt ops dr l tm k ds rnd h Q :=
  wps_val (by simp only [opx, ev2]; cases ev c.ng tm x <;> cases ev c.ng tm y <;> rfl)
theorem wps_unOp (op : UnOp) (t : TypeId) (x : Operand) : WpS c fn nt ops dr (⟨d, .unOp op t x, ty, pos, af, none⟩ :: l) tm k ds rnd h Q =
    bo (e1 (ev c.ng tm x) fun a => unO op a) fun v => putP nt tm d v fun tm => WpS c fn nt ops dr l tm k ds rnd h Q :=
  wps_val (by simp only [opx, ev1]; cases ev c.ng tm x <;> rfl)
theorem wps_load (t : TypeId) (x : Operand) : WpS c fn nt ops dr (⟨d, .load t x, ty, pos, af, none⟩ :: l) tm k ds rnd h Q =
    bo (ev c.ng tm x) fun a => (dr = true → rdOld h a = true) ∧ bo (loadO c.P h t a) fun v => putP nt tm d v fun tm => WpS c fn nt ops dr l tm k ds rnd h Q := by
  cases hx : ev c.ng tm x with
  | none =>
    rw [wps_op (r := none) (by simp only [opx, ev1, hx]; split <;> rfl)]
    rfl
  | some a =>
    simp only [bo_some]
    by_cases hd : dr = true → rdOld h a = true
    · have hbb : (dr && rdBad c tm h (.load t x)) = false := by
        simp only [rdBad, hx]
        cases dr with
        | false => rfl
        | true => simp [hd rfl]
      rw [wps_op (r := match loadO c.P h t a with | some v => some (v, h) | none => none) (by rw [hbb, if_neg (by simp)]; simp only [opx, ev1, hx]; cases loadO c.P h t a <;> rfl)]
      rw [eq_true hd, true_and]
      cases loadO c.P h t a <;> rfl
    · have hd' : dr = true ∧ rdOld h a = false := by
        cases dr <;> simp at hd ⊢; exact hd
      rw [wps_op (r := none) (by simp only [rdBad, hx, hd'.1, hd'.2]; rfl)]
      rw [eq_false hd, false_and]; rfl
theorem wps_fieldAddr (t : TypeId) (x : Operand) (f : Nat) : WpS c fn nt ops dr (⟨d, .fieldAddr t x f, ty, pos, af, none⟩ :: l) tm k ds rnd h Q =
    bo (e1 (ev c.ng tm x) fun a => fieldAddrO c.P t a f) fun v => putP nt tm d v fun tm => WpS c fn nt ops dr l tm k ds rnd h Q :=
  wps_val (by simp only [opx, ev1]; cases ev c.ng tm x <;> rfl)
theorem wps_field (t : TypeId) (x : Operand) (f : Nat) : WpS c fn nt ops dr (⟨d, .field t x f, ty, pos, af, none⟩ :: l) tm k ds rnd h Q =
    bo (e1 (ev c.ng tm x) fun a => fieldO c.P t a f) fun v => putP nt tm d v fun tm => WpS c fn nt ops dr l tm k ds rnd h Q :=
  wps_val (by simp only [opx, ev1]; cases ev c.ng tm x <;> rfl)
theorem wps_indexAddr (t : TypeId) (x i : Operand) : WpS c fn nt ops dr (⟨d, .indexAddr t x i, ty, pos, af, none⟩ :: l) tm k ds rnd h Q =
    bo (e2 (ev c.ng tm x) (ev c.ng tm i) fun a b => indexAddrO c.P t a b) fun v => putP nt tm d v fun tm => WpS c fn nt ops dr l tm k ds rnd h Q :=
  wps_val (by simp only [opx, ev2]; cases ev c.ng tm x <;> cases ev c.ng tm i <;> rfl)
theorem wps_index (t : TypeId) (x i : Operand) : WpS c fn nt ops dr (⟨d, .index t x i, ty, pos, af, none⟩ :: l) tm k ds rnd h Q =
    bo (e2 (ev c.ng tm x) (ev c.ng tm i) fun a b => indexO c.P t a b) fun v => putP nt tm d v fun tm => WpS c fn nt ops dr l tm k ds rnd h Q :=
  wps_val (by simp only [opx, ev2]; cases ev c.ng tm x <;> cases ev c.ng tm i <;> rfl)
theorem wps_lookup (t : TypeId) (x i : Operand) (ok : Bool) : WpS c fn nt ops dr (⟨d, .lookup t x i ok, ty, pos, af, none⟩ :: l) tm k ds rnd h Q =
    bo (e2 (ev c.ng tm x) (ev c.ng tm i) fun a b => lookupO c.P h t a b ok) fun v => putP nt tm d v fun tm => WpS c fn nt ops dr l tm k ds rnd h Q :=
  wps_val (by simp only [opx, ev2]; cases ev c.ng tm x <;> cases ev c.ng tm i <;> rfl)
def nilChk : V → Option V
  | .ptr b o => some (.ptr b o)
  | .func (.func f) a b => some (.func (.func f) a b)
  | _ => none
theorem wps_nilCheck (x : Operand) : WpS c fn nt ops dr (⟨d, .nilCheck x, ty, pos, af, none⟩ :: l) tm k ds rnd h Q =
    bo (e1 (ev c.ng tm x) nilChk) fun v => putP nt tm d v fun tm => WpS c fn nt ops dr l tm k ds rnd h Q :=
  wps_val (by
    simp only [opx, ev1]
    cases ev c.ng tm x with
    | none => rfl
    | some v =>
      cases v <;> try rfl
      rename_i f a b; cases f <;> rfl)
def extrO (i : Nat) : V → Option V
  | .tup vs => vs[i]?
  | _ => none
theorem wps_extract (x : Operand) (i : Nat) : WpS c fn nt ops dr (⟨d, .extract x i, ty, pos, af, none⟩ :: l) tm k ds rnd h Q =
    bo (e1 (ev c.ng tm x) (extrO i)) fun v => putP nt tm d v fun tm => WpS c fn nt ops dr l tm k ds rnd h Q :=
  wps_val (by
    simp only [opx, ev1]
    cases ev c.ng tm x with
    | none => rfl
    | some v =>
      cases v <;> rfl)
theorem wps_build (t : TypeId) (ps : Array (Nat × Operand)) : WpS c fn nt ops dr (⟨d, .build t ps, ty, pos, af, none⟩ :: l) tm k ds rnd h Q =
    bo (evParts c.ng tm ps.toList) fun ps => bo (buildO c.P t ps) fun v => putP nt tm d v fun tm => WpS c fn nt ops dr l tm k ds rnd h Q := by
  rw [wps_val (r := match evParts c.ng tm ps.toList with | some ps => buildO c.P t ps | none => none) (by simp only [opx]; cases evParts c.ng tm ps.toList <;> rfl)]
  cases evParts c.ng tm ps.toList <;> rfl
theorem wps_makeFunc (f : Nat) (first cap : Array Operand) : WpS c fn nt ops dr (⟨d, .makeFunc (.func f) first cap, ty, pos, af, none⟩ :: l) tm k ds rnd h Q =
    bo (evs c.ng tm first.toList) fun a => bo (evs c.ng tm cap.toList) fun b => putP nt tm d (.func (.func f) a b) fun tm => WpS c fn nt ops dr l tm k ds rnd h Q := by
  rw [wps_val (r := match evs c.ng tm first.toList, evs c.ng tm cap.toList with | some a, some b => some (.func (.func f) a b) | _, _ => none) (by simp only [opx]; cases evs c.ng tm first.toList <;> cases evs c.ng tm cap.toList <;> rfl)]
  cases evs c.ng tm first.toList <;> cases evs c.ng tm cap.toList <;> rfl
theorem wps_slice (t : TypeId) (x : Operand) (lo hi mx : Option Operand) : WpS c fn nt ops dr (⟨d, .slice t x lo hi mx, ty, pos, af, none⟩ :: l) tm k ds rnd h Q =
    bo (ev c.ng tm x) fun x => bo (evOpt c.ng tm lo) fun lo => bo (evOpt c.ng tm hi) fun hi => bo (evOpt c.ng tm mx) fun mx => bo (sliceO c.P h t x lo hi mx) fun v => putP nt tm d v fun tm => WpS c fn nt ops dr l tm k ds rnd h Q := by
  rw [wps_val (r := match ev c.ng tm x, evOpt c.ng tm lo, evOpt c.ng tm hi, evOpt c.ng tm mx with | some x, some lo, some hi, some mx => sliceO c.P h t x lo hi mx | _, _, _, _ => none) (by
    simp only [opx, ev1]
    cases ev c.ng tm x <;> cases evOpt c.ng tm lo <;> cases evOpt c.ng tm hi <;> cases evOpt c.ng tm mx <;> rfl)]
  cases ev c.ng tm x <;> cases evOpt c.ng tm lo <;> cases evOpt c.ng tm hi <;> cases evOpt c.ng tm mx <;> rfl

theorem wps_convert (s t : TypeId) (x : Operand) (hdr : dr = false ∨ (match clsOf c.P (.convert s t x) with | .R => false | _ => true) = true) : WpS c fn nt ops dr (⟨d, .convert s t x, ty, pos, af, none⟩ :: l) tm k ds rnd h Q =
    bo (ev c.ng tm x) fun a => bo2 (convO c.P h s t a) fun v h => putP nt tm d v fun tm => WpS c fn nt ops dr l tm k ds rnd h Q := by
  have hbb : (dr && rdBad c tm h (.convert s t x)) = false := by
    rcases hdr with hd | hd
    · rw [hd]; rfl
    · simp only [rdBad]
      cases hc : clsOf c.P (.convert s t x) <;> rw [hc] at hd <;> simp at hd ⊢
  rw [wps_op (r := match ev c.ng tm x with | some a => convO c.P h s t a | none => none) (by
    rw [hbb, if_neg (by simp)]; simp only [opx, ev1]
    cases ev c.ng tm x with
    | none => rfl
    | some a => simp only; cases convO c.P h s t a <;> rfl)]
  cases ev c.ng tm x with
  | none => rfl
  | some a => simp only [bo_some]; cases convO c.P h s t a <;> rfl
theorem wps_conv {s t : TypeId} {ik : IntKind} (x : Operand) (hc : cvtO c.P s t = some ik) : WpS c fn nt ops dr (⟨d, .convert s t x, ty, pos, af, none⟩ :: l) tm k ds rnd h Q =
    bo (ev c.ng tm x) fun a => bo (match a with | .int _ n => some (V.int ik (ik.wrap n)) | _ => none) fun v => putP nt tm d v fun tm => WpS c fn nt ops dr l tm k ds rnd h Q := by
  have hcl : (match clsOf c.P (.convert s t x) with | .R => false | _ => true) = true := by
    unfold cvtO at hc
    split at hc
    · rename_i h1 h2; simp only [clsOf, h1, h2]
    · cases hc
  rw [wps_convert s t x (.inr hcl)]
  cases ev c.ng tm x with
  | none => rfl
  | some a =>
    simp only [bo_some, convO_int hc]
    cases a <;> rfl
theorem wps_alloc (e : TypeId) : WpS c fn nt ops dr (⟨d, .alloc e, ty, pos, af, none⟩ :: l) tm k ds rnd h Q =
    bo (zeroO c.P e) fun z => bo2 (newCells h z.cells) fun v h => putP nt tm d v fun tm => WpS c fn nt ops dr l tm k ds rnd h Q := by
  rw [wps_val2 (r := match zeroO c.P e with | some z => newCells h z.cells | none => none) (by simp only [opx]; cases zeroO c.P e <;> rfl)]
  cases zeroO c.P e <;> rfl
theorem wps_box (e : TypeId) (x : Operand) : WpS c fn nt ops dr (⟨d, .box e x, ty, pos, af, none⟩ :: l) tm k ds rnd h Q =
    bo (ev c.ng tm x) fun v => bo2 (newCells h v.cells) fun v h => putP nt tm d v fun tm => WpS c fn nt ops dr l tm k ds rnd h Q := by
  rw [wps_val2 (r := match ev c.ng tm x with | some v => newCells h v.cells | none => none) (by simp only [opx, ev1]; cases ev c.ng tm x <;> rfl)]
  cases ev c.ng tm x <;> rfl
theorem wps_buildSlice (t : TypeId) (n : Nat) (ps : Array (Nat × Operand)) : WpS c fn nt ops dr (⟨d, .buildSlice t n ps, ty, pos, af, none⟩ :: l) tm k ds rnd h Q =
    bo (evParts c.ng tm ps.toList) fun ps => bo2 (buildSliceO c.P h t n ps) fun v h => putP nt tm d v fun tm => WpS c fn nt ops dr l tm k ds rnd h Q := by
  rw [wps_val2 (r := match evParts c.ng tm ps.toList with | some ps => buildSliceO c.P h t n ps | none => none) (by simp only [opx]; cases evParts c.ng tm ps.toList <;> rfl)]
  cases evParts c.ng tm ps.toList <;> rfl
theorem wps_store (t : TypeId) (a x : Operand) : WpS c fn nt ops dr (⟨d, .store t a x, ty, pos, af, none⟩ :: l) tm k ds rnd h Q =
    bo (ev c.ng tm a) fun a => bo (ev c.ng tm x) fun x => bo (storeO c.P h t a x) fun h => putP nt tm d undefV fun tm => WpS c fn nt ops dr l tm k ds rnd h Q := by
  rw [wps_stp (r := match ev c.ng tm a, ev c.ng tm x with | some a, some x => storeO c.P h t a x | _, _ => none) (by simp only [opx, ev2]; cases ev c.ng tm a <;> cases ev c.ng tm x <;> rfl)]
  cases ev c.ng tm a <;> cases ev c.ng tm x <;> rfl
theorem wps_mapUpdate (t : TypeId) (m q x : Operand) : WpS c fn nt ops dr (⟨d, .mapUpdate t m q x, ty, pos, af, none⟩ :: l) tm k ds rnd h Q =
    bo (ev c.ng tm m) fun m => bo (ev c.ng tm q) fun q => bo (ev c.ng tm x) fun x => bo (mapUpdateO c.P h t m q x) fun h => putP nt tm d undefV fun tm => WpS c fn nt ops dr l tm k ds rnd h Q := by
  rw [wps_stp (r := match ev c.ng tm m, ev c.ng tm q, ev c.ng tm x with | some m, some q, some x => mapUpdateO c.P h t m q x | _, _, _ => none) (by simp only [opx, ev1, ev2]; cases ev c.ng tm m <;> cases ev c.ng tm q <;> cases ev c.ng tm x <;> rfl)]
  cases ev c.ng tm m <;> cases ev c.ng tm q <;> cases ev c.ng tm x <;> rfl
theorem wps_makeMap {t kt et : TypeId} (hu : c.P.underlying t = some (.map kt et)) : WpS c fn nt ops dr (⟨d, .makeMap t none, ty, pos, af, none⟩ :: l) tm k ds rnd h Q =
    putP nt tm d (.map h.next) fun tm => WpS c fn nt ops dr l tm k ds rnd (h.new (.map [] 0)) Q := by
  rw [wps_val2 (r := some (.map h.next, h.new (.map [] 0))) (by simp only [opx, hu, evOpt]; rfl)]
  rfl
theorem wps_builtin (b : Builtin) (args : Array Operand) (ts : Array TypeId) (hb : (match b with | .recover => false | _ => true) = true) : WpS c fn nt ops dr (⟨d, .call ⟨.builtin b, args, ts⟩, ty, pos, af, none⟩ :: l) tm k ds rnd h Q =
    bo (evs c.ng tm args.toList) fun vs => bo2 (builtinO c.P h b ts vs) fun v h => putP nt tm d v fun tm => WpS c fn nt ops dr l tm k ds rnd h Q := by
  rw [wps_val2 (r := match evs c.ng tm args.toList with | some vs => builtinO c.P h b ts vs | none => none) (by
    simp only [opx]
    cases evs c.ng tm args.toList with
    | none => rfl
    | some vs => cases b <;> first | rfl | cases hb)]
  cases evs c.ng tm args.toList <;> rfl

/-- a call of a function with a body -/
theorem opx_call {f : Nat} {args : Array Operand} {ts : Array TypeId} {vs : List V} (hb : bodyB c.P f = true) (hv : evs c.ng tm args.toList = some vs) :
    opx c tm h (.call ⟨.value (.func f), args, ts⟩) = some (.call f vs, h) := by
  unfold bodyB at hb
  split at hb
  · rename_i g hg
    simp only [opx, hv, ev1, ev, callVO, callO, hg, hb, if_true, List.nil_append, List.append_nil]
  · cases hb
theorem opx_callV {x : Operand} {f : Nat} {first cap : List V} {args : Array Operand} {ts : Array TypeId} {vs : List V} (hx : ev c.ng tm x = some (.func (.func f) first cap)) (hb : bodyB c.P f = true) (hv : evs c.ng tm args.toList = some vs) :
    opx c tm h (.call ⟨.value x, args, ts⟩) = some (.call f (first ++ vs ++ cap), h) := by
  unfold bodyB at hb
  split at hb
  · rename_i g hg
    simp only [opx, hv, ev1, hx, callVO, callO, hg, hb, if_true]
  · cases hb
end
end Go.Fal
namespace Go.Fal

/-! # The code, part by part -/
def bodyOf (fn : Func) : Code := fn.body.getD .skip
def cA : Code → Code
  | .seq a _ => a | .cond _ a _ => a | .block _ b => b | .loop b => b | .scope b => b | .rangeFunc _ _ a _ => a | x => x
def cB : Code → Code
  | .seq _ b => b | .cond _ _ b => b | .rangeFunc _ _ _ b => b | x => x
def cOps : Code → Array Oper
  | .region _ ops _ => ops | _ => #[]
def opN (r : Array Oper) (i : Nat) : Oper := r[i]?.getD ⟨none, .ready 0, 0, "", #[], none⟩
/-- an operation's text, whatever it is, with its shape written out -/
def opV (r : Array Oper) (i : Nat) : Value := match (opN r i).op with | .move (.const v) | .assign (.const v) => v | _ => .bool false

section
variable {c : Cfg} {fn nt : Nat} {tm : T V} {k : List Item} {ds : List D} {rnd : Option Nat} {h : H} {Q : V → H → Prop}

theorem wp_congr_exit {id : Nat} {it : Item} (hx : exitO id (it :: k) = exitO id k) : Wp c fn nt tm (.code (.exit id) :: it :: k) ds rnd h Q = Wp c fn nt tm (.code (.exit id) :: k) ds rnd h Q := by
  have e : ∀ runf, stepF c runf ⟨fn, nt, tm, .code (.exit id) :: it :: k, ds, rnd⟩ h = stepF c runf ⟨fn, nt, tm, .code (.exit id) :: k, ds, rnd⟩ h := by
    intro runf
    simp only [stepF, hx]
    cases exitO id k <;> rfl
  have e' : ∀ n, run c n ⟨fn, nt, tm, .code (.exit id) :: it :: k, ds, rnd⟩ h = run c n ⟨fn, nt, tm, .code (.exit id) :: k, ds, rnd⟩ h := by
    intro n
    cases n with
    | zero => rfl
    | succ n => exact e _
  unfold Wp EvF
  simp only [e']
theorem wp_exit_here (id : Nat) : Wp c fn nt tm (.code (.exit id) :: .inBlock id :: k) ds rnd h Q = Wp c fn nt tm k ds rnd h Q := wp_exit (by simp [exitO])
theorem wp_exit_loop (id : Nat) (b : Code) : Wp c fn nt tm (.code (.exit id) :: .inLoop b :: k) ds rnd h Q = Wp c fn nt tm (.code (.exit id) :: k) ds rnd h Q := wp_congr_exit rfl
theorem wp_exit_code (id : Nat) (b : Code) : Wp c fn nt tm (.code (.exit id) :: .code b :: k) ds rnd h Q = Wp c fn nt tm (.code (.exit id) :: k) ds rnd h Q := wp_congr_exit rfl
theorem wp_exit_scope (id : Nat) (b : Code) : Wp c fn nt tm (.code (.exit id) :: .inScope b :: k) ds rnd h Q = Wp c fn nt tm (.code (.exit id) :: k) ds rnd h Q := wp_congr_exit rfl
theorem wp_exit_block {id i : Nat} (hne : i ≠ id) : Wp c fn nt tm (.code (.exit id) :: .inBlock i :: k) ds rnd h Q = Wp c fn nt tm (.code (.exit id) :: k) ds rnd h Q := wp_congr_exit (by simp [exitO, hne])

/-- the end of a function's text -/
theorem wp_end : Wp c fn nt tm [] [] none h Q = bo (resOf c.P fn) fun rs => bo (resultsO c.P h tm rs) fun vs => Q (oneOr vs) h := by
  unfold resOf
  cases hf : c.P.funcs[fn]? with
  | none => exact wp_none (fr := ⟨fn, nt, tm, [], [], none⟩) (fun _ => by simp only [stepF, leaveF, isRet, if_true, unwind, hf])
  | some f =>
    simp only [bo_some]
    cases hr : resultsO c.P h tm f.results.toList with
    | none => exact wp_none (fr := ⟨fn, nt, tm, [], [], none⟩) (fun _ => by simp only [stepF, leaveF, isRet, if_true, unwind, hf, hr])
    | some vs => exact wp_some (fr := ⟨fn, nt, tm, [], [], none⟩) (fun _ => by simp only [stepF, leaveF, isRet, if_true, unwind, hf, hr])
end

/-! ## What operands are -/
theorem ev_tmp (ng : Nat) (tm : T V) (t : Tmp) : ev ng tm (.tmp t) = tm.get t := rfl
theorem ev_cint (ng : Nat) (tm : T V) (k : IntKind) (n : Int) : ev ng tm (.const (.int k n)) = some (.int k n) := rfl
theorem ev_cbool (ng : Nat) (tm : T V) (b : Bool) : ev ng tm (.const (.bool b)) = some (.bool b) := rfl
theorem ev_cnils (ng : Nat) (tm : T V) : ev ng tm (.const (.slice none 0 0)) = some .nils := rfl
theorem ev_cnilp (ng : Nat) (tm : T V) : ev ng tm (.const (.pointer none)) = some .nilp := rfl
theorem ev_cnilf (ng : Nat) (tm : T V) : ev ng tm (.const .nilFunc) = some .nilf := rfl
theorem ev_cnili (ng : Nat) (tm : T V) : ev ng tm (.const .nilIface) = some .nili := rfl
theorem ev_cnilm (ng : Nat) (tm : T V) : ev ng tm (.const (.map none)) = some .nilm := rfl
theorem ev_func (ng : Nat) (tm : T V) (f : Nat) : ev ng tm (.func f) = some (.func (.func f) [] []) := rfl
theorem ev_global {ng g : Nat} (tm : T V) (h : g < ng) : ev ng tm (.global g) = some (.ptr g 0) := by simp only [ev, h, if_true]

def consO (a : Option V) (b : Option (List V)) : Option (List V) := match a with | none => none | some v => match b with | none => none | some l => some (v :: l)
@[simp] theorem consO_some (v : V) (l : List V) : consO (some v) (some l) = some (v :: l) := rfl
theorem evs_nil (ng : Nat) (tm : T V) : evs ng tm [] = some [] := rfl
theorem evs_cons (ng : Nat) (tm : T V) (x : Operand) (l : List Operand) : evs ng tm (x :: l) = consO (ev ng tm x) (evs ng tm l) := by
  simp only [evs, mapO]
  cases ev ng tm x with
  | none => rfl
  | some v => simp only; generalize mapO _ l = o; cases o <;> rfl
def consP (i : Nat) (a : Option V) (b : Option (List (Nat × V))) : Option (List (Nat × V)) := match a with | none => none | some v => match b with | none => none | some l => some ((i, v) :: l)
@[simp] theorem consP_some (i : Nat) (v : V) (l : List (Nat × V)) : consP i (some v) (some l) = some ((i, v) :: l) := rfl
theorem evParts_nil (ng : Nat) (tm : T V) : evParts ng tm [] = some [] := rfl
theorem evParts_cons (ng : Nat) (tm : T V) (i : Nat) (x : Operand) (l : List (Nat × Operand)) : evParts ng tm ((i, x) :: l) = consP i (ev ng tm x) (evParts ng tm l) := by
  simp only [evParts, mapO]
  cases ev ng tm x with
  | none => rfl
  | some v => simp only; generalize mapO _ l = o; cases o <;> rfl
theorem evOpt_none (ng : Nat) (tm : T V) : evOpt ng tm none = some none := rfl
def someO (a : Option V) : Option (Option V) := match a with | some v => some (some v) | none => none
@[simp] theorem someO_some (v : V) : someO (some v) = some (some v) := rfl
theorem evOpt_sm (ng : Nat) (tm : T V) (x : Operand) : evOpt ng tm (some x) = someO (ev ng tm x) := rfl

/-! ## Numbers -/
section
variable {P : Program} {h : H} {t : TypeId} {ox oy : Operand} {k k' : IntKind} {a b : Int}
theorem binO_add : binO P h .add t ox oy (.int k a) (.int k b) = some (.int k (k.wrap (a + b))) := by simp [binO, intop]
theorem binO_sub : binO P h .sub t ox oy (.int k a) (.int k b) = some (.int k (k.wrap (a - b))) := by simp [binO, intop]
theorem binO_mul : binO P h .mul t ox oy (.int k a) (.int k b) = some (.int k (k.wrap (a * b))) := by simp [binO, intop]
theorem binO_quo : binO P h .quo t ox oy (.int k a) (.int k b) = if b = 0 then none else some (.int k (k.wrap (a.tdiv b))) := by simp [binO, intop]
theorem binO_rem : binO P h .rem t ox oy (.int k a) (.int k b) = if b = 0 then none else some (.int k (a.tmod b)) := by simp [binO, intop]
theorem binO_eql : binO P h .eql t ox oy (.int k a) (.int k b) = some (.bool (decide (a = b))) := by simp only [binO, intop, if_true]; rfl
theorem binO_neq : binO P h .neq t ox oy (.int k a) (.int k b) = some (.bool (!decide (a = b))) := by simp only [binO, intop, if_true]; rfl
theorem binO_lss : binO P h .lss t ox oy (.int k a) (.int k b) = some (.bool (decide (a < b))) := by simp [binO, intop]
theorem binO_leq : binO P h .leq t ox oy (.int k a) (.int k b) = some (.bool (decide (a ≤ b))) := by simp [binO, intop]
theorem binO_gtr : binO P h .gtr t ox oy (.int k a) (.int k b) = some (.bool (decide (a > b))) := by simp [binO, intop]
theorem binO_geq : binO P h .geq t ox oy (.int k a) (.int k b) = some (.bool (decide (a ≥ b))) := by simp [binO, intop]
theorem binO_shl : binO P h .shl t ox oy (.int k a) (.int k' b) = if b < 0 then none else some (.int k (k.wrap (a * 2 ^ (min b.toNat k.bits)))) := by simp only [binO, intop]
theorem binO_shr : binO P h .shr t ox oy (.int k a) (.int k' b) = if b < 0 then none else some (.int k (a.fdiv (2 ^ (min b.toNat k.bits)))) := by simp only [binO, intop]
theorem binO_beq {x y : Bool} (hu : P.underlying t = some .bool) : binO P h .eql t ox oy (.bool x) (.bool y) = some (.bool (x == y)) := by
  simp only [binO, eqOk, if_true, veq, hu]
theorem unO_not {x : Bool} : unO .not (.bool x) = some (.bool (!x)) := rfl

theorem wrap64 {n : Int} (h1 : -9223372036854775808 ≤ n) (h2 : n ≤ 9223372036854775807) : IntKind.i64.wrap n = n := by
  simp only [IntKind.wrap, IntKind.bits, IntKind.signed]; simp; omega
theorem wrapu8 {n : Int} (h1 : 0 ≤ n) (h2 : n ≤ 255) : IntKind.u8.wrap n = n := by
  simp only [IntKind.wrap, IntKind.bits, IntKind.signed]; simp; omega
end

/-! ## Lengths -/
section
variable {P : Program} {h : H} {ts : Array TypeId}
theorem len_sli (hl : lenCls P ts = 2) {b o n cp e : Nat} {x : Bool} : builtinO P h .len ts [.slice b o n cp e x] = some (.int .i64 n, h) := by
  unfold lenCls at hl
  split at hl
  · rename_i t ht
    split at hl
    · cases hl
    · rename_i hu; simp only [builtinO, ht, lenBuiltinO, hu]
    · cases hl
  · cases hl
theorem len_nils (hl : lenCls P ts = 2) : builtinO P h .len ts [.nils] = some (.int .i64 0, h) := by
  unfold lenCls at hl
  split at hl
  · rename_i t ht
    split at hl
    · cases hl
    · rename_i hu; simp only [builtinO, ht, lenBuiltinO, hu]
    · cases hl
  · cases hl
theorem min_ints {j k : IntKind} {a b : Int} : builtinO P h .min ts [.int j a, .int k b] = some (.int j (if b < a then b else a), h) := by
  simp only [builtinO, foldO, minO]
theorem max_ints {j k : IntKind} {a b : Int} : builtinO P h .max ts [.int j a, .int k b] = some (.int j (if b > a then b else a), h) := by
  simp only [builtinO, foldO, maxO]
end
end Go.Fal
namespace Go.Fal

/-! # Rows of values of one cell -/
def sblk : V → Option Nat
  | .slice b .. => some b
  | _ => none
/-- the address of a place -/
def sptr (v : V) (i : Nat) : V :=
  match v with
  | .slice b off _ _ es _ => .ptr b (off + i * es)
  | _ => .nilp
/-- a row that may be read -/
def RowR (h : H) (v : V) (l : List V) : Prop :=
  (v = .nils ∧ l = []) ∨ (l = [] ∧ ∃ b off ex, v = .slice b off 0 0 1 ex) ∨ ∃ b off cap ex rw pl n z t, v = .slice b off l.length cap 1 ex ∧ l.length ≤ cap ∧ b < h.next ∧ h.get b = some (.cells rw pl n z t) ∧ off + l.length ≤ n ∧ ∀ i x, l[i]? = some x → cellAt z t (off + i) = some x
/-- a row of one's own: whole, from the block's beginning -/
def Own (h : H) (v : V) (l : List V) : Prop :=
  (v = .nils ∧ l = []) ∨ ∃ b pl n z t, v = .slice b 0 l.length l.length 1 false ∧ b < h.next ∧ h.get b = some (.cells true pl n z t) ∧ l.length ≤ n ∧ ∀ i x, l[i]? = some x → cellAt z t i = some x
theorem Own.row {h : H} {v : V} {l : List V} (o : Own h v l) : RowR h v l := by
  rcases o with ⟨rfl, rfl⟩ | ⟨b, pl, n, z, t, rfl, h1, h2, h3, h4⟩
  · exact .inl ⟨rfl, rfl⟩
  · exact .inr (.inr ⟨b, 0, _, false, true, pl, n, z, t, rfl, Nat.le_refl _, h1, h2, by omega, fun i x hi => by rw [Nat.zero_add]; exact h4 i x hi⟩)

/-- what was is as it was, but for some -/
def Keep (X : Nat → Prop) (h h' : H) : Prop := h.next ≤ h'.next ∧ ∀ b, b < h.next → ¬ X b → h'.get b = h.get b
theorem Keep.refl (X : Nat → Prop) (h : H) : Keep X h h := ⟨Nat.le_refl _, fun _ _ _ => rfl⟩
theorem Keep.trans {X Y : Nat → Prop} {h1 h2 h3 : H} (a : Keep X h1 h2) (b : Keep Y h2 h3) (hXY : ∀ b, b < h1.next → Y b → X b) : Keep X h1 h3 :=
  ⟨Nat.le_trans a.1 b.1, fun k hk hx => by rw [b.2 k (Nat.lt_of_lt_of_le hk a.1) (fun hy => hx (hXY k hk hy)), a.2 k hk hx]⟩
theorem Keep.weak {X Y : Nat → Prop} {h1 h2 : H} (a : Keep X h1 h2) (hXY : ∀ b, b < h1.next → X b → Y b) : Keep Y h1 h2 := ⟨a.1, fun k hk hy => a.2 k hk (fun hx => hy (hXY k hk hx))⟩
abbrev None' : Nat → Prop := fun _ => False
theorem keep_new (h : H) (o : O) : Keep None' h (h.new o) := ⟨by simp, fun b hb _ => H.get_new_ne _ _ (by omega)⟩
theorem keep_put (h : H) (b : Nat) (o : O) : Keep (· = b) h (h.put b o) := ⟨by simp, fun k _ hk => H.get_put_ne _ _ hk⟩

theorem RowR.keep {X : Nat → Prop} {h h' : H} {v : V} {l : List V} (r : RowR h v l) (k : Keep X h h') (hx : ∀ b, sblk v = some b → ¬ X b) : RowR h' v l := by
  rcases r with ⟨rfl, rfl⟩ | ⟨rfl, b, off, ex, rfl⟩ | ⟨b, off, cap, ex, rw_, pl, n, z, t, rfl, h0, h1, h2, h3, h4⟩
  · exact .inl ⟨rfl, rfl⟩
  · exact .inr (.inl ⟨rfl, b, off, ex, rfl⟩)
  · exact .inr (.inr ⟨b, off, cap, ex, rw_, pl, n, z, t, rfl, h0, Nat.lt_of_lt_of_le h1 k.1, by rw [k.2 b h1 (hx b rfl)]; exact h2, h3, h4⟩)
theorem Own.keep {X : Nat → Prop} {h h' : H} {v : V} {l : List V} (r : Own h v l) (k : Keep X h h') (hx : ∀ b, sblk v = some b → ¬ X b) : Own h' v l := by
  rcases r with ⟨rfl, rfl⟩ | ⟨b, pl, n, z, t, rfl, h1, h2, h3, h4⟩
  · exact .inl ⟨rfl, rfl⟩
  · exact .inr ⟨b, pl, n, z, t, rfl, Nat.lt_of_lt_of_le h1 k.1, by rw [k.2 b h1 (hx b rfl)]; exact h2, h3, h4⟩
theorem Own.lt {h : H} {v : V} {l : List V} (r : Own h v l) {b : Nat} (hb : sblk v = some b) : b < h.next := by
  rcases r with ⟨rfl, rfl⟩ | ⟨b', pl, n, z, t, rfl, h1, h2, h3, h4⟩
  · cases hb
  · cases hb; exact h1

section
variable {P : Program} {h : H} {v : V} {l : List V}
theorem RowR.len (r : RowR h v l) {ts : Array TypeId} (hl : lenCls P ts = 2) {h' : H} : builtinO P h' .len ts [v] = some (.int .i64 l.length, h') := by
  rcases r with ⟨rfl, rfl⟩ | ⟨rfl, b, off, ex, rfl⟩ | ⟨b, off, cap, ex, rw_, pl, n, z, t, rfl, h0, h1, h2, h3, h4⟩
  · exact len_nils hl
  · exact len_sli hl
  · exact len_sli hl
theorem RowR.lenO (r : RowR h v l) : lenO v = some l.length := by
  rcases r with ⟨rfl, rfl⟩ | ⟨rfl, b, off, ex, rfl⟩ | ⟨b, off, cap, ex, rw_, pl, n, z, t, rfl, h0, h1, h2, h3, h4⟩ <;> rfl
theorem RowR.addr (r : RowR h v l) {t : TypeId} (hz : sliceSz P t = some 1) {k : IntKind} {i : Nat} (hi : i < l.length) : indexAddrO P t v (.int k (i : Nat)) = some (sptr v i) := by
  rcases r with ⟨rfl, rfl⟩ | ⟨rfl, b, off, ex, rfl⟩ | ⟨b, off, cap, ex, rw_, pl, n, z, t, rfl, h0, h1, h2, h3, h4⟩
  · simp at hi
  · simp at hi
  · unfold sliceSz at hz
    split at hz
    · rename_i e hu
      simp only [indexAddrO, asNat, Int.natCast_nonneg, if_true, Int.toNat_natCast, hu, hi, hz, sptr]
    · cases hz
theorem RowR.load (r : RowR h v l) {t : TypeId} (ha : isAggB P t = some false) {i : Nat} (hi : i < l.length) : loadO P h t (sptr v i) = some l[i] := by
  rcases r with ⟨rfl, rfl⟩ | ⟨rfl, b, off, ex, rfl⟩ | ⟨b, off, cap, ex, rw_, pl, n, z, t, rfl, h0, h1, h2, h3, h4⟩
  · simp at hi
  · simp at hi
  · have := h4 i l[i] (by simp)
    have e : off + i * 1 < n := by omega
    rw [Nat.mul_one] at e
    simp only [loadO, ha, sptr, H.load1, h2, Nat.mul_one, e, if_true, this]
theorem RowR.old (r : RowR h v l) {i : Nat} (hi : i < l.length) : rdOld h (sptr v i) = true := by
  rcases r with ⟨rfl, rfl⟩ | ⟨rfl, b, off, ex, rfl⟩ | ⟨b, off, cap, ex, rw_, pl, n, z, t, rfl, h0, h1, h2, h3, h4⟩
  · simp at hi
  · simp at hi
  · simp only [rdOld, sptr, blt_eq, h1, decide_true]
theorem load1s {rw_ pl : Bool} {n : Nat} {z : List V} {t : T V} {b : Nat} (h2 : h.get b = some (.cells rw_ pl n z t)) : ∀ (m : List V) (off : Nat), off + m.length ≤ n → (∀ i x, m[i]? = some x → cellAt z t (off + i) = some x) → h.loadN b off m.length = some m
  | [], off, _, _ => rfl
  | x :: m, off, hn, hm => by
    simp only [List.length_cons] at hn ⊢
    have e0 := hm 0 x rfl
    rw [Nat.add_zero] at e0
    have ih := load1s h2 m (off + 1) (by omega) (fun i y hi => by rw [show off + 1 + i = off + (i + 1) by omega]; exact hm (i + 1) y (by simpa using hi))
    have e : off < n := by omega
    simp only [H.loadN, H.load1, h2, e, if_true, e0, ih]
theorem RowR.first (r : RowR h v l) : firstO h 1 l.length v = some l := by
  rcases r with ⟨rfl, rfl⟩ | ⟨rfl, b, off, ex, rfl⟩ | ⟨b, off, cap, ex, rw_, pl, n, z, t, rfl, h0, h1, h2, h3, h4⟩
  · rfl
  · rfl
  · by_cases hz : l.length = 0
    · simp only [firstO, hz, if_true]; rw [List.length_eq_zero_iff.1 hz]
    · simp only [firstO, hz, if_false, Nat.le_refl, if_true, h2, O.live, Nat.mul_one]
      exact load1s h2 l off h3 h4

/-- one more, or some, at the end -/
theorem Own.append {s x : V} {m : List V} (r : Own h s l) (q : RowR h x m) {t : TypeId} {bytes : Nat} (he : elemOf P t = some (1, bytes, true)) (hm : m.all V.plain = true) (hs : l.length + m.length ≤ 2 ^ 32) (hby : bytes ≤ 64) :
    ∃ v' h', appendO P h t s x = some (v', h') ∧ Own h' v' (l ++ m) ∧ Keep (fun b => sblk s = some b) h h' ∧ (∀ b, sblk v' = some b → b = h.next ∨ sblk s = some b) ∧ (m ≠ [] → h'.next = h.next + 1 ∧ sblk v' = some h.next) := by
  unfold elemOf at he
  split at he
  · rename_i e hu
    split at he
    · rename_i i hi
      simp only [Option.some.injEq, Prod.mk.injEq] at he
      obtain ⟨e1, e2, e3⟩ := he
      have hcond : ((match i.zero with | some z => z.cells.size == i.size | none => false) && m.all V.plain && m.length == m.length * i.size) = true := by
        simp only [Bool.and_eq_true]
        exact ⟨⟨e3, hm⟩, by rw [e1]; simp⟩
      have hmost : l.length + m.length ≤ most := Nat.le_trans hs (by decide)
      have hsz : (2 * (l.length + m.length) + 200) * i.bytes ≤ 2 ^ 47 := by
        rw [e2]
        calc (2 * (l.length + m.length) + 200) * bytes ≤ (2 * 2 ^ 32 + 200) * 64 := Nat.mul_le_mul (by omega) hby
          _ ≤ 2 ^ 47 := by decide
      rcases r with ⟨rfl, rfl⟩ | ⟨b, pl, n, z, t', rfl, h1, h2, h3, h4⟩
      · -- nothing yet
        cases m with
        | nil =>
          refine ⟨.nils, h, ?_, .inl ⟨rfl, rfl⟩, Keep.refl _ _, (fun b hb => by cases hb), fun hne => absurd rfl hne⟩
          simp only [appendO, hu, hi, q.lenO, e1, q.first]
          rw [if_pos (by rw [e1] at hcond; exact hcond)]; rfl
        | cons y ys =>
          refine ⟨.slice h.next 0 (y :: ys).length (y :: ys).length 1 false, h.new (ofCells (y :: ys)), ?_, ?_, (keep_new h _).weak (fun _ _ hf => hf.elim), fun b hb => .inl (by cases hb; rfl), fun _ => ⟨rfl, rfl⟩⟩
          · simp only [appendO, hu, hi, q.lenO, e1, q.first]
            rw [if_pos (by rw [e1] at hcond; exact hcond)]
            rw [if_neg (by simp), if_pos (by constructor; · exact Nat.le_trans (by simp) hmost
                                             · exact Nat.le_trans (by simp) hsz)]
          · refine .inr ⟨h.next, true, (y :: ys).length, y :: ys, .e, by simp, by simp, by rw [H.get_new_same]; rfl, by simp, fun j w hj => ?_⟩
            simp only [List.nil_append] at hj
            have hlt : j < (y :: ys).length := (List.getElem?_eq_some_iff.1 hj).1
            simp only [cellAt, T.get_e, Nat.mod_eq_of_lt hlt]; exact hj
      · cases hml : m with
        | nil =>
          subst hml
          refine ⟨_, h, ?_, ?_, Keep.refl _ _, fun b hb => .inr hb, fun hne => absurd rfl hne⟩
          · simp only [appendO, hu, hi, q.lenO, e1, q.first]
            rw [if_pos (by rw [e1] at hcond; exact hcond)]
            rw [if_pos ⟨trivial, Nat.le_refl _, hmost, hsz⟩, if_pos (by simp)]
          · rw [List.append_nil]; exact .inr ⟨b, pl, n, z, t', rfl, h1, h2, h3, h4⟩
        | cons y ys =>
          have hpos : 0 < m.length := by rw [hml]; simp
          rw [← hml]
          refine ⟨.slice h.next 0 (l.length + m.length) (l.length + m.length) 1 false, (h.put b .dead).new (.cells true pl ((l.length + m.length) * 1) z (t'.sets (l.length * 1) m)), ?_, ?_, ?_, fun b hb => .inl (by cases hb; rfl), fun _ => ⟨rfl, rfl⟩⟩
          · simp only [appendO, hu, hi, q.lenO, e1, q.first]
            rw [if_pos (by rw [e1] at hcond; exact hcond)]
            rw [if_pos ⟨trivial, Nat.le_refl _, hmost, hsz⟩, if_neg (by omega), if_neg (by omega)]
            simp only [Bool.false_eq_true, if_false, h2]
            rw [if_pos ⟨trivial, by omega⟩]
          · refine .inr ⟨h.next, pl, (l.length + m.length) * 1, z, _, by simp, by simp, by rw [show h.next = (h.put b .dead).next from rfl, H.get_new_same], by simp, fun j w hj => ?_⟩
            have hj0 := (List.getElem?_eq_some_iff.1 hj).1
            simp only [cellAt, T.get_sets, Nat.mul_one]
            by_cases hjl : l.length ≤ j
            · rw [if_pos ⟨hjl, by simpa using hj0⟩]
              rw [List.getElem?_append_right hjl] at hj
              rw [hj]
            · rw [if_neg (by omega)]
              rw [List.getElem?_append_left (by omega)] at hj
              exact h4 j w hj
          · refine ⟨by simp, fun k hk hx => ?_⟩
            have hkb : k ≠ b := fun e => hx (by rw [e]; rfl)
            rw [H.get_new_ne _ _ (by simp; omega), H.get_put_ne _ _ hkb]
    · cases he
  · cases he
end

/-- a row of some parts, written down -/
theorem buildSlice1 {P : Program} {h : H} {t e : TypeId} {x z : V} (hu : elemT P t = some e) (hs : sizeO P e = some 1) (hz : zeroO P e = some z) (hzp : z.plain = true) (hx : x.plain = true) :
    buildSliceO P h t 1 [(0, x)] = some (.slice h.next 0 1 1 1 true, h.new (ofCells [x])) := by
  unfold elemT at hu
  split at hu
  · rename_i e' hu'
    cases hu
    have zc : z.cells = [z] := by cases z <;> simp [V.plain] at hzp <;> rfl
    have xc : x.cells = [x] := by cases x <;> simp [V.plain] at hx <;> rfl
    simp only [buildSliceO, hu', hs, hz, zc, List.length_singleton, if_true, fillO, rep, xc, List.append_nil]
    simp [hx]
  · cases hu
theorem row_one {h : H} {x : V} : RowR (h.new (ofCells [x])) (.slice h.next 0 1 1 1 true) [x] :=
  .inr (.inr ⟨h.next, 0, 1, true, true, true, 1, [x], .e, rfl, by simp, by simp, by rw [H.get_new_same]; rfl, by simp, fun i y hi => by
    have hlt := (List.getElem?_eq_some_iff.1 hi).1
    simp only [List.length_singleton] at hlt
    obtain rfl : i = 0 := by omega
    simpa [cellAt] using hi⟩)
theorem row_none {h : H} : RowR (h.new (ofCells [])) (.slice h.next 0 0 0 1 true) [] :=
  .inr (.inr ⟨h.next, 0, 0, true, true, true, 0, [], .e, rfl, by simp, by simp, by rw [H.get_new_same]; rfl, by simp, fun i y hi => by simp at hi⟩)
theorem buildSlice0 {P : Program} {h : H} {t e : TypeId} {z : V} (hu : elemT P t = some e) (hs : sizeO P e = some 1) (hz : zeroO P e = some z) (hzp : z.plain = true) :
    buildSliceO P h t 0 [] = some (.slice h.next 0 0 0 1 true, h.new (ofCells [])) := by
  unfold elemT at hu
  split at hu
  · rename_i e' hu'
    cases hu
    have zc : z.cells = [z] := by cases z <;> simp [V.plain] at hzp <;> rfl
    simp only [buildSliceO, hu', hs, hz, zc, List.length_singleton, if_true, fillO, rep]
    simp
  · cases hu
/-- append to the empty row that is written down: a row of its own -/
theorem append_empty {P : Program} {h : H} {x : V} {m : List V} {b : Nat} (hb : RowR h (.slice b 0 0 0 1 true) []) (q : RowR h x m) {t : TypeId} {bytes : Nat} (he : elemOf P t = some (1, bytes, true)) (hm : m.all V.plain = true) (hs : m.length ≤ 2 ^ 32) (hby : bytes ≤ 64) :
    ∃ v' h', appendO P h t (.slice b 0 0 0 1 true) x = some (v', h') ∧ RowR h' v' m ∧ Keep None' h h' ∧ (∀ b', sblk v' = some b' → b' = h.next ∨ b' = b) := by
  unfold elemOf at he
  split at he
  · rename_i e hu
    split at he
    · rename_i i hi
      simp only [Option.some.injEq, Prod.mk.injEq] at he
      obtain ⟨e1, e2, e3⟩ := he
      have hcond : ((match i.zero with | some z => z.cells.size == i.size | none => false) && m.all V.plain && m.length == m.length * i.size) = true := by
        simp only [Bool.and_eq_true]
        exact ⟨⟨e3, hm⟩, by rw [e1]; simp⟩
      have hmost : 0 + m.length ≤ most := by rw [Nat.zero_add]; exact Nat.le_trans hs (by decide)
      have hsz : (2 * (0 + m.length) + 200) * i.bytes ≤ 2 ^ 47 := by
        rw [e2]
        calc (2 * (0 + m.length) + 200) * bytes ≤ (2 * 2 ^ 32 + 200) * 64 := Nat.mul_le_mul (by omega) hby
          _ ≤ 2 ^ 47 := by decide
      have base : appendO P h t (.slice b 0 0 0 1 true) x = (if m.length = 0 then some (.slice b 0 0 0 1 true, h) else if 0 + m.length ≤ 0 then
          (match h.storeN b (0 + 0 * 1) m with | some h' => some (.slice b 0 (0 + m.length) 0 1 true, h') | none => none) else
          (match firstO h 1 0 (.slice b 0 0 0 1 true) with | some old => if old.length = 0 * 1 then some (.slice h.next 0 (0 + m.length) (0 + m.length) 1 false, h.new (ofCells (old ++ m))) else none | none => none)) := by
        simp only [appendO, hu, hi, q.lenO, e1, q.first]
        rw [if_pos (by rw [e1] at hcond; exact hcond)]
        rw [if_pos ⟨trivial, Nat.le_refl _, hmost, hsz⟩]; rfl
      rw [base]
      cases m with
      | nil => exact ⟨_, h, rfl, hb, Keep.refl _ _, fun b' hb' => .inr (by cases hb'; rfl)⟩
      | cons y ys =>
        refine ⟨.slice h.next 0 (y :: ys).length (y :: ys).length 1 false, h.new (ofCells (y :: ys)), ?_, ?_, keep_new h _, fun b' hb' => .inl (by cases hb'; rfl)⟩
        · rw [if_neg (by simp), if_neg (by simp)]
          simp [firstO]
        · refine .inr (.inr ⟨h.next, 0, _, false, true, true, (y :: ys).length, y :: ys, .e, rfl, by simp, by simp, by rw [H.get_new_same]; rfl, by simp, fun j w hj => ?_⟩)
          have hlt : j < (y :: ys).length := (List.getElem?_eq_some_iff.1 hj).1
          simp only [Nat.zero_add, cellAt, T.get_e, Nat.mod_eq_of_lt hlt]; exact hj
    · cases he
  · cases he
end Go.Fal
namespace Go.Fal

/-! # Boxes: a variable's block -/
def Box (h : H) (b : Nat) (v : V) : Prop := b < h.next ∧ ∃ pl n z t, h.get b = some (.cells true pl n z t) ∧ 0 < n ∧ cellAt z t 0 = some v
theorem Box.keep {X : Nat → Prop} {h h' : H} {b : Nat} {v : V} (r : Box h b v) (k : Keep X h h') (hx : ¬ X b) : Box h' b v :=
  ⟨Nat.lt_of_lt_of_le r.1 k.1, let ⟨pl, n, z, t, h1, h2⟩ := r.2; ⟨pl, n, z, t, by rw [k.2 b r.1 hx]; exact h1, h2⟩⟩
theorem Box.load {P : Program} {h : H} {b : Nat} {v : V} (r : Box h b v) {t : TypeId} (ha : isAggB P t = some false) : loadO P h t (.ptr b 0) = some v := by
  obtain ⟨_, pl, n, z, t', h1, h2, h3⟩ := r
  simp only [loadO, ha, H.load1, h1, h2, if_true, h3]
theorem Box.old {h : H} {b : Nat} {v : V} (r : Box h b v) : rdOld h (.ptr b 0) = true := by
  simp only [rdOld, blt_eq, r.1, decide_true]
theorem Box.store {P : Program} {h : H} {b : Nat} {v u : V} (r : Box h b v) {t : TypeId} (hs : sizeO P t = some 1) (hu : u.plain = true) : ∃ h', storeO P h t (.ptr b 0) u = some h' ∧ Box h' b u ∧ Keep (· = b) h h' ∧ h'.next = h.next := by
  obtain ⟨hlt, pl, n, z, t', h1, h2, h3⟩ := r
  have uc : u.cells = [u] := by cases u <;> simp [V.plain] at hu <;> rfl
  refine ⟨h.put b (.cells true pl n z (t'.set 0 u)), ?_, ⟨by simpa using hlt, pl, n, z, t'.set 0 u, H.get_put_same _ _ _, h2, by simp [cellAt, T.get_set_same]⟩, keep_put _ _ _, rfl⟩
  simp only [storeO, hs, uc, List.length_singleton, if_true, H.storeN, H.store1, h1, h2, hu]
theorem box_new {h : H} {v : V} : Box (h.new (ofCells [v])) h.next v :=
  ⟨by simp, true, 1, [v], .e, by rw [H.get_new_same]; rfl, by omega, by simp [cellAt]⟩
theorem newCells_one {h : H} {v : V} (hv : v.plain = true) : newCells h v.cells = some (.ptr h.next 0, h.new (ofCells [v])) := by
  have vc : v.cells = [v] := by cases v <;> simp [V.plain] at hv <;> rfl
  simp [newCells, vc, hv]
theorem Box.lt {h : H} {b : Nat} {v : V} (r : Box h b v) : b < h.next := r.1

/-! # Ranges over functions -/
section
variable {c : Cfg} {fn nt : Nat} {tm : T V} {k : List Item} {ds : List D} {h : H} {Q : V → H → Prop}

theorem wp_rangeFunc {f : Operand} {ps : Array Tmp} {assign body : Code} {g : Nat} {first cap : List V} {P : V → H → Prop} (hf : ev c.ng tm f = some (.func (.func g) first cap))
    (hc : WpC c g (first ++ [V.yield (h.next + 1)] ++ cap) ((h.new (.defd true)).new (.loop .ready none fn nt tm ps assign body h.next)) P)
    (hk : ∀ v h3, P v h3 → ∃ st fn' nt' tm' ps' a b d, h3.get (h.next + 1) = some (.loop st none fn' nt' tm' ps' a b d) ∧ st ≠ .busy ∧
      Wp c fn nt tm k (.coll h.next :: ds) none (h3.put (h.next + 1) (.loop .exhausted none fn' nt' tm' ps' a b d)) Q) :
    Wp c fn nt tm (.code (.rangeFunc f ps assign body) :: k) ds none h Q := by
  obtain ⟨v, h3, ⟨N, hN⟩, p⟩ := hc
  obtain ⟨st, fn', nt', tm', ps', a, b, d, hg, hst, v', h', ⟨M, hM⟩, q⟩ := hk v h3 p
  refine ⟨v', h', ⟨max N M + 1, fun n hn => ?_⟩, q⟩
  obtain ⟨m, rfl⟩ : ∃ m, n = m + 1 := ⟨n - 1, by omega⟩
  have e1 := hN m (by omega)
  have e2 := hM m (by omega)
  have hgs : ∀ st' pe', setState h3 (h.next + 1) st' pe' = some (h3.put (h.next + 1) (.loop st' pe' fn' nt' tm' ps' a b d)) := by intro st' pe'; simp only [setState, hg]
  simp only [run, stepF, rangeF, markF, hf, H.next_new, e1, stateOf, hg, hst, if_false, hgs, codes]
  exact e2

theorem wp_ret_coll {b : Nat} (hb : h.get b = some (.defd true)) : Wp c fn nt tm (.code .ret :: k) (.coll b :: ds) none h Q = Wp c fn nt tm (.code .ret :: k) ds none (h.put b (.defd false)) Q := by
  have e : ∀ n, run c n ⟨fn, nt, tm, .code .ret :: k, .coll b :: ds, none⟩ h = run c n ⟨fn, nt, tm, .code .ret :: k, ds, none⟩ (h.put b (.defd false)) := by
    intro n
    cases n with
    | zero => rfl
    | succ n => simp only [run, stepF, leaveF, isRet, if_true, unwind, hb]
  unfold Wp EvF
  simp only [e]

variable {L : Nat} {st : LoopState} {pe : Option Code} {fn' nt' : Nat} {tm' : T V} {ps : Array Tmp} {as_ bd : Code} {d : Nat}
theorem wpr_enter {args : List V} {tm1 : T V} (hg : h.get L = some (.loop st pe fn' nt' tm' ps as_ bd d)) (hp : ps.toList.all (fun t => decide (t < nt')) = true) (hz : zipSet tm' ps.toList args = some tm1) :
    WpR c L args h Q = Wp c fn' nt' tm1 [.code as_, .beginRound, .code bd] [] (some L) h Q := by
  have e : ∀ runf, callF c runf (.round L args) h = runf ⟨fn', nt', tm1, [.code as_, .beginRound, .code bd], [], some L⟩ h := by
    intro runf
    simp only [callF, roundFr, hg, hp, if_true, hz]
  unfold WpR Wp EvF
  simp only [e]
theorem wp_beginRound (hg : h.get L = some (.loop .ready pe fn' nt' tm' ps as_ bd d)) : Wp c fn nt tm (.beginRound :: k) ds (some L) h Q = Wp c fn nt tm k ds (some L) (h.put L (.loop .busy pe fn' nt' tm' ps as_ bd d)) Q :=
  wp_eq (fun _ => by simp only [stepF, roundF, stateOf, hg, setState]) Q
theorem wp_round_end (hg : h.get L = some (.loop st pe fn' nt' tm' ps as_ bd d)) : Wp c fn nt tm [] [] (some L) h Q = Q (.bool true) (h.put L (.loop .ready none fn' nt' tm' ps as_ bd d)) :=
  wp_some (fr := ⟨fn, nt, tm, [], [], some L⟩) (fun _ => by simp only [stepF, leaveF, setState, hg, Option.isNone_none, if_true])
theorem opx_yield {x : Operand} {args : Array Operand} {ts : Array TypeId} {vs : List V} (hx : ev c.ng tm x = some (.yield L)) (hv : evs c.ng tm args.toList = some vs) (hg : h.get L = some (.loop st pe fn' nt' tm' ps as_ bd d)) (hn : vs.length = ps.size) :
    opx c tm h (.call ⟨.value x, args, ts⟩) = some (.round L vs, h) := by
  simp only [opx, hv, ev1, hx, callVO, hg, hn, if_true]
end
end Go.Fal
namespace Go.Fal
section
variable {c : Cfg} {fn nt : Nat} {ops : Array Oper} {dr : Bool} {l : List Oper} {tm : T V} {k : List Item} {ds : List D} {rnd : Option Nat} {h : H} {Q : V → H → Prop} {d : Option Tmp} {ty : TypeId} {pos : String} {af : Array Edge}

/-- a guard: as wanted, or not -/
def vG (v : V) (want : Bool) (A B : Prop) : Prop := match v with | .bool b => if b = want then A else B | _ => B
theorem vG_bool (b want : Bool) (A B : Prop) : vG (.bool b) want A B = if b = want then A else B := rfl
theorem wps_guardG {op : Op} {j : Nat} {want : Bool} {dd : Tmp} (hg : gTmp ops j = some dd) :
    WpS c fn nt ops dr (⟨d, op, ty, pos, af, some (j, want)⟩ :: l) tm k ds rnd h Q = bo (tm.get dd) fun v => vG v want (WpS c fn nt ops dr (⟨d, op, ty, pos, af, none⟩ :: l) tm k ds rnd h Q) (putP nt tm d undefV fun tm => WpS c fn nt ops dr l tm k ds rnd h Q) := by
  rw [wps_guard]
  unfold gTmp at hg
  split at hg
  · rename_i o ho
    simp only [wantO, ho, hg]
    cases tm.get dd with
    | none => rfl
    | some v =>
      cases v <;> (try (simp only [bo_some, vG]; rw [if_neg (by simp)]; rfl))
      rename_i b
      simp only [bo_some, vG_bool]
      by_cases e : b = want
      · subst e; rw [if_pos (by simp), if_pos rfl]
      · rw [if_neg (by simpa using e), if_neg e]; rfl
  · cases hg

theorem wps_callP {kc : Call} {f : Nat} {args : List V} {h1 : H} {P : V → H → Prop} (ho : opx c tm h (.call kc) = some (.call f args, h1)) (hc : WpC c f args h1 P) (hk : ∀ v h2, P v h2 → putP nt tm d v fun tm => WpS c fn nt ops dr l tm k ds rnd h2 Q) :
    WpS c fn nt ops dr (⟨d, .call kc, ty, pos, af, none⟩ :: l) tm k ds rnd h Q := wps_call ho hc hk
theorem wps_roundP {kc : Call} {b : Nat} {args : List V} {h1 : H} {P : V → H → Prop} (ho : opx c tm h (.call kc) = some (.round b args, h1)) (hc : WpR c b args h1 P) (hk : ∀ v h2, P v h2 → putP nt tm d v fun tm => WpS c fn nt ops dr l tm k ds rnd h2 Q) :
    WpS c fn nt ops dr (⟨d, .call kc, ty, pos, af, none⟩ :: l) tm k ds rnd h Q := wps_round ho hc hk
end
end Go.Fal
namespace Go.Fal
section
variable {c : Cfg} {fn nt : Nat} {ops : Array Oper} {dr : Bool} {l : List Oper} {tm : T V} {k : List Item} {ds : List D} {rnd : Option Nat} {h : H} {Q : V → H → Prop} {d : Option Tmp} {ty : TypeId} {pos : String} {af : Array Edge}
theorem wpsGT {op : Op} {j : Nat} {want : Bool} {dd : Tmp} (hg : gTmp ops j = some dd) (hv : tm.get dd = some (.bool want)) :
    WpS c fn nt ops dr (⟨d, op, ty, pos, af, some (j, want)⟩ :: l) tm k ds rnd h Q = WpS c fn nt ops dr (⟨d, op, ty, pos, af, none⟩ :: l) tm k ds rnd h Q := by
  rw [wps_guardG hg, hv, bo_some, vG_bool, if_pos rfl]
theorem wpsGF {op : Op} {j : Nat} {want : Bool} {dd : Tmp} (hg : gTmp ops j = some dd) (hv : tm.get dd = some (.bool (!want))) :
    WpS c fn nt ops dr (⟨d, op, ty, pos, af, some (j, want)⟩ :: l) tm k ds rnd h Q = putP nt tm d undefV fun tm => WpS c fn nt ops dr l tm k ds rnd h Q := by
  rw [wps_guardG hg, hv, bo_some, vG_bool, if_neg (by cases want <;> simp)]
end
end Go.Fal
