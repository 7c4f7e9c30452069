/-
  THE ENGINE: an interpreter of our own for the model's programs, and the proof that each of its runs is a call of the model, for every start that it sees.
-/
import Derived.Test.YthoiomcchedapaaGreatDoorE07
set_option autoImplicit true
set_option relaxedAutoImplicit true
set_option linter.unusedVariables false
set_option linter.unusedSimpArgs false
namespace Go.Fal

section
variable (c : Cfg)

/-! ## What is known of an operation once for all -/
def fldOff (P : Program) (s : TypeId) (f : Nat) : Option Nat :=
  match P.underlying s with
  | some (.struct fs) => match fs[f]? with
    | some f => match sizeO P f.type with
      | some n => if n = 0 then none else some f.offset
      | none => none
    | none => none
  | _ => none
theorem fieldAddrO_eq (P : Program) (s : TypeId) (x : V) (f : Nat) : fieldAddrO P s x f = match x with | .ptr b off => (match fldOff P s f with | some d => some (.ptr b (off + d)) | none => none) | _ => none := by
  unfold fieldAddrO fldOff
  cases x with
  | ptr b off =>
    cases P.underlying s with
    | none => rfl
    | some d =>
      cases d <;> try rfl
      rename_i fs
      simp only
      cases fs[f]? with
      | none => rfl
      | some f =>
        simp only
        cases sizeO P f.type with
        | none => rfl
        | some n =>
          simp only
          split <;> rfl
  | _ =>
    cases P.underlying s with
    | none => rfl
    | some d => cases d <;> rfl

def cvtO (P : Program) (s d : TypeId) : Option IntKind :=
  match P.underlying s, P.underlying d with
  | some (.int _), some (.int k) => some k
  | _, _ => none
theorem convO_int {P : Program} {h : H} {s d : TypeId} {k : IntKind} (hk : cvtO P s d = some k) (x : V) : convO P h s d x = match x with | .int _ n => some (.int k (k.wrap n), h) | _ => none := by
  unfold cvtO at hk
  split at hk
  · rename_i h1 h2
    cases hk
    unfold convO
    rw [h1, h2]
    cases x <;> rfl
  · cases hk

def sliceSz (P : Program) (t : TypeId) : Option Nat :=
  match P.underlying t with
  | some (.slice e) => sizeO P e
  | _ => none
def arraySz (P : Program) (t : TypeId) : Option (Nat × Nat) :=
  match P.underlying t with
  | some (.array len e) => match sizeO P e with | some n => some (len, n) | none => none
  | _ => none
def isStr (P : Program) (t : TypeId) : Bool :=
  match P.underlying t with
  | some .string => true
  | _ => false

noncomputable def natK (v : V) (K : Nat → Bool) : Bool := vInt v (fun _ n => Int.rec (motive := fun _ => Bool) (fun m => K m) (fun _ => false) n) false
theorem natK_eq (v : V) (K : Nat → Bool) : natK v K = bnd (asNat v) K := by
  unfold natK asNat
  rw [vInt_eq]
  cases v with
  | int k n =>
    cases n with
    | ofNat m => simp only [Int.ofNat_eq_natCast, Int.natCast_nonneg, if_true, Int.toNat_natCast, bnd_some]
    | negSucc m => simp only; rw [if_neg (by omega)]; rfl
  | _ => rfl

/-- an address in a row -/
noncomputable def indexAddrK (P : Program) (t : TypeId) (x ix : V) (K : V → Bool) : Bool :=
  natK ix fun i => Option.rec (motive := fun _ => Bool)
    (Option.rec (motive := fun _ => Bool) (bnd (indexAddrO P t x ix) K) (fun p => Prod.rec (motive := fun _ => Bool) (fun len n => vPtr x (fun b off => iteK (Nat.blt i len) (fN (Nat.add off (Nat.mul i n)) fun o => K (.ptr b o)) false) false) p) (arraySz P t))
    (fun n => vSlice x (fun b off len _ _ _ => iteK (Nat.blt i len) (fN (Nat.add off (Nat.mul i n)) fun o => K (.ptr b o)) false) false) (sliceSz P t)
theorem indexAddrK_eq (P : Program) (t : TypeId) (x ix : V) (K : V → Bool) : indexAddrK P t x ix K = bnd (indexAddrO P t x ix) K := by
  unfold indexAddrK
  rw [natK_eq]
  cases hi : asNat ix with
  | none => simp only [indexAddrO, hi]; rfl
  | some i =>
    simp only [bnd_some]
    cases hs : sliceSz P t with
    | some n =>
      simp only
      unfold sliceSz at hs
      split at hs
      · rename_i e hu
        rw [vSlice_eq]
        cases x <;> simp only [indexAddrO, hi, hu, hs] <;> try rfl
        rw [blt_eq, iteK_decide, fN_eq, bnd_if]; rfl
      · cases hs
    | none =>
      simp only
      cases ha : arraySz P t with
      | none => rfl
      | some p =>
        obtain ⟨len, n⟩ := p
        simp only
        unfold arraySz at ha
        split at ha
        · rename_i l e hu
          split at ha
          · rename_i m hm
            cases ha
            rw [vPtr_eq]
            cases x <;> simp only [indexAddrO, hi, hu, hm] <;> try rfl
            rw [blt_eq, iteK_decide, fN_eq, bnd_if]; rfl
          · cases ha
        · cases ha

noncomputable def indexK (P : Program) (t : TypeId) (x ix : V) (K : V → Bool) : Bool :=
  iteK (isStr P t) (natK ix fun i => vStr x (fun s => bnd (nthL s i) fun ch => fN ch fun ch => K (.int .u8 (.ofNat ch))) false) (bnd (indexO P t x ix) fun v => fV v K)
theorem indexK_eq (P : Program) (t : TypeId) (x ix : V) (K : V → Bool) : indexK P t x ix K = bnd (indexO P t x ix) K := by
  have fe : (fun v => fV v K) = K := funext fun v => fV_eq v K
  unfold indexK
  cases hs : isStr P t with
  | false => simp only [iteK_false, fe]
  | true =>
    simp only [iteK_true]
    unfold isStr at hs
    split at hs
    · rename_i hu
      rw [natK_eq]
      cases hi : asNat ix with
      | none => simp only [indexO, hi]; rfl
      | some i =>
        simp only [bnd_some, vStr_eq, indexO, hi, hu]
        cases x <;> try rfl
        simp only [nthL_eq, fN_eq]
        rename_i s
        cases s[i]? <;> rfl
    · cases hs

def allocO (P : Program) (e : TypeId) : Option O :=
  match zeroO P e with
  | some z => if z.cells.all V.plain then some (ofCells z.cells) else none
  | none => none

noncomputable def boxK (h : H) (v : V) (K : Out → H → Bool) : Bool :=
  vCells v (fun cs => allPC cs (lenC cs fun n => newK h (.cells true true n cs .e) fun b h' => K (.val (.ptr b 0)) h')) (newK h (.cells true true 1 [v] .e) fun b h' => K (.val (.ptr b 0)) h') false
theorem boxK_eq (h : H) (v : V) (K : Out → H → Bool) : boxK h v K = bnd2 (ret2 (newCells h v.cells)) K := by
  unfold boxK newCells
  rw [vCells_eq]
  cases v with
  | agg cs =>
    show allPC cs (lenC cs fun n => newK h (.cells true true n cs .e) fun b h' => K (.val (.ptr b 0)) h') = bnd2 (ret2 (if cs.all V.plain = true then some (.ptr h.next 0, h.new (ofCells cs)) else none)) K
    simp only [newK_eq, allPC_eq, lenC_eq]
    by_cases hp : cs.all V.plain = true
    · simp only [hp, if_true]; rfl
    · simp only [hp]; rfl
  | tup cs => rfl
  | _ => simp only [V.cells, newK_eq]; rfl

def lenCls (P : Program) (ts : Array TypeId) : Nat :=
  match ts[0]? with
  | some t => match P.underlying t with
    | some .string => 1
    | some (.slice _) => 2
    | _ => 0
  | none => 0
noncomputable def lenK (P : Program) (h : H) (ts : Array TypeId) (args : List V) (K : Out → H → Bool) : Bool :=
  List.rec (motive := fun _ => Bool) (bnd2 (ret2 (builtinO P h .len ts args)) K) (fun x xs _ => List.rec (motive := fun _ => Bool)
    (Nat.rec (motive := fun _ => Bool) (bnd2 (ret2 (builtinO P h .len ts args)) K)
      (fun m _ => Nat.rec (motive := fun _ => Bool) (vStr x (fun s => lenC s fun n => K (.val (.int .i64 (.ofNat n))) h) (bnd2 (ret2 (builtinO P h .len ts args)) K))
        (fun _ _ => vSlice x (fun _ _ n _ _ _ => K (.val (.int .i64 (.ofNat n))) h) (bnd2 (ret2 (builtinO P h .len ts args)) K)) m) (lenCls P ts))
    (fun _ _ _ => bnd2 (ret2 (builtinO P h .len ts args)) K) xs) args
theorem lenK_eq (P : Program) (h : H) (ts : Array TypeId) (args : List V) (K : Out → H → Bool) : lenK P h ts args K = bnd2 (ret2 (builtinO P h .len ts args)) K := by
  unfold lenK
  cases args with
  | nil => rfl
  | cons x xs =>
    cases xs with
    | cons _ _ => rfl
    | nil =>
      simp only
      cases hl : lenCls P ts with
      | zero => rfl
      | succ m =>
        simp only
        unfold lenCls at hl
        split at hl
        · rename_i t ht
          split at hl
          · rename_i hu
            cases hl
            simp only [vStr_eq]
            cases x <;> try rfl
            simp only [lenC_eq, builtinO, ht, lenBuiltinO, hu]; rfl
          · rename_i e hu
            cases hl
            simp only [vSlice_eq]
            cases x <;> try rfl
            simp only [builtinO, ht, lenBuiltinO, hu]; rfl
          · cases hl
        · cases hl

def bodyB (P : Program) (f : Nat) : Bool := match P.funcs[f]? with | some fn => fn.body.isSome | none => false
noncomputable def callVK (h : H) (f : V) (args : List V) (K : Out → H → Bool) : Bool :=
  vFn f (fun g first cap => iteK (bodyB c.P g) (K (.call g (first ++ args ++ cap)) h) (bnd2 (callVO c h f args) K)) (bnd2 (callVO c h f args) K)
theorem callVK_eq (h : H) (f : V) (args : List V) (K : Out → H → Bool) : callVK c h f args K = bnd2 (callVO c h f args) K := by
  unfold callVK
  rw [vFn_eq]
  split
  · rename_i g a b
    cases hb : bodyB c.P g with
    | false => rfl
    | true =>
      simp only [iteK_true, callVO, callO]
      unfold bodyB at hb
      split at hb
      · rename_i fn hf
        rw [hf]
        simp only [hb, if_true]; rfl
      · cases hb
  · rfl

def mkIfB (P : Program) (t : TypeId) : Bool := match P.underlying t with | some (.interface _) => false | some _ => true | none => false

noncomputable def fOut (out : Out) (K : Out → Bool) : Bool :=
  Out.rec (motive := fun _ => Bool) (fun v => fV v fun v => K (.val v)) (K .skip) (fun f a => K (.call f a)) (fun l a => K (.round l a)) (fun f a => K (.defer f a)) (K .recover) out
theorem fOut_eq (out : Out) (K : Out → Bool) : fOut out K = K out := by cases out <;> simp [fOut]

noncomputable def slowK (tm : T V) (h : H) (op : Op) (K : Out → H → Bool) : Bool := bnd2 (opx c tm h op) fun out h => fOut out fun out => K out h
theorem slowK_eq (tm : T V) (h : H) (op : Op) (K : Out → H → Bool) : slowK c tm h op K = bnd2 (opx c tm h op) K := by
  unfold slowK
  simp only [fOut_eq]

/-! ## The operations -/
noncomputable def moveK (x : Operand) (tm : T V) (h : H) (K : Out → H → Bool) : Bool := evK c.ng tm x fun v => K (.val v) h
noncomputable def pickK (q a b : Operand) (tm : T V) (h : H) (K : Out → H → Bool) : Bool := evK c.ng tm q fun v => vBool v (fun t => iteK t (evK c.ng tm a fun v => K (.val v) h) (evK c.ng tm b fun v => K (.val v) h)) false
noncomputable def allocK (e : TypeId) (_ : T V) (h : H) (K : Out → H → Bool) : Bool := bnd (allocO c.P e) fun o => newK h o fun b h' => K (.val (.ptr b 0)) h'
noncomputable def loadOpK (t : TypeId) (a : Operand) (tm : T V) (h : H) (K : Out → H → Bool) : Bool := evK c.ng tm a fun x => loadK c.P h t x fun v => K (.val v) h
noncomputable def storeOpK (t : TypeId) (a x : Operand) (tm : T V) (h : H) (K : Out → H → Bool) : Bool := evK c.ng tm a fun a => evK c.ng tm x fun v => storeK c.P h t a v fun h' => K .skip h'
noncomputable def nilCheckK (x : Operand) (tm : T V) (h : H) (K : Out → H → Bool) : Bool := evK c.ng tm x fun v => vPtr v (fun _ _ => K (.val v) h) (vFn v (fun _ _ _ => K (.val v) h) false)
noncomputable def binOpK (op : BinOp) (t : TypeId) (x y : Operand) (tm : T V) (h : H) (K : Out → H → Bool) : Bool := evK c.ng tm x fun a => evK c.ng tm y fun b => binK c.P h op t x y a b fun v => K (.val v) h
noncomputable def convertK (s d : TypeId) (x : Operand) (tm : T V) (h : H) (K : Out → H → Bool) : Bool :=
  Option.rec (motive := fun _ => Bool) (slowK c tm h (.convert s d x) K) (fun k => evK c.ng tm x fun v => vInt v (fun _ n => wrapI k n fun n => K (.val (.int k n)) h) false) (cvtO c.P s d)
noncomputable def makeInterfaceK (t : TypeId) (x : Operand) (tm : T V) (h : H) (K : Out → H → Bool) : Bool := evK c.ng tm x fun a => iteK (mkIfB c.P t) (K (.val (.iface t a)) h) false
noncomputable def makeFuncK (fn : Fn) (first cap : Array Operand) (tm : T V) (h : H) (K : Out → H → Bool) : Bool :=
  Fn.rec (motive := fun _ => Bool) (fun f => evsK c.ng tm first.toList fun a => evsK c.ng tm cap.toList fun b => K (.val (.func (.func f) a b)) h) (fun _ => false) (fun _ _ => false) (fun _ _ _ _ => false) (fun _ => false) fn
noncomputable def fieldAddrK (s : TypeId) (x : Operand) (f : Nat) (tm : T V) (h : H) (K : Out → H → Bool) : Bool :=
  evK c.ng tm x fun v => vPtr v (fun b off => bnd (fldOff c.P s f) fun d => fN (Nat.add off d) fun o => K (.val (.ptr b o)) h) false
noncomputable def extractK (x : Operand) (i : Nat) (tm : T V) (h : H) (K : Out → H → Bool) : Bool := evK c.ng tm x fun v => vTup v (fun vs => bnd (nthL vs i) fun v => K (.val v) h) false
noncomputable def unOpK (op : UnOp) (x : Operand) (tm : T V) (h : H) (K : Out → H → Bool) : Bool := evK c.ng tm x fun a => bnd (unO op a) fun v => fV v fun v => K (.val v) h
noncomputable def callOpK (k : Call) (tm : T V) (h : H) (K : Out → H → Bool) : Bool :=
  Call.rec (motive := fun _ => Bool) (fun callee args ts => evsK c.ng tm args.toList fun vs =>
    Callee.rec (motive := fun _ => Bool) (fun f => evK c.ng tm f fun f => callVK c h f vs K) (fun _ _ => false)
      (fun b => iteK (match b with | .len => true | _ => false) (lenK c.P h ts vs K) (slowK c tm h (.call ⟨callee, args, ts⟩) K)) callee) k

theorem bnd2_ret (o : Option V) (h : H) (K : Out → H → Bool) : bnd2 (ret o h) K = bnd o fun v => K (.val v) h := by cases o <;> rfl
theorem bnd2_retH (o : Option H) (K : Out → H → Bool) : bnd2 (retH o) K = bnd o fun h => K .skip h := by cases o <;> rfl

theorem moveK_eq (x : Operand) (tm : T V) (h : H) (K : Out → H → Bool) : moveK c x tm h K = bnd2 (opx c tm h (.move x)) K := by
  simp only [moveK, evK_eq, opx, ev1]
  cases ev c.ng tm x <;> rfl
theorem assignK_eq (x : Operand) (tm : T V) (h : H) (K : Out → H → Bool) : moveK c x tm h K = bnd2 (opx c tm h (.assign x)) K := by
  simp only [moveK, evK_eq, opx, ev1]
  cases ev c.ng tm x <;> rfl
theorem pickK_eq (q a b : Operand) (tm : T V) (h : H) (K : Out → H → Bool) : pickK c q a b tm h K = bnd2 (opx c tm h (.pick q a b)) K := by
  simp only [pickK, evK_eq, opx, ev1]
  cases ev c.ng tm q with
  | none => rfl
  | some v =>
    simp only [bnd_some, vBool_eq]
    cases v <;> try rfl
    rename_i t
    cases t
    · simp only [iteK_false]; cases ev c.ng tm b <;> rfl
    · simp only [iteK_true]; cases ev c.ng tm a <;> rfl
theorem allocK_eq (e : TypeId) (tm : T V) (h : H) (K : Out → H → Bool) : allocK c e tm h K = bnd2 (opx c tm h (.alloc e)) K := by
  simp only [allocK, newK_eq, opx, allocO]
  cases zeroO c.P e with
  | none => rfl
  | some z =>
    simp only [newCells, bnd_if]
    by_cases hp : z.cells.all V.plain = true
    · rw [if_pos hp, if_pos hp]; rfl
    · rw [if_neg hp, if_neg hp]; rfl
theorem loadOpK_eq (t : TypeId) (a : Operand) (tm : T V) (h : H) (K : Out → H → Bool) : loadOpK c t a tm h K = bnd2 (opx c tm h (.load t a)) K := by
  simp only [loadOpK, evK_eq, opx, ev1, loadK_eq]
  cases ev c.ng tm a with
  | none => rfl
  | some v => simp only [bnd_some, bnd2_ret]
theorem storeOpK_eq (t : TypeId) (a x : Operand) (tm : T V) (h : H) (K : Out → H → Bool) : storeOpK c t a x tm h K = bnd2 (opx c tm h (.store t a x)) K := by
  simp only [storeOpK, evK_eq, opx, ev2, storeK_eq]
  cases ev c.ng tm a with
  | none => rfl
  | some v =>
    simp only [bnd_some]
    cases ev c.ng tm x with
    | none => rfl
    | some u => simp only [bnd_some, bnd2_retH]
theorem nilCheckK_eq (x : Operand) (tm : T V) (h : H) (K : Out → H → Bool) : nilCheckK c x tm h K = bnd2 (opx c tm h (.nilCheck x)) K := by
  simp only [nilCheckK, evK_eq, opx, ev1]
  cases ev c.ng tm x with
  | none => rfl
  | some v =>
    simp only [bnd_some, vPtr_eq, vFn_eq]
    cases v <;> try rfl
    rename_i f a b; cases f <;> rfl
theorem binOpK_eq (op : BinOp) (t : TypeId) (x y : Operand) (u : TypeId) (tm : T V) (h : H) (K : Out → H → Bool) : binOpK c op t x y tm h K = bnd2 (opx c tm h (.binOp op t x y u)) K := by
  simp only [binOpK, evK_eq, opx, ev2, binK_eq]
  cases ev c.ng tm x with
  | none => rfl
  | some v =>
    simp only [bnd_some]
    cases ev c.ng tm y with
    | none => rfl
    | some u => simp only [bnd_some, bnd2_ret]
theorem convertK_eq (s d : TypeId) (x : Operand) (tm : T V) (h : H) (K : Out → H → Bool) : convertK c s d x tm h K = bnd2 (opx c tm h (.convert s d x)) K := by
  simp only [convertK, slowK_eq]
  cases hk : cvtO c.P s d with
  | none => rfl
  | some k =>
    simp only [evK_eq, opx, ev1]
    cases ev c.ng tm x with
    | none => rfl
    | some v =>
      simp only [bnd_some, vInt_eq, convO_int hk]
      cases v <;> try rfl
      simp only [wrapI_eq]; rfl
theorem makeInterfaceK_eq (t : TypeId) (x : Operand) (tm : T V) (h : H) (K : Out → H → Bool) : makeInterfaceK c t x tm h K = bnd2 (opx c tm h (.makeInterface t x)) K := by
  simp only [makeInterfaceK, evK_eq, opx, ev1, mkIfB]
  cases ev c.ng tm x with
  | none => rfl
  | some v =>
    simp only [bnd_some]
    cases c.P.underlying t with
    | none => rfl
    | some d => cases d <;> rfl
theorem makeFuncK_eq (fn : Fn) (first cap : Array Operand) (tm : T V) (h : H) (K : Out → H → Bool) : makeFuncK c fn first cap tm h K = bnd2 (opx c tm h (.makeFunc fn first cap)) K := by
  cases fn <;> simp only [makeFuncK, opx] <;> try rfl
  simp only [evsK_eq]
  cases evs c.ng tm first.toList with
  | none => rfl
  | some a =>
    simp only [bnd_some]
    cases evs c.ng tm cap.toList <;> rfl
theorem fieldAddrK_eq (s : TypeId) (x : Operand) (f : Nat) (tm : T V) (h : H) (K : Out → H → Bool) : fieldAddrK c s x f tm h K = bnd2 (opx c tm h (.fieldAddr s x f)) K := by
  simp only [fieldAddrK, evK_eq, opx, ev1, fieldAddrO_eq]
  cases ev c.ng tm x with
  | none => rfl
  | some v =>
    simp only [bnd_some, vPtr_eq, bnd2_ret]
    cases v <;> try rfl
    simp only [fN_eq]
    cases fldOff c.P s f <;> rfl
theorem extractK_eq (x : Operand) (i : Nat) (tm : T V) (h : H) (K : Out → H → Bool) : extractK c x i tm h K = bnd2 (opx c tm h (.extract x i)) K := by
  simp only [extractK, evK_eq, opx, ev1]
  cases ev c.ng tm x with
  | none => rfl
  | some v =>
    simp only [bnd_some, vTup_eq]
    cases v <;> try rfl
    rename_i vs
    simp only [nthL_eq]
    cases vs[i]? <;> rfl
theorem unOpK_eq (op : UnOp) (t : TypeId) (x : Operand) (tm : T V) (h : H) (K : Out → H → Bool) : unOpK c op x tm h K = bnd2 (opx c tm h (.unOp op t x)) K := by
  simp only [unOpK, evK_eq, opx, ev1, fV_eq]
  cases ev c.ng tm x with
  | none => rfl
  | some v => simp only [bnd_some, bnd2_ret]
theorem callOpK_eq (k : Call) (tm : T V) (h : H) (K : Out → H → Bool) : callOpK c k tm h K = bnd2 (opx c tm h (.call k)) K := by
  obtain ⟨callee, args, ts⟩ := k
  simp only [callOpK, evsK_eq, slowK_eq, callVK_eq, lenK_eq, evK_eq]
  cases hv : evs c.ng tm args.toList with
  | none => simp only [opx, hv]; rfl
  | some vs =>
    simp only [bnd_some]
    cases callee with
    | value f =>
      simp only [opx, hv, ev1]
      cases ev c.ng tm f <;> rfl
    | invoke r m => simp only [opx, hv]; rfl
    | builtin b =>
      cases b <;> simp only [iteK_true, iteK_false] <;> simp only [opx, hv]

end
end Go.Fal
namespace Go.Fal

noncomputable def bnd3 {α β γ : Type} (o : Option (α × β × γ)) (K : α → β → γ → Bool) : Bool := Option.rec (motive := fun _ => Bool) false (fun p => Prod.rec (motive := fun _ => Bool) (fun a q => Prod.rec (motive := fun _ => Bool) (K a) q) p) o
@[simp] theorem bnd3_none {α β γ : Type} (K : α → β → γ → Bool) : bnd3 none K = false := rfl
@[simp] theorem bnd3_some {α β γ : Type} (x : α) (y : β) (z : γ) (K : α → β → γ → Bool) : bnd3 (some (x, y, z)) K = K x y z := rfl

section
/-! ## append, reckoned at once -/
def elemOf (P : Program) (t : TypeId) : Option (Nat × Nat × Bool) :=
  match P.underlying t with
  | some (.slice e) => match P.info? e with
    | some i => some (i.size, i.bytes, match i.zero with | some z => z.cells.size == i.size | none => false)
    | none => none
  | _ => none

noncomputable def u8K (s : List Nat) : (List V → Bool) → Bool := List.rec (motive := fun _ => (List V → Bool) → Bool) (fun K => K []) (fun c _ ih K => rst (ih fun l => K (V.int .u8 (.ofNat c) :: l))) s
theorem u8K_eq : ∀ (s : List Nat) (K : List V → Bool), u8K s K = K (s.map fun (c : Nat) => V.int .u8 c)
  | [], K => rfl
  | c :: s, K => by
    show u8K s (fun l => K (V.int .u8 (.ofNat c) :: l)) = _
    rw [u8K_eq s]; rfl
noncomputable def firstK (h : H) (size n : Nat) (x : V) (K : List V → Bool) : Bool :=
  vSlice x (fun b off len _ _ _ => iteK (Nat.beq n 0) (K []) (iteK (Nat.ble n len) (Nat.rec (motive := fun _ => Bool) (bnd (firstO h size n x) K) (fun _ _ => hK h fun _ ht => cellsK ht b fun _ _ m z ct => loadNK m z ct (n * size) off K) (n * size)) false)) (vStr x (fun s => takeK s n fun s => u8K s K) (bnd (firstO h size n x) K))
theorem firstK_eq (h : H) (size n : Nat) (x : V) (K : List V → Bool) : firstK h size n x K = bnd (firstO h size n x) K := by
  unfold firstK
  rw [vSlice_eq, vStr_eq]
  cases x <;> try rfl
  · simp only [takeK_eq, u8K_eq]; rfl
  rename_i b off len cap es ex
  simp only [beq_eq, ble_eq, iteK_decide]
  by_cases h0 : n = 0
  · rw [if_pos h0]; simp only [firstO, h0, if_true]; rfl
  · rw [if_neg h0]
    by_cases h1 : n ≤ len
    · rw [if_pos h1]
      cases hk : n * size with
      | zero => rfl
      | succ k =>
        simp only [hK_eq, firstO, h0, h1, if_true, if_false, hk]
        rw [cellsK_eq]
        cases hb : h.get b with
        | none => rfl
        | some o =>
          cases o with
          | cells rw_ pl m z ct => simp only [loadNK_eq hb, O.live, if_true]
          | _ =>
            have : h.loadN b off (k + 1) = none := by simp [H.loadN, H.load1, hb]
            simp only [this]
            split <;> rfl
    · rw [if_neg h1]; simp only [firstO, h0, h1, if_false]; rfl

noncomputable def catK (xs ys : List V) : (List V → Bool) → Bool := List.rec (motive := fun _ => (List V → Bool) → Bool) (fun K => K ys) (fun x _ ih K => rst (ih fun l => K (x :: l))) xs
theorem catK_eq : ∀ (xs ys : List V) (K : List V → Bool), catK xs ys K = K (xs ++ ys)
  | [], ys, K => rfl
  | x :: xs, ys, K => by
    show catK xs ys (fun l => K (x :: l)) = _
    rw [catK_eq xs ys]; rfl

noncomputable def appendK (P : Program) (h : H) (t : TypeId) (s x : V) (K : V → H → Bool) : Bool :=
  bnd3 (elemOf P t) fun size bytes zok => bnd (lenO x) fun n => fN n fun n => firstK h size n x fun new => iteK (zok && new.all V.plain && new.length == n * size)
    (vSlice s (fun b off len cap es ex => iteK (decide (es = size ∧ len ≤ cap ∧ len + n ≤ most ∧ (2 * (len + n) + 200) * bytes ≤ 2 ^ 47))
        (iteK (Nat.beq n 0) (K s h) (iteK (Nat.ble (len + n) cap) (storeCellsK h b (off + len * es) new fun h' => fN (len + n) fun l => K (.slice b off l cap es ex) h')
          (iteK ex (firstK h es len s fun old => iteK (Nat.beq old.length (len * es)) (catK old new fun cs => fN cs.length fun m => fN (len + n) fun l => newK h (.cells true true m cs .e) fun nb h' => K (.slice nb 0 l l es false) h') false)
            (hK h fun nx ht => cellsK ht b fun rw pl nn z ct => iteK rw (iteK (decide (off = 0 ∧ len * es ≤ nn)) (setsK ct new (len * es) fun ct' => setP ht (pathOf b) .dead fun ht' => fN ((len + n) * es) fun m => fN (len + n) fun l => newK ⟨nx, ht'⟩ (.cells true pl m z ct') fun nb h' => K (.slice nb 0 l l es false) h') false) false)))) false)
      (bnd2 (appendO P h t s x) K)) false

theorem appendK_eq (P : Program) (h : H) (t : TypeId) (s x : V) (K : V → H → Bool) : appendK P h t s x K = bnd2 (appendO P h t s x) K := by
  unfold appendK elemOf
  cases hu : P.underlying t with
  | none => simp only [appendO, hu]; rfl
  | some d =>
    cases d <;> (try (simp only [appendO, hu]; rfl))
    rename_i e
    simp only
    cases hi : P.info? e with
    | none => simp only [appendO, hu, hi]; rfl
    | some i =>
      simp only [bnd3_some]
      cases hl : lenO x with
      | none => simp only [appendO, hu, hi, hl]; rfl
      | some n =>
        simp only [bnd_some, fN_eq, firstK_eq]
        cases hf : firstO h i.size n x with
        | none => simp only [appendO, hu, hi, hl, hf]; rfl
        | some new =>
          simp only [bnd_some]
          cases hz : ((match i.zero with | some z => z.cells.size == i.size | none => false) && new.all V.plain && new.length == n * i.size) with
          | false =>
            have e : appendO P h t s x = none := by
              simp only [appendO, hu, hi, hl, hf]
              exact if_neg (fun hh => Bool.false_ne_true (hz.symm.trans hh))
            rw [e]; rfl
          | true =>
            simp only [iteK_true]
            rw [vSlice_eq]
            cases s <;> try rfl
            rename_i b off len cap es ex
            have hpl : new.all V.plain = true := by
              simp only [Bool.and_eq_true] at hz; exact hz.1.2
            have e : appendO P h t (.slice b off len cap es ex) x = (if es = i.size ∧ len ≤ cap ∧ len + n ≤ most ∧ (2 * (len + n) + 200) * i.bytes ≤ 2 ^ 47 then
                (if n = 0 then some (.slice b off len cap es ex, h)
                else if len + n ≤ cap then
                  (match h.storeN b (off + len * es) new with
                    | some h' => some (.slice b off (len + n) cap es ex, h')
                    | none => none)
                else if ex then
                  (match firstO h es len (.slice b off len cap es ex) with
                    | some old => if old.length = len * es then some (.slice h.next 0 (len + n) (len + n) es false, h.new (ofCells (old ++ new))) else none
                    | none => none)
                else
                  (match h.get b with
                    | some (.cells true pl nn z t) =>
                      if off = 0 ∧ len * es ≤ nn then some (.slice h.next 0 (len + n) (len + n) es false, (h.put b .dead).new (.cells true pl ((len + n) * es) z (t.sets (len * es) new)))
                      else none
                    | _ => none)) else none) := by
              simp only [appendO, hu, hi, hl, hf]
              exact if_pos hz
            rw [e]
            simp only [iteK_decide, beq_eq, ble_eq, storeCellsK_eq, catK_eq, newK_eq, hK_eq, cellsK_eq, setsK_eq, setP_eq]
            by_cases c1 : es = i.size ∧ len ≤ cap ∧ len + n ≤ most ∧ (2 * (len + n) + 200) * i.bytes ≤ 2 ^ 47
            · rw [if_pos c1, if_pos c1]
              by_cases c2 : n = 0
              · rw [if_pos c2, if_pos c2]; rfl
              · rw [if_neg c2, if_neg c2]
                by_cases c3 : len + n ≤ cap
                · rw [if_pos c3, if_pos c3]
                  cases h.storeN b (off + len * es) new <;> rfl
                · rw [if_neg c3, if_neg c3]
                  cases ex with
                  | true =>
                    simp only [iteK_true, if_true]
                    cases firstO h es len (.slice b off len cap es true) with
                    | none => rfl
                    | some old =>
                      simp only [bnd_some]
                      by_cases c4 : old.length = len * es
                      · rw [if_pos c4, if_pos c4]; rfl
                      · rw [if_neg c4, if_neg c4]; rfl
                  | false =>
                    simp only [iteK_false, Bool.false_eq_true, if_false]
                    cases hb : h.get b with
                    | none => rfl
                    | some o =>
                      cases o <;> try rfl
                      rename_i rw_ pl nn z ct
                      cases rw_ with
                      | false => rfl
                      | true =>
                        simp only [iteK_true, hpl, if_true]
                        by_cases c5 : off = 0 ∧ len * es ≤ nn
                        · rw [if_pos c5, if_pos c5]; rfl
                        · rw [if_neg c5, if_neg c5]; rfl
            · rw [if_neg c1, if_neg c1]; rfl

def appT (P : Program) (ts : Array TypeId) : Option TypeId :=
  match ts[0]? with
  | some t => match ts[1]? with
    | some u => match P.underlying u with
      | some (.int _) => none
      | some _ => some t
      | none => none
    | none => some t
  | none => none
noncomputable def appBK (P : Program) (h : H) (ts : Array TypeId) (args : List V) (K : Out → H → Bool) : Bool :=
  bnd (appT P ts) fun t => List.rec (motive := fun _ => Bool) false (fun s xs _ => List.rec (motive := fun _ => Bool) false (fun x ys _ => List.rec (motive := fun _ => Bool) (appendK P h t s x fun v h' => K (.val v) h') (fun _ _ _ => false) ys) xs) args
theorem appBK_eq (P : Program) (h : H) (ts : Array TypeId) (args : List V) (K : Out → H → Bool) : appBK P h ts args K = bnd2 (ret2 (builtinO P h .append ts args)) K := by
  unfold appBK appT
  cases h0 : ts[0]? with
  | none => simp only [builtinO, h0]; rfl
  | some t =>
    simp only
    cases args with
    | nil => simp only [builtinO, h0]; cases ts[1]? <;> simp only <;> (try rfl) <;> (rename_i u; cases P.underlying u <;> (try rfl) <;> (rename_i d; cases d <;> rfl))
    | cons s xs =>
      cases xs with
      | nil => simp only [builtinO, h0]; cases ts[1]? <;> simp only <;> (try rfl) <;> (rename_i u; cases P.underlying u <;> (try rfl) <;> (rename_i d; cases d <;> rfl))
      | cons x ys =>
        cases ys with
        | cons _ _ => simp only [builtinO, h0]; cases ts[1]? <;> simp only <;> (try rfl) <;> (rename_i u; cases P.underlying u <;> (try rfl) <;> (rename_i d; cases d <;> rfl))
        | nil =>
          simp only [builtinO, h0, appendK_eq]
          have fin : ∀ o : Option (V × H), bnd2 o (fun v h' => K (.val v) h') = bnd2 (ret2 o) K := fun o => by
            cases o with
            | none => rfl
            | some p => rfl
          cases ts[1]? with
          | none => exact fin _
          | some u =>
            simp only
            cases P.underlying u with
            | none => rfl
            | some d => cases d <;> first | rfl | exact fin _

noncomputable def callOp2K (c : Cfg) (k : Call) (tm : T V) (h : H) (K : Out → H → Bool) : Bool :=
  Call.rec (motive := fun _ => Bool) (fun callee args ts => evsK c.ng tm args.toList fun vs =>
    Callee.rec (motive := fun _ => Bool) (fun f => evK c.ng tm f fun f => callVK c h f vs K) (fun _ _ => false)
      (fun b => iteK (match b with | .len => true | _ => false) (lenK c.P h ts vs K) (iteK (match b with | .append => true | _ => false) (appBK c.P h ts vs K) (slowK c tm h (.call ⟨callee, args, ts⟩) K))) callee) k
theorem callOp2K_eq (c : Cfg) (k : Call) (tm : T V) (h : H) (K : Out → H → Bool) : callOp2K c k tm h K = bnd2 (opx c tm h (.call k)) K := by
  obtain ⟨callee, args, ts⟩ := k
  simp only [callOp2K, evsK_eq, slowK_eq, callVK_eq, lenK_eq, evK_eq, appBK_eq]
  cases hv : evs c.ng tm args.toList with
  | none => simp only [opx, hv]; rfl
  | some vs =>
    simp only [bnd_some]
    cases callee with
    | value f =>
      simp only [opx, hv, ev1]
      cases ev c.ng tm f <;> rfl
    | invoke r m => simp only [opx, hv]; rfl
    | builtin b =>
      cases b <;> simp only [iteK_true, iteK_false] <;> simp only [opx, hv]

end
end Go.Fal
namespace Go.Fal

section
variable (c : Cfg)

/-! ## Deep: every number, every row is reckoned -/
noncomputable def fS (s : List Nat) : (List Nat → Bool) → Bool := List.rec (motive := fun _ => (List Nat → Bool) → Bool) (fun K => K []) (fun x _ ih K => fN x fun x => ih fun l => K (x :: l)) s
@[simp] theorem fS_eq : ∀ (s : List Nat) (K : List Nat → Bool), fS s K = K s
  | [], K => rfl
  | x :: s, K => by
    show fN x (fun x => fS s fun l => K (x :: l)) = _
    rw [fN_eq, fS_eq s]
noncomputable def fVs (l : List V) : (List V → Bool) → Bool := List.rec (motive := fun _ => (List V → Bool) → Bool) (fun K => K []) (fun x _ ih K => fV x fun x => ih fun l => K (x :: l)) l
@[simp] theorem fVs_eq : ∀ (l : List V) (K : List V → Bool), fVs l K = K l
  | [], K => rfl
  | x :: l, K => by
    show fV x (fun x => fVs l fun l => K (x :: l)) = _
    rw [fV_eq, fVs_eq l]

/-- a value, its parts and numbers -/
noncomputable def fDF : V → (V → Bool) → Bool :=
  @V.rec (fun _ => (V → Bool) → Bool) (fun _ => (V → Bool) → Bool) (fun b K => fB b fun b => K (.bool b)) (fun k n K => fI n fun n => K (.int k n)) (fun s K => fS s fun s => K (.str s)) (fun K => K .nilp) (fun b o K => fN b fun b => fN o fun o => K (.ptr b o)) (fun K => K .nils)
    (fun b o l k e x K => fN b fun b => fN o fun o => fN l fun l => fN k fun k => fN e fun e => fB x fun x => K (.slice b o l k e x)) (fun K => K .nilm) (fun b K => fN b fun b => K (.map b)) (fun K => K .nilf)
    (fun f a b _ _ K => fVs a fun a => fVs b fun b => K (.func f a b)) (fun b K => K (.yield b)) (fun K => K .nili) (fun t v _ K => fV v fun v => K (.iface t v)) (fun cs _ K => fVs cs fun cs => K (.agg cs)) (fun cs _ K => fVs cs fun cs => K (.tup cs)) (fun _ => false) (fun _ _ _ _ _ => false)
noncomputable def fD (v : V) (K : V → Bool) : Bool := fDF v K
@[simp] theorem fD_eq (v : V) (K : V → Bool) : fD v K = K v := by
  unfold fD
  cases v <;> simp [fDF]

noncomputable def fOutD (out : Out) (K : Out → Bool) : Bool :=
  Out.rec (motive := fun _ => Bool) (fun v => fD v fun v => K (.val v)) (K .skip) (fun f a => K (.call f a)) (fun l a => K (.round l a)) (fun f a => K (.defer f a)) (K .recover) out
@[simp] theorem fOutD_eq (out : Out) (K : Out → Bool) : fOutD out K = K out := by cases out <;> simp [fOutD]

/-! ## Blocks put anew -/
noncomputable def putHK (h : H) (b : Nat) (o : O) (K : H → Bool) : Bool := hK h fun n t => setP t (pathOf b) o fun t => K ⟨n, t⟩
@[simp] theorem putHK_eq (h : H) (b : Nat) (o : O) (K : H → Bool) : putHK h b o K = K (h.put b o) := by
  unfold putHK
  rw [hK_eq, setP_eq]; rfl

/-! ## The beginning of a type's values -/
def aggL (x : Value) : Option (List Value) := match x with | .agg cs => some cs.toList | _ => none
noncomputable def mapVK (l : List Value) : (List V → Bool) → Bool := List.rec (motive := fun _ => (List V → Bool) → Bool) (fun K => K []) (fun x _ ih K => bnd (ofVal 3 x) fun v => fV v fun v => ih fun vs => K (v :: vs)) l
theorem mapVK_eq : ∀ (l : List Value) (K : List V → Bool), mapVK l K = bnd (mapO (ofVal 3) l) K
  | [], K => rfl
  | x :: l, K => by
    show bnd (ofVal 3 x) (fun v => fV v fun v => mapVK l fun vs => K (v :: vs)) = _
    simp only [fV_eq, mapVK_eq l, mapO]
    cases ofVal 3 x with
    | none => rfl
    | some v => simp only [bnd_some]; cases mapO (ofVal 3) l <;> rfl
def zeroV (P : Program) (t : TypeId) : Option Value := match P.info? t with | some i => i.zero | none => none
noncomputable def zeroK (P : Program) (t : TypeId) (K : V → Bool) : Bool :=
  bnd (zeroV P t) fun z => Option.rec (motive := fun _ => Bool) (bnd (ofVal 4 z) K) (fun l => mapVK l fun vs => K (.agg vs)) (aggL z)
theorem zeroK_eq (P : Program) (t : TypeId) (K : V → Bool) : zeroK P t K = bnd (zeroO P t) K := by
  unfold zeroK zeroV zeroO
  cases P.info? t with
  | none => rfl
  | some i =>
    simp only
    cases i.zero with
    | none => rfl
    | some z =>
      simp only [bnd_some]
      cases z <;> try rfl
      rename_i cs
      show mapVK cs.toList (fun vs => K (.agg vs)) = bnd (match mapO (ofVal 3) cs.toList with | some vs => some (.agg vs) | none => none) K
      rw [mapVK_eq]
      cases mapO (ofVal 3) cs.toList <;> rfl

noncomputable def alloc2K (e : TypeId) (_ : T V) (h : H) (K : Out → H → Bool) : Bool := zeroK c.P e fun z => boxK h z K
theorem alloc2K_eq (e : TypeId) (tm : T V) (h : H) (K : Out → H → Bool) : alloc2K c e tm h K = bnd2 (opx c tm h (.alloc e)) K := by
  unfold alloc2K
  simp only [zeroK_eq, boxK_eq, opx]
  cases zeroO c.P e <;> rfl

/-! ## Parts laid into a row -/
noncomputable def spliceF (cs : List V) (m : Nat) : List V → Nat → (List V → Bool) → Bool :=
  @List.rec V (fun _ => Nat → (List V → Bool) → Bool) (fun _ K => catK cs [] K)
    (fun x xs ih n K => Nat.rec (motive := fun _ => Bool) (dropK (x :: xs) m fun r => catK cs r K) (fun n _ => rst (ih n fun l => K (x :: l))) n)
theorem spliceF_eq (cs : List V) : ∀ (l : List V) (n : Nat) (K : List V → Bool), spliceF cs cs.length l n K = K (l.take n ++ cs ++ l.drop (n + cs.length))
  | [], n, K => by
    show catK cs [] K = _
    rw [catK_eq]; simp
  | x :: l, 0, K => by
    show dropK (x :: l) cs.length (fun r => catK cs r K) = _
    rw [dropK_eq, catK_eq]; simp
  | x :: l, n + 1, K => by
    show spliceF cs cs.length l n (fun l => K (x :: l)) = _
    rw [spliceF_eq cs l]
    rw [show n + 1 + cs.length = (n + cs.length) + 1 by omega]
    simp

noncomputable def fill1K (cells : List V) (off size : Nat) (cs : List V) (K : List V → Bool) : Bool :=
  lenC cs fun n => iteK (Nat.beq n size) (lenC cells fun m => iteK (Nat.ble (Nat.add off n) m) (spliceF cs n cells off K) false) false
theorem fill1K_eq (cells : List V) (off size : Nat) (cs : List V) (K : List V → Bool) :
    fill1K cells off size cs K = if cs.length = size ∧ off + cs.length ≤ cells.length then K (cells.take off ++ cs ++ cells.drop (off + cs.length)) else false := by
  unfold fill1K
  simp only [lenC_eq, beq_eq, ble_eq, iteK_decide, spliceF_eq]
  show (if cs.length = size then (if off + cs.length ≤ cells.length then K (cells.take off ++ cs ++ cells.drop (off + cs.length)) else false) else false) = _
  by_cases h1 : cs.length = size
  · by_cases h2 : off + cs.length ≤ cells.length
    · rw [if_pos h1, if_pos h2, if_pos (show _ ∧ _ from ⟨h1, h2⟩)]
    · rw [if_pos h1, if_neg h2, if_neg (fun h => h2 h.2)]
  · rw [if_neg h1, if_neg (fun h => h1 h.1)]

noncomputable def fillK (place : Nat → Option (Nat × Nat)) (parts : List (Nat × V)) : List V → (List V → Bool) → Bool :=
  List.rec (motive := fun _ => List V → (List V → Bool) → Bool) (fun cells K => K cells)
    (fun p _ ih cells K => Prod.rec (motive := fun _ => Bool) (fun i v => bnd2 (place i) fun off size => vCells v (fun cs => fill1K cells off size cs fun cells => ih cells K) (fill1K cells off size [v] fun cells => ih cells K) (fill1K cells off size [v] fun cells => ih cells K)) p) parts
theorem fillK_eq (place : Nat → Option (Nat × Nat)) : ∀ (parts : List (Nat × V)) (cells : List V) (K : List V → Bool), fillK place parts cells K = bnd (fillO place cells parts) K
  | [], cells, K => rfl
  | (i, v) :: parts, cells, K => by
    show bnd2 (place i) (fun off size => vCells v (fun cs => fill1K cells off size cs fun cells => fillK place parts cells K) (fill1K cells off size [v] fun cells => fillK place parts cells K) (fill1K cells off size [v] fun cells => fillK place parts cells K)) = _
    simp only [fillO]
    cases place i with
    | none => rfl
    | some p =>
      obtain ⟨off, size⟩ := p
      simp only [bnd2_some, vCells_eq, fill1K_eq, fillK_eq place parts, bnd_if]
      cases v <;> rfl

noncomputable def evPartsK (ng : Nat) (tm : T V) (l : List (Nat × Operand)) : (List (Nat × V) → Bool) → Bool :=
  List.rec (motive := fun _ => (List (Nat × V) → Bool) → Bool) (fun K => K []) (fun p _ ih K => Prod.rec (motive := fun _ => Bool) (fun i x => evK ng tm x fun v => ih fun l => K ((i, v) :: l)) p) l
theorem evPartsK_eq (ng : Nat) (tm : T V) : ∀ (l : List (Nat × Operand)) (K : List (Nat × V) → Bool), evPartsK ng tm l K = bnd (evParts ng tm l) K
  | [], K => rfl
  | (i, x) :: l, K => by
    show evK ng tm x (fun v => evPartsK ng tm l fun l => K ((i, v) :: l)) = _
    simp only [evK_eq, evPartsK_eq ng tm l, evParts, mapO]
    cases ev ng tm x with
    | none => rfl
    | some v =>
      simp only [bnd_some]
      generalize mapO _ l = o
      cases o <;> rfl

def plcO (P : Program) (t : TypeId) : Option (List (Nat × Nat)) := match P.underlying t with | some (.struct fs) => placesO P fs.toList | _ => none
noncomputable def buildK (P : Program) (t : TypeId) (parts : List (Nat × V)) (K : V → Bool) : Bool :=
  Option.rec (motive := fun _ => Bool) (bnd (buildO P t parts) fun v => fD v K)
    (fun pl => zeroK P t fun z => vCells z (fun cs => fillK (nthL pl) parts cs fun cs => K (.agg cs)) (fillK (nthL pl) parts [z] fun cs => K (.agg cs)) (fillK (nthL pl) parts [z] fun cs => K (.agg cs))) (plcO P t)
theorem buildK_eq (P : Program) (t : TypeId) (parts : List (Nat × V)) (K : V → Bool) : buildK P t parts K = bnd (buildO P t parts) K := by
  have fe : (fun v => fD v K) = K := funext fun v => fD_eq v K
  unfold buildK
  cases hp : plcO P t with
  | none => simp only [fe]
  | some pl =>
    unfold plcO at hp
    split at hp
    · rename_i fs hu
      have hn : (fun i => nthL pl i) = (pl[·]?) := funext fun i => nthL_eq pl i
      simp only [zeroK_eq, vCells_eq, fillK_eq, buildO, hu, hp]
      cases zeroO P t with
      | none => rfl
      | some z =>
        simp only [bnd_some]
        have e : nthL pl = (pl[·]?) := hn
        rw [e]
        cases z <;> (simp only [V.cells]; generalize fillO _ _ parts = o; cases o <;> rfl)
    · cases hp
noncomputable def buildOpK (t : TypeId) (ps : Array (Nat × Operand)) (tm : T V) (h : H) (K : Out → H → Bool) : Bool := evPartsK c.ng tm ps.toList fun ps => buildK c.P t ps fun v => K (.val v) h
theorem buildOpK_eq (t : TypeId) (ps : Array (Nat × Operand)) (tm : T V) (h : H) (K : Out → H → Bool) : buildOpK c t ps tm h K = bnd2 (opx c tm h (.build t ps)) K := by
  unfold buildOpK
  simp only [evPartsK_eq, buildK_eq, opx]
  cases evParts c.ng tm ps.toList with
  | none => rfl
  | some l => simp only [bnd_some, bnd2_ret]

/-! ## A row of parts -/
noncomputable def repK (z : List V) (n : Nat) : (List V → Bool) → Bool := Nat.rec (motive := fun _ => (List V → Bool) → Bool) (fun K => K []) (fun _ ih K => ih fun l => catK z l K) n
theorem repK_eq (z : List V) : ∀ (n : Nat) (K : List V → Bool), repK z n K = K (rep z n)
  | 0, K => rfl
  | n + 1, K => by
    show repK z n (fun l => catK z l K) = _
    rw [repK_eq z n, catK_eq]; rfl
def elemT (P : Program) (t : TypeId) : Option TypeId := match P.underlying t with | some (.slice e) => some e | _ => none
noncomputable def buildSliceK (P : Program) (h : H) (t : TypeId) (len : Nat) (parts : List (Nat × V)) (K : Out → H → Bool) : Bool :=
  Option.rec (motive := fun _ => Bool) (bnd2 (ret2 (buildSliceO P h t len parts)) K)
    (fun e => bnd (sizeO P e) fun n => iteK (Nat.ble (Nat.mul len n) 65536) (zeroK P e fun z => vCells z (fun cs => go n cs) (go n [z]) (go n [z])) false) (elemT P t)
where go (n : Nat) (z : List V) : Bool :=
  lenC z fun m => iteK (Nat.beq m n) (repK z len fun cs => fillK (fun i => some (Nat.mul i n, n)) parts cs fun cs => allPC cs (lenC cs fun m => fN len fun len => newK h (.cells true true m cs .e) fun b h' => K (.val (.slice b 0 len len n true)) h')) false
theorem buildSliceK_eq (P : Program) (h : H) (t : TypeId) (len : Nat) (parts : List (Nat × V)) (K : Out → H → Bool) : buildSliceK P h t len parts K = bnd2 (ret2 (buildSliceO P h t len parts)) K := by
  unfold buildSliceK
  cases he : elemT P t with
  | none => rfl
  | some e =>
    have hu : P.underlying t = some (.slice e) := by
      unfold elemT at he
      split at he
      · rename_i hu; cases he; exact hu
      · cases he
    simp only [buildSliceO, hu]
    cases sizeO P e with
    | none => rfl
    | some n =>
      simp only [bnd_some, ble_eq, iteK_decide]
      by_cases h1 : len * n ≤ 65536
      · have h1' : Nat.mul len n ≤ 65536 := h1
        rw [if_pos h1', if_pos h1, zeroK_eq]
        cases zeroO P e with
        | none => rfl
        | some z =>
          have hg : ∀ cs : List V, buildSliceK.go h len parts K n cs = bnd2 (ret2 (if cs.length = n then (match fillO (fun i => some (i * n, n)) (rep cs len) parts with
              | some cs => if cs.all V.plain then some (.slice h.next 0 len len n true, h.new (ofCells cs)) else none
              | none => none) else none)) K := by
            intro cs
            unfold buildSliceK.go
            simp only [lenC_eq, beq_eq, iteK_decide, repK_eq, fillK_eq, allPC_eq, fN_eq, newK_eq]
            by_cases h2 : cs.length = n
            · rw [if_pos h2, if_pos h2]
              show bnd (fillO (fun i => some (i * n, n)) (rep cs len) parts) _ = _
              cases fillO (fun i => some (i * n, n)) (rep cs len) parts with
              | none => rfl
              | some r =>
                simp only [bnd_some]
                cases hp : r.all V.plain with
                | false => rfl
                | true => rfl
            · rw [if_neg h2, if_neg h2]; rfl
          simp only [bnd_some, vCells_eq, hg]
          cases z <;> rfl
      · have h1' : ¬ Nat.mul len n ≤ 65536 := h1
        rw [if_neg h1', if_neg h1]; rfl
noncomputable def buildSliceOpK (t : TypeId) (len : Nat) (ps : Array (Nat × Operand)) (tm : T V) (h : H) (K : Out → H → Bool) : Bool := evPartsK c.ng tm ps.toList fun ps => buildSliceK c.P h t len ps K
theorem buildSliceOpK_eq (t : TypeId) (len : Nat) (ps : Array (Nat × Operand)) (tm : T V) (h : H) (K : Out → H → Bool) : buildSliceOpK c t len ps tm h K = bnd2 (opx c tm h (.buildSlice t len ps)) K := by
  unfold buildSliceOpK
  simp only [evPartsK_eq, buildSliceK_eq, opx]
  cases evParts c.ng tm ps.toList <;> rfl

end
end Go.Fal
namespace Go.Fal

section
variable (c : Cfg)

/-! ## Slices of texts and rows -/
noncomputable def evOptK (ng : Nat) (tm : T V) (x : Option Operand) (K : Option V → Bool) : Bool := Option.rec (motive := fun _ => Bool) (K none) (fun x => evK ng tm x fun v => K (some v)) x
theorem evOptK_eq (ng : Nat) (tm : T V) (x : Option Operand) (K : Option V → Bool) : evOptK ng tm x K = bnd (evOpt ng tm x) K := by
  cases x with
  | none => rfl
  | some x =>
    show evK ng tm x (fun v => K (some v)) = _
    rw [evK_eq]; simp only [evOpt]
    cases ev ng tm x <;> rfl
noncomputable def boundK (d : Nat) (x : Option V) (K : Nat → Bool) : Bool := Option.rec (motive := fun _ => Bool) (K d) (fun v => natK v K) x
theorem boundK_eq (d : Nat) (x : Option V) (K : Nat → Bool) : boundK d x K = bnd (boundO d x) K := by
  cases x with
  | none => rfl
  | some v => exact natK_eq v K

noncomputable def sliceStrK (s : List Nat) (lo hi : Option V) (K : V → Bool) : Bool :=
  lenC s fun m => boundK m hi fun u => boundK 0 lo fun l => iteK (Nat.ble l u) (iteK (Nat.ble u m) (dropK s l fun r => fN (Nat.sub u l) fun n => takeK r n fun s => K (.str s)) false) false
noncomputable def sliceSliK (b off len cap es : Nat) (ex : Bool) (n : Nat) (lo hi : Option V) (K : V → Bool) : Bool :=
  boundK len hi fun u => boundK 0 lo fun l => iteK (Nat.beq n es) (iteK (Nat.ble len cap) (iteK (Nat.ble l u) (iteK (Nat.ble u cap)
    (fN (Nat.add off (Nat.mul l n)) fun o => fN (Nat.sub u l) fun ln => fN (Nat.sub cap l) fun cp => K (.slice b o ln cp es ex)) false) false) false) false
noncomputable def sliceSlow (P : Program) (h : H) (t : TypeId) (x : V) (lo hi mx : Option V) (K : V → Bool) : Bool := bnd (sliceO P h t x lo hi mx) fun v => fD v K
noncomputable def sliceK (P : Program) (h : H) (t : TypeId) (x : V) (lo hi mx : Option V) (K : V → Bool) : Bool :=
  Option.rec (motive := fun _ => Bool)
    (iteK (isStr P t) (vStr x (fun s => sliceStrK s lo hi K) (sliceSlow P h t x lo hi none K))
      (Option.rec (motive := fun _ => Bool) (sliceSlow P h t x lo hi none K) (fun n => vSlice x (fun b off len cap es ex => sliceSliK b off len cap es ex n lo hi K) (sliceSlow P h t x lo hi none K)) (sliceSz P t)))
    (fun m => sliceSlow P h t x lo hi (some m) K) mx
theorem sliceK_eq (P : Program) (h : H) (t : TypeId) (x : V) (lo hi mx : Option V) (K : V → Bool) : sliceK P h t x lo hi mx K = bnd (sliceO P h t x lo hi mx) K := by
  have hslow : ∀ mx, sliceSlow P h t x lo hi mx K = bnd (sliceO P h t x lo hi mx) K := by
    intro mx
    have fe : (fun v => fD v K) = K := funext fun v => fD_eq v K
    unfold sliceSlow; rw [fe]
  unfold sliceK
  cases mx with
  | some m => exact hslow _
  | none =>
    simp only [hslow]
    cases hs : isStr P t with
    | true =>
      simp only [iteK_true, vStr_eq]
      unfold isStr at hs
      split at hs
      · rename_i hu
        cases x <;> try rfl
        rename_i s
        simp only [sliceStrK, lenC_eq, boundK_eq, dropK_eq, fN_eq, takeK_eq, sliceO, hu]
        cases boundO s.length hi with
        | none => rfl
        | some u =>
          simp only [bnd_some]
          cases boundO 0 lo with
          | none => rfl
          | some l =>
            simp only [bnd_some, ble_eq, iteK_decide, bnd_if]
            by_cases h1 : l ≤ u
            · by_cases h2 : u ≤ s.length
              · rw [if_pos h1, if_pos h2, if_pos ⟨h1, h2⟩]; rfl
              · rw [if_pos h1, if_neg h2, if_neg (fun h => h2 h.2)]
            · rw [if_neg h1, if_neg (fun h => h1 h.1)]
      · cases hs
    | false =>
      simp only [iteK_false]
      cases hz : sliceSz P t with
      | none => rfl
      | some n =>
        simp only [vSlice_eq]
        unfold sliceSz at hz
        split at hz
        · rename_i e hu
          cases x <;> try rfl
          rename_i b off len cap es ex
          simp only [sliceSliK, boundK_eq, fN_eq, sliceO, hu, hz]
          have e0 : boundO cap (none : Option V) = some cap := rfl
          rw [e0]
          cases boundO len hi with
          | none => rfl
          | some u =>
            simp only [bnd_some]
            cases boundO 0 lo with
            | none => rfl
            | some l =>
              simp only [bnd_some, beq_eq, ble_eq, iteK_decide, bnd_if]
              by_cases h1 : n = es
              · by_cases h2 : len ≤ cap
                · by_cases h3 : l ≤ u
                  · by_cases h4 : u ≤ cap
                    · rw [if_pos h1, if_pos h2, if_pos h3, if_pos h4, if_pos ⟨h1, h2, h3, h4, Nat.le_refl _, rfl⟩]
                      cases ex <;> rfl
                    · rw [if_pos h1, if_pos h2, if_pos h3, if_neg h4, if_neg (fun h => h4 h.2.2.2.1)]
                  · rw [if_pos h1, if_pos h2, if_neg h3, if_neg (fun h => h3 h.2.2.1)]
                · rw [if_pos h1, if_neg h2, if_neg (fun h => h2 h.2.1)]
              · rw [if_neg h1, if_neg (fun h => h1 h.1)]
        · cases hz
noncomputable def sliceOpK (t : TypeId) (x : Operand) (lo hi mx : Option Operand) (tm : T V) (h : H) (K : Out → H → Bool) : Bool :=
  evK c.ng tm x fun x => evOptK c.ng tm lo fun lo => evOptK c.ng tm hi fun hi => evOptK c.ng tm mx fun mx => sliceK c.P h t x lo hi mx fun v => K (.val v) h
theorem sliceOpK_eq (t : TypeId) (x : Operand) (lo hi mx : Option Operand) (tm : T V) (h : H) (K : Out → H → Bool) : sliceOpK c t x lo hi mx tm h K = bnd2 (opx c tm h (.slice t x lo hi mx)) K := by
  simp only [sliceOpK, evK_eq, evOptK_eq, sliceK_eq, opx, ev1]
  cases ev c.ng tm x with
  | none => rfl
  | some x =>
    simp only [bnd_some]
    cases evOpt c.ng tm lo with
    | none => rfl
    | some lo =>
      simp only [bnd_some]
      cases evOpt c.ng tm hi with
      | none => rfl
      | some hi =>
        simp only [bnd_some]
        cases evOpt c.ng tm mx with
        | none => rfl
        | some mx => simp only [bnd_some, bnd2_ret]

/-! ## Ranges over texts -/
noncomputable def oSiterF : O → (List Nat → Nat → Bool) → Bool → Bool :=
  @O.rec (fun _ => (List Nat → Nat → Bool) → Bool → Bool) (fun _ _ _ _ _ _ D => D) (fun _ _ _ D => D) (fun s pos K _ => K s pos) (fun _ _ _ _ _ D => D) (fun _ _ _ _ _ _ _ _ _ _ D => D) (fun _ _ D => D) (fun _ D => D)
noncomputable def nextSlow (h : H) (it : V) (s : Bool) (K : Out → H → Bool) : Bool := bnd2 (ret2 (nextO h it s)) fun out h => fOutD out fun out => K out h
noncomputable def nextK (h : H) (it : V) (s : Bool) (K : Out → H → Bool) : Bool :=
  iteK s (vPtr it (fun r off => iteK (Nat.beq off 0) (hK h fun nx ht => bnd (getP ht (pathOf r)) fun o => oSiterF o (fun s pos =>
    Option.rec (motive := fun _ => Bool) (K (.val (.tup [.bool false])) h) (fun ch => iteK (Nat.blt ch 128)
      (fN (Nat.succ pos) fun pos' => setP ht (pathOf r) (.siter s pos') fun ht' => K (.val (.tup [.bool true, .int .i64 (.ofNat pos), .int .i32 (.ofNat ch)])) ⟨nx, ht'⟩) false) (nthL s pos)) false) (nextSlow h it s K)) (nextSlow h it s K)) (nextSlow h it s K)
theorem nextK_eq (h : H) (it : V) (s : Bool) (K : Out → H → Bool) : nextK h it s K = bnd2 (ret2 (nextO h it s)) K := by
  have hslow : ∀ s, nextSlow h it s K = bnd2 (ret2 (nextO h it s)) K := by
    intro s; unfold nextSlow; simp only [fOutD_eq]
  unfold nextK
  simp only [hslow]
  cases s with
  | false => rfl
  | true =>
    simp only [iteK_true, vPtr_eq]
    cases it <;> try rfl
    rename_i r off
    simp only [beq_eq, iteK_decide]
    split
    · rename_i h0
      subst h0
      simp only [hK_eq, getP_eq, nextO, H.get]
      cases h.t.get r with
      | none => rfl
      | some o =>
        simp only [bnd_some]
        cases o <;> try rfl
        rename_i s pos
        show Option.rec (motive := fun _ => Bool) (K (.val (.tup [.bool false])) h) (fun ch => iteK (Nat.blt ch 128)
          (fN (Nat.succ pos) fun pos' => setP h.t (pathOf r) (.siter s pos') fun ht' => K (.val (.tup [.bool true, .int .i64 (.ofNat pos), .int .i32 (.ofNat ch)])) ⟨h.next, ht'⟩) false) (nthL s pos) = _
        rw [nthL_eq]
        cases hch : s[pos]? with
        | none => simp only [hch]; rfl
        | some ch =>
          simp only [hch, blt_eq, iteK_decide, fN_eq, setP_eq]
          by_cases hc : ch < 128
          · rw [if_pos hc, if_pos hc]; rfl
          · rw [if_neg hc, if_neg hc]; rfl
    · rfl
noncomputable def nextOpK (it : Operand) (s : Bool) (tm : T V) (h : H) (K : Out → H → Bool) : Bool := evK c.ng tm it fun it => nextK h it s K
theorem nextOpK_eq (it : Operand) (s : Bool) (tm : T V) (h : H) (K : Out → H → Bool) : nextOpK c it s tm h K = bnd2 (opx c tm h (.next it s)) K := by
  simp only [nextOpK, evK_eq, nextK_eq, opx, ev1]
  cases ev c.ng tm it <;> rfl
noncomputable def rangeBK (P : Program) (h : H) (t : TypeId) (x : V) (K : Out → H → Bool) : Bool :=
  iteK (isStr P t) (vStr x (fun s => newK h (.siter s 0) fun b h => K (.val (.ptr b 0)) h) (bnd2 (ret2 (rangeO P h t x)) K)) (bnd2 (ret2 (rangeO P h t x)) K)
theorem rangeBK_eq (P : Program) (h : H) (t : TypeId) (x : V) (K : Out → H → Bool) : rangeBK P h t x K = bnd2 (ret2 (rangeO P h t x)) K := by
  unfold rangeBK
  cases hs : isStr P t with
  | false => rfl
  | true =>
    simp only [iteK_true, vStr_eq]
    unfold isStr at hs
    split at hs
    · rename_i hu
      cases x <;> try rfl
      simp only [newK_eq, rangeO, hu]; rfl
    · cases hs
noncomputable def rangeOpK (t : TypeId) (x : Operand) (tm : T V) (h : H) (K : Out → H → Bool) : Bool := evK c.ng tm x fun x => rangeBK c.P h t x K
theorem rangeOpK_eq (t : TypeId) (x : Operand) (tm : T V) (h : H) (K : Out → H → Bool) : rangeOpK c t x tm h K = bnd2 (opx c tm h (.range t x)) K := by
  simp only [rangeOpK, evK_eq, rangeBK_eq, opx, ev1]
  cases ev c.ng tm x <;> rfl

/-! ## Parts of a value -/
def fldO (P : Program) (s : TypeId) (f : Nat) : Option (Nat × Option Nat) :=
  match P.underlying s with
  | some (.struct fs) => match fs[f]? with
    | some f => match isAggB P f.type with
      | some true => match sizeO P f.type with | some n => some (f.offset, some n) | none => none
      | some false => some (f.offset, none)
      | none => none
    | none => none
  | _ => none
noncomputable def aggF : V → (List V → Bool) → Bool := @V.rec (fun _ => (List V → Bool) → Bool) (fun _ => (List V → Bool) → Bool) (fun _ _ => false) (fun _ _ _ => false) (fun _ _ => false) (fun _ => false) (fun _ _ _ => false) (fun _ => false) (fun _ _ _ _ _ _ _ => false) (fun _ => false) (fun _ _ => false) (fun _ => false) (fun _ _ _ _ _ _ => false) (fun _ _ => false) (fun _ => false) (fun _ _ _ _ => false) (fun x0 _ K => K x0) (fun _ _ _ => false) (fun _ => false) (fun _ _ _ _ _ => false)
theorem aggF_eq (v : V) (K : List V → Bool) : aggF v K = match v with | .agg cs => K cs | _ => false := by cases v <;> rfl
noncomputable def fieldK (P : Program) (s : TypeId) (x : V) (f : Nat) (K : V → Bool) : Bool :=
  bnd2 (fldO P s f) fun off n => aggF x fun cs => Option.rec (motive := fun _ => Bool) (bnd (nthL cs off) K) (fun n => dropK cs off fun r => takeK r n fun cs => K (.agg cs)) n
theorem fieldK_eq (P : Program) (s : TypeId) (x : V) (f : Nat) (K : V → Bool) : fieldK P s x f K = bnd (fieldO P s x f) K := by
  unfold fieldK fldO fieldO
  cases P.underlying s with
  | none => rfl
  | some d =>
    cases d <;> try rfl
    rename_i fs
    simp only
    cases hf : fs[f]? with
    | none => cases x <;> simp only [hf] <;> rfl
    | some fl =>
      simp only
      cases ha : isAggB P fl.type with
      | none => cases x <;> simp only [partO, hf, ha] <;> rfl
      | some a =>
        cases a with
        | true =>
          simp only
          cases hz : sizeO P fl.type with
          | none => cases x <;> simp only [partO, hf, ha, hz] <;> rfl
          | some n =>
            simp only [bnd2_some, aggF_eq]
            cases x <;> try rfl
            simp only [dropK_eq, takeK_eq, partO, hf, ha, hz]; rfl
        | false =>
          simp only [bnd2_some, aggF_eq]
          cases x <;> try rfl
          simp only [nthL_eq, partO, hf, ha]
noncomputable def fieldOpK (s : TypeId) (x : Operand) (f : Nat) (tm : T V) (h : H) (K : Out → H → Bool) : Bool := evK c.ng tm x fun x => fieldK c.P s x f fun v => K (.val v) h
theorem fieldOpK_eq (s : TypeId) (x : Operand) (f : Nat) (tm : T V) (h : H) (K : Out → H → Bool) : fieldOpK c s x f tm h K = bnd2 (opx c tm h (.field s x f)) K := by
  simp only [fieldOpK, evK_eq, fieldK_eq, opx, ev1]
  cases ev c.ng tm x with
  | none => rfl
  | some x => simp only [bnd_some, bnd2_ret]

/-! ## What stays slow, but leaves a heap whose parts are reckoned -/
theorem T.set_get {α : Type} (t : T α) : ∀ (k : Nat) (x : α), t.get k = some x → t.set k x = t := by
  induction t with
  | e => intro k x h; simp at h
  | n l v r ihl ihr =>
    intro k x h
    cases k with
    | zero => simp only [T.get] at h; subst h; rfl
    | succ k =>
      simp only [T.get] at h
      simp only [T.set]
      split at h
      · rename_i hk; rw [if_pos hk, ihl _ _ h]
      · rename_i hk; rw [if_neg hk, ihr _ _ h]

/-- only this block is another one -/
def OnlyAt (h : H) (b : Nat) (h' : H) : Prop := h' = h ∨ ∃ o, h' = h.put b o
noncomputable def fO (o : O) (K : O → Bool) : Bool :=
  O.rec (motive := fun _ => Bool) (fun rw pl n z t => fB rw fun rw => fB pl fun pl => fN n fun n => fVs z fun z => K (.cells rw pl n z t)) (fun es clock => fN clock fun clock => fE es fun es => K (.map es clock)) (fun s p => fN p fun p => K (.siter s p)) (fun m a s p => K (.miter m a s p))
    (fun st pe f n tm ps a b d => K (.loop st pe f n tm ps a b d)) (fun l => fB l fun l => K (.defd l)) (K .dead) o
where fE (es : List (V × V × Nat)) : (List (V × V × Nat) → Bool) → Bool :=
  List.rec (motive := fun _ => (List (V × V × Nat) → Bool) → Bool) (fun K => K []) (fun e _ ih K => Prod.rec (motive := fun _ => Bool) (fun k q => Prod.rec (motive := fun _ => Bool) (fun v n => fD k fun k => fD v fun v => fN n fun n => ih fun es => K ((k, v, n) :: es)) q) e) es
theorem fE_eq : ∀ (es : List (V × V × Nat)) (K : List (V × V × Nat) → Bool), fO.fE es K = K es
  | [], K => rfl
  | (k, v, n) :: es, K => by
    show fD k (fun k => fD v fun v => fN n fun n => fO.fE es fun es => K ((k, v, n) :: es)) = _
    simp only [fD_eq, fN_eq, fE_eq es]
@[simp] theorem fO_eq (o : O) (K : O → Bool) : fO o K = K o := by
  cases o <;> simp [fO, fE_eq]

noncomputable def atK (h : H) (b : Nat) (r : Option (Out × H)) (K : Out → H → Bool) : Bool :=
  bnd2 r fun out h' => bnd (h'.get b) fun o => fO o fun o => fOutD out fun out => putHK h b o fun h => K out h
theorem atK_eq {h : H} {b : Nat} {r : Option (Out × H)} (hg : ∃ o, h.get b = some o) (hr : ∀ out h', r = some (out, h') → OnlyAt h b h') (K : Out → H → Bool) : atK h b r K = bnd2 r K := by
  unfold atK
  cases r with
  | none => rfl
  | some p =>
    obtain ⟨out, h'⟩ := p
    simp only [bnd2_some, fO_eq, fOutD_eq, putHK_eq]
    rcases hr out h' rfl with e | ⟨o, e⟩
    · subst e
      obtain ⟨o, ho⟩ := hg
      rw [ho]
      simp only [bnd_some, H.put]
      rw [T.set_get _ _ _ ho]
    · subst e
      rw [H.get_put_same]
      simp only [bnd_some, H.put]

noncomputable def vMapF : V → (Nat → Bool) → Bool → Bool := @V.rec (fun _ => (Nat → Bool) → Bool → Bool) (fun _ => (Nat → Bool) → Bool → Bool) (fun _ _ D => D) (fun _ _ _ D => D) (fun _ _ D => D) (fun _ D => D) (fun _ _ _ D => D) (fun _ D => D) (fun _ _ _ _ _ _ _ D => D) (fun _ D => D) (fun x0 K _D => K x0) (fun _ D => D) (fun _ _ _ _ _ _ D => D) (fun _ _ D => D) (fun _ D => D) (fun _ _ _ _ D => D) (fun _ _ _ D => D) (fun _ _ _ D => D) (fun _ D => D) (fun _ _ _ _ _ D => D)
theorem vMapF_eq (v : V) (K : Nat → Bool) (D : Bool) : vMapF v K D = match v with | .map b => K b | _ => D := by cases v <;> rfl
noncomputable def mapAtK (h : H) (m : V) (r : Option (Out × H)) (K : Out → H → Bool) : Bool := vMapF m (fun b => iteK ((h.get b).isSome) (atK h b r K) (bnd2 r K)) (bnd2 r K)
theorem mapAtK_eq {h : H} {m : V} {r : Option (Out × H)} (hr : ∀ b, m = .map b → ∀ out h', r = some (out, h') → OnlyAt h b h') (K : Out → H → Bool) : mapAtK h m r K = bnd2 r K := by
  unfold mapAtK
  rw [vMapF_eq]
  cases m <;> try rfl
  rename_i b
  simp only
  cases hb : h.get b with
  | none => rfl
  | some o => exact atK_eq ⟨o, hb⟩ (hr b rfl) K

theorem mapUpdate_at {P : Program} {h : H} {t : TypeId} {b : Nat} {k x : V} {h' : H} (hv : mapUpdateO P h t (.map b) k x = some h') : OnlyAt h b h' := by
  unfold mapUpdateO at hv
  split at hv
  · rename_i heq
    cases heq
    split at hv
    · split at hv
      · split at hv
        · split at hv
          · split at hv
            · cases hv; exact .inr ⟨_, rfl⟩
            · cases hv
          · cases hv
        · cases hv; exact .inr ⟨_, rfl⟩
        · cases hv
      · cases hv
    · cases hv
  · cases hv
theorem mapEntry_at {P : Program} {h : H} {t : TypeId} {b : Nat} {k v : V} {h' : H} (hv : mapEntryO P h t (.map b) k = some (v, h')) : OnlyAt h b h' := by
  unfold mapEntryO at hv
  split at hv
  · rename_i heq
    cases heq
    split at hv
    · split at hv
      · split at hv
        · split at hv
          · split at hv
            · cases hv; exact .inr ⟨_, rfl⟩
            · cases hv
          · cases hv
        · split at hv
          · cases hv; exact .inr ⟨_, rfl⟩
          · cases hv
        · cases hv
      · cases hv
    · cases hv
  · cases hv
theorem entryStore_at {h : H} {b : Nat} {s x : V} {h' : H} (hv : entryStoreO h (.map b) s x = some h') : OnlyAt h b h' := by
  unfold entryStoreO at hv
  split at hv
  · rename_i heq
    cases heq
    split at hv
    · split at hv
      · split at hv
        · cases hv; exact .inr ⟨_, rfl⟩
        · cases hv
      · cases hv
    · cases hv
  · cases hv

noncomputable def mapUpdateOpK (t : TypeId) (m k x : Operand) (tm : T V) (h : H) (K : Out → H → Bool) : Bool :=
  evK c.ng tm m fun m => evK c.ng tm k fun k => evK c.ng tm x fun x => mapAtK h m (retH (mapUpdateO c.P h t m k x)) K
theorem mapUpdateOpK_eq (t : TypeId) (m k x : Operand) (tm : T V) (h : H) (K : Out → H → Bool) : mapUpdateOpK c t m k x tm h K = bnd2 (opx c tm h (.mapUpdate t m k x)) K := by
  simp only [mapUpdateOpK, evK_eq, opx, ev1, ev2]
  cases ev c.ng tm m with
  | none => rfl
  | some m =>
    simp only [bnd_some]
    cases ev c.ng tm k with
    | none => rfl
    | some k =>
      simp only [bnd_some]
      cases ev c.ng tm x with
      | none => rfl
      | some x =>
        simp only [bnd_some]
        refine mapAtK_eq (fun b hb out h' hr => ?_) K
        subst hb
        cases hu : mapUpdateO c.P h t (.map b) k x with
        | none => rw [hu] at hr; cases hr
        | some h1 => rw [hu] at hr; cases hr; exact mapUpdate_at hu
theorem insertOpK_eq (t : TypeId) (m k x : Operand) (tm : T V) (h : H) (K : Out → H → Bool) : mapUpdateOpK c t m k x tm h K = bnd2 (opx c tm h (.insert t m k x)) K := mapUpdateOpK_eq c t m k x tm h K
noncomputable def mapEntryOpK (t : TypeId) (m k : Operand) (tm : T V) (h : H) (K : Out → H → Bool) : Bool :=
  evK c.ng tm m fun m => evK c.ng tm k fun k => mapAtK h m (ret2 (mapEntryO c.P h t m k)) K
theorem mapEntryOpK_eq (t : TypeId) (m k : Operand) (tm : T V) (h : H) (K : Out → H → Bool) : mapEntryOpK c t m k tm h K = bnd2 (opx c tm h (.mapEntry t m k)) K := by
  simp only [mapEntryOpK, evK_eq, opx, ev2]
  cases ev c.ng tm m with
  | none => rfl
  | some m =>
    simp only [bnd_some]
    cases ev c.ng tm k with
    | none => rfl
    | some k =>
      simp only [bnd_some]
      refine mapAtK_eq (fun b hb out h' hr => ?_) K
      subst hb
      cases hu : mapEntryO c.P h t (.map b) k with
      | none => rw [hu] at hr; cases hr
      | some p => rw [hu] at hr; cases hr; exact mapEntry_at hu
noncomputable def entryStoreOpK (m s x : Operand) (tm : T V) (h : H) (K : Out → H → Bool) : Bool :=
  evK c.ng tm m fun m => evK c.ng tm s fun s => evK c.ng tm x fun x => mapAtK h m (retH (entryStoreO h m s x)) K
theorem entryStoreOpK_eq (t : TypeId) (m s x : Operand) (tm : T V) (h : H) (K : Out → H → Bool) : entryStoreOpK c m s x tm h K = bnd2 (opx c tm h (.entryStore t m s x)) K := by
  simp only [entryStoreOpK, evK_eq, opx, ev1, ev2]
  cases ev c.ng tm m with
  | none => rfl
  | some m =>
    simp only [bnd_some]
    cases ev c.ng tm s with
    | none => rfl
    | some s =>
      simp only [bnd_some]
      cases ev c.ng tm x with
      | none => rfl
      | some x =>
        simp only [bnd_some]
        refine mapAtK_eq (fun b hb out h' hr => ?_) K
        subst hb
        cases hu : entryStoreO h (.map b) s x with
        | none => rw [hu] at hr; cases hr
        | some h1 => rw [hu] at hr; cases hr; exact entryStore_at hu

end
end Go.Fal
