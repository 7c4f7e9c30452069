/-
  THE ENGINE: an interpreter of our own for the model's programs, and the proof that each of its runs is a call of the model, for every start that it sees.
-/
import Derived.Test.YthoiomcchedapaaGreatDoorE01
import Derived.Laws.Bits
import Derived.Laws.Strings2
import Derived.Laws.Concat
import Derived.ChangeKeysEq
import Derived.LaidEql
import Derived.Laws.StructEq
import Derived.IntWalk
set_option autoImplicit true
set_option relaxedAutoImplicit true
set_option linter.unusedVariables false
set_option linter.unusedSimpArgs false
namespace Go.Fal

/-! ## Equality of values, as they are written -/
mutual
def vbeq : V → V → Bool
  | .bool a, .bool b => a == b
  | .int j a, .int k b => j == k && a == b
  | .str a, .str b => a == b
  | .nilp, .nilp => true
  | .ptr a o, .ptr b u => a == b && o == u
  | .nils, .nils => true
  | .slice a b c d e f, .slice a' b' c' d' e' f' => a == a' && b == b' && c == c' && d == d' && e == e' && f == f'
  | .nilm, .nilm => true
  | .map a, .map b => a == b
  | .nilf, .nilf => true
  | .func (.func f) a b, .func (.func g) a' b' => f == g && vsbeq a a' && vsbeq b b'
  | .yield a, .yield b => a == b
  | .nili, .nili => true
  | .iface t v, .iface u x => t == u && vbeq v x
  | .agg a, .agg b => vsbeq a b
  | .tup a, .tup b => vsbeq a b
  | _, _ => false
def vsbeq : List V → List V → Bool
  | [], [] => true
  | x :: xs, y :: ys => vbeq x y && vsbeq xs ys
  | _, _ => false
end

/-! ## Regions -/
inductive D : Type where
  | coll (b : Nat)
  | call (f : Nat) (args : List V)

def putT (nt : Nat) (tm : T V) (d : Option Tmp) (v : V) : Option (T V) :=
  match d with
  | none => some tm
  | some d => if d < nt then some (tm.set d v) else none

def undefV : V := .tup []

/-- is it to be done? none: not known -/
def wantO (ops : Array Oper) (tm : T V) (o : Oper) : Option Bool :=
  match o.guard with
  | none => some true
  | some (j, want) => match ops[j]? with
    | none => some false
    | some oj => match oj.dst with
      | none => some false
      | some d => match tm.get d with
        | some (.bool b) => some (b == want)
        | some _ => some false
        | none => none

inductive Cls : Type where
  | P | R | A | E
  deriving DecidableEq

def clsOf (P : Program) (op : Op) : Cls :=
  match op with
  | .move _ | .assign _ | .pick .. | .build .. | .nilCheck _ | .unOp .. | .makeInterface .. | .makeFunc .. | .fieldAddr .. | .field .. | .index .. | .extract .. | .indexAddr .. => .P
  | .alloc _ | .box .. | .buildSlice .. | .makeMap .. | .makeSlice .. => .A
  | .load .. => .R
  | .binOp _ t .. => match P.underlying t with
    | some (.int _) | some .string | some .bool => .P
    | _ => .E
  | .convert s d _ => match P.underlying s, P.underlying d with
    | some (.int _), some (.int _) => .P
    | some (.slice _), some .string => .R
    | _, _ => .E
  | .slice t .. => match P.underlying t with
    | some .string | some (.slice _) => .P
    | _ => .E
  | .call k => match k.callee with
    | .builtin .len => match (k.argTypes[0]?).bind P.underlying with
      | some (.map _ _) | none => .E
      | some _ => .P
    | .builtin .max | .builtin .min => .P
    | _ => .E
  | _ => .E

/-- which operations come ahead of each, as bits -/
def befores : List Oper → List Nat → List Nat
  | [], acc => acc.reverse
  | o :: os, acc =>
    befores os ((o.after.toList.foldl (fun s e => if Region.binds .any e then s ||| 2 ^ e.on ||| (acc.reverse[e.on]?.getD 0) else s) 0) :: acc)

def ordered (bs : List Nat) (i j : Nat) : Bool :=
  if i ≤ j then (bs[j]?.getD 0).testBit i else (bs[i]?.getD 0).testBit j

def dstIs (o : Oper) (t : Nat) : Bool := match o.dst with | some d => d == t | none => false
def tmpIs (t : Nat) : Operand → Bool | .tmp u => u == t | _ => false
/-- does it look at, or write, a temporary? -/
def namesT (ops : Array Oper) (o : Oper) (t : Nat) : Bool :=
  dstIs o t || o.op.operands.toList.any (tmpIs t) || match o.guard with | some (j, _) => (match ops[j]? with | some oj => dstIs oj t | none => false) | none => false

/-- for each pair: is its order given, or does it not matter? -/
def pairOk (P : Program) (ops : Array Oper) (bs : List Nat) (i j : Nat) (oi oj : Oper) : Bool :=
  (bs[j]?.getD 0).testBit i ||
  (!(match oi.dst with | some d => namesT ops oj d | none => false) && !(match oj.dst with | some d => namesT ops oi d | none => false) &&
   match clsOf P oi.op, clsOf P oj.op with
   | .E, .E | .A, .E => false
   | _, _ => true)

def pairsOk (P : Program) (ops : Array Oper) (bs : List Nat) : Bool :=
  (List.range ops.size).all fun j => (List.range j).all fun i => match ops[i]?, ops[j]? with
    | some oi, some oj => pairOk P ops bs i j oi oj
    | _, _ => false

def edgesOk (ops : Array Oper) : Bool :=
  (List.range ops.size).all fun j => match ops[j]? with
    | some o => o.after.toList.all fun e => !Region.binds .any e || decide (e.on < j)
    | none => false

def drawOk (P : Program) (ops : Array Oper) : Bool := edgesOk ops && pairsOk P ops (befores ops.toList [])

/-- what was read -/
structure Rd where
  i : Nat
  op : Op
  x : V
  v : V

def rdAt (P : Program) (h : H) (op : Op) (x : V) : Option V :=
  match op with
  | .load t _ => loadO P h t x
  | .convert s d _ => match convO P h s d x with
    | some (v, _) => some v
    | none => none
  | _ => none

def rdSame (P : Program) (h : H) (op : Op) (x v : V) : Bool :=
  match rdAt P h op x with
  | some u => vbeq u v
  | none => false

/-- its block is not there yet -/
def rdNew (h : H) (x : V) : Bool :=
  match x with
  | .ptr b _ | .slice b .. => Nat.ble h.next b
  | _ => false

/-- its block is there -/
def rdOld (h : H) (x : V) : Bool :=
  match x with
  | .ptr b _ | .slice b .. => Nat.blt b h.next
  | _ => true

def rdOperand : Op → Option Operand
  | .load _ a => some a
  | .convert _ _ x => some x
  | _ => none

section
variable (c : Cfg) (call : Out → H → Option (V × H)) (nt : Nat) (rnd : Option Nat)

/-- what one operation comes to -/
def opRun (tm : T V) (ds : List D) (h : H) (o : Oper) : Option (V × List D × H) :=
  match opx c tm h o.op with
  | none => none
  | some (.val v, h) => some (v, ds, h)
  | some (.skip, h) => some (undefV, ds, h)
  | some (.recover, h) => match rnd with | none => some (.nili, ds, h) | some _ => none
  | some (.defer f args, h) => match rnd with | none => some (undefV, .call f args :: ds, h) | some _ => none
  | some (out, h) => match call out h with
    | some (v, h) => some (v, ds, h)
    | none => none

def regL (ops : Array Oper) : List Nat → T V → List D → H → Option (T V × List D × H)
  | [], tm, ds, h => some (tm, ds, h)
  | i :: is, tm, ds, h => match ops[i]? with
    | none => none
    | some o => match wantO ops tm o with
      | none => none
      | some false => match putT nt tm o.dst undefV with
        | some tm => regL ops is tm ds h
        | none => none
      | some true => match opRun c call rnd tm ds h o with
        | none => none
        | some (v, ds, h) => match putT nt tm o.dst v with
          | some tm => regL ops is tm ds h
          | none => none

/-- a region whose order is open: in the order of its text, with a look at whether another order comes to the same -/
def regD (ops : Array Oper) (bs : List Nat) : List Nat → T V → List D → H → List (Nat × H) → List Rd → Option (T V × List D × H)
  | [], tm, ds, h, _, _ => some (tm, ds, h)
  | i :: is, tm, ds, h, past, rds => match ops[i]? with
    | none => none
    | some o => match wantO ops tm o with
      | none => none
      | some false => match putT nt tm o.dst undefV with
        | some tm => regD ops bs is tm ds h past rds
        | none => none
      | some true => match opRun c call rnd tm ds h o with
        | none => none
        | some (v, ds, h') => match putT nt tm o.dst v with
          | none => none
          | some tm' => match clsOf c.P o.op with
            | .R => match rdOperand o.op with
              | none => none
              | some x => match ev c.ng tm x with
                | none => none
                | some x => if rdOld h x && past.all (fun p => (bs[i]?.getD 0).testBit p.1 || rdNew p.2 x || rdSame c.P p.2 o.op x v)
                  then regD ops bs is tm' ds h' past (⟨i, o.op, x, v⟩ :: rds) else none
            | .E => if rds.all (fun r => (bs[i]?.getD 0).testBit r.i || rdSame c.P h' r.op r.x r.v)
                  then regD ops bs is tm' ds h' ((i, h) :: past) rds else none
            | _ => regD ops bs is tm' ds h' past rds
end

/-! ## Frames -/
structure Fr where
  fn : Nat
  nt : Nat
  tm : T V
  todo : List Item
  ds : List D
  rnd : Option Nat

def setArgs : T V → Nat → List V → T V
  | t, _, [] => t
  | t, i, v :: vs => setArgs (t.set i v) (i + 1) vs

def enterFr (P : Program) (f : Nat) (args : List V) : Option Fr :=
  match P.funcs[f]? with
  | none => none
  | some fn => match fn.body with
    | none => none
    | some b => some { fn := f, nt := max args.length fn.ntmps, tm := setArgs .e 0 args, todo := [.code b], ds := [], rnd := none }

def resultsO (P : Program) (h : H) (tm : T V) : List ResultVar → Option (List V)
  | [] => some []
  | .tmp t :: rs => match tm.get t, resultsO P h tm rs with
    | some v, some vs => some (v :: vs)
    | _, _ => none
  | .cell a t :: rs => match tm.get a with
    | some x => match loadO P h t x, resultsO P h tm rs with
      | some v, some vs => some (v :: vs)
      | _, _ => none
    | none => none

def oneOr (vs : List V) : V := match vs with | [v] => v | vs => .tup vs

def zipSet (tm : T V) : List Tmp → List V → Option (T V)
  | [], [] => some tm
  | t :: ts, v :: vs => zipSet (tm.set t v) ts vs
  | _, _ => none

/-- the rounds' frame -/
def roundFr (h : H) (l : Nat) (args : List V) : Option Fr :=
  match h.get l with
  | some (.loop _ _ fn nt tm ps assign body _) => if ps.toList.all (fun t => decide (t < nt)) then (match zipSet tm ps.toList args with
    | some tm => some { fn := fn, nt := nt, tm := tm, todo := [.code assign, .beginRound, .code body], ds := [], rnd := some l }
    | none => none) else none
  | _ => none

def setState (h : H) (l : Nat) (st : LoopState) (pend : Option Code) : Option H :=
  match h.get l with
  | some (.loop _ _ fn nt tm ps assign body d) => some (h.put l (.loop st pend fn nt tm ps assign body d))
  | _ => none

def stateOf (h : H) (l : Nat) : Option (LoopState × Option Code) :=
  match h.get l with
  | some (.loop st pend ..) => some (st, pend)
  | _ => none

def exitO (id : Nat) : List Item → Option (List Item)
  | .inBlock i :: k => if i = id then some k else exitO id k
  | _ :: k => exitO id k
  | [] => none

/-- what is deferred, then the results -/
def unwind (c : Cfg) (runf : Fr → H → Option (V × H)) (fn : Nat) (tm : T V) : H → List D → Option (V × H)
  | h, [] => match c.P.funcs[fn]? with
    | some f => match resultsO c.P h tm f.results.toList with
      | some vs => some (oneOr vs, h)
      | none => none
    | none => none
  | h, .coll b :: ds => match h.get b with
    | some (.defd true) => unwind c runf fn tm (h.put b (.defd false)) ds
    | _ => none
  | h, .call f args :: ds => match enterFr c.P f args with
    | some fr' => match runf fr' h with
      | some (_, h) => unwind c runf fn tm h ds
      | none => none
    | none => none

/-- the limit is there, whatever it is -/
def limitAt (h : H) (ml : Nat) : Bool :=
  match h.get ml with
  | some (.cells _ _ 1 [.int .i64 _] .e) => true
  | _ => false

def callF (c : Cfg) (runf : Fr → H → Option (V × H)) (out : Out) (h : H) : Option (V × H) :=
  match out with
  | .call f args => match c.memo f args with
    | some v => if c.base h then some (v, h) else none
    | none => match enterFr c.P f args with
      | some fr => runf fr h
      | none => none
  | .round l args => match roundFr h l args with
    | some fr => runf fr h
    | none => none
  | _ => none

def isRet : Option Code → Bool
  | none | some .ret => true
  | _ => false

def leaveF (c : Cfg) (runf : Fr → H → Option (V × H)) (fr : Fr) (h : H) (jump : Option Code) : Option (V × H) :=
  match fr.rnd with
  | some l => match fr.ds with
    | [] => match setState h l (if jump.isNone then .ready else .done) jump with
      | some h => some (.bool jump.isNone, h)
      | none => none
    | _ => none
  | none => if isRet jump then unwind c runf fr.fn fr.tm h fr.ds else none

/-- the block for what the rounds defer -/
def markF (fr : Fr) (h : H) : Option (Nat × List D × H) :=
  match fr.rnd with
  | some l => match h.get l with
    | some (.loop _ _ _ _ _ _ _ _ d) => some (d, [], h)
    | _ => none
  | none => some (h.next, [D.coll h.next], h.new (.defd true))

def codes (pend : Option Code) (k : List Item) : List Item := match pend with | some j => .code j :: k | none => k

/-- the range over a function, once its record is laid -/
def rangeF (c : Cfg) (runf : Fr → H → Option (V × H)) (fr : Fr) (h : H) (f : Operand) (ps : Array Tmp) (assign body : Code) (k : List Item) : Option (V × H) :=
  match markF fr h with
  | none => none
  | some (d, mark, h1) =>
    match ev c.ng fr.tm f with
    | some (.func (.func g) first cap) => match callF c runf (.call g (first ++ [V.yield h1.next] ++ cap)) (h1.new (.loop .ready none fr.fn fr.nt fr.tm ps assign body d)) with
      | some (_, h3) => match stateOf h3 h1.next with
        | some (st, pend) => if st = .busy then none else match setState h3 h1.next .exhausted pend with
          | some h4 => runf { fr with ds := mark ++ fr.ds, todo := codes pend k } h4
          | none => none
        | none => none
      | none => none
    | _ => none

def roundF (runf : Fr → H → Option (V × H)) (fr : Fr) (h : H) (k : List Item) : Option (V × H) :=
  match fr.rnd with
  | some l => match stateOf h l with
    | some (.ready, pend) => match setState h l .busy pend with
      | some h => runf { fr with todo := k } h
      | none => none
    | _ => none
  | none => none

def regionF (c : Cfg) (runf : Fr → H → Option (V × H)) (fr : Fr) (h : H) (ops : Array Oper) (draw : Bool) (k : List Item) : Option (V × H) :=
  if draw then
    if drawOk c.P ops then
    match regD c (callF c runf) fr.nt fr.rnd ops (befores ops.toList []) (List.range ops.size) fr.tm fr.ds h [] [] with
    | some (tm, ds, h) => runf { fr with tm := tm, ds := ds, todo := k } h
    | none => none
    else none
  else match regL c (callF c runf) fr.nt fr.rnd ops (List.range ops.size) fr.tm fr.ds h with
    | some (tm, ds, h) => runf { fr with tm := tm, ds := ds, todo := k } h
    | none => none

def stepF (c : Cfg) (runf : Fr → H → Option (V × H)) (fr : Fr) (h : H) : Option (V × H) :=
  match fr.todo with
  | [] => leaveF c runf fr h none
  | .code x :: k => match x with
    | .ret => leaveF c runf fr h (some .ret)
    | .skip => runf { fr with todo := k } h
    | .label _ => runf { fr with todo := k } h
    | .seq a b => runf { fr with todo := .code a :: .code b :: k } h
    | .cond q a b => match ev c.ng fr.tm q with
      | some (.bool t) => runf { fr with todo := .code (if t then a else b) :: k } h
      | _ => none
    | .block id b => runf { fr with todo := .code b :: .inBlock id :: k } h
    | .loop b => runf { fr with todo := .code b :: .inLoop b :: k } h
    | .scope b => runf { fr with todo := .code b :: .inScope b :: k } h
    | .exit id => match exitO id k with
      | some k => runf { fr with todo := k } h
      | none => leaveF c runf fr h (some (.exit id))
    | .goto l => match gotoIn l k with
      | some k => runf { fr with todo := k } h
      | none => leaveF c runf fr h (some (.goto l))
    | .region _ ops draw => regionF c runf fr h ops draw k
    | .rangeFunc f ps assign body => rangeF c runf fr h f ps assign body k
    | .refuse _ => none
  | .inBlock _ :: k => runf { fr with todo := k } h
  | .inScope _ :: k => runf { fr with todo := k } h
  | .inLoop b :: k => runf { fr with todo := .code b :: .inLoop b :: k } h
  | .beginRound :: k => roundF runf fr h k
  | _ => none

def run (c : Cfg) : Nat → Fr → H → Option (V × H)
  | 0, _, _ => none
  | n + 1, fr, h => stepF c (run c n) fr h

end Go.Fal
namespace Go.Fal

theorem mapO_some {α β : Type} {f : α → Option β} : ∀ {l : List α} {m : List β}, mapO f l = some m → l.length = m.length ∧ ∀ (i : Nat) x y, l[i]? = some x → m[i]? = some y → f x = some y
  | [], m, h => by simp only [mapO, Option.some.injEq] at h; subst h; exact ⟨rfl, fun i x y hx => by simp at hx⟩
  | a :: l, m, h => by
    simp only [mapO] at h
    split at h
    · cases h
    · rename_i b hb
      split at h
      · cases h
      · rename_i bs hbs
        cases h
        obtain ⟨h1, h2⟩ := mapO_some hbs
        refine ⟨by simp [h1], fun i x y hx hy => ?_⟩
        cases i with
        | zero => simp at hx hy; subst hx; subst hy; exact hb
        | succ i => exact h2 i x y (by simpa using hx) (by simpa using hy)

theorem mapO_VRs {φ : Phi} {α : Type} {f : α → Option V} {g : α → Value} (hf : ∀ x v, f x = some v → VR φ v (g x)) {l : List α} {m : List V} (h : mapO f l = some m) : VRs φ m (l.map g) := by
  obtain ⟨h1, h2⟩ := mapO_some h
  refine VRs.of_get (by simp [h1]) fun i v x hv hx => ?_
  simp only [List.getElem?_map, Option.map_eq_some_iff] at hx
  obtain ⟨y, hy, rfl⟩ := hx
  exact hf y v (h2 i y v hy hv)

theorem ofVal_sound (φ : Phi) : ∀ (d : Nat) (x : Value) (v : V), ofVal d x = some v → VR φ v x := by
  intro d
  induction d with
  | zero => intro x v h; simp [ofVal] at h
  | succ d ih =>
    intro x v h
    unfold ofVal at h
    split at h <;> (try (cases h; constructor)) <;> (try (cases h))
    · split at h <;> cases h
      exact .iface (ih _ _ (by assumption))
    · split at h <;> cases h
      refine .agg ?_
      have := mapO_VRs (g := id) (fun x v hx => ih x v hx) (by assumption)
      simpa using this
    · split at h <;> cases h
      refine .tup ?_
      have := mapO_VRs (g := id) (fun x v hx => ih x v hx) (by assumption)
      simpa using this

/-- the package-level variables lie at their own numbers -/
def Glob (ng : Nat) (φ : Phi) : Prop := ∀ g, g < ng → ∃ N, φ g = some (g, N)
theorem Glob.mono {ng : Nat} {φ ψ : Phi} (h : φ.le ψ) (g : Glob ng φ) : Glob ng ψ := fun k hk => let ⟨N, hN⟩ := g k hk; ⟨N, h _ _ hN⟩

theorem ev_sound {ng : Nat} {φ : Phi} (hg : Glob ng φ) {tm : T V} {a : Act} (he : EnvR φ tm a.tmps) {x : Operand} {v : V} (h : ev ng tm x = some v) : VR φ v (a.eval x) := by
  cases x with
  | tmp t =>
    obtain ⟨y, hy, hv⟩ := he t v h
    simp only [Act.eval, Array.getD_eq_getD_getElem?, hy]; exact hv
  | const c => exact ofVal_sound φ 4 c v h
  | global g =>
    simp only [ev] at h
    split at h <;> cases h
    obtain ⟨N, hN⟩ := hg g (by assumption)
    exact .ptr hN
  | func f => simp only [ev, Option.some.injEq] at h; subst h; exact .func .nil .nil

theorem evs_sound {ng : Nat} {φ : Phi} (hg : Glob ng φ) {tm : T V} {a : Act} (he : EnvR φ tm a.tmps) {l : List Operand} {vs : List V} (h : evs ng tm l = some vs) : VRs φ vs (l.map a.eval) :=
  mapO_VRs (fun _ _ hx => ev_sound hg he hx) h

section
variable {P : Program} {φ : Phi} {h h' : H} {w : World}

theorem run_underlying {t : TypeId} {d : TypeDesc} (hd : P.underlying t = some d) : (underlying t).run P w = .ok d w := by simp [underlying, hd]
theorem run_typeInfo {t : TypeId} {i : TypeInfo} (hd : P.info? t = some i) : (typeInfo t).run P w = .ok i w := by simp [typeInfo, hd]
theorem run_sizeOf {t n : Nat} (hd : sizeO P t = some n) : (sizeOf t).run P w = .ok n w := by
  unfold sizeO at hd
  split at hd <;> cases hd
  rename_i hi
  simp [sizeOf, run_typeInfo hi]
theorem run_isAgg {t : TypeId} {b : Bool} (hd : isAggB P t = some b) : (isAgg t).run P w = .ok b w := by
  unfold isAggB at hd
  split at hd <;> cases hd <;> rename_i hi <;> first
    | (simp [isAgg, run_underlying hi]; done)
    | (simp only [isAgg, Sem.run_bind, run_underlying hi, Result.andThen_ok]; split <;> first | rfl | (exfalso; simp_all))
theorem run_zeroValue {t : TypeId} {z : V} (hd : zeroO P t = some z) (φ : Phi) : ∃ x, (zeroValue t).run P w = .ok x w ∧ VR φ z x ∧ (P.info? t).bind (·.zero) = some x := by
  unfold zeroO at hd
  split at hd
  · rename_i i hi
    split at hd
    · rename_i x hx
      exact ⟨x, by simp [zeroValue, run_typeInfo hi, hx], ofVal_sound φ 4 x z hd, by simp [hi, hx]⟩
    · cases hd
  · cases hd

/-! ### numbers -/
theorem intop_sound {op : BinOp} {k k' : IntKind} {a b : Int} {v : V} {t : TypeId} (hv : intop op k a b = some v) (hk : (op = .shl ∨ op = .shr) ∨ k = k') :
    ∃ x, (binOp op t (.int k a) (.int k' b)).run P w = .ok x w ∧ VR φ v x := by
  cases op <;> simp only [intop] at hv <;> simp only [binOp, Op.intArith, Op.intDiv, Op.intBits, Op.intCmp, Op.shift]
  case shl =>
    split at hv
    · cases hv
    · rename_i hb; cases hv; rw [if_neg hb]; exact ⟨_, rfl, .int _ _⟩
  case shr =>
    split at hv
    · cases hv
    · rename_i hb; cases hv; rw [if_neg hb]; exact ⟨_, rfl, .int _ _⟩
  case quo =>
    split at hv
    · cases hv
    · rename_i hb; cases hv
      obtain rfl : k = k' := by simpa using hk
      simp only [ne_eq, not_true_eq_false, if_false, if_neg hb]; exact ⟨_, rfl, .int _ _⟩
  case rem =>
    split at hv
    · cases hv
    · rename_i hb; cases hv
      obtain rfl : k = k' := by simpa using hk
      simp only [ne_eq, not_true_eq_false, if_false, if_neg hb]; exact ⟨_, rfl, .int _ _⟩
  all_goals
    (cases hv
     obtain rfl : k = k' := by simpa using hk
     simp only [ne_eq, not_true_eq_false, if_false]
     exact ⟨_, rfl, by constructor⟩)

end
end Go.Fal
namespace Go.Fal

theorem toNat_inj {a b : UInt8} (h : a.toNat = b.toNat) : a = b := UInt8.toNat_inj.1 h

theorem map_toNat_inj : ∀ {a b : List UInt8}, a.map (·.toNat) = b.map (·.toNat) → a = b
  | [], [], _ => rfl
  | [], _ :: _, h => by simp at h
  | _ :: _, [], h => by simp at h
  | x :: xs, y :: ys, h => by
    simp only [List.map_cons, List.cons.injEq] at h
    rw [toNat_inj h.1, map_toNat_inj h.2]

theorem bytesOf_inj {a b : ByteArray} (h : bytesOf a = bytesOf b) : a = b := by
  have := map_toNat_inj h
  cases a with | mk a => cases b with | mk b => simp at this; subst this; rfl

theorem bytesOf_length (s : ByteArray) : (bytesOf s).length = s.size := by simp [bytesOf]
theorem bytesOf_append (a b : ByteArray) : bytesOf (a ++ b) = bytesOf a ++ bytesOf b := by
  cases a with | mk a => cases b with | mk b =>
  have := ByteArray.mk_append_mk a.toList b.toList
  simp only [Array.toArray_toList] at this
  rw [this]
  simp [bytesOf]
theorem bytesOf_extract (s : ByteArray) (a b : Nat) : bytesOf (s.extract a b) = ((bytesOf s).drop a).take (b - a) := by
  cases s with | mk s =>
  have := ByteArray.extract_mk s.toList a b
  simp only [Array.toArray_toList] at this
  rw [this]
  simp [bytesOf, List.map_take, List.map_drop]
theorem bytesOf_get (s : ByteArray) (i : Nat) : (bytesOf s)[i]? = (s[i]?).map (·.toNat) := by
  by_cases h : i < s.size
  · rw [ByteArray.getElem?_lt' s i h]
    simp only [bytesOf, List.getElem?_map, Option.map_some]
    have : s.data.toList[i]? = some s[i] := by
      rw [Array.getElem?_toList, Array.getElem?_eq_getElem h]; rfl
    rw [this]; rfl
  · rw [ByteArray.getElem?_ge' s i h]
    have : (bytesOf s).length ≤ i := by rw [bytesOf_length]; omega
    simp [List.getElem?_eq_none this]

theorem beq_bytesOf (a b : ByteArray) : (bytesOf a == bytesOf b) = (a.toList == b.toList) := by
  rw [ByteArray.toList_eq, ByteArray.toList_eq, Bool.eq_iff_iff, beq_iff_eq, beq_iff_eq]
  exact ⟨fun h => map_toNat_inj h, fun h => by simp [bytesOf, h]⟩

theorem strless_map : ∀ a b : List UInt8, strless (a.map (·.toNat)) (b.map (·.toNat)) = Op.bytesLess a b
  | [], [] => rfl
  | [], _ :: _ => rfl
  | _ :: _, [] => rfl
  | x :: xs, y :: ys => by
    simp only [List.map_cons, strless, Op.bytesLess]
    rw [strless_map xs ys]
    congr 1
    congr 1
    rw [Bool.eq_iff_iff, beq_iff_eq, beq_iff_eq]
    exact ⟨toNat_inj, fun h => by rw [h]⟩
theorem strless_bytesOf (a b : ByteArray) : strless (bytesOf a) (bytesOf b) = Op.bytesLess a.toList b.toList := by
  rw [ByteArray.toList_eq, ByteArray.toList_eq]; exact strless_map _ _

section
variable {P : Program} {φ : Phi} {h h' : H} {w : World}

theorem strop_sound {op : BinOp} {a b : ByteArray} {v : V} {t : TypeId} (hv : strop op (bytesOf a) (bytesOf b) = some v) :
    ∃ x, (binOp op t (.string a) (.string b)).run P w = .ok x w ∧ VR φ v x := by
  have e : binOp op t (.string a) (.string b) = Op.stringOp op a b := by cases op <;> rfl
  rw [e]
  cases op <;> simp only [strop] at hv
  case add =>
    split at hv
    · rename_i hb
      cases hv
      rw [bytesOf_length, bytesOf_length] at hb
      have hm : most = 1099511627776 := by decide
      have hs : a.size + b.size ≤ 9223372036854775807 := by omega
      refine ⟨.string (a ++ b), run_string_add_sum (P := P) w a b hs, ?_⟩
      rw [← bytesOf_append]; exact .str _
    · cases hv
  all_goals
    (cases hv <;>
     (refine ⟨_, rfl, ?_⟩
      (try rw [← beq_bytesOf])
      (try rw [← strless_bytesOf])
      exact .bool _))

end
end Go.Fal
namespace Go.Fal

section
variable {P : Program} {φ : Phi} {h h' : H} {w : World}

theorem sizeO_cellsOf {t n : Nat} (hd : sizeO P t = some n) : P.cellsOf t = n := by
  unfold sizeO at hd
  split at hd <;> cases hd
  rename_i hi
  simp [Program.cellsOf, hi]
theorem sizeO_info {t n : Nat} (hd : sizeO P t = some n) : ∃ i, P.info? t = some i ∧ i.size = n := by
  unfold sizeO at hd
  split at hd <;> cases hd
  exact ⟨_, by assumption, rfl⟩

theorem extract_toList (xs : Array Value) (a b : Nat) : (xs.extract a b).toList = (xs.toList.drop a).take (b - a) := by
  cases xs; simp

theorem run_part {t : TypeId} {cs : List V} {xs : Array Value} {off : Nat} {v : V} (hp : partO P t cs off = some v) (hr : VRs φ cs xs.toList) :
    ∃ x, (part t xs off).run P w = .ok x w ∧ VR φ v x := by
  unfold partO at hp
  split at hp
  · rename_i ha
    split at hp
    · rename_i n hn
      cases hp
      refine ⟨.agg (xs.extract off (off + n)), ?_, .agg ?_⟩
      · simp only [part, Sem.run_bind, run_isAgg ha, Result.andThen_ok, if_true, run_sizeOf hn, Sem.run_pure]
      · rw [extract_toList, Nat.add_sub_cancel_left]; exact (hr.drop off).take n
    · cases hp
  · rename_i ha
    obtain ⟨x, hx, hv⟩ := hr.get hp
    refine ⟨x, ?_, hv⟩
    have hx' : xs[off]? = some x := by rw [← Array.getElem?_toList]; exact hx
    simp only [part, Sem.run_bind, run_isAgg ha, Result.andThen_ok, Bool.false_eq_true, if_false, hx', Sem.run_pure]
  · cases hp

theorem plainBlk_sound (s : Sim φ h w) {b B N : Nat} (hp : plainBlk h b = true) (hφ : φ b = some (B, N)) : ∃ C e, w.heap[B]? = some (.cells C e (0, 0)) := by
  unfold plainBlk at hp
  split at hp
  · rename_i hg
    obtain ⟨B', M, x, hq, hh, hb⟩ := s.blk b _ hg rfl
    rw [hφ] at hq; cases hq
    cases hb with
    | cells h1 h2 h3 h4 =>
      obtain ⟨rfl, rfl⟩ := h4 hp
      exact ⟨_, _, hh⟩
  · cases hp

theorem plainBlk_live (hp : plainBlk h b = true) : ∃ o, h.get b = some o ∧ o.live = true := by
  unfold plainBlk at hp
  split at hp
  · rename_i hg; exact ⟨_, hg, rfl⟩
  · cases hp

theorem underlying_struct {t : TypeId} {fs : Array Field} (hu : P.underlying t = some (.struct fs)) : P.underlying t = some (.struct (P.fieldsOf t)) ∧ P.fieldsOf t = fs := by
  have : P.fieldsOf t = fs := by simp [Program.fieldsOf, hu]
  exact ⟨by rw [this]; exact hu, this⟩

theorem veqFields_sound {eq : TypeId → V → V → Option Bool} {D : Nat} (heq : ∀ t x y r x' y', eq t x y = some r → VR φ x x' → VR φ y y' → (Op.equalIn D t x' y').run P w = .ok r w)
    {xs ys : List V} {xs' ys' : Array Value} (hx : VRs φ xs xs'.toList) (hy : VRs φ ys ys'.toList) : ∀ (fs : List Field) (r : Bool), veqFields eq P xs ys fs = some r →
    (Op.eqFields D xs' ys' fs).run P w = .ok r w
  | [], r, h => by simp only [veqFields, Option.some.injEq] at h; subst h; simp [Op.eqFields]
  | f :: fs, r, h => by
    simp only [veqFields] at h
    simp only [Op.eqFields]
    split at h
    · rename_i hn
      simp only [hn, ne_eq, not_true_eq_false, if_false]
      exact veqFields_sound heq hx hy fs r h
    · rename_i hn
      simp only [hn, ne_eq, not_false_eq_true, if_true]
      split at h
      · rename_i x y hx1 hy1
        obtain ⟨x', hx2, hx3⟩ := run_part (w := w) hx1 hx
        obtain ⟨y', hy2, hy3⟩ := run_part (w := w) hy1 hy
        simp only [Sem.run_bind, hx2, hy2, Result.andThen_ok]
        split at h
        · rename_i he
          rw [heq _ _ _ _ _ _ he hx3 hy3]
          simp only [Result.andThen_ok, Bool.not_true, Bool.false_eq_true, if_false]
          exact veqFields_sound heq hx hy fs r h
        · rename_i r' he
          cases r with
          | true => exact absurd h he
          | false =>
            rw [heq _ _ _ _ _ _ h hx3 hy3]
            simp
      · cases h

theorem veqCells_sound {e : TypeId} {n : Nat} {eq : V → V → Option Bool} {D : Nat} (heq : ∀ x y r x' y', eq x y = some r → VR φ x x' → VR φ y y' → (Op.equalIn D e x' y').run P w = .ok r w)
    {xs ys : List V} {xs' ys' : Array Value} (hx : VRs φ xs xs'.toList) (hy : VRs φ ys ys'.toList) : ∀ (k i : Nat) (r : Bool), veqCells eq P e n xs ys i k = some r →
    (Op.eqItems D e n xs' ys' (List.range' i k)).run P w = .ok r w
  | 0, i, r, h => by simp only [veqCells, Option.some.injEq] at h; subst h; simp [Op.eqItems]
  | k + 1, i, r, h => by
    simp only [veqCells] at h
    simp only [List.range'_succ, Op.eqItems]
    split at h
    · rename_i x y hx1 hy1
      obtain ⟨x', hx2, hx3⟩ := run_part (w := w) hx1 hx
      obtain ⟨y', hy2, hy3⟩ := run_part (w := w) hy1 hy
      simp only [Sem.run_bind, hx2, hy2, Result.andThen_ok]
      split at h
      · rename_i he
        rw [heq _ _ _ _ _ he hx3 hy3]
        simp only [Result.andThen_ok, Bool.not_true, Bool.false_eq_true, if_false]
        exact veqCells_sound heq hx hy k (i + 1) r h
      · rename_i r' he
        cases r with
        | true => exact absurd h he
        | false =>
          rw [heq _ _ _ _ _ h hx3 hy3]
          simp
    · cases h

theorem veq_sound (s : Sim φ h w) : ∀ (d D : Nat) (t : TypeId) (x y : V) (r : Bool) (x' y' : Value), veq P h d t x y = some r → d ≤ D → VR φ x x' → VR φ y y' →
    (Op.equalIn D t x' y').run P w = .ok r w := by
  intro d
  induction d with
  | zero => intro D t x y r x' y' h; simp [veq] at h
  | succ d ih =>
    intro D t x y r x' y' hv hD hx hy
    obtain ⟨D, rfl⟩ : ∃ k, D = k + 1 := ⟨D - 1, by omega⟩
    unfold veq at hv
    split at hv
    · rename_i hu; cases hv; cases hx; cases hy; simp [Op.equalIn, run_underlying hu]
    · rename_i hu
      split at hv
      · cases hv; cases hx; cases hy; simp_all [Op.equalIn, run_underlying hu]
      · cases hv
    · rename_i hu; cases hv; cases hx; cases hy
      simp only [Op.equalIn, Sem.run_bind, run_underlying hu, Result.andThen_ok, Sem.run_pure]
      rw [beq_toListBytes, beq_bytesOf]
    · rename_i hu; cases hv; cases hx; cases hy; simp [Op.equalIn, run_underlying hu]
    · rename_i hu; cases hv; cases hx; cases hy; simp [Op.equalIn, run_underlying hu]
    · rename_i hu; cases hv; cases hx; cases hy; simp [Op.equalIn, run_underlying hu]
    · rename_i hu
      split at hv
      · rename_i n hn
        split at hv
        · cases hv
        · rename_i hnz
          cases hx with
          | ptr h1 =>
          cases hy with
          | ptr h2 =>
          simp only [Op.equalIn, Sem.run_bind, run_underlying hu, Result.andThen_ok, run_sizeOf hn, ne_eq, hnz, not_false_eq_true, if_true]
          split at hv
          · rename_i hbc
            subst hbc
            rw [h1] at h2; cases h2
            cases hv
            simp only [sameAddr, BEq.rfl, if_true, Sem.run_pure]
            congr 1
            rw [Bool.eq_iff_iff]; simp
          · rename_i hbc
            split at hv
            · rename_i hpl
              cases hv
              simp only [Bool.and_eq_true] at hpl
              obtain ⟨C1, e1, hc1⟩ := plainBlk_sound s hpl.1 h1
              obtain ⟨C2, e2, hc2⟩ := plainBlk_sound s hpl.2 h2
              refine run_sameAddr_other w ?_ hc1 hc2
              intro he
              cases he
              obtain ⟨o1, ho1, hl1⟩ := plainBlk_live hpl.1
              obtain ⟨o2, ho2, hl2⟩ := plainBlk_live hpl.2
              exact hbc (s.inj _ _ _ _ _ _ _ ho1 ho2 hl1 hl2 h1 h2)
            · cases hv
      · cases hv
    · rename_i hu; cases hv; cases hx; cases hy; simp [Op.equalIn, run_underlying hu]
    · rename_i hu; cases hv; cases hx; cases hy; simp [Op.equalIn, run_underlying hu]
    · rename_i hu; cases hv; cases hx; cases hy; simp [Op.equalIn, run_underlying hu]
    · rename_i fs xs ys hu
      split at hv
      · cases hv
      · rename_i hst
        cases hx with
        | agg hx =>
        cases hy with
        | agg hy =>
        obtain ⟨hu', hfs⟩ := underlying_struct hu
        rw [run_equalIn_struct w D t _ _ hu' (by simpa using hst), hfs]
        exact veqFields_sound (fun t x y r x' y' he hx hy => ih D t x y r x' y' he (by omega) hx hy) hx hy _ r hv
    · rename_i n e xs ys hu
      split at hv
      · rename_i sz hsz
        cases hx with
        | agg hx =>
        cases hy with
        | agg hy =>
        obtain ⟨i, hi, _⟩ := sizeO_info hsz
        rw [run_equalIn_array w D _ _ hu hi, sizeO_cellsOf hsz, List.range_eq_range']
        exact veqCells_sound (fun x y r x' y' he hx hy => ih D e x y r x' y' he (by omega) hx hy) hx hy _ _ r hv
      · cases hv
    · rename_i hu; cases hv; cases hx; cases hy; simp [Op.equalIn, run_underlying hu]
    · rename_i hu; cases hv; cases hx; cases hy; simp [Op.equalIn, run_underlying hu]
    · rename_i hu; cases hv; cases hx; cases hy; simp [Op.equalIn, run_underlying hu]
    · rename_i hu; cases hv; cases hx; cases hy; simp [Op.equalIn, run_underlying hu]
    · rename_i hu; cases hv; cases hx; cases hy; simp [Op.equalIn, run_underlying hu]
    · rename_i hu; cases hv; cases hx; cases hy; simp [Op.equalIn, run_underlying hu]
    · rename_i hu; cases hv; cases hx; cases hy; simp [Op.equalIn, run_underlying hu]
    · rename_i hu; cases hv; cases hx; cases hy <;> simp [Op.equalIn, run_underlying hu]
    · rename_i hu; cases hv; cases hx <;> cases hy <;> simp [Op.equalIn, run_underlying hu]
    · cases hv

end
end Go.Fal
namespace Go.Fal

section
variable {P : Program} {φ : Phi} {h h' : H} {w : World}

/-- what every operation's law says -/
def Good (φ : Phi) (h : H) (w : World) (R : Phi → World → Next → Prop) (h' : H) (r : Result Next) : Prop :=
  ∃ φ' w' nx, r = .ok nx w' ∧ Tr φ h w φ' h' w' ∧ Sim φ' h' w' ∧ R φ' w' nx

theorem run_eqGuard {op : BinOp} {t : TypeId} {ox oy : Operand} {x y : V} {x' y' : Value} (hx : VR φ x x') (hy : VR φ y y') (hok : eqOk P t ox oy x y = true) :
    (eqGuard op t ox oy x' y').run P w = .ok () w := by
  cases op <;> first
    | (cases hx <;> cases hy <;> first
        | rfl
        | (simp only [eqOk] at hok; cases ox <;> cases oy <;> first | rfl | (simp [isConst] at hok; done))
        | (simp only [eqOk, Bool.not_eq_true'] at hok; simp [eqGuard, run_program, hok]))
    | rfl

theorem binO_sound (s : Sim φ h w) {op : BinOp} {t : TypeId} {ox oy : Operand} {x y v : V} {x' y' : Value} (hx : VR φ x x') (hy : VR φ y y') (hv : binO P h op t ox oy x y = some v) :
    ∃ u, (do eqGuard op t ox oy x' y'; binOp op t x' y' : Sem Value).run P w = .ok u w ∧ VR φ v u := by
  unfold binO at hv
  split at hv
  · rename_i k a k' b
    cases hx; cases hy
    rw [Sem.run_bind, run_eqGuard (P := P) (φ := φ) (w := w) (.int k a) (.int k' b) rfl]
    simp only [Result.andThen_ok]
    split at hv
    · exact intop_sound hv (.inl (.inl rfl))
    · exact intop_sound hv (.inl (.inr rfl))
    · split at hv
      · exact intop_sound hv (.inr (by assumption))
      · cases hv
  · cases hx; cases hy
    rw [Sem.run_bind, run_eqGuard (P := P) (φ := φ) (w := w) (.str _) (.str _) rfl]
    simp only [Result.andThen_ok]
    exact strop_sound hv
  · rename_i n1 n2
    have key : ∀ b, eqOk P t ox oy x y = true → veq P h 40 t x y = some b → (Op.equal t x' y').run P w = .ok b w := fun b _ hb =>
      veq_sound s 40 10000 t x y b x' y' hb (by omega) hx hy
    split at hv
    · split at hv
      · rename_i hok
        split at hv
        · rename_i b hb
          cases hv
          rw [Sem.run_bind, run_eqGuard hx hy hok]
          simp only [Result.andThen_ok]
          refine ⟨.bool b, ?_, .bool b⟩
          have := key b hok hb
          cases hx <;> cases hy <;> first
            | exact absurd rfl (n1 _ _ _ _ rfl)
            | exact absurd rfl (n2 _ _ rfl)
            | (exfalso; exact n1 _ _ _ _ rfl rfl)
            | (exfalso; exact n2 _ _ rfl rfl)
            | (simp only [binOp, Sem.run_bind, this, Result.andThen_ok]; rfl)
        · cases hv
      · cases hv
    · split at hv
      · rename_i hok
        split at hv
        · rename_i b hb
          cases hv
          rw [Sem.run_bind, run_eqGuard hx hy hok]
          simp only [Result.andThen_ok]
          refine ⟨.bool (!b), ?_, .bool _⟩
          have := key b hok hb
          cases hx <;> cases hy <;> first
            | exact absurd rfl (n1 _ _ _ _ rfl)
            | exact absurd rfl (n2 _ _ rfl)
            | (exfalso; exact n1 _ _ _ _ rfl rfl)
            | (exfalso; exact n2 _ _ rfl rfl)
            | (simp only [binOp, Sem.run_bind, this, Result.andThen_ok]; rfl)
        · cases hv
      · cases hv
    · cases hv

theorem unO_sound {op : UnOp} {x v : V} {x' : Value} (hx : VR φ x x') (hv : unO op x = some v) : ∃ u, (Op.unary op x').run P w = .ok u w ∧ VR φ v u := by
  unfold unO at hv
  split at hv
  · cases hx
    simp only [intop] at hv; cases hv
    exact ⟨_, rfl, .int _ _⟩
  · cases hx
    simp only [intop] at hv; cases hv
    exact ⟨_, rfl, .int _ _⟩
  · cases hx; cases hv; exact ⟨_, rfl, .bool _⟩
  · cases hv

/-! ### new rows -/
theorem BR_ofCells {ψ : Phi} {vs : List V} {xs : Array Value} {e : TypeId} (hr : VRs ψ vs xs.toList) : BR ψ (ofCells vs) xs.size (.cells xs e) := by
  have hl := hr.length
  unfold ofCells
  refine .cells (by simp at hl; omega) (fun i v hi hv => ?_) (fun o _ => by omega) (fun _ => ⟨rfl, rfl⟩)
  simp only [cellAt, T.get_e] at hv
  rw [Nat.mod_eq_of_lt hi] at hv
  obtain ⟨x, hx, hv⟩ := hr.get hv
  exact ⟨x, by rw [← Array.getElem?_toList]; exact hx, hv⟩

theorem newRow_sound (s : Sim φ h w) (hf : φ h.next = none) {vs : List V} {xs : Array Value} (e : TypeId) (hr : VRs φ vs xs.toList) :
    (newRow e xs).run P w = .ok ⟨w.heap.size, 0, none⟩ (w.alloc (.cells xs e)) ∧
    Tr φ h w (φ.add h.next (w.heap.size, xs.size)) (h.new (ofCells vs)) (w.alloc (.cells xs e)) ∧ Sim (φ.add h.next (w.heap.size, xs.size)) (h.new (ofCells vs)) (w.alloc (.cells xs e)) := by
  have := new_block s hf (ofCells vs) (.cells xs e) xs.size rfl (BR_ofCells (hr.mono (Phi.le_add _ hf)))
  exact ⟨by simp [newRow], this.1, this.2⟩

theorem newCells_sound (s : Sim φ h w) {vs : List V} {xs : Array Value} (e : TypeId) (hr : VRs φ vs xs.toList) {v : V} (hn : newCells h vs = some (v, h')) (hf : φ h.next = none) :
    ∃ φ' w' a, (newRow e xs).run P w = .ok a w' ∧ Tr φ h w φ' h' w' ∧ Sim φ' h' w' ∧ VR φ' v (.pointer (some a)) := by
  unfold newCells at hn
  split at hn
  · cases hn
    obtain ⟨h1, h2, h3⟩ := newRow_sound (P := P) s hf e hr
    exact ⟨_, _, _, h1, h2, h3, .ptr (Phi.add_same _ _ _)⟩
  · cases hn

theorem loadO_sound (s : Sim φ h w) {t : TypeId} {x v : V} {x' : Value} (hx : VR φ x x') (hv : loadO P h t x = some v) :
    ∃ u, (Instr.loadAt t x').run P w = .ok u w ∧ VR φ v u := by
  unfold loadO at hv
  split at hv
  · rename_i b off
    cases hx with
    | @ptr _ _ B N hp =>
    split at hv
    · rename_i ha
      split at hv
      · rename_i n hn
        split at hv
        · rename_i vs hl
          split at hv
          · split at hv
            · cases hv
              obtain ⟨xs, hlen, hr, hc⟩ := loadN_sound s hp n off vs hl
              refine ⟨.agg ⟨xs⟩, ?_, .agg hr⟩
              simp only [Instr.loadAt, Instr.sureAddr, loadVar, Sem.run_bind, Sem.run_pure, Result.andThen_ok, run_isAgg ha, if_true, run_sizeOf hn]
              rw [run_loadCells' P w B off n xs hlen hc]
              rfl
            · cases hv
          · cases hv
        · cases hv
      · cases hv
    · rename_i ha
      obtain ⟨y, hy, hvy⟩ := load1_sound s hv hp
      refine ⟨y, ?_, hvy⟩
      simp only [Instr.loadAt, Instr.sureAddr, loadVar, Sem.run_bind, Sem.run_pure, Result.andThen_ok, run_isAgg ha, Bool.false_eq_true, if_false]
      rw [run_load, hy]
    · cases hv
  · cases hv

theorem storeO_sound (s : Sim φ h w) {t : TypeId} {x v : V} {x' v' : Value} (hx : VR φ x x') (hvv : VR φ v v') (hs : storeO P h t x v = some h') :
    ∃ w', (Instr.storeAt t x' v').run P w = .ok () w' ∧ Tr φ h w φ h' w' ∧ Sim φ h' w' := by
  unfold storeO at hs
  split at hs
  · rename_i b off
    cases hx with
    | @ptr _ _ B N hp =>
    split at hs
    · rename_i n hn
      split at hs
      · rename_i hlen
        have hc := hvv.cells
        have hl := hc.length
        obtain ⟨w', h1, h2, h3, _⟩ := storeN_sound (P := P) hp off v.cells v'.cells.toList 0 h h' w s (by simpa using hs) hc
        refine ⟨w', ?_, h2, h3⟩
        simp only [Instr.storeAt, Instr.sureAddr, storeVar, Sem.run_bind, Sem.run_pure, Result.andThen_ok, run_sizeOf hn]
        rw [if_neg (by simp at hl; omega)]
        exact h1
      · cases hs
    · cases hs
  · cases hs

end
end Go.Fal
namespace Go.Fal

section
variable {P : Program} {φ : Phi} {h h' : H} {w : World}

/-! ### build -/
theorem splice_get {α : Type} (l m : List α) (o : Nat) (hl : o + m.length ≤ l.length) (i : Nat) :
    (l.take o ++ m ++ l.drop (o + m.length))[i]? = if o ≤ i ∧ i < o + m.length then m[i - o]? else l[i]? := by
  have ht : (l.take o).length = o := by simp; omega
  by_cases h1 : i < o
  · rw [List.append_assoc, List.getElem?_append_left (by omega), List.getElem?_take, if_pos h1, if_neg (by omega)]
  · by_cases h2 : i < o + m.length
    · rw [List.append_assoc, List.getElem?_append_right (by omega), List.getElem?_append_left (by omega), ht, if_pos (by omega)]
    · rw [List.getElem?_append_right (by simp; omega), List.getElem?_drop, if_neg (by omega)]
      congr 1
      simp; omega

theorem splice_length {α : Type} (l m : List α) (o : Nat) (hl : o + m.length ≤ l.length) : (l.take o ++ m ++ l.drop (o + m.length)).length = l.length := by
  simp; omega

theorem foldl_set_get (off : Nat) (xs : List Value) : ∀ (k : Nat) (cs : Array Value) (i : Nat), off + k + xs.length ≤ cs.size →
    ((xs.zipIdx k).foldl (fun (cs : Array Value) (p : Value × Nat) => cs.setIfInBounds (off + p.2) p.1) cs)[i]? = if off + k ≤ i ∧ i < off + k + xs.length then xs[i - (off + k)]? else cs[i]? := by
  induction xs with
  | nil => intro k cs i _; simp only [List.zipIdx_nil, List.foldl_nil, List.length_nil]; rw [if_neg (by omega)]
  | cons x xs ih =>
    intro k cs i hl
    simp only [List.length_cons] at hl
    simp only [List.zipIdx_cons, List.foldl_cons, List.length_cons]
    rw [ih (k + 1) _ i (by simp; omega), Array.getElem?_setIfInBounds]
    by_cases h1 : i = off + k
    · subst h1
      rw [if_neg (by omega), if_pos rfl, if_pos (by omega), if_pos (by omega)]
      simp
    · by_cases h2 : off + k ≤ i ∧ i < off + k + (xs.length + 1)
      · rw [if_pos (by omega), if_pos h2]
        obtain ⟨d, rfl⟩ : ∃ d, i = off + k + 1 + d := ⟨i - (off + k + 1), by omega⟩
        rw [show off + k + 1 + d - (off + (k + 1)) = d by omega, show off + k + 1 + d - (off + k) = d + 1 by omega]; simp
      · rw [if_neg (by omega), if_neg (by omega), if_neg h2]

theorem foldl_set_size (off : Nat) (xs : List Value) : ∀ (k : Nat) (cs : Array Value),
    ((xs.zipIdx k).foldl (fun (cs : Array Value) (p : Value × Nat) => cs.setIfInBounds (off + p.2) p.1) cs).size = cs.size := by
  induction xs with
  | nil => intro k cs; rfl
  | cons x xs ih => intro k cs; simp only [List.zipIdx_cons, List.foldl_cons]; rw [ih]; simp

theorem foldl_set_cells (xs : List Value) (off : Nat) (cs : Array Value) (hl : off + xs.length ≤ cs.size) :
    ((xs.zipIdx 0).foldl (fun (cs : Array Value) (p : Value × Nat) => cs.setIfInBounds (off + p.2) p.1) cs).toList = cs.toList.take off ++ xs ++ cs.toList.drop (off + xs.length) := by
  apply List.ext_getElem?
  intro i
  rw [splice_get _ _ _ (by simpa using hl), Array.getElem?_toList, foldl_set_get off xs 0 cs i (by omega)]
  simp

theorem fillO_sound {place place' : Nat → Option (Nat × Nat)} (hpl : ∀ i p, place i = some p → place' i = some p) : ∀ (ps : List (Nat × V)) (ps' : List (Nat × Value)) (cs vs : List V) (cs' : Array Value),
    ps.map (·.1) = ps'.map (·.1) → VRs φ (ps.map (·.2)) (ps'.map (·.2)) → VRs φ cs cs'.toList → fillO place cs ps = some vs → ∃ xs, Instr.fill place' cs' ps' = some xs ∧ VRs φ vs xs.toList
  | [], [], cs, vs, cs', _, _, hc, h => by simp only [fillO, Option.some.injEq] at h; subst h; exact ⟨cs', rfl, hc⟩
  | [], _ :: _, _, _, _, h, _, _, _ => by simp at h
  | _ :: _, [], _, _, _, h, _, _, _ => by simp at h
  | (i, v) :: ps, (i', v') :: ps', cs, vs, cs', hi, hr, hc, h => by
    simp only [List.map_cons, List.cons.injEq] at hi hr
    obtain ⟨rfl, hi⟩ := hi
    cases hr with
    | cons hv hr =>
    simp only [fillO] at h
    split at h
    · cases h
    · rename_i off size hp
      split at h
      · rename_i hsz
        obtain ⟨hsz, hle⟩ := hsz
        have hcl := hv.cells
        have hcl' := hcl.length
        have hl := hc.length
        simp at hcl' hl
        simp only [Instr.fill, hpl _ _ hp]
        rw [if_neg (by simp; omega)]
        refine fillO_sound hpl ps ps' _ vs _ hi hr ?_ h
        have := foldl_set_cells v'.cells.toList off cs' (by simp; omega)
        have e : (v'.cells.zipIdx.foldl (fun cs (x : Value × Nat) => match x with | (c, j) => cs.setIfInBounds (off + j) c) cs').toList = cs'.toList.take off ++ v'.cells.toList ++ cs'.toList.drop (off + v'.cells.toList.length) := by
          rw [← this, ← Array.foldl_toList, Array.toList_zipIdx]
        have e2 : v'.cells.toList.length = v.cells.length := by simp [hcl']
        rw [e, e2]
        exact ((hc.take off).append hcl).append (hc.drop _)
      · cases h

theorem evParts_sound {ng : Nat} (hg : Glob ng φ) {tm : T V} {a : Act} (he : EnvR φ tm a.tmps) {l : List (Nat × Operand)} {ps : List (Nat × V)} (hp : evParts ng tm l = some ps) :
    ps.map (·.1) = (l.map fun p => (p.1, a.eval p.2)).map (·.1) ∧ VRs φ (ps.map (·.2)) ((l.map fun p => (p.1, a.eval p.2)).map (·.2)) := by
  induction l generalizing ps with
  | nil => simp only [evParts, mapO, Option.some.injEq] at hp; subst hp; exact ⟨rfl, .nil⟩
  | cons q l ih =>
    simp only [evParts, mapO] at hp
    split at hp
    · cases hp
    · rename_i p hq
      split at hp
      · cases hp
      · rename_i ps' hps
        cases hp
        split at hq
        · rename_i v hv
          cases hq
          obtain ⟨h1, h2⟩ := ih hps
          refine ⟨congrArg (q.1 :: ·) h1, .cons (ev_sound hg he hv) h2⟩
        · cases hq

theorem mapM_places (fs : List Field) (pl : List (Nat × Nat)) (hp : placesO P fs = some pl) :
    (fs.mapM (fun f => do pure (f.offset, ← sizeOf f.type) : Field → Sem (Nat × Nat))).run P w = .ok pl w := by
  induction fs generalizing pl with
  | nil => simp only [placesO, mapO, Option.some.injEq] at hp; subst hp; simp
  | cons f fs ih =>
    simp only [placesO, mapO] at hp
    split at hp
    · cases hp
    · rename_i q hq
      split at hp
      · cases hp
      · rename_i qs hqs
        cases hp
        split at hq
        · rename_i n hn
          cases hq
          simp only [List.mapM_cons, Sem.run_bind, run_sizeOf hn, Result.andThen_ok, Sem.run_pure]
          rw [ih qs hqs]
          rfl
        · cases hq

theorem buildO_sound {t : TypeId} {ps : List (Nat × V)} {ps' : Array (Nat × Value)} (h1 : ps.map (·.1) = ps'.toList.map (·.1)) (h2 : VRs φ (ps.map (·.2)) (ps'.toList.map (·.2))) {v : V}
    (hv : buildO P t ps = some v) : ∃ u, (Instr.build t ps').run P w = .ok u w ∧ VR φ v u := by
  unfold buildO at hv
  split at hv
  · cases hv
  · rename_i z hz
    obtain ⟨z', hz1, hz2, _⟩ := run_zeroValue (w := w) hz φ
    split at hv
    · rename_i fs hu
      split at hv
      · rename_i pl hpl
        split at hv
        · rename_i cs hcs
          cases hv
          obtain ⟨xs, hx1, hx2⟩ := fillO_sound (place' := (pl.toArray[·]?)) (fun i p hi => by simpa using hi) ps ps'.toList _ cs z'.cells h1 h2 hz2.cells hcs
          refine ⟨.agg xs, ?_, .agg hx2⟩
          simp only [Instr.build, Sem.run_bind, hz1, Result.andThen_ok, run_underlying hu]
          have := mapM_places (w := w) fs.toList pl hpl
          rw [Array.mapM_eq_mapM_toList]
          simp only [Sem.run_map]
          rw [this]
          simp only [Result.andThen_ok]
          rw [hx1]
          rfl
        · cases hv
      · cases hv
    · rename_i n e hu
      split at hv
      · rename_i k hk
        split at hv
        · rename_i cs hcs
          cases hv
          obtain ⟨xs, hx1, hx2⟩ := fillO_sound (place' := fun i => some (i * k, k)) (fun i p hi => hi) ps ps'.toList _ cs z'.cells h1 h2 hz2.cells hcs
          refine ⟨.agg xs, ?_, .agg hx2⟩
          simp only [Instr.build, Sem.run_bind, hz1, Result.andThen_ok, run_underlying hu, run_sizeOf hk]
          rw [hx1]
          rfl
        · cases hv
      · cases hv
    · cases hv

end
end Go.Fal
namespace Go.Fal

section
variable {P : Program} {φ : Phi} {h h' : H} {w : World}

theorem rep_VRs {z : List V} {z' : List Value} (hz : VRs φ z z') : ∀ n, ∃ xs, VRs φ (rep z n) xs ∧ xs.length = n * z'.length ∧ ∀ i, i < n * z'.length → xs[i]? = z'[i % z'.length]?
  | 0 => ⟨[], .nil, by simp, fun i hi => by simp at hi⟩
  | n + 1 => by
    obtain ⟨xs, h1, h2, h3⟩ := rep_VRs hz n
    refine ⟨z' ++ xs, hz.append h1, by simp [h2, Nat.add_mul]; omega, fun i hi => ?_⟩
    rw [Nat.add_mul, Nat.one_mul] at hi
    by_cases hlt : i < z'.length
    · rw [List.getElem?_append_left hlt, Nat.mod_eq_of_lt hlt]
    · rw [List.getElem?_append_right (by omega), h3 (i - z'.length) (by omega)]
      congr 1
      exact (Nat.mod_eq_sub_mod (by omega)).symm

theorem zeroCells_toList (z : Array Value) (n : Nat) : ∀ {xs : List Value}, xs.length = n * z.size → (∀ i, i < n * z.size → xs[i]? = z.toList[i % z.size]?) →
    ((Array.range (n * z.size)).map (z[· % z.size]!)).toList = xs := by
  intro xs hl hx
  apply List.ext_getElem?
  intro i
  simp only [Array.toList_map, Array.toList_range, List.getElem?_map]
  by_cases hi : i < n * z.size
  · rw [List.getElem?_range hi, hx i hi]
    have hp : 0 < z.size := by
      rcases Nat.eq_zero_or_pos z.size with h0 | h0
      · rw [h0] at hi; simp at hi
      · exact h0
    have := Nat.mod_lt i hp
    simp [this]
  · rw [List.getElem?_eq_none (by simp; omega), List.getElem?_eq_none (by omega)]; rfl

theorem range0 {N : Nat} (h0 : N = 0) (f g : Nat → Value) : (Array.range N).map f = (Array.range N).map g := by subst h0; simp

theorem buildSliceO_sound (s : Sim φ h w) {t : TypeId} {len : Nat} {ps : List (Nat × V)} {ps' : Array (Nat × Value)} (h1 : ps.map (·.1) = ps'.toList.map (·.1))
    (h2 : VRs φ (ps.map (·.2)) (ps'.toList.map (·.2))) {v : V} (hv : buildSliceO P h t len ps = some (v, h')) (hf : φ h.next = none) :
    ∃ φ' w' x, (Instr.buildSlice t len ps').run P w = .ok x w' ∧ Tr φ h w φ' h' w' ∧ Sim φ' h' w' ∧ VR φ' v x := by
  unfold buildSliceO at hv
  split at hv
  · rename_i e hu
    split at hv
    · rename_i n hn
      split at hv
      · rename_i hle
        split at hv
        · rename_i z hz
          split at hv
          · rename_i hzl
            split at hv
            · rename_i cs hcs
              split at hv
              · cases hv
                obtain ⟨z', hz1, hz2, _⟩ := run_zeroValue (w := w) hz φ
                have hzc := hz2.cells
                have hzl' := hzc.length
                simp at hzl'
                obtain ⟨xs, hr, hxl, hx⟩ := rep_VRs hzc len
                simp only [Array.length_toList] at hxl hx
                have hsz : z'.cells.size = n := by omega
                have e1 : ((Array.range (len * n)).map (z'.cells[· % z'.cells.size]!)).toList = xs := by rw [← hsz]; exact zeroCells_toList z'.cells len hxl hx
                obtain ⟨ys, hy1, hy2⟩ := fillO_sound (place' := fun i => some (i * n, n)) (fun i p hi => hi) ps ps'.toList _ cs ((Array.range (len * n)).map (z'.cells[· % z'.cells.size]!)) h1 h2 (by rw [e1]; exact hr) hcs
                obtain ⟨hw1, hw2, hw3⟩ := newRow_sound (P := P) s hf e hy2
                refine ⟨_, _, .slice (some ⟨w.heap.size, 0, none⟩) len len, ?_, hw2, hw3, ?_⟩
                · simp only [Instr.buildSlice, Sem.run_bind, run_underlying hu, Result.andThen_ok, run_sizeOf hn]
                  rw [if_neg (by omega)]
                  by_cases h0 : len * n = 0
                  · rw [if_pos h0]
                    simp only [Sem.run_bind, Sem.run_pure, Result.andThen_ok]
                    rw [range0 h0 _ (z'.cells[· % z'.cells.size]!), hy1]
                    simp only [hw1, Result.andThen_ok, Sem.run_pure, Sem.run_bind]
                  · simp only [h0, if_false, Sem.run_bind, hz1, Result.andThen_ok, Sem.run_pure]
                    rw [hy1]
                    simp only [hw1, Result.andThen_ok, Sem.run_pure, Sem.run_bind]
                · have hl := hy2.length
                  simp only [Array.length_toList] at hl
                  have hfl : cs.length = (rep z.cells len).length := by
                    clear hy1 hy2 hl hw1 hw2 hw3 e1
                    revert hcs
                    generalize rep z.cells len = c0
                    clear h1 h2 hr
                    induction ps generalizing c0 with
                    | nil => intro hcs; simp only [fillO, Option.some.injEq] at hcs; rw [hcs]
                    | cons p ps ih =>
                      intro hcs
                      simp only [fillO] at hcs
                      split at hcs
                      · rename_i hb
                        rw [ih _ hcs, splice_length _ _ _ hb.2]
                      · cases hcs
                  have hrl := hr.length
                  refine .slice (Phi.add_same _ _ _) (Nat.le_refl _) (Nat.le_refl _) (fun _ => rfl) (fun _ => rfl) ?_
                  rw [hsz] at hxl
                  omega
              · cases hv
            · cases hv
          · cases hv
        · cases hv
      · cases hv
    · cases hv
  · cases hv

theorem wrap_small (n : Int) (h0 : 0 ≤ n) (h1 : n ≤ 1048576) : IntKind.i64.wrap n = n := IntWalk.i64_in _ (by omega)

theorem makeSliceO_sound (s : Sim φ h w) {t : TypeId} {l c : V} {l' c' : Value} (hl : VR φ l l') (hc : VR φ c c') {v : V} (hv : makeSliceO P h t l c = some (v, h')) (hf : φ h.next = none) :
    ∃ φ' w' x, (Instr.makeSlice t l' c').run P w = .ok x w' ∧ Tr φ h w φ' h' w' ∧ Sim φ' h' w' ∧ VR φ' v x := by
  unfold makeSliceO at hv
  split at hv
  · rename_i e k l k2 c hu
    cases hl; cases hc
    split at hv
    · rename_i i hi
      split at hv
      · rename_i z hz
        split at hv
        · rename_i hb
          obtain ⟨hl0, hlc, hcm, hbm, hzl, hzp⟩ := hb
          cases hv
          obtain ⟨z', hz1, hz2, _⟩ := run_zeroValue (w := w) hz φ
          have hzc := hz2.cells
          have hzl' := hzc.length
          simp only [Array.length_toList] at hzl'
          have hws : z'.cells.size = i.size := by omega
          have hsz : sizeO P e = some i.size := by simp [sizeO, hi]
          have hwl := wrap_small l hl0 (by omega)
          have hwc := wrap_small c (by omega) hcm
          let C : Array Value := (Array.range (c.toNat * i.size)).map (z'.cells[· % z'.cells.size]!)
          have hCs : C.size = c.toNat * i.size := by simp [C]
          have hbl : BR (φ.add h.next (w.heap.size, C.size)) (.cells true true (c.toNat * i.size) z.cells .e) C.size (.cells C e (0, 0)) := by
            refine .cells (by omega) (fun j u hj hu => ?_) (fun o _ => by omega) (fun _ => ⟨rfl, rfl⟩)
            simp only [cellAt, T.get_e] at hu
            obtain ⟨x, hx, hvx⟩ := hzc.get hu
            refine ⟨x, ?_, hvx.mono (Phi.le_add _ hf)⟩
            have hp : j % z'.cells.size < z'.cells.size := Nat.mod_lt _ (by
              rcases Nat.eq_zero_or_pos z'.cells.size with h0 | h0
              · rw [hws] at h0; rw [h0] at hj; simp at hj
              · exact h0)
            rw [hzl, ← hws] at hx
            simp only [C, Array.getElem?_map]
            rw [Array.getElem?_range, if_pos hj]
            simp only [Option.map_some]
            rw [Array.getElem?_toList, Array.getElem?_eq_getElem hp] at hx
            simp only [Option.some.injEq] at hx
            rw [← hx]; simp [hp]
          have hnb := new_block s hf (.cells true true (c.toNat * i.size) z.cells .e) (.cells C e (0, 0)) C.size rfl hbl
          refine ⟨_, _, .slice (some ⟨w.heap.size, 0, none⟩) l.toNat c.toNat, ?_, hnb.1, hnb.2, ?_⟩
          · have hby : (i.bytes : Int) * c ≤ 1048576 * 1048576 := by
              have h1 : (i.bytes : Int) ≤ 1048576 := by omega
              have h2 : (0 : Int) ≤ i.bytes := by omega
              calc (i.bytes : Int) * c ≤ i.bytes * 1048576 := Int.mul_le_mul_of_nonneg_left hcm h2
                _ ≤ 1048576 * 1048576 := by omega
            simp only [Instr.makeSlice, Sem.run_bind, run_underlying hu, Result.andThen_ok, asInt, asIntOf, Sem.run_pure, run_typeInfo hi, hwl, hwc]
            have hcond : ((decide (c < 0) || decide ((i.bytes : Int) * c > 2 ^ 48)) || decide (l < 0) || decide (l > c)) = false := by
              simp only [Bool.or_eq_false_iff, decide_eq_false_iff_not]
              omega
            have hbase : (newRow e C).run P w = .ok ⟨w.heap.size, 0, none⟩ (w.alloc (.cells C e)) := by simp [newRow]
            simp only [hcond, Bool.false_eq_true, if_false, Sem.run_bind, Result.andThen_ok, run_askRoom, run_sizeOf hsz]
            by_cases h0 : c.toNat * i.size = 0
            · rw [if_pos h0]
              simp only [Sem.run_bind, Sem.run_pure, Result.andThen_ok]
              rw [range0 h0 _ (z'.cells[· % z'.cells.size]!), hbase]
              simp only [Result.andThen_ok]
            · simp only [h0, if_false, Sem.run_bind, hz1, Result.andThen_ok, Sem.run_pure]
              rw [hbase]
              simp only [Result.andThen_ok]
          · refine .slice (Phi.add_same _ _ _) (by omega) (Nat.le_refl _) (fun _ => rfl) (fun _ => rfl) (by rw [hCs]; omega)
        · cases hv
      · cases hv
    · cases hv
  · cases hv

end
end Go.Fal
namespace Go.Fal

section
variable {P : Program} {φ : Phi} {h h' : H} {w : World}

theorem fieldAddrO_sound {t : TypeId} {x v : V} {x' : Value} {f : Nat} (hx : VR φ x x') (hv : fieldAddrO P t x f = some v) :
    ∃ u, (Instr.fieldAt t x' f).run P w = .ok u w ∧ VR φ v u := by
  unfold fieldAddrO at hv
  split at hv
  · rename_i fs b off hu
    split at hv
    · rename_i g hg
      split at hv
      · rename_i n hn
        split at hv
        · cases hv
        · rename_i hnz
          cases hv
          cases hx with
          | @ptr _ _ B N hp =>
          refine ⟨.pointer (some ⟨B, off + g.offset, none⟩), ?_, .ptr hp⟩
          simp only [Instr.fieldAt, Sem.run_bind, run_underlying hu, Result.andThen_ok, hg, Instr.sureAddr, Sem.run_pure, fieldPlace, run_sizeOf hn, hnz, if_false, addr_add]
      · cases hv
    · cases hv
  · cases hv

theorem fieldO_sound {t : TypeId} {x v : V} {x' : Value} {f : Nat} (hx : VR φ x x') (hv : fieldO P t x f = some v) :
    ∃ u, (Instr.field t x' f).run P w = .ok u w ∧ VR φ v u := by
  unfold fieldO at hv
  split at hv
  · rename_i fs cs hu
    split at hv
    · rename_i g hg
      cases hx with
      | agg hr =>
      obtain ⟨u, h1, h2⟩ := run_part (w := w) hv hr
      refine ⟨u, ?_, h2⟩
      simp only [Instr.field, Sem.run_bind, run_underlying hu, Result.andThen_ok, hg, asAgg, Sem.run_pure, h1]
    · cases hv
  · cases hv

theorem asNat_sound {v : V} {v' : Value} {n : Nat} (hv : VR φ v v') (hn : asNat v = some n) : ∃ k, v' = .int k (n : Int) := by
  unfold asNat at hn
  split at hn
  · split at hn
    · rename_i h0
      cases hn; cases hv
      exact ⟨_, by rw [Int.toNat_of_nonneg h0]⟩
    · cases hn
  · cases hn

theorem indexAddrO_sound {t : TypeId} {x ix v : V} {x' ix' : Value} (hx : VR φ x x') (hi : VR φ ix ix') (hv : indexAddrO P t x ix = some v) :
    ∃ u, (Instr.indexAt t x' ix').run P w = .ok u w ∧ VR φ v u := by
  unfold indexAddrO at hv
  split at hv
  · cases hv
  · rename_i i hi0
    obtain ⟨k, rfl⟩ := asNat_sound hi hi0
    split at hv
    · rename_i e b off len cap es ex hu
      split at hv
      · rename_i hlt
        split at hv
        · rename_i n hn
          cases hv
          cases hx with
          | @slice _ _ _ _ _ _ B N o' cap' hp h1 h2 h3 h4 h5 =>
          obtain rfl := h4 (by omega)
          refine ⟨.pointer (some ⟨B, o' + i * n, none⟩), ?_, .ptr hp⟩
          simp only [Instr.indexAt, Sem.run_bind, run_underlying hu, Result.andThen_ok, asIntOf, Sem.run_pure]
          have hb : (0 ≤ (i : Int) ∧ (i : Int) < (len : Int)) := by omega
          simp only [hb, and_self, if_true, Sem.run_bind, run_sizeOf hn, Result.andThen_ok, Sem.run_pure, Int.toNat_natCast, addr_add]
        · cases hv
      · cases hv
    · rename_i len e b off hu
      split at hv
      · rename_i hlt
        split at hv
        · rename_i n hn
          cases hv
          cases hx with
          | @ptr _ _ B N hp =>
          refine ⟨.pointer (some ⟨B, off + i * n, none⟩), ?_, .ptr hp⟩
          simp only [Instr.indexAt, Sem.run_bind, run_underlying hu, Result.andThen_ok, asIntOf, Sem.run_pure, Instr.sureAddr]
          have hb : (0 ≤ (i : Int) ∧ (i : Int) < (len : Int)) := by omega
          simp only [hb, and_self, if_true, Sem.run_bind, run_sizeOf hn, Result.andThen_ok, Sem.run_pure, Int.toNat_natCast, addr_add]
        · cases hv
      · cases hv
    · cases hv

theorem indexO_sound {t : TypeId} {x ix v : V} {x' ix' : Value} (hx : VR φ x x') (hi : VR φ ix ix') (hv : indexO P t x ix = some v) :
    ∃ u, (Instr.index t x' ix').run P w = .ok u w ∧ VR φ v u := by
  unfold indexO at hv
  split at hv
  · cases hv
  · rename_i i hi0
    obtain ⟨k, rfl⟩ := asNat_sound hi hi0
    split at hv
    · rename_i s hu
      split at hv
      · rename_i c hc
        cases hv
        cases hx with
        | str s =>
        rw [bytesOf_get, Option.map_eq_some_iff] at hc
        obtain ⟨b, hb, rfl⟩ := hc
        refine ⟨.int .u8 b.toNat, ?_, .int _ _⟩
        have h0 : (0 : Int) ≤ (i : Int) := by omega
        simp only [Instr.index, Sem.run_bind, run_underlying hu, Result.andThen_ok, asIntOf, Sem.run_pure, h0, if_true, Int.toNat_natCast, hb]
      · cases hv
    · rename_i len e cs hu
      split at hv
      · rename_i hlt
        split at hv
        · rename_i n hn
          cases hx with
          | agg hr =>
          obtain ⟨u, h1, h2⟩ := run_part (w := w) hv hr
          refine ⟨u, ?_, h2⟩
          have hb : (0 ≤ (i : Int) ∧ (i : Int) < (len : Int)) := by omega
          simp only [Instr.index, Sem.run_bind, run_underlying hu, Result.andThen_ok, asIntOf, Sem.run_pure, hb, and_self, if_true, run_sizeOf hn, Int.toNat_natCast, h1]
        · cases hv
      · cases hv
    · cases hv

/-! ### slices -/
def OR (φ : Phi) : Option V → Option Value → Prop
  | none, none => True
  | some v, some x => VR φ v x
  | _, _ => False

theorem sliceBound_sound {v : V} {v' : Value} {n y : Nat} {code : BoundsCode} (hv : VR φ v v') (hn : asNat v = some n) (hy : n ≤ y) : (Instr.sliceBound v' y code).run P w = .ok n w := by
  obtain ⟨k, rfl⟩ := asNat_sound hv hn
  have hb : (0 ≤ (n : Int) ∧ (n : Int) ≤ (y : Int)) := by omega
  simp only [Instr.sliceBound, Sem.run_bind, asIntOf, Sem.run_pure, Result.andThen_ok, hb, and_self, if_true, Int.toNat_natCast]

/-- the bounds, where the whole is not known but for a lower bound -/
theorem sliceBounds_sound {isS : Bool} {len cap cap' : Nat} {lo hi mx : Option V} {lo' hi' mx' : Option Value} (hlo : OR φ lo lo') (hhi : OR φ hi hi') (hmx : OR φ mx mx') {m u l : Nat}
    (hm : boundO cap mx = some m) (hu : boundO len hi = some u) (hl : boundO 0 lo = some l) (h1 : l ≤ u) (h2 : u ≤ m) (h3 : m ≤ cap) (hc : cap ≤ cap') (hmh : mx.isSome = true → hi.isSome = true) :
    (Instr.sliceBounds isS len cap' lo' hi' mx').run P w = .ok (l, u, if mx.isSome then m else cap') w := by
  unfold Instr.sliceBounds
  cases mx <;> cases mx' <;> simp only [OR] at hmx <;> cases hi <;> cases hi' <;> simp only [OR] at hhi <;> cases lo <;> cases lo' <;> simp only [OR] at hlo <;>
    simp only [boundO, Option.some.injEq] at hm hu hl <;> (try subst hm) <;> (try subst hu) <;> (try subst hl) <;> (try (simp at hmh; done)) <;>
    simp only [Sem.run_bind, Sem.run_pure, Result.andThen_ok, Option.isSome_none, Option.isSome_some, Bool.false_eq_true, if_false, if_true]
  case none.none.none.none.some.some => rw [sliceBound_sound hlo hl (by omega)]; rfl
  case none.none.some.some.none.none => rw [sliceBound_sound hhi hu (by omega)]; rfl
  case none.none.some.some.some.some =>
    rw [sliceBound_sound hhi hu (by omega)]; simp only [Result.andThen_ok]
    rw [sliceBound_sound hlo hl (by omega)]; rfl
  case some.some.some.some.none.none =>
    rw [sliceBound_sound hmx hm (by omega)]; simp only [Result.andThen_ok]
    rw [sliceBound_sound hhi hu (by omega)]; rfl
  case some.some.some.some.some.some =>
    rw [sliceBound_sound hmx hm (by omega)]; simp only [Result.andThen_ok]
    rw [sliceBound_sound hhi hu (by omega)]; simp only [Result.andThen_ok]
    rw [sliceBound_sound hlo hl (by omega)]; rfl

end
end Go.Fal
namespace Go.Fal

section
variable {P : Program} {φ : Phi} {h h' : H} {w : World}

theorem mxhi {mx hi : Option V} (hb : (!mx.isSome || hi.isSome) = true) : mx.isSome = true → hi.isSome = true := by
  intro h; rw [h] at hb; simpa using hb

theorem arr_sound (s : Sim φ h w) {lo hi mx : Option V} {lo' hi' mx' : Option Value} (hlo : OR φ lo lo') (hhi : OR φ hi hi') (hmx : OR φ mx mx') {k e b off B N : Nat} {v : V}
    (hp : φ b = some (B, N)) (hv : sliceO.arr P h lo hi mx k e b off = some v) :
    ∃ l u m n, (Instr.sliceBounds false k k lo' hi' mx').run P w = .ok (l, u, m) w ∧ sizeO P e = some n ∧
      VR φ v (.slice (some (if m = l then ⟨B, off, none⟩ else ⟨B, off + l * n, none⟩)) (u - l) (m - l)) := by
  unfold sliceO.arr at hv
  split at hv
  · rename_i n m u l hn hm hu hl
    split at hv
    · rename_i hb
      obtain ⟨h1, h2, h3, h4⟩ := hb
      split at hv
      · rename_i nn z t hg
        split at hv
        · rename_i hle
          cases hv
          obtain ⟨B', M, x, hq, hh, hbr⟩ := s.blk b _ hg rfl
          rw [hp] at hq; cases hq
          cases hbr with
          | cells g1 g2 g3 g4 =>
          have hsb := sliceBounds_sound (P := P) (w := w) (isS := false) (len := k) hlo hhi hmx hm hu hl h1 h2 h3 (Nat.le_refl k) (mxhi h4)
          have hmm : (if mx.isSome then m else k) = m := by
            cases mx with
            | none => simp only [boundO, Option.some.injEq] at hm; simp [hm]
            | some _ => rfl
          rw [hmm] at hsb
          refine ⟨l, u, m, n, hsb, hn, ?_⟩
          have hmn : m * n ≤ k * n := Nat.mul_le_mul_right n h3
          have hsub : (m - l) * n = m * n - l * n := Nat.sub_mul m l n
          have hln : l * n ≤ m * n := Nat.mul_le_mul_right n (by omega)
          by_cases hml : m = l
          · rw [if_pos hml]
            exact .slice hp (by omega) (by omega) (fun _ => rfl) (fun h0 => absurd (by omega) h0) (by rw [hml, Nat.sub_self, Nat.zero_mul]; omega)
          · rw [if_neg hml]
            exact .slice hp (by omega) (by omega) (fun _ => rfl) (fun _ => rfl) (by omega)
        · cases hv
      · cases hv
    · cases hv
  · cases hv

theorem sliceO_sound (s : Sim φ h w) {t : TypeId} {x v : V} {x' : Value} {lo hi mx : Option V} {lo' hi' mx' : Option Value} (hx : VR φ x x') (hlo : OR φ lo lo') (hhi : OR φ hi hi') (hmx : OR φ mx mx')
    (hv : sliceO P h t x lo hi mx = some v) : ∃ u, (Instr.sliceAt t x' lo' hi' mx').run P w = .ok u w ∧ VR φ v u := by
  unfold sliceO at hv
  split at hv
  · rename_i s' hu
    split at hv
    · cases hv
    · split at hv
      · rename_i u l hbu hbl
        split at hv
        · rename_i hb
          cases hv
          cases hx with
          | str s₀ =>
          have hmx' : mx' = none := by cases mx' with | none => rfl | some _ => simp [OR] at hmx
          subst hmx'
          rw [bytesOf_length] at hbu hb
          have hsb := sliceBounds_sound (P := P) (w := w) (isS := false) (len := s₀.size) (cap := s₀.size) (cap' := s₀.size) hlo hhi hmx (m := s₀.size) rfl hbu hbl hb.1 (by omega) (Nat.le_refl _) (Nat.le_refl _) (by simp)
          refine ⟨.string (s₀.extract l u), ?_, by rw [← bytesOf_extract]; exact .str _⟩
          simp only [Instr.sliceAt, Instr.slice, Sem.run_bind, run_underlying hu, Result.andThen_ok, Option.isSome_none, Bool.false_eq_true, if_false, hsb]
          rfl
        · cases hv
      · cases hv
  · rename_i e hu
    split at hv
    · rename_i hb
      split at hv
      · rename_i n hn hm hbu hbl
        cases hv
        cases hx
        have hsb := sliceBounds_sound (P := P) (w := w) (isS := true) (len := 0) (cap := 0) (cap' := 0) hlo hhi hmx hm hbu hbl (Nat.le_refl _) (Nat.le_refl _) (Nat.le_refl _) (Nat.le_refl _) (mxhi hb)
        have : (if mx.isSome then 0 else 0 : Nat) = 0 := by split <;> rfl
        rw [this] at hsb
        refine ⟨.slice none 0 0, ?_, .nils⟩
        simp only [Instr.sliceAt, Instr.slice, Sem.run_bind, run_underlying hu, Result.andThen_ok, hsb, run_sizeOf hn, if_true, Sem.run_pure, Nat.sub_self]
      · cases hv
    · cases hv
  · rename_i e b off len cap es ex hu
    split at hv
    · rename_i n m u l hn hm hbu hbl
      split at hv
      · rename_i hb
        obtain ⟨rfl, hlc, h1, h2, h3, h4⟩ := hb
        cases hv
        cases hx with
        | @slice _ _ _ _ _ _ B N o' cap' hp g1 g2 g3 g4 g5 =>
        have hsb := sliceBounds_sound (P := P) (w := w) (isS := true) (len := len) hlo hhi hmx hm hbu hbl h1 h2 h3 g2 (mxhi h4)
        generalize hM : (if mx.isSome then m else cap') = M at hsb
        have hMm : m ≤ M := by rw [← hM]; split <;> omega
        have hMc : M ≤ cap' := by rw [← hM]; split <;> omega
        refine ⟨.slice (some (if M = l then ⟨B, o', none⟩ else ⟨B, o' + l * n, none⟩)) (u - l) (M - l), ?_, ?_⟩
        · simp only [Instr.sliceAt, Instr.slice, Sem.run_bind, run_underlying hu, Result.andThen_ok, hsb, run_sizeOf hn, Sem.run_pure]
          by_cases hml : M = l
          · simp [hml]
          · simp [hml]
        · have hmn : M * n ≤ cap' * n := Nat.mul_le_mul_right n hMc
          have hsub : (M - l) * n = M * n - l * n := Nat.sub_mul M l n
          have hln : l * n ≤ M * n := Nat.mul_le_mul_right n (by omega)
          have hex : (ex || mx.isSome) = true → M - l = m - l := by
            intro he
            rw [Bool.or_eq_true] at he
            rcases he with he | he
            · cases mx with
              | none => simp only [boundO, Option.some.injEq] at hm; simp at hM; rw [← hM, g3 he, hm]
              | some _ => simp at hM; rw [hM]
            · rw [if_pos he] at hM; rw [hM]
          by_cases hml : M = l
          · rw [if_pos hml]
            exact .slice hp (by omega) (by omega) hex (fun h0 => absurd (by omega) h0) (by rw [hml, Nat.sub_self, Nat.zero_mul]; omega)
          · rw [if_neg hml]
            have h0 : cap' ≠ 0 := by omega
            obtain rfl := g4 h0
            exact .slice hp (by omega) (by omega) hex (fun _ => rfl) (by omega)
      · cases hv
    · cases hv
  · rename_i a b off hu
    split at hv
    · rename_i k e ha
      cases hx with
      | @ptr _ _ B N hp =>
      obtain ⟨l, u, m, n, hsb, hn, hr⟩ := arr_sound s hlo hhi hmx hp hv
      refine ⟨_, ?_, hr⟩
      simp only [Instr.sliceAt, Instr.slice, Sem.run_bind, run_underlying hu, Result.andThen_ok, asAddr, Sem.run_pure, run_underlying ha, hsb, run_sizeOf hn]
      by_cases hml : m = l
      · simp [hml]
      · simp [hml]
    · cases hv
  · rename_i k e b off hu
    cases hx with
    | @ptr _ _ B N hp =>
    obtain ⟨l, u, m, n, hsb, hn, hr⟩ := arr_sound s hlo hhi hmx hp hv
    refine ⟨_, ?_, hr⟩
    simp only [Instr.sliceAt, Sem.run_bind, run_underlying hu, Result.andThen_ok, Instr.sureAddr, Sem.run_pure, hsb, run_sizeOf hn]
    by_cases hml : m = l
    · simp [hml]
    · simp [hml]
  · cases hv

/-! ### conversions -/
theorem byteO_sound {v : V} {x : Value} {n : Nat} (hv : VR φ v x) (hn : byteO v = some n) : x = .int .u8 n ∧ n < 256 := by
  unfold byteO at hn
  split at hn
  · split at hn
    · rename_i hb
      cases hn; cases hv
      exact ⟨by rw [Int.toNat_of_nonneg hb.1], by omega⟩
    · cases hn
  · cases hn

theorem bytesToString_loop (P : Program) (w : World) (f : Value → ByteArray → Sem (ForInStep ByteArray)) (hf : ∀ (n : Int) (s : ByteArray), f (.int .u8 n) s = pure (.yield (s.push (UInt8.ofNat n.toNat)))) :
    ∀ (xs : List Value) (l : List Nat) (acc : ByteArray), l.length = xs.length → (∀ (i : Nat) x n, xs[i]? = some x → l[i]? = some n → x = .int .u8 n ∧ n < 256) →
    ∃ s, (forIn xs acc f).run P w = .ok s w ∧ bytesOf s = bytesOf acc ++ l
  | [], [], acc, _, _ => ⟨acc, rfl, by simp⟩
  | [], _ :: _, _, h, _ => by simp at h
  | _ :: _, [], _, h, _ => by simp at h
  | x :: xs, n :: l, acc, hl, hx => by
    obtain ⟨rfl, hn⟩ := hx 0 x n rfl rfl
    obtain ⟨s, h1, h2⟩ := bytesToString_loop P w f hf xs l (acc.push (UInt8.ofNat n)) (by simpa using hl) (fun i x n a b => hx (i + 1) x n (by simpa using a) (by simpa using b))
    refine ⟨s, ?_, ?_⟩
    · simp only [List.forIn_cons, hf, Sem.run_bind, Sem.run_pure, Result.andThen_ok, Int.toNat_natCast]
      exact h1
    · rw [h2]
      simp [bytesOf, ByteArray.push, Nat.mod_eq_of_lt hn]

end
end Go.Fal
