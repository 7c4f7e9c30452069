/-
  THE ENGINE: an interpreter of our own for the model's programs, and the proof that each of its runs is a call of the model, for every start that it sees.
-/
import Derived.Test.YthoiomcchedapaaGreatDoorE08
set_option autoImplicit true
set_option relaxedAutoImplicit true
set_option linter.unusedVariables false
set_option linter.unusedSimpArgs false
namespace Go.Fal

section
variable (c : Cfg)

/-! ## Texts of bytes -/
noncomputable def byteK (v : V) (K : Nat → Bool) : Bool := vInt v (fun k n => iteK (Nat.beq (idxK k) 4) (Int.rec (motive := fun _ => Bool) (fun m => iteK (Nat.blt m 256) (K m) false) (fun _ => false) n) false) false
theorem byteK_eq (v : V) (K : Nat → Bool) : byteK v K = bnd (byteO v) K := by
  unfold byteK
  rw [vInt_eq]
  cases v <;> try rfl
  rename_i k n
  simp only
  rw [show (4 : Nat) = idxK .u8 from rfl, idxK_eq]
  by_cases hk : k = .u8
  · subst hk
    rw [decide_eq_true rfl, iteK_true]
    cases n with
    | ofNat m =>
      simp only [blt_eq, iteK_decide, byteO]
      by_cases hm : m < 256
      · rw [if_pos hm, if_pos ⟨by simp, by show ((m : Nat) : Int) < 256; omega⟩]; rfl
      · rw [if_neg hm, if_neg (fun h => hm (by have : ((m : Nat) : Int) < 256 := h.2; omega))]; rfl
    | negSucc m =>
      simp only [byteO]
      rw [if_neg (by omega)]; rfl
  · rw [decide_eq_false hk]
    cases k <;> first | rfl | exact absurd rfl hk
noncomputable def bytesK (l : List V) : (List Nat → Bool) → Bool := List.rec (motive := fun _ => (List Nat → Bool) → Bool) (fun K => K []) (fun v _ ih K => byteK v fun c => ih fun s => K (c :: s)) l
theorem bytesK_eq : ∀ (l : List V) (K : List Nat → Bool), bytesK l K = bnd (mapO byteO l) K
  | [], K => rfl
  | v :: l, K => by
    show byteK v (fun c => bytesK l fun s => K (c :: s)) = _
    simp only [byteK_eq, bytesK_eq l, mapO]
    cases byteO v with
    | none => rfl
    | some b => simp only [bnd_some]; cases mapO byteO l <;> rfl

/-- 1: a row of bytes to a text, 2: a text to a row of bytes -/
def cvsO (P : Program) (s d : TypeId) : Nat :=
  match P.underlying s, P.underlying d with
  | some (.slice e), some .string => match P.underlying e with | some (.int .u8) => 1 | _ => 0
  | some .string, some (.slice e) => match P.underlying e with | some (.int .u8) => 2 | _ => 0
  | _, _ => 0
noncomputable def convSlow (h : H) (s d : TypeId) (x : V) (K : Out → H → Bool) : Bool := bnd2 (ret2 (convO c.P h s d x)) fun out h => fOutD out fun out => K out h
noncomputable def conv2K (h : H) (s d : TypeId) (x : V) (K : Out → H → Bool) : Bool :=
  Nat.rec (motive := fun _ => Bool) (convSlow c h s d x K) (fun m _ => Nat.rec (motive := fun _ => Bool)
    (vSlice x (fun b off len _ _ _ => Nat.rec (motive := fun _ => Bool) (convSlow c h s d x K) (fun _ _ => hK h fun _ ht => cellsK ht b fun _ _ n z ct => loadNK n z ct len off fun vs => bytesK vs fun s => K (.val (.str s)) h) len) (convSlow c h s d x K))
    (fun _ _ => vStr x (fun s => lenC s fun n => iteK (Nat.ble n most) (u8K s fun z => newK h (.cells true false n z .e) fun b h => K (.val (.slice b 0 n n 1 false)) h) false) (convSlow c h s d x K)) m) (cvsO c.P s d)
theorem conv2K_eq (h : H) (s d : TypeId) (x : V) (K : Out → H → Bool) : conv2K c h s d x K = bnd2 (ret2 (convO c.P h s d x)) K := by
  have hslow : convSlow c h s d x K = bnd2 (ret2 (convO c.P h s d x)) K := by unfold convSlow; simp only [fOutD_eq]
  unfold conv2K
  simp only [hslow]
  cases hc : cvsO c.P s d with
  | zero => rfl
  | succ m =>
    simp only
    unfold cvsO at hc
    split at hc
    · rename_i e hs hd
      split at hc
      · rename_i he
        cases hc
        simp only [vSlice_eq]
        cases x <;> try rfl
        rename_i b off len cap es ex
        simp only
        cases len with
        | zero => rfl
        | succ len =>
          simp only [hK_eq, convO, hs, hd, he]
          rw [cellsK_eq]
          have hno : (∀ rw_ pl n z ct, h.get b ≠ some (.cells rw_ pl n z ct)) → h.loadN b off (len + 1) = none := by
            intro hn
            have : h.load1 b off = none := by
              unfold H.load1
              split
              · rename_i hb; exact absurd hb (hn _ _ _ _ _)
              · rfl
            simp only [H.loadN, this]
          cases hb : h.get b with
          | none => rw [hno (by rw [hb]; simp)]; rfl
          | some o =>
            cases o with
            | cells rw_ pl n z ct =>
              simp only [loadNK_eq hb, bytesK_eq, O.live, if_true]
              cases h.loadN b off (len + 1) with
              | none => rfl
              | some vs =>
                simp only [bnd_some]
                cases mapO byteO vs <;> rfl
            | _ => rw [hno (by rw [hb]; simp)]; rfl
      · cases hc
    · rename_i e hs hd
      split at hc
      · rename_i he
        cases hc
        simp only [vStr_eq]
        cases x <;> try rfl
        rename_i s
        simp only [lenC_eq, u8K_eq, newK_eq, ble_eq, iteK_decide, convO, hs, hd, he]
        by_cases h1 : s.length ≤ most
        · rw [if_pos h1, if_pos h1]; rfl
        · rw [if_neg h1, if_neg h1]; rfl
      · cases hc
    · cases hc
noncomputable def convert2K (s d : TypeId) (x : Operand) (tm : T V) (h : H) (K : Out → H → Bool) : Bool :=
  evK c.ng tm x fun v => Option.rec (motive := fun _ => Bool) (conv2K c h s d v K) (fun k => vInt v (fun _ n => wrapI k n fun n => K (.val (.int k n)) h) false) (cvtO c.P s d)
theorem convert2K_eq (s d : TypeId) (x : Operand) (tm : T V) (h : H) (K : Out → H → Bool) : convert2K c s d x tm h K = bnd2 (opx c tm h (.convert s d x)) K := by
  simp only [convert2K, evK_eq, opx, ev1]
  cases ev c.ng tm x with
  | none => rfl
  | some v =>
    simp only [bnd_some]
    cases hk : cvtO c.P s d with
    | none => exact conv2K_eq c h s d v K
    | some k =>
      simp only [vInt_eq, convO_int hk]
      cases v <;> try rfl
      simp only [wrapI_eq]; rfl

/-! ## copy -/
noncomputable def copyK (P : Program) (h : H) (t : TypeId) (d s : V) (K : Out → H → Bool) : Bool :=
  Option.rec (motive := fun _ => Bool) (bnd2 (ret2 (copyO P h t d s)) K) (fun size => bnd (lenO s) fun sn => vSlice d (fun b off dn _ _ _ => fN (min sn dn) fun m => firstK h size m s fun cs =>
    iteK (Nat.beq m 0) (K (.val (.int .i64 0)) h) (storeCellsK h b off cs fun h' => K (.val (.int .i64 (.ofNat m))) h')) (bnd2 (ret2 (copyO P h t d s)) K)) (sliceSz P t)
theorem copyK_eq (P : Program) (h : H) (t : TypeId) (d s : V) (K : Out → H → Bool) : copyK P h t d s K = bnd2 (ret2 (copyO P h t d s)) K := by
  unfold copyK
  cases hz : sliceSz P t with
  | none => rfl
  | some size =>
    simp only
    unfold sliceSz at hz
    split at hz
    · rename_i e hu
      cases hl : lenO s with
      | none => simp only [copyO, hu, hz, hl]; rfl
      | some sn =>
        simp only [bnd_some, vSlice_eq]
        cases d <;> try rfl
        rename_i b off dn cap es ex
        simp only [fN_eq, firstK_eq, copyO, hu, hz, hl, beq_eq, iteK_decide, storeCellsK_eq]
        cases firstO h size (min sn dn) s with
        | none => rfl
        | some cs =>
          simp only [bnd_some]
          by_cases h0 : min sn dn = 0
          · rw [if_pos h0, if_pos h0]; rfl
          · rw [if_neg h0, if_neg h0]
            cases h.storeN b off cs <;> rfl
    · cases hz
noncomputable def copyBK (P : Program) (h : H) (ts : Array TypeId) (args : List V) (K : Out → H → Bool) : Bool :=
  Option.rec (motive := fun _ => Bool) (bnd2 (ret2 (builtinO P h .copy ts args)) K) (fun t => List.rec (motive := fun _ => Bool) (bnd2 (ret2 (builtinO P h .copy ts args)) K) (fun d l _ => List.rec (motive := fun _ => Bool) (bnd2 (ret2 (builtinO P h .copy ts args)) K)
    (fun s l _ => List.rec (motive := fun _ => Bool) (copyK P h t d s K) (fun _ _ _ => bnd2 (ret2 (builtinO P h .copy ts args)) K) l) l) args) (ts[0]?)
theorem copyBK_eq (P : Program) (h : H) (ts : Array TypeId) (args : List V) (K : Out → H → Bool) : copyBK P h ts args K = bnd2 (ret2 (builtinO P h .copy ts args)) K := by
  unfold copyBK
  cases ht : ts[0]? with
  | none => rfl
  | some t =>
    cases args with
    | nil => rfl
    | cons d l =>
      cases l with
      | nil => rfl
      | cons s l =>
        cases l with
        | nil => simp only [copyK_eq, builtinO, ht]
        | cons _ _ => rfl

/-! ## New rows and maps -/
/-- a new block: its parts are reckoned -/
noncomputable def newAtK (h : H) (r : Option (Out × H)) (K : Out → H → Bool) : Bool :=
  bnd2 r fun out h' => bnd (h'.get h.next) fun o => fO o fun o => fOutD out fun out => newK h o fun _ h => K out h
theorem newAtK_eq {h : H} {r : Option (Out × H)} (hr : ∀ out h', r = some (out, h') → ∃ o, h' = h.new o) (K : Out → H → Bool) : newAtK h r K = bnd2 r K := by
  unfold newAtK
  cases r with
  | none => rfl
  | some p =>
    obtain ⟨out, h'⟩ := p
    obtain ⟨o, e⟩ := hr out h' rfl
    subst e
    simp only [bnd2_some, fO_eq, fOutD_eq, newK_eq]
    rw [H.get_new_same]; rfl

noncomputable def makeSliceOpK (t : TypeId) (l k : Operand) (tm : T V) (h : H) (K : Out → H → Bool) : Bool :=
  evK c.ng tm l fun l => evK c.ng tm k fun k => newAtK h (ret2 (makeSliceO c.P h t l k)) K
theorem makeSliceOpK_eq (t : TypeId) (l k : Operand) (tm : T V) (h : H) (K : Out → H → Bool) : makeSliceOpK c t l k tm h K = bnd2 (opx c tm h (.makeSlice t l k)) K := by
  simp only [makeSliceOpK, evK_eq, opx, ev2]
  cases ev c.ng tm l with
  | none => rfl
  | some l =>
    simp only [bnd_some]
    cases ev c.ng tm k with
    | none => rfl
    | some k =>
      simp only [bnd_some]
      refine newAtK_eq (fun out h' hr => ?_) K
      cases hm : makeSliceO c.P h t l k with
      | none => rw [hm] at hr; cases hr
      | some p =>
        rw [hm] at hr; cases hr
        unfold makeSliceO at hm
        split at hm
        · split at hm
          · split at hm
            · split at hm
              · cases hm; exact ⟨_, rfl⟩
              · cases hm
            · cases hm
          · cases hm
        · cases hm
noncomputable def makeMapOpK (t : TypeId) (r : Option Operand) (tm : T V) (h : H) (K : Out → H → Bool) : Bool := newAtK h (opx c tm h (.makeMap t r)) K
theorem makeMapOpK_eq (t : TypeId) (r : Option Operand) (tm : T V) (h : H) (K : Out → H → Bool) : makeMapOpK c t r tm h K = bnd2 (opx c tm h (.makeMap t r)) K := by
  refine newAtK_eq (fun out h' hr => ?_) K
  simp only [opx] at hr
  split at hr
  · cases hr; exact ⟨_, rfl⟩
  · cases hr; exact ⟨_, rfl⟩
  · cases hr

/-- what it comes to is reckoned -/
noncomputable def slowDK (tm : T V) (h : H) (op : Op) (K : Out → H → Bool) : Bool := bnd2 (opx c tm h op) fun out h => fOutD out fun out => K out h
theorem slowDK_eq (tm : T V) (h : H) (op : Op) (K : Out → H → Bool) : slowDK c tm h op K = bnd2 (opx c tm h op) K := by
  unfold slowDK
  simp only [fOutD_eq]

/-! ## Calls -/
def extB (P : Program) (f : Nat) : Bool := match P.funcs[f]? with | some fn => !fn.body.isSome | none => false
/-- where a text stands in another one -/
noncomputable def ixK (h : H) (args : List V) (K : Out → H → Bool) : Bool :=
  List.rec (motive := fun _ => Bool) false (fun x l _ => List.rec (motive := fun _ => Bool) false (fun y l _ => List.rec (motive := fun _ => Bool)
    (vStr x (fun s => vStr y (fun p => hK h fun _ ht => load1K ht c.ml 0 fun v => vInt v (fun _ m => lenC p fun lp => lenC s fun ls => iteK (Nat.ble 2 lp) (iteK (iLt m (.ofNat lp)) false (iteK (Nat.blt ls 65536)
      (fI (match idxStr s p (List.range (s.length + 1 - p.length)) with | some i => (i : Int) | none => -1) fun n => K (.val (.int .i64 n)) h) false)) false) false) false) false) (fun _ _ _ => false) l) l) args
theorem ixK_eq (h : H) (args : List V) (K : Out → H → Bool) {g : Nat} (hg : extB c.P g = true) (h1 : ¬ g = c.ib) (h2 : g = c.ix) : ixK c h args K = bnd2 (callO c h g args) K := by
  unfold extB at hg
  split at hg
  · rename_i fn hf
    have hb : fn.body.isSome = false := by simpa using hg
    simp only [callO, hf, hb, Bool.false_eq_true, if_false, h1, if_pos h2]
    unfold ixK
    cases args with
    | nil => rfl
    | cons x l =>
      cases l with
      | nil => cases x <;> rfl
      | cons y l =>
        cases l with
        | cons _ _ => cases x <;> cases y <;> rfl
        | nil =>
          simp only [vStr_eq, hK_eq, load1K_eq, vInt_eq, lenC_eq]
          cases x <;> try rfl
          cases y <;> try rfl
          rename_i s p
          simp only
          cases h.load1 c.ml 0 with
          | none => rfl
          | some v =>
            simp only [bnd_some]
            cases v <;> try rfl
            rename_i k m
            simp only [ble_eq, iLt_eq, blt_eq, iteK_decide, fI_eq]
            by_cases h3 : 2 ≤ p.length
            · by_cases h4 : m < Int.ofNat p.length
              · rw [if_pos h3, if_pos h4, if_neg (fun hh => absurd hh.2.1 (by have : m < (p.length : Int) := h4; omega))]; rfl
              · by_cases h5 : s.length < 65536
                · rw [if_pos h3, if_neg h4, if_pos h5, if_pos ⟨h3, by have : ¬ m < (p.length : Int) := h4; omega, h5⟩]; rfl
                · rw [if_pos h3, if_neg h4, if_neg h5, if_neg (fun hh => h5 hh.2.2)]; rfl
            · rw [if_neg h3, if_neg (fun hh => h3 hh.1)]; rfl
  · cases hg
noncomputable def callV2K (h : H) (f : V) (args : List V) (K : Out → H → Bool) : Bool :=
  vFn f (fun g first cap => iteK (bodyB c.P g) (catK args cap fun l => catK first l fun l => K (.call g l) h) (iteK (extB c.P g) (iteK (Nat.beq g c.ib) (bnd2 (callVO c h f args) K) (iteK (Nat.beq g c.ix) (ixK c h (first ++ args ++ cap) K) (bnd2 (callVO c h f args) K))) (bnd2 (callVO c h f args) K))) (bnd2 (callVO c h f args) K)
theorem callV2K_eq (h : H) (f : V) (args : List V) (K : Out → H → Bool) : callV2K c h f args K = bnd2 (callVO c h f args) K := by
  rw [← callVK_eq]
  unfold callV2K callVK
  rw [vFn_eq, vFn_eq]
  split
  · rename_i g first cap
    cases hb : bodyB c.P g with
    | true => simp only [iteK_true, catK_eq, List.append_assoc]
    | false =>
      simp only [iteK_false]
      cases he : extB c.P g with
      | false => rfl
      | true =>
        simp only [iteK_true, beq_eq, iteK_decide]
        by_cases h1 : g = c.ib
        · rw [if_pos h1]
        · by_cases h2 : g = c.ix
          · rw [if_neg h1, if_pos h2, ixK_eq c h _ K he h1 h2]; rfl
          · rw [if_neg h1, if_neg h2]
  · rfl

noncomputable def builtinK (b : Builtin) : Cfg → Call → T V → H → Array TypeId → List V → (Out → H → Bool) → Bool :=
  match b with
  | .len => fun c _ _ h ts vs K => lenK c.P h ts vs K
  | .append => fun c _ _ h ts vs K => appBK c.P h ts vs K
  | .copy => fun c _ _ h ts vs K => copyBK c.P h ts vs K
  | _ => fun c k tm h _ _ K => slowDK c tm h (.call k) K
noncomputable def calleeF : Callee → Cfg → Call → T V → H → Array TypeId → List V → (Out → H → Bool) → Bool :=
  @Callee.rec (fun _ => Cfg → Call → T V → H → Array TypeId → List V → (Out → H → Bool) → Bool) (fun f c _ tm h _ vs K => evK c.ng tm f fun f => callV2K c h f vs K) (fun _ _ _ _ _ _ _ _ _ => false) builtinK
noncomputable def callOp3K (k : Call) (tm : T V) (h : H) (K : Out → H → Bool) : Bool :=
  Call.rec (motive := fun _ => Bool) (fun callee args ts => evsK c.ng tm args.toList fun vs => calleeF callee c k tm h ts vs K) k
theorem callOp3K_eq (k : Call) (tm : T V) (h : H) (K : Out → H → Bool) : callOp3K c k tm h K = bnd2 (opx c tm h (.call k)) K := by
  obtain ⟨callee, args, ts⟩ := k
  simp only [callOp3K, evsK_eq]
  cases hv : evs c.ng tm args.toList with
  | none => simp only [opx, hv]; rfl
  | some vs =>
    simp only [bnd_some]
    cases callee with
    | value f =>
      show evK c.ng tm f (fun f => callV2K c h f vs K) = _
      simp only [evK_eq, callV2K_eq, opx, hv, ev1]
      cases ev c.ng tm f <;> rfl
    | invoke r m => simp only [opx, hv]; rfl
    | builtin b =>
      show builtinK b c ⟨.builtin b, args, ts⟩ tm h ts vs K = _
      cases b <;> (simp only [builtinK, lenK_eq, appBK_eq, copyBK_eq, slowDK_eq]; try simp only [opx, hv])

end
end Go.Fal
namespace Go.Fal

/-! ## Are two values the same, reckoned fast -/
noncomputable def vNilsF : V → Bool := @V.rec (fun _ => Bool) (fun _ => Bool) (fun _ => false) (fun _ _ => false) (fun _ => false) false (fun _ _ => false) true (fun _ _ _ _ _ _ => false) false (fun _ => false) false (fun _ _ _ _ _ => false) (fun _ => false) false (fun _ _ _ => false) (fun _ _ => false) (fun _ _ => false) false (fun _ _ _ _ => false)
noncomputable def vIfaceF : V → (Nat → V → Bool) → Bool := @V.rec (fun _ => (Nat → V → Bool) → Bool) (fun _ => (Nat → V → Bool) → Bool) (fun _ _ => false) (fun _ _ _ => false) (fun _ _ => false) (fun _ => false) (fun _ _ _ => false) (fun _ => false) (fun _ _ _ _ _ _ _ => false) (fun _ => false) (fun _ _ => false) (fun _ => false) (fun _ _ _ _ _ _ => false) (fun _ _ => false) (fun _ => false) (fun t v _ K => K t v) (fun _ _ _ => false) (fun _ _ _ => false) (fun _ => false) (fun _ _ _ _ _ => false)

noncomputable def bEq (a b : Bool) : Bool := Bool.rec (motive := fun _ => Bool → Bool) (fun b => Bool.rec (motive := fun _ => Bool) true false b) (fun b => b) a b

noncomputable def vbF : V → V → Bool := @V.rec (fun _ => V → Bool) (fun _ => List V → Bool)
  (fun a v => vBool v (fun b => bEq a b) false) (fun j a v => vInt v (fun k b => iteK (Nat.beq (idxK j) (idxK k)) (iEq a b) false) false) (fun a v => vStr v (fun b => eqSF a b) false) (fun v => vNilpF v true false)
  (fun a o v => vPtr v (fun b u => iteK (Nat.beq a b) (Nat.beq o u) false) false) (fun v => vNilsF v)
  (fun a b c d e f v => vSlice v (fun a' b' c' d' e' f' => iteK (Nat.beq a a') (iteK (Nat.beq b b') (iteK (Nat.beq c c') (iteK (Nat.beq d d') (iteK (Nat.beq e e') (bEq f f') false) false) false) false) false) false)
  (fun v => vbeq .nilm v) (fun b v => vbeq (.map b) v) (fun v => vbeq .nilf v) (fun f a b _ _ v => vbeq (.func f a b) v) (fun b v => vbeq (.yield b) v) (fun v => vbeq .nili v) (fun t _ ih v => vIfaceF v fun u w => iteK (Nat.beq t u) (ih w) false)
  (fun _ ih v => aggF v fun cs => ih cs) (fun _ ih v => vTup v (fun cs => ih cs) false)
  (fun l => List.rec (motive := fun _ => Bool) true (fun _ _ _ => false) l) (fun _ _ ihx ihxs l => List.rec (motive := fun _ => Bool) false (fun y ys _ => iteK (ihx y) (ihxs ys) false) l)
noncomputable def vsF : List V → List V → Bool := @V.rec_1 (fun _ => V → Bool) (fun _ => List V → Bool)
  (fun a v => vBool v (fun b => bEq a b) false) (fun j a v => vInt v (fun k b => iteK (Nat.beq (idxK j) (idxK k)) (iEq a b) false) false) (fun a v => vStr v (fun b => eqSF a b) false) (fun v => vNilpF v true false)
  (fun a o v => vPtr v (fun b u => iteK (Nat.beq a b) (Nat.beq o u) false) false) (fun v => vNilsF v)
  (fun a b c d e f v => vSlice v (fun a' b' c' d' e' f' => iteK (Nat.beq a a') (iteK (Nat.beq b b') (iteK (Nat.beq c c') (iteK (Nat.beq d d') (iteK (Nat.beq e e') (bEq f f') false) false) false) false) false) false)
  (fun v => vbeq .nilm v) (fun b v => vbeq (.map b) v) (fun v => vbeq .nilf v) (fun f a b _ _ v => vbeq (.func f a b) v) (fun b v => vbeq (.yield b) v) (fun v => vbeq .nili v) (fun t _ ih v => vIfaceF v fun u w => iteK (Nat.beq t u) (ih w) false)
  (fun _ ih v => aggF v fun cs => ih cs) (fun _ ih v => vTup v (fun cs => ih cs) false)
  (fun l => List.rec (motive := fun _ => Bool) true (fun _ _ _ => false) l) (fun _ _ ihx ihxs l => List.rec (motive := fun _ => Bool) false (fun y ys _ => iteK (ihx y) (ihxs ys) false) l)

theorem bEq_eq (a b : Bool) : bEq a b = (a == b) := by cases a <;> cases b <;> rfl
theorem iteK_and (a b : Bool) : iteK a b false = (a && b) := by cases a <;> rfl
theorem nbeq_eq (a b : Nat) : Nat.beq a b = (a == b) := by rw [beq_eq]; rfl
theorem kbeq_eq (a b : IntKind) : Nat.beq (idxK a) (idxK b) = (a == b) := by rw [idxK_eq]; cases a <;> cases b <;> rfl
theorem ibeq_eq (a b : Int) : iEq a b = (a == b) := by rw [iEq_eq]; rfl

mutual
theorem vbF_eq : ∀ (u v : V), vbF u v = vbeq u v
  | .bool a, v => by show vBool v (fun b => bEq a b) false = _; rw [vBool_eq]; cases v <;> simp [vbeq, bEq_eq]
  | .int j a, v => by show vInt v (fun k b => iteK (Nat.beq (idxK j) (idxK k)) (iEq a b) false) false = _; rw [vInt_eq]; cases v <;> simp [vbeq, iteK_and, kbeq_eq, ibeq_eq]
  | .str a, v => by show vStr v (fun b => eqSF a b) false = _; rw [vStr_eq]; cases v <;> simp [vbeq, eqSF_eq]
  | .nilp, v => by show vNilpF v true false = _; rw [vNilpF_eq]; cases v <;> simp [vbeq]
  | .ptr a o, v => by show vPtr v (fun b u => iteK (Nat.beq a b) (Nat.beq o u) false) false = _; rw [vPtr_eq]; cases v <;> simp [vbeq, iteK_and, nbeq_eq]
  | .nils, v => by cases v <;> simp [vbeq] <;> rfl
  | .slice a b c d e f, v => by
    show vSlice v (fun a' b' c' d' e' f' => iteK (Nat.beq a a') (iteK (Nat.beq b b') (iteK (Nat.beq c c') (iteK (Nat.beq d d') (iteK (Nat.beq e e') (bEq f f') false) false) false) false) false) false = _
    rw [vSlice_eq]; cases v <;> simp [vbeq, iteK_and, nbeq_eq, bEq_eq, Bool.and_assoc]
  | .nilm, v => rfl
  | .map b, v => rfl
  | .nilf, v => rfl
  | .func f a b, v => rfl
  | .yield b, v => rfl
  | .nili, v => rfl
  | .iface t x, v => by
    show vIfaceF v (fun u w => iteK (Nat.beq t u) (vbF x w) false) = _
    cases v <;> try (simp [vbeq]; rfl)
    rename_i u w
    show iteK (Nat.beq t u) (vbF x w) false = _
    rw [iteK_and, nbeq_eq, vbF_eq x w]; simp [vbeq]
  | .agg a, v => by
    show aggF v (fun cs => vsF a cs) = _
    cases v <;> try (simp [vbeq]; rfl)
    rename_i cs
    show vsF a cs = _
    rw [vsF_eq a cs]; simp [vbeq]
  | .tup a, v => by
    show vTup v (fun cs => vsF a cs) false = _
    cases v <;> try (simp [vbeq]; rfl)
    rename_i cs
    show vsF a cs = _
    rw [vsF_eq a cs]; simp [vbeq]
theorem vsF_eq : ∀ (u v : List V), vsF u v = vsbeq u v
  | [], v => by cases v <;> simp [vsbeq] <;> rfl
  | x :: xs, v => by
    cases v with
    | nil => simp [vsbeq]; rfl
    | cons y ys =>
      show iteK (vbF x y) (vsF xs ys) false = _
      rw [iteK_and, vbF_eq x y, vsF_eq xs ys]; simp [vsbeq]
end

section
variable (c : Cfg)
noncomputable def outVF : Out → (V → Bool) → Bool := @Out.rec (fun _ => (V → Bool) → Bool) (fun v K => K v) (fun _ => false) (fun _ _ _ => false) (fun _ _ _ => false) (fun _ _ _ => false) (fun _ => false)
noncomputable def rdSameK (h : H) (op : Op) (x v : V) : Bool :=
  match op with
  | .load t _ => loadK c.P h t x fun u => vbF u v
  | .convert s d _ => conv2K c h s d x fun out _ => outVF out fun u => vbF u v
  | _ => false
theorem rdSameK_eq (h : H) (op : Op) (x v : V) : rdSameK c h op x v = rdSame c.P h op x v := by
  unfold rdSameK rdSame rdAt
  cases op <;> try rfl
  · simp only [loadK_eq, vbF_eq]
    rename_i t _
    cases loadO c.P h t x <;> rfl
  · simp only [conv2K_eq]
    rename_i s d _
    cases convO c.P h s d x with
    | none => rfl
    | some p =>
      show vbF p.1 v = _
      rw [vbF_eq]

noncomputable def tbK (m i : Nat) : Bool := Nat.beq (Nat.mod (Nat.div m (Nat.pow 2 i)) 2) 1
theorem tbK_eq (m i : Nat) : tbK m i = m.testBit i := by
  rw [Nat.testBit_eq_decide_div_mod_eq]; exact beq_eq _ _
noncomputable def nthD (bs : List Nat) (i : Nat) : Nat := Option.rec (motive := fun _ => Nat) 0 (fun n => n) (nthL bs i)
theorem nthD_eq (bs : List Nat) (i : Nat) : nthD bs i = bs[i]?.getD 0 := by
  unfold nthD; rw [nthL_eq]; cases bs[i]? <;> rfl
noncomputable def allK {α : Type} (l : List α) (p : α → Bool) (K : Bool) : Bool := List.rec (motive := fun _ => Bool) K (fun x _ ih => iteK (p x) ih false) l
theorem allK_eq {α : Type} (p : α → Bool) (K : Bool) : ∀ (l : List α), allK l p K = iteK (l.all p) K false
  | [] => rfl
  | x :: l => by
    show iteK (p x) (allK l p K) false = _
    rw [allK_eq p K l]
    cases h : p x <;> simp [h]
noncomputable def orK (a b : Bool) : Bool := iteK a true b
theorem orK_eq (a b : Bool) : orK a b = (a || b) := by cases a <;> rfl
noncomputable def pastOkK (bs : List Nat) (i : Nat) (op : Op) (x v : V) (past : List (Nat × H)) (K : Bool) : Bool :=
  fN (nthD bs i) fun m => allK past (fun p => Prod.rec (motive := fun _ => Bool) (fun j h => orK (tbK m j) (orK (rdNew h x) (rdSameK c h op x v))) p) K
theorem pastOkK_eq (bs : List Nat) (i : Nat) (op : Op) (x v : V) (past : List (Nat × H)) (K : Bool) :
    pastOkK c bs i op x v past K = iteK (past.all (fun p => (bs[i]?.getD 0).testBit p.1 || rdNew p.2 x || rdSame c.P p.2 op x v)) K false := by
  unfold pastOkK
  simp only [fN_eq, allK_eq, nthD_eq, tbK_eq, orK_eq, rdSameK_eq, Bool.or_assoc]
noncomputable def rdsOkK (bs : List Nat) (i : Nat) (h : H) (rds : List Rd) (K : Bool) : Bool :=
  fN (nthD bs i) fun m => allK rds (fun r => Rd.rec (motive := fun _ => Bool) (fun j op x v => orK (tbK m j) (rdSameK c h op x v)) r) K
theorem rdsOkK_eq (bs : List Nat) (i : Nat) (h : H) (rds : List Rd) (K : Bool) :
    rdsOkK c bs i h rds K = iteK (rds.all (fun r => (bs[i]?.getD 0).testBit r.i || rdSame c.P h r.op r.x r.v)) K false := by
  unfold rdsOkK
  simp only [fN_eq, allK_eq, nthD_eq, tbK_eq, orK_eq, rdSameK_eq]
end
end Go.Fal
namespace Go.Fal

section
variable (c : Cfg)

noncomputable def boxOpK (x : Operand) (tm : T V) (h : H) (K : Out → H → Bool) : Bool := evK c.ng tm x fun v => boxK h v K
noncomputable def indexAddrOpK (t : TypeId) (x i : Operand) (tm : T V) (h : H) (K : Out → H → Bool) : Bool := evK c.ng tm x fun x => evK c.ng tm i fun i => indexAddrK c.P t x i fun v => K (.val v) h
noncomputable def indexOpK (t : TypeId) (x i : Operand) (tm : T V) (h : H) (K : Out → H → Bool) : Bool := evK c.ng tm x fun x => evK c.ng tm i fun i => indexK c.P t x i fun v => K (.val v) h

theorem boxOpK_eq (e : TypeId) (x : Operand) (tm : T V) (h : H) (K : Out → H → Bool) : boxOpK c x tm h K = bnd2 (opx c tm h (.box e x)) K := by
  simp only [boxOpK, evK_eq, opx, ev1, boxK_eq]
  cases ev c.ng tm x <;> rfl
theorem indexAddrOpK_eq (t : TypeId) (x i : Operand) (tm : T V) (h : H) (K : Out → H → Bool) : indexAddrOpK c t x i tm h K = bnd2 (opx c tm h (.indexAddr t x i)) K := by
  simp only [indexAddrOpK, evK_eq, opx, ev2, indexAddrK_eq]
  cases ev c.ng tm x with
  | none => rfl
  | some v =>
    simp only [bnd_some]
    cases ev c.ng tm i with
    | none => rfl
    | some u => simp only [bnd_some, bnd2_ret]
theorem indexOpK_eq (t : TypeId) (x i : Operand) (tm : T V) (h : H) (K : Out → H → Bool) : indexOpK c t x i tm h K = bnd2 (opx c tm h (.index t x i)) K := by
  simp only [indexOpK, evK_eq, opx, ev2, indexK_eq]
  cases ev c.ng tm x with
  | none => rfl
  | some v =>
    simp only [bnd_some]
    cases ev c.ng tm i with
    | none => rfl
    | some u => simp only [bnd_some, bnd2_ret]

noncomputable def opKF : Op → Cfg → T V → H → (Out → H → Bool) → Bool :=
  @Op.rec (fun _ => Cfg → T V → H → (Out → H → Bool) → Bool)
    (fun x c => moveK c x) (fun x c => moveK c x) (fun q a b c => pickK c q a b) (fun e c => alloc2K c e) (fun _ x c => boxOpK c x)
    (fun t p c => buildOpK c t p) (fun t n p c => buildSliceOpK c t n p) (fun t m k v c => mapUpdateOpK c t m k v)
    (fun t a c => loadOpK c t a) (fun t a x c => storeOpK c t a x) (fun g c tm h => slowK c tm h (.ready g)) (fun g c tm h => slowK c tm h (.waits g))
    (fun x c => nilCheckK c x) (fun op t x y _ c => binOpK c op t x y) (fun op _ x c => unOpK c op x) (fun s d x c => convert2K c s d x) (fun d x c tm h => slowK c tm h (.sliceToArrayPointer d x))
    (fun t x c => makeInterfaceK c t x) (fun f a b c => makeFuncK c f a b) (fun t r c => makeMapOpK c t r) (fun t r c tm h => slowK c tm h (.makeChan t r)) (fun t l k c => makeSliceOpK c t l k)
    (fun t x l u m c => sliceOpK c t x l u m) (fun t x f c => fieldAddrK c t x f) (fun t x f c => fieldOpK c t x f) (fun t x i c => indexAddrOpK c t x i) (fun t x i c => indexOpK c t x i)
    (fun t x i ok c tm h => slowDK c tm h (.lookup t x i ok)) (fun t m k v c => mapUpdateOpK c t m k v) (fun t m k c => mapEntryOpK c t m k) (fun _ m s v c => entryStoreOpK c m s v)
    (fun t x c => rangeOpK c t x) (fun x s c => nextOpK c x s) (fun x c tm h => slowK c tm h (.entry x)) (fun x t a ok c tm h => slowK c tm h (.typeAssert x t a ok))
    (fun x i c => extractK c x i) (fun k c => callOp3K c k) (fun k c tm h => slowK c tm h (.go k)) (fun k c tm h => slowK c tm h (.defer k)) (fun x c tm h => slowK c tm h (.panic x))
    (fun a b c tm h => slowK c tm h (.send a b)) (fun t a ok c tm h => slowK c tm h (.recv t a ok)) (fun cs b c tm h => slowK c tm h (.select cs b))
noncomputable def opK (op : Op) (tm : T V) (h : H) (K : Out → H → Bool) : Bool := opKF op c tm h K

theorem opK_eq (op : Op) (tm : T V) (h : H) (K : Out → H → Bool) : opK c op tm h K = bnd2 (opx c tm h op) K := by
  cases op
  case move x => exact moveK_eq c x tm h K
  case assign x => exact assignK_eq c x tm h K
  case pick q a b => exact pickK_eq c q a b tm h K
  case alloc e => exact alloc2K_eq c e tm h K
  case build t p => exact buildOpK_eq c t p tm h K
  case buildSlice t n p => exact buildSliceOpK_eq c t n p tm h K
  case insert t m k v => exact insertOpK_eq c t m k v tm h K
  case makeMap t r => exact makeMapOpK_eq c t r tm h K
  case makeSlice t l k => exact makeSliceOpK_eq c t l k tm h K
  case slice t x l u m => exact sliceOpK_eq c t x l u m tm h K
  case field t x f => exact fieldOpK_eq c t x f tm h K
  case lookup t x i ok => exact slowDK_eq c tm h (.lookup t x i ok) K
  case mapUpdate t m k v => exact mapUpdateOpK_eq c t m k v tm h K
  case mapEntry t m k => exact mapEntryOpK_eq c t m k tm h K
  case entryStore t m s v => exact entryStoreOpK_eq c t m s v tm h K
  case range t x => exact rangeOpK_eq c t x tm h K
  case next x s => exact nextOpK_eq c x s tm h K
  case box e x => exact boxOpK_eq c e x tm h K
  case load t a => exact loadOpK_eq c t a tm h K
  case store t a x => exact storeOpK_eq c t a x tm h K
  case nilCheck x => exact nilCheckK_eq c x tm h K
  case binOp op t x y u => exact binOpK_eq c op t x y u tm h K
  case unOp op t x => exact unOpK_eq c op t x tm h K
  case convert s d x => exact convert2K_eq c s d x tm h K
  case makeInterface t x => exact makeInterfaceK_eq c t x tm h K
  case makeFunc f a b => exact makeFuncK_eq c f a b tm h K
  case fieldAddr t x f => exact fieldAddrK_eq c t x f tm h K
  case indexAddr t x i => exact indexAddrOpK_eq c t x i tm h K
  case index t x i => exact indexOpK_eq c t x i tm h K
  case extract x i => exact extractK_eq c x i tm h K
  case call k => exact callOp3K_eq c k tm h K
  case ready g => exact slowK_eq c tm h (.ready g) K
  case waits g => exact slowK_eq c tm h (.waits g) K
  case sliceToArrayPointer d x => exact slowK_eq c tm h (.sliceToArrayPointer d x) K
  case makeChan t x => exact slowK_eq c tm h (.makeChan t x) K
  case entry x => exact slowK_eq c tm h (.entry x) K
  case typeAssert x t a ok => exact slowK_eq c tm h (.typeAssert x t a ok) K
  case go k => exact slowK_eq c tm h (.go k) K
  case panic x => exact slowK_eq c tm h (.panic x) K
  case send a b => exact slowK_eq c tm h (.send a b) K
  case recv t a ok => exact slowK_eq c tm h (.recv t a ok) K
  case select cs b => exact slowK_eq c tm h (.select cs b) K
  all_goals exact slowK_eq c tm h _ K

/-! ## Regions -/
noncomputable def putK (d : Option Tmp) (tm : T V) (v : V) (K : T V → Bool) : Bool := Option.rec (motive := fun _ => Bool) (K tm) (fun d => setP tm (pathOf d) v K) d
theorem putK_eq {nt : Nat} {d : Option Tmp} (hd : ∀ t, d = some t → t < nt) (tm : T V) (v : V) (K : T V → Bool) : putK d tm v K = bnd (putT nt tm d v) K := by
  cases d with
  | none => rfl
  | some t => simp only [putK, setP_eq, putT, if_pos (hd t rfl), bnd_some]

def gTmp (ops : Array Oper) (j : Nat) : Option Tmp := match ops[j]? with | some o => o.dst | none => none
noncomputable def wantK (ops : Array Oper) (tm : T V) (g : Option (Nat × Bool)) (K : Bool → Bool) : Bool :=
  Option.rec (motive := fun _ => Bool) (K true) (fun p => Prod.rec (motive := fun _ => Bool) (fun j want => Option.rec (motive := fun _ => Bool) (K false) (fun d => bnd (getP tm (pathOf d)) fun v =>
    vBool v (fun b => iteK b (iteK want (K true) (K false)) (iteK want (K false) (K true))) (K false)) (gTmp ops j)) p) g
theorem wantK_eq (ops : Array Oper) (tm : T V) (o : Oper) (K : Bool → Bool) : wantK ops tm o.guard K = bnd (wantO ops tm o) K := by
  unfold wantO
  cases o.guard with
  | none => rfl
  | some p =>
    obtain ⟨j, want⟩ := p
    simp only [wantK, gTmp]
    cases ops[j]? with
    | none => rfl
    | some oj =>
      simp only
      cases oj.dst with
      | none => rfl
      | some d =>
        simp only [getP_eq]
        cases tm.get d with
        | none => rfl
        | some v =>
          simp only [bnd_some, vBool_eq]
          cases v <;> try rfl
          rename_i b; cases b <;> cases want <;> rfl

variable (callK : Out → H → (V → H → Bool) → Bool) (rnd : Option Nat)

noncomputable def outF : Out → (Out → H → (V → H → Bool) → Bool) → Option Nat → List D → H → (V → List D → H → Bool) → Bool :=
  @Out.rec (fun _ => (Out → H → (V → H → Bool) → Bool) → Option Nat → List D → H → (V → List D → H → Bool) → Bool) (fun v _ _ ds h K => K v ds h) (fun _ _ ds h K => K undefV ds h) (fun f a callK _ ds h K => callK (.call f a) h fun v h => K v ds h) (fun l a callK _ ds h K => callK (.round l a) h fun v h => K v ds h)
    (fun f a _ rnd ds h K => Option.rec (motive := fun _ => Bool) (K undefV (.call f a :: ds) h) (fun _ => false) rnd) (fun _ rnd ds h K => Option.rec (motive := fun _ => Bool) (K .nili ds h) (fun _ => false) rnd)
noncomputable def opRunK (op : Op) (tm : T V) (ds : List D) (h : H) (K : V → List D → H → Bool) : Bool :=
  opK c op tm h fun out h => outF out callK rnd ds h K

noncomputable def regK (ops : Array Oper) (l : List Oper) : T V → List D → H → (T V → List D → H → Bool) → Bool :=
  List.rec (motive := fun _ => T V → List D → H → (T V → List D → H → Bool) → Bool) (fun tm ds h K => K tm ds h)
    (fun o _ ih tm ds h K => Oper.rec (motive := fun _ => Bool) (fun dst op _ _ _ g => wantK ops tm g fun b => iteK b (opRunK c callK rnd op tm ds h fun v ds h => putK dst tm v fun tm => ih tm ds h K) (putK dst tm undefV fun tm => ih tm ds h K)) o) l

noncomputable def regDK (ops : Array Oper) (bs : List Nat) (l : List Oper) : Nat → T V → List D → H → List (Nat × H) → List Rd → (T V → List D → H → Bool) → Bool :=
  List.rec (motive := fun _ => Nat → T V → List D → H → List (Nat × H) → List Rd → (T V → List D → H → Bool) → Bool) (fun _ tm ds h _ _ K => K tm ds h)
    (fun o _ ih i tm ds h past rds K => Oper.rec (motive := fun _ => Bool) (fun dst op _ _ _ g => wantK ops tm g fun b => iteK b
      (opRunK c callK rnd op tm ds h fun v ds h' => putK dst tm v fun tm' =>
        Cls.rec (motive := fun _ => Bool) (fN (Nat.succ i) fun i' => ih i' tm' ds h' past rds K)
          (bnd (rdOperand op) fun x => evK c.ng tm x fun x => iteK (rdOld h x) (pastOkK c bs i op x v past (fN (Nat.succ i) fun i' => ih i' tm' ds h' past (⟨i, op, x, v⟩ :: rds) K)) false)
          (fN (Nat.succ i) fun i' => ih i' tm' ds h' past rds K)
          (rdsOkK c bs i h' rds (fN (Nat.succ i) fun i' => ih i' tm' ds h' ((i, h) :: past) rds K)) (clsOf c.P op))
      (putK dst tm undefV fun tm => fN (Nat.succ i) fun i' => ih i' tm ds h past rds K)) o) l

def dstsOk (nt : Nat) (l : List Oper) : Bool := l.all fun o => match o.dst with | some d => Nat.blt d nt | none => true
theorem dstsOk_spec {nt : Nat} {l : List Oper} (h : dstsOk nt l = true) {o : Oper} (ho : o ∈ l) : ∀ t, o.dst = some t → t < nt := by
  intro t ht
  unfold dstsOk at h
  rw [List.all_eq_true] at h
  have := h o ho
  rw [ht] at this
  simpa [blt_eq] using this

variable {callK rnd} {call : Out → H → Option (V × H)} (hcall : ∀ out h K, callK out h K = bnd2 (call out h) K)
include hcall

theorem opRunK_eq (o : Oper) (tm : T V) (ds : List D) (h : H) (K : V → List D → H → Bool) : opRunK c callK rnd o.op tm ds h K = bnd3 (opRun c call rnd tm ds h o) K := by
  unfold opRunK opRun
  rw [opK_eq]
  cases opx c tm h o.op with
  | none => rfl
  | some p =>
    obtain ⟨out, h1⟩ := p
    cases out with
    | call f a =>
      show callK (.call f a) h1 (fun v h => K v ds h) = _
      simp only [hcall]
      cases call (.call f a) h1 with
      | none => rfl
      | some q => rfl
    | round l a =>
      show callK (.round l a) h1 (fun v h => K v ds h) = _
      simp only [hcall]
      cases call (.round l a) h1 with
      | none => rfl
      | some q => rfl
    | recover => simp only [bnd2_some]; cases rnd <;> rfl
    | defer f a => simp only [bnd2_some]; cases rnd <;> rfl
    | _ => rfl

theorem regK_eq {nt : Nat} {ops : Array Oper} (hd : dstsOk nt ops.toList = true) : ∀ (m i : Nat) (tm : T V) (ds : List D) (h : H) (K : T V → List D → H → Bool), i + m = ops.size →
    regK c callK rnd ops (ops.toList.drop i) tm ds h K = bnd3 (regL c call nt rnd ops (List.range' i m) tm ds h) K
  | 0, i, tm, ds, h, K, hm => by
    rw [List.drop_of_length_le (by simp; omega)]; rfl
  | m + 1, i, tm, ds, h, K, hm => by
    have hi : i < ops.toList.length := by simp; omega
    have ho : ops[i]? = some ops.toList[i] := by simp
    have hmem : ops.toList[i] ∈ ops.toList := List.getElem_mem hi
    rw [List.drop_eq_getElem_cons hi, List.range'_succ]
    simp only [regL, ho]
    generalize ops.toList[i] = o at *
    show wantK ops tm o.guard (fun b => iteK b (opRunK c callK rnd o.op tm ds h fun v ds h => putK o.dst tm v fun tm => regK c callK rnd ops (ops.toList.drop (i + 1)) tm ds h K) (putK o.dst tm undefV fun tm => regK c callK rnd ops (ops.toList.drop (i + 1)) tm ds h K)) = _
    rw [wantK_eq]
    have ih := fun tm ds h => regK_eq hd m (i + 1) tm ds h K (by omega)
    cases wantO ops tm o with
    | none => rfl
    | some b =>
      cases b with
      | false =>
        simp only [bnd_some, iteK_false, putK_eq (dstsOk_spec hd hmem), ih]
        cases putT nt tm o.dst undefV <;> rfl
      | true =>
        simp only [bnd_some, iteK_true, opRunK_eq c hcall]
        cases opRun c call rnd tm ds h o with
        | none => rfl
        | some q =>
          obtain ⟨v, ds1, h1⟩ := q
          simp only [bnd3_some, putK_eq (dstsOk_spec hd hmem), ih]
          cases putT nt tm o.dst v <;> rfl

theorem regDK_eq {nt : Nat} {ops : Array Oper} {bs : List Nat} (hd : dstsOk nt ops.toList = true) : ∀ (m i : Nat) (tm : T V) (ds : List D) (h : H) (past : List (Nat × H)) (rds : List Rd) (K : T V → List D → H → Bool), i + m = ops.size →
    regDK c callK rnd ops bs (ops.toList.drop i) i tm ds h past rds K = bnd3 (regD c call nt rnd ops bs (List.range' i m) tm ds h past rds) K
  | 0, i, tm, ds, h, past, rds, K, hm => by
    rw [List.drop_of_length_le (by simp; omega)]; rfl
  | m + 1, i, tm, ds, h, past, rds, K, hm => by
    have hi : i < ops.toList.length := by simp; omega
    have ho : ops[i]? = some ops.toList[i] := by simp
    have hmem : ops.toList[i] ∈ ops.toList := List.getElem_mem hi
    rw [List.drop_eq_getElem_cons hi, List.range'_succ]
    simp only [regD, ho]
    generalize ops.toList[i] = o at *
    have ih := fun tm ds h past rds => regDK_eq (bs := bs) hd m (i + 1) tm ds h past rds K (by omega)
    show wantK ops tm o.guard (fun b => iteK b
      (opRunK c callK rnd o.op tm ds h fun v ds h' => putK o.dst tm v fun tm' =>
        Cls.rec (motive := fun _ => Bool) (fN (Nat.succ i) fun i' => regDK c callK rnd ops bs (ops.toList.drop (i + 1)) i' tm' ds h' past rds K)
          (bnd (rdOperand o.op) fun x => evK c.ng tm x fun x => iteK (rdOld h x) (pastOkK c bs i o.op x v past (fN (Nat.succ i) fun i' => regDK c callK rnd ops bs (ops.toList.drop (i + 1)) i' tm' ds h' past (⟨i, o.op, x, v⟩ :: rds) K)) false)
          (fN (Nat.succ i) fun i' => regDK c callK rnd ops bs (ops.toList.drop (i + 1)) i' tm' ds h' past rds K)
          (rdsOkK c bs i h' rds (fN (Nat.succ i) fun i' => regDK c callK rnd ops bs (ops.toList.drop (i + 1)) i' tm' ds h' ((i, h) :: past) rds K)) (clsOf c.P o.op))
      (putK o.dst tm undefV fun tm => fN (Nat.succ i) fun i' => regDK c callK rnd ops bs (ops.toList.drop (i + 1)) i' tm ds h past rds K)) = _
    simp only [fN_eq, pastOkK_eq, rdsOkK_eq]
    rw [wantK_eq]
    cases wantO ops tm o with
    | none => rfl
    | some b =>
      cases b with
      | false =>
        simp only [bnd_some, iteK_false, putK_eq (dstsOk_spec hd hmem), ih]
        cases putT nt tm o.dst undefV <;> rfl
      | true =>
        simp only [bnd_some, iteK_true, opRunK_eq c hcall]
        cases opRun c call rnd tm ds h o with
        | none => rfl
        | some q =>
          obtain ⟨v, ds1, h1⟩ := q
          simp only [bnd3_some, putK_eq (dstsOk_spec hd hmem), ih]
          cases putT nt tm o.dst v with
          | none => rfl
          | some tm' =>
            simp only [bnd_some]
            cases clsOf c.P o.op with
            | P => rfl
            | A => rfl
            | R =>
              simp only
              cases rdOperand o.op with
              | none => rfl
              | some x =>
                simp only [bnd_some, evK_eq]
                cases ev c.ng tm x with
                | none => rfl
                | some x =>
                  simp only [bnd_some]
                  split
                  · rename_i hb
                    obtain ⟨h1, h2⟩ := Bool.and_eq_true_iff.1 hb
                    rw [h1, h2]; rfl
                  · rename_i hb
                    cases h1 : rdOld h x with
                    | false => rfl
                    | true =>
                      rw [h1, Bool.true_and] at hb
                      rw [Bool.eq_false_iff.2 hb]; rfl
            | E =>
              simp only
              split
              · rename_i hb; rw [hb]; rfl
              · rename_i hb; rw [Bool.eq_false_iff.2 hb]; rfl

end
end Go.Fal
namespace Go.Fal

section
variable (c : Cfg)

abbrev RunK : Type := Nat → Nat → T V → List Item → List D → Option Nat → H → (V → H → Bool) → Bool

/-! ## Frames -/
noncomputable def setArgsK (args : List V) : T V → Nat → (T V → Bool) → Bool :=
  List.rec (motive := fun _ => T V → Nat → (T V → Bool) → Bool) (fun t _ K => K t) (fun v _ ih t i K => setP t (pathOf i) v fun t' => ih t' (Nat.succ i) K) args
theorem setArgsK_eq : ∀ (args : List V) (t : T V) (i : Nat) (K : T V → Bool), setArgsK args t i K = K (setArgs t i args)
  | [], t, i, K => rfl
  | v :: vs, t, i, K => by
    show setP t (pathOf i) v (fun t' => setArgsK vs t' (i + 1) K) = _
    rw [setP_eq, setArgsK_eq vs]; rfl

def fnOf (P : Program) (f : Nat) : Option (Nat × Code) :=
  match P.funcs[f]? with
  | none => none
  | some fn => match fn.body with
    | none => none
    | some b => some (fn.ntmps, b)
noncomputable def maxN (a b : Nat) : Nat := Bool.rec (motive := fun _ => Nat) a b (Nat.ble a b)
theorem maxN_eq (a b : Nat) : maxN a b = max a b := by
  unfold maxN
  rw [ble_eq]
  by_cases h : a ≤ b
  · rw [decide_eq_true h, Nat.max_eq_right h]
  · rw [decide_eq_false h, Nat.max_eq_left (by omega)]
noncomputable def enterK (runK : RunK) (f : Nat) (args : List V) (h : H) (K : V → H → Bool) : Bool :=
  bnd2 (fnOf c.P f) fun nt b => fN (maxN (lenL args) nt) fun nt => setArgsK args .e 0 fun tm => runK f nt tm [.code b] [] none h K
theorem enterK_eq {runK : RunK} {runf : Fr → H → Option (V × H)} (hr : ∀ fn nt tm todo ds rnd h K, runK fn nt tm todo ds rnd h K = bnd2 (runf ⟨fn, nt, tm, todo, ds, rnd⟩ h) K) (f : Nat) (args : List V) (h : H) (K : V → H → Bool) :
    enterK c runK f args h K = bnd2 (match enterFr c.P f args with | some fr => runf fr h | none => none) K := by
  unfold enterK enterFr fnOf
  cases c.P.funcs[f]? with
  | none => rfl
  | some fn =>
    simp only
    cases fn.body with
    | none => rfl
    | some b => simp only [bnd2_some, fN_eq, maxN_eq, lenL_eq, setArgsK_eq, hr]

/-! ## Loop records -/
noncomputable def oLoopF : O → (LoopState → Option Code → Nat → Nat → T V → Array Tmp → Code → Code → Nat → Bool) → Bool :=
  @O.rec (fun _ => (LoopState → Option Code → Nat → Nat → T V → Array Tmp → Code → Code → Nat → Bool) → Bool) (fun _ _ _ _ _ _ => false) (fun _ _ _ => false) (fun _ _ _ => false) (fun _ _ _ _ _ => false) (fun st pe fn nt tm ps a b d K => K st pe fn nt tm ps a b d) (fun _ _ => false) (fun _ => false)
noncomputable def loopK (h : H) (l : Nat) (K : LoopState → Option Code → Nat → Nat → T V → Array Tmp → Code → Code → Nat → Bool) : Bool := hK h fun _ t => bnd (getP t (pathOf l)) fun o => oLoopF o K
theorem loopK_eq (h : H) (l : Nat) (K : LoopState → Option Code → Nat → Nat → T V → Array Tmp → Code → Code → Nat → Bool) :
    loopK h l K = match h.get l with | some (.loop st pe fn nt tm ps a b d) => K st pe fn nt tm ps a b d | _ => false := by
  unfold loopK H.get
  rw [hK_eq, getP_eq]
  cases h.t.get l with
  | none => rfl
  | some o => cases o <;> rfl
noncomputable def setStateK (h : H) (l : Nat) (st : LoopState) (pend : Option Code) (K : H → Bool) : Bool := loopK h l fun _ _ fn nt tm ps a b d => putHK h l (.loop st pend fn nt tm ps a b d) K
theorem setStateK_eq (h : H) (l : Nat) (st : LoopState) (pend : Option Code) (K : H → Bool) : setStateK h l st pend K = bnd (setState h l st pend) K := by
  unfold setStateK setState
  rw [loopK_eq]
  cases h.get l with
  | none => rfl
  | some o => cases o <;> simp only [putHK_eq] <;> rfl
noncomputable def stateK (h : H) (l : Nat) (K : LoopState → Option Code → Bool) : Bool := loopK h l fun st pe _ _ _ _ _ _ _ => K st pe
theorem stateK_eq (h : H) (l : Nat) (K : LoopState → Option Code → Bool) : stateK h l K = bnd2 (stateOf h l) K := by
  unfold stateK stateOf
  rw [loopK_eq]
  cases h.get l with
  | none => rfl
  | some o => cases o <;> rfl
noncomputable def zipSetK (ts : List Tmp) : List V → T V → (T V → Bool) → Bool :=
  List.rec (motive := fun _ => List V → T V → (T V → Bool) → Bool) (fun vs tm K => List.rec (motive := fun _ => Bool) (K tm) (fun _ _ _ => false) vs)
    (fun t _ ih vs tm K => List.rec (motive := fun _ => Bool) false (fun v vs _ => setP tm (pathOf t) v fun tm => ih vs tm K) vs) ts
theorem zipSetK_eq : ∀ (ts : List Tmp) (vs : List V) (tm : T V) (K : T V → Bool), zipSetK ts vs tm K = bnd (zipSet tm ts vs) K
  | [], [], tm, K => rfl
  | [], _ :: _, tm, K => rfl
  | _ :: _, [], tm, K => rfl
  | t :: ts, v :: vs, tm, K => by
    show setP tm (pathOf t) v (fun tm => zipSetK ts vs tm K) = _
    rw [setP_eq, zipSetK_eq ts vs]; rfl
noncomputable def roundFrK (h : H) (l : Nat) (args : List V) (K : Nat → Nat → T V → List Item → Bool) : Bool :=
  loopK h l fun _ _ fn nt tm ps assign body _ => iteK (ps.toList.all (fun t => decide (t < nt))) (zipSetK ps.toList args tm fun tm => K fn nt tm [.code assign, .beginRound, .code body]) false
theorem roundFrK_eq (h : H) (l : Nat) (args : List V) (K : Fr → Bool) : roundFrK h l args (fun fn nt tm td => K ⟨fn, nt, tm, td, [], some l⟩) = bnd (roundFr h l args) K := by
  unfold roundFrK roundFr
  rw [loopK_eq]
  cases h.get l with
  | none => rfl
  | some o =>
    cases o <;> try rfl
    rename_i st pe fn nt tm ps assign body d
    simp only [zipSetK_eq]
    cases hall : ps.toList.all (fun t => decide (t < nt)) with
    | false => rfl
    | true =>
      simp only [iteK_true, if_true]
      cases zipSet tm ps.toList args <;> rfl

noncomputable def callFK (runK : RunK) (out : Out) (h : H) (K : V → H → Bool) : Bool :=
  Out.rec (motive := fun _ => Bool) (fun _ => false) false
    (fun f args => Option.rec (motive := fun _ => Bool) (enterK c runK f args h K) (fun v => iteK (c.base h) (K v h) false) (c.memo f args))
    (fun l args => roundFrK h l args fun fn nt tm todo => runK fn nt tm todo [] (some l) h K) (fun _ _ => false) false out
theorem callFK_eq {runK : RunK} {runf : Fr → H → Option (V × H)} (hr : ∀ fn nt tm todo ds rnd h K, runK fn nt tm todo ds rnd h K = bnd2 (runf ⟨fn, nt, tm, todo, ds, rnd⟩ h) K) (out : Out) (h : H) (K : V → H → Bool) :
    callFK c runK out h K = bnd2 (callF c runf out h) K := by
  cases out <;> try rfl
  · rename_i f args
    simp only [callFK, callF]
    cases c.memo f args with
    | some v =>
      simp only
      cases c.base h <;> rfl
    | none => exact enterK_eq c hr f args h K
  · rename_i l args
    simp only [callFK, callF]
    rw [roundFrK_eq h l args (fun fr => runK fr.fn fr.nt fr.tm fr.todo fr.ds fr.rnd h K)]
    cases roundFr h l args with
    | none => rfl
    | some fr => exact hr _ _ _ _ _ _ _ _

/-! ## Leaving -/
noncomputable def resultsK (P : Program) (h : H) (tm : T V) (rs : List ResultVar) : (List V → Bool) → Bool :=
  List.rec (motive := fun _ => (List V → Bool) → Bool) (fun K => K []) (fun r _ ih K => ResultVar.rec (motive := fun _ => Bool) (fun t => bnd (getP tm (pathOf t)) fun v => ih fun vs => K (v :: vs))
    (fun a t => bnd (getP tm (pathOf a)) fun x => loadK P h t x fun v => ih fun vs => K (v :: vs)) r) rs
theorem resultsK_eq (P : Program) (h : H) (tm : T V) : ∀ (rs : List ResultVar) (K : List V → Bool), resultsK P h tm rs K = bnd (resultsO P h tm rs) K
  | [], K => rfl
  | .tmp t :: rs, K => by
    show bnd (getP tm (pathOf t)) (fun v => resultsK P h tm rs fun vs => K (v :: vs)) = _
    rw [getP_eq]
    simp only [resultsO, resultsK_eq P h tm rs]
    cases tm.get t with
    | none => rfl
    | some v => simp only [bnd_some]; cases resultsO P h tm rs <;> rfl
  | .cell a t :: rs, K => by
    show bnd (getP tm (pathOf a)) (fun x => loadK P h t x fun v => resultsK P h tm rs fun vs => K (v :: vs)) = _
    rw [getP_eq]
    simp only [resultsO, resultsK_eq P h tm rs, loadK_eq]
    cases tm.get a with
    | none => rfl
    | some x =>
      simp only [bnd_some]
      cases loadO P h t x with
      | none => rfl
      | some v => simp only [bnd_some]; cases resultsO P h tm rs <;> rfl

noncomputable def oneOrK (vs : List V) (K : V → Bool) : Bool :=
  List.rec (motive := fun _ => Bool) (K (.tup vs)) (fun v l _ => List.rec (motive := fun _ => Bool) (K v) (fun _ _ _ => K (.tup vs)) l) vs
theorem oneOrK_eq (vs : List V) (K : V → Bool) : oneOrK vs K = K (oneOr vs) := by
  cases vs with
  | nil => rfl
  | cons v l => cases l <;> rfl

def resOf (P : Program) (fn : Nat) : Option (List ResultVar) := match P.funcs[fn]? with | some f => some f.results.toList | none => none

noncomputable def oDefdF : O → Bool := @O.rec (fun _ => Bool) (fun _ _ _ _ _ => false) (fun _ _ => false) (fun _ _ => false) (fun _ _ _ _ => false) (fun _ _ _ _ _ _ _ _ _ => false) (fun l => l) false
noncomputable def defdK (h : H) (b : Nat) (K : H → Bool) : Bool := hK h fun _ t => bnd (getP t (pathOf b)) fun o => iteK (oDefdF o) (putHK h b (.defd false) K) false
theorem defdK_eq (h : H) (b : Nat) (K : H → Bool) : defdK h b K = match h.get b with | some (.defd true) => K (h.put b (.defd false)) | _ => false := by
  unfold defdK H.get
  rw [hK_eq, getP_eq]
  cases h.t.get b with
  | none => rfl
  | some o =>
    cases o <;> try rfl
    rename_i l
    simp only [bnd_some, putHK_eq]
    cases l <;> rfl
noncomputable def unwindK (runK : RunK) (fn : Nat) (tm : T V) (ds : List D) : H → (V → H → Bool) → Bool :=
  List.rec (motive := fun _ => H → (V → H → Bool) → Bool) (fun h K => bnd (resOf c.P fn) fun rs => resultsK c.P h tm rs fun vs => oneOrK vs fun v => K v h)
    (fun d _ ih h K => D.rec (motive := fun _ => Bool) (fun b => defdK h b fun h => ih h K) (fun f args => enterK c runK f args h fun _ h => ih h K) d) ds
theorem unwindK_eq {runK : RunK} {runf : Fr → H → Option (V × H)} (hr : ∀ fn nt tm todo ds rnd h K, runK fn nt tm todo ds rnd h K = bnd2 (runf ⟨fn, nt, tm, todo, ds, rnd⟩ h) K) (fn : Nat) (tm : T V) : ∀ (ds : List D) (h : H) (K : V → H → Bool),
    unwindK c runK fn tm ds h K = bnd2 (unwind c runf fn tm h ds) K
  | [], h, K => by
    show bnd (resOf c.P fn) (fun rs => resultsK c.P h tm rs fun vs => oneOrK vs fun v => K v h) = _
    simp only [unwind, resOf]
    cases c.P.funcs[fn]? with
    | none => rfl
    | some f =>
      simp only [bnd_some, resultsK_eq, oneOrK_eq]
      cases resultsO c.P h tm f.results.toList <;> rfl
  | .coll b :: ds, h, K => by
    show defdK h b (fun h => unwindK c runK fn tm ds h K) = _
    rw [defdK_eq]
    simp only [unwind]
    cases h.get b with
    | none => rfl
    | some o =>
      simp only [unwindK_eq hr fn tm ds]
      cases o <;> try rfl
      rename_i l; cases l <;> rfl
  | .call f args :: ds, h, K => by
    show enterK c runK f args h (fun _ h => unwindK c runK fn tm ds h K) = _
    rw [enterK_eq c hr]
    simp only [unwind, unwindK_eq hr fn tm ds]
    cases enterFr c.P f args with
    | none => rfl
    | some fr =>
      simp only
      cases runf fr h with
      | none => rfl
      | some p => rfl

noncomputable def leaveK (runK : RunK) (fn : Nat) (tm : T V) (ds : List D) (rnd : Option Nat) (h : H) (jump : Option Code) (K : V → H → Bool) : Bool :=
  Option.rec (motive := fun _ => Bool) (iteK (isRet jump) (unwindK c runK fn tm ds h K) false)
    (fun l => List.rec (motive := fun _ => Bool) (iteK jump.isNone (setStateK h l .ready jump fun h => K (.bool true) h) (setStateK h l .done jump fun h => K (.bool false) h)) (fun _ _ _ => false) ds) rnd
theorem leaveK_eq {runK : RunK} {runf : Fr → H → Option (V × H)} (hr : ∀ fn nt tm todo ds rnd h K, runK fn nt tm todo ds rnd h K = bnd2 (runf ⟨fn, nt, tm, todo, ds, rnd⟩ h) K) (fr : Fr) (h : H) (jump : Option Code) (K : V → H → Bool) :
    leaveK c runK fr.fn fr.tm fr.ds fr.rnd h jump K = bnd2 (leaveF c runf fr h jump) K := by
  unfold leaveK leaveF
  cases fr.rnd with
  | none =>
    simp only
    rw [unwindK_eq c hr]
    cases isRet jump <;> rfl
  | some l =>
    simp only
    cases fr.ds with
    | nil =>
      simp only [setStateK_eq]
      cases jump with
      | none =>
        simp only [Option.isNone_none, iteK_true, if_true]
        cases setState h l .ready none <;> rfl
      | some j =>
        simp only [Option.isNone_some, iteK_false, Bool.false_eq_true, if_false]
        cases setState h l .done (some j) <;> rfl
    | cons _ _ => rfl

end
end Go.Fal
namespace Go.Fal

section
variable (c : Cfg)

noncomputable def markK (ds : List D) (rnd : Option Nat) (h : H) (K : Nat → List D → H → Bool) : Bool :=
  Option.rec (motive := fun _ => Bool) (newK h (.defd true) fun b h => K b (.coll b :: ds) h) (fun l => loopK h l fun _ _ _ _ _ _ _ _ d => K d ds h) rnd
theorem markK_eq (fr : Fr) (h : H) (K : Nat → List D → H → Bool) : markK fr.ds fr.rnd h K = bnd3 (markF fr h) fun d mark h1 => K d (mark ++ fr.ds) h1 := by
  unfold markK markF
  cases fr.rnd with
  | none => simp only [newK_eq]; rfl
  | some l =>
    simp only [loopK_eq]
    cases h.get l with
    | none => rfl
    | some o => cases o <;> rfl
noncomputable def isBusy (st : LoopState) : Bool := decide (st = .busy)
noncomputable def codesK (pend : Option Code) (k : List Item) (K : List Item → Bool) : Bool := Option.rec (motive := fun _ => Bool) (K k) (fun j => K (.code j :: k)) pend
theorem codesK_eq (pend : Option Code) (k : List Item) (K : List Item → Bool) : codesK pend k K = K (codes pend k) := by cases pend <;> rfl
noncomputable def rangeK (runK : RunK) (fn nt : Nat) (tm : T V) (ds : List D) (rnd : Option Nat) (h : H) (f : Operand) (ps : Array Tmp) (assign body : Code) (k : List Item) (K : V → H → Bool) : Bool :=
  markK ds rnd h fun d ds h1 => evK c.ng tm f fun v => vFn v (fun g first cap => newK h1 (.loop .ready none fn nt tm ps assign body d) fun l h2 =>
    catK first (V.yield l :: cap) fun args => callFK c runK (.call g args) h2 fun _ h3 => stateK h3 l fun st pend => iteK (isBusy st) false (setStateK h3 l .exhausted pend fun h4 => codesK pend k fun k => runK fn nt tm k ds rnd h4 K)) false

theorem markF_congr (fr : Fr) (h : H) (td : List Item) (tm : T V) (ds : List D) (fn nt : Nat) : markF ⟨fn, nt, tm, td, ds, fr.rnd⟩ h = markF fr h := rfl

theorem rangeK_eq {runK : RunK} {runf : Fr → H → Option (V × H)} (hr : ∀ fn nt tm todo ds rnd h K, runK fn nt tm todo ds rnd h K = bnd2 (runf ⟨fn, nt, tm, todo, ds, rnd⟩ h) K) (fr : Fr) (h : H) (f : Operand) (ps : Array Tmp) (assign body : Code) (k : List Item) (K : V → H → Bool) :
    rangeK c runK fr.fn fr.nt fr.tm fr.ds fr.rnd h f ps assign body k K = bnd2 (rangeF c runf fr h f ps assign body k) K := by
  unfold rangeK rangeF
  rw [markK_eq fr h]
  cases markF fr h with
  | none => rfl
  | some p =>
    obtain ⟨d, mark, h1⟩ := p
    simp only [bnd3_some, evK_eq]
    cases ev c.ng fr.tm f with
    | none => rfl
    | some v =>
      simp only [bnd_some, vFn_eq]
      split
      · rename_i g first cap
        simp only [newK_eq, catK_eq, callFK_eq c hr]
        have e : first ++ V.yield h1.next :: cap = first ++ [V.yield h1.next] ++ cap := by simp
        rw [e]
        cases callF c runf (.call g (first ++ [V.yield h1.next] ++ cap)) (h1.new (.loop .ready none fr.fn fr.nt fr.tm ps assign body d)) with
        | none => rfl
        | some q =>
          obtain ⟨u, h3⟩ := q
          simp only [bnd2_some, stateK_eq]
          cases stateOf h3 h1.next with
          | none => rfl
          | some s =>
            obtain ⟨st, pend⟩ := s
            simp only [bnd2_some, isBusy, iteK_decide, setStateK_eq, codesK_eq]
            split
            · rfl
            · cases setState h3 h1.next .exhausted pend with
              | none => rfl
              | some h4 => exact hr _ _ _ _ _ _ _ _
      · rename_i hn
        split
        · rename_i g first cap heq
          cases heq
          exact absurd rfl (hn g first cap)
        · rfl

noncomputable def regionK (runK : RunK) (fn nt : Nat) (tm : T V) (ds : List D) (rnd : Option Nat) (h : H) (ops : Array Oper) (draw : Bool) (k : List Item) (K : V → H → Bool) : Bool :=
  iteK (dstsOk nt ops.toList)
    (iteK draw (iteK (drawOk c.P ops) (regDK c (callFK c runK) rnd ops (befores ops.toList []) ops.toList 0 tm ds h [] [] fun tm ds h => runK fn nt tm k ds rnd h K) false)
      (regK c (callFK c runK) rnd ops ops.toList tm ds h fun tm ds h => runK fn nt tm k ds rnd h K))
    false
theorem regionK_true {runK : RunK} {runf : Fr → H → Option (V × H)} (hr : ∀ fn nt tm todo ds rnd h K, runK fn nt tm todo ds rnd h K = bnd2 (runf ⟨fn, nt, tm, todo, ds, rnd⟩ h) K) (fr : Fr) (h : H) (ops : Array Oper) (draw : Bool) (k : List Item) (K : V → H → Bool) :
    regionK c runK fr.fn fr.nt fr.tm fr.ds fr.rnd h ops draw k K = iteK (dstsOk fr.nt ops.toList) (bnd2 (regionF c runf fr h ops draw k) K) false := by
  unfold regionK regionF
  cases hd : dstsOk fr.nt ops.toList with
  | false => rfl
  | true =>
    simp only [iteK_true]
    have hcall := fun out h K => callFK_eq c hr out h K
    have h1 := regK_eq c (rnd := fr.rnd) hcall hd ops.size 0 fr.tm fr.ds h (fun tm ds h => runK fr.fn fr.nt tm k ds fr.rnd h K) (by omega)
    have h2 := regDK_eq c (rnd := fr.rnd) (bs := befores ops.toList []) hcall hd ops.size 0 fr.tm fr.ds h [] [] (fun tm ds h => runK fr.fn fr.nt tm k ds fr.rnd h K) (by omega)
    rw [List.drop_zero, ← List.range_eq_range'] at h1 h2
    rw [h1, h2]
    cases draw with
    | false =>
      simp only [iteK_false, Bool.false_eq_true, if_false]
      cases regL c (callF c runf) fr.nt fr.rnd ops (List.range ops.size) fr.tm fr.ds h with
      | none => rfl
      | some p => obtain ⟨tm, ds, h'⟩ := p; exact hr _ _ _ _ _ _ _ _
    | true =>
      simp only [iteK_true, if_true]
      cases drawOk c.P ops with
      | false => rfl
      | true =>
        simp only [iteK_true, if_true]
        cases regD c (callF c runf) fr.nt fr.rnd ops (befores ops.toList []) (List.range ops.size) fr.tm fr.ds h [] [] with
        | none => rfl
        | some p => obtain ⟨tm, ds, h'⟩ := p; exact hr _ _ _ _ _ _ _ _

noncomputable def roundK (runK : RunK) (fn nt : Nat) (tm : T V) (ds : List D) (rnd : Option Nat) (h : H) (k : List Item) (K : V → H → Bool) : Bool :=
  bnd rnd fun l => stateK h l fun st pend => iteK (decide (st = .ready)) (setStateK h l .busy pend fun h => runK fn nt tm k ds rnd h K) false
theorem roundK_eq {runK : RunK} {runf : Fr → H → Option (V × H)} (hr : ∀ fn nt tm todo ds rnd h K, runK fn nt tm todo ds rnd h K = bnd2 (runf ⟨fn, nt, tm, todo, ds, rnd⟩ h) K) (fr : Fr) (h : H) (k : List Item) (K : V → H → Bool) :
    roundK runK fr.fn fr.nt fr.tm fr.ds fr.rnd h k K = bnd2 (roundF runf fr h k) K := by
  unfold roundK roundF
  obtain ⟨fn, nt, tm, todo, ds, rnd⟩ := fr
  simp only
  cases rnd with
  | none => rfl
  | some l =>
    simp only [bnd_some, stateK_eq]
    cases stateOf h l with
    | none => rfl
    | some s =>
      obtain ⟨st, pend⟩ := s
      simp only [bnd2_some, iteK_decide, setStateK_eq]
      cases st <;> simp only [if_true, reduceCtorEq, if_false] <;> try rfl
      cases setState h l .busy pend with
      | none => rfl
      | some h' => exact hr _ _ _ _ _ _ _ _

noncomputable def exitF (id : Nat) : List Item → (List Item → Bool) → Bool → Bool :=
  @List.rec Item (fun _ => (List Item → Bool) → Bool → Bool) (fun _ D => D) (fun it k ih K D => Item.rec (motive := fun _ => Bool) (fun _ => ih K D) (fun i => iteK (Nat.beq i id) (K k) (ih K D)) (fun _ => ih K D) (fun _ => ih K D) (fun _ _ => ih K D) (fun _ => ih K D) (fun _ => ih K D) (ih K D) (fun _ _ _ _ => ih K D) (fun _ _ => ih K D) it)
theorem exitF_eq (id : Nat) : ∀ (k : List Item) (K : List Item → Bool) (D : Bool), exitF id k K D = Option.rec (motive := fun _ => Bool) D K (exitO id k)
  | [], K, D => rfl
  | it :: k, K, D => by
    have ih := exitF_eq id k K D
    cases it <;> try exact ih
    rename_i i
    show iteK (Nat.beq i id) (K k) (exitF id k K D) = _
    rw [ih, beq_eq, iteK_decide]
    simp only [exitO]
    split <;> rfl
noncomputable def codeF : Code → Cfg → RunK → List Item → Nat → Nat → T V → List D → Option Nat → H → (V → H → Bool) → Bool :=
  @Code.rec (fun _ => Cfg → RunK → List Item → Nat → Nat → T V → List D → Option Nat → H → (V → H → Bool) → Bool)
    (fun _ runK k fn nt tm ds rnd h K => runK fn nt tm k ds rnd h K)
    (fun _ ops draw c runK k fn nt tm ds rnd h K => regionK c runK fn nt tm ds rnd h ops draw k K)
    (fun a b _ _ _ runK k fn nt tm ds rnd h K => runK fn nt tm (.code a :: .code b :: k) ds rnd h K)
    (fun q a b _ _ c runK k fn nt tm ds rnd h K => evK c.ng tm q fun v => vBool v (fun t => iteK t (runK fn nt tm (.code a :: k) ds rnd h K) (runK fn nt tm (.code b :: k) ds rnd h K)) false)
    (fun id b _ _ runK k fn nt tm ds rnd h K => runK fn nt tm (.code b :: .inBlock id :: k) ds rnd h K)
    (fun b _ _ runK k fn nt tm ds rnd h K => runK fn nt tm (.code b :: .inLoop b :: k) ds rnd h K)
    (fun f ps assign body _ _ c runK k fn nt tm ds rnd h K => rangeK c runK fn nt tm ds rnd h f ps assign body k K)
    (fun id c runK k fn nt tm ds rnd h K => exitF id k (fun k => runK fn nt tm k ds rnd h K) (leaveK c runK fn tm ds rnd h (some (.exit id)) K))
    (fun b _ _ runK k fn nt tm ds rnd h K => runK fn nt tm (.code b :: .inScope b :: k) ds rnd h K)
    (fun _ _ runK k fn nt tm ds rnd h K => runK fn nt tm k ds rnd h K)
    (fun l c runK k fn nt tm ds rnd h K => Option.rec (motive := fun _ => Bool) (leaveK c runK fn tm ds rnd h (some (.goto l)) K) (fun k => runK fn nt tm k ds rnd h K) (gotoIn l k))
    (fun c runK _ fn _ tm ds rnd h K => leaveK c runK fn tm ds rnd h (some .ret) K)
    (fun _ _ _ _ _ _ _ _ _ _ _ => false)
noncomputable def itemF : Item → Cfg → RunK → List Item → Nat → Nat → T V → List D → Option Nat → H → (V → H → Bool) → Bool :=
  @Item.rec (fun _ => Cfg → RunK → List Item → Nat → Nat → T V → List D → Option Nat → H → (V → H → Bool) → Bool)
    (fun x c runK k fn nt tm ds rnd h K => codeF x c runK k fn nt tm ds rnd h K)
    (fun _ _ runK k fn nt tm ds rnd h K => runK fn nt tm k ds rnd h K)
    (fun b _ runK k fn nt tm ds rnd h K => runK fn nt tm (.code b :: .inLoop b :: k) ds rnd h K)
    (fun _ _ runK k fn nt tm ds rnd h K => runK fn nt tm k ds rnd h K)
    (fun _ _ _ _ _ _ _ _ _ _ _ _ => false)
    (fun _ _ _ _ _ _ _ _ _ _ _ => false)
    (fun _ _ _ _ _ _ _ _ _ _ _ => false)
    (fun _ runK k fn nt tm ds rnd h K => roundK runK fn nt tm ds rnd h k K)
    (fun _ _ _ _ _ _ _ _ _ _ _ _ _ _ => false)
    (fun _ _ _ _ _ _ _ _ _ _ _ _ => false)
noncomputable def todoF : List Item → Cfg → RunK → Nat → Nat → T V → List D → Option Nat → H → (V → H → Bool) → Bool :=
  @List.rec Item (fun _ => Cfg → RunK → Nat → Nat → T V → List D → Option Nat → H → (V → H → Bool) → Bool)
    (fun c runK fn _ tm ds rnd h K => leaveK c runK fn tm ds rnd h none K)
    (fun it k _ c runK fn nt tm ds rnd h K => itemF it c runK k fn nt tm ds rnd h K)
noncomputable def stepK (runK : RunK) : RunK := fun fn nt tm todo ds rnd h K => todoF todo c runK fn nt tm ds rnd h K

noncomputable def runK (n : Nat) : RunK := Nat.rec (motive := fun _ => RunK) (fun _ _ _ _ _ _ _ _ => false) (fun _ ih => stepK c ih) n

theorem bnd_le {α : Type} {o o' : Option α} {K : α → Bool} (h : ∀ x, o = some x → o' = some x) : bnd o K = true → bnd o' K = true := by
  intro hb
  obtain ⟨x, hx, hk⟩ := bnd_true hb
  rw [h x hx]; exact hk

/-- the run, with a look at where each region writes -/
def stepD (c : Cfg) (runf : Fr → H → Option (V × H)) (fr : Fr) (h : H) : Option (V × H) :=
  match fr.todo with
  | .code (.region _ ops _) :: _ => if dstsOk fr.nt ops.toList then stepF c runf fr h else none
  | _ => stepF c runf fr h
def runD (c : Cfg) : Nat → Fr → H → Option (V × H)
  | 0, _, _ => none
  | n + 1, fr, h => stepD c (runD c n) fr h

theorem stepK_eq {runK : RunK} {runf : Fr → H → Option (V × H)} (hr : ∀ fn nt tm todo ds rnd h K, runK fn nt tm todo ds rnd h K = bnd2 (runf ⟨fn, nt, tm, todo, ds, rnd⟩ h) K) (fn nt : Nat) (tm : T V) (todo : List Item) (ds : List D) (rnd : Option Nat) (h : H) (K : V → H → Bool) :
    stepK c runK fn nt tm todo ds rnd h K = bnd2 (stepD c runf ⟨fn, nt, tm, todo, ds, rnd⟩ h) K := by
  cases todo with
  | nil => exact leaveK_eq c hr ⟨fn, nt, tm, [], ds, rnd⟩ h none K
  | cons it k =>
    cases it with
    | code x =>
      cases x with
      | skip => exact hr _ _ _ _ _ _ _ _
      | region id ops draw =>
        have := regionK_true c hr ⟨fn, nt, tm, .code (.region id ops draw) :: k, ds, rnd⟩ h ops draw k K
        refine Eq.trans this ?_
        simp only [stepD]
        cases hd : dstsOk nt ops.toList with
        | false => rfl
        | true => rfl
      | seq a b => exact hr _ _ _ _ _ _ _ _
      | cond q a b =>
        show evK c.ng tm q (fun v => vBool v (fun t => iteK t (runK fn nt tm (.code a :: k) ds rnd h K) (runK fn nt tm (.code b :: k) ds rnd h K)) false) = _
        rw [evK_eq]
        simp only [stepD, stepF]
        cases ev c.ng tm q with
        | none => rfl
        | some v =>
          simp only [bnd_some, vBool_eq]
          cases v <;> try rfl
          rename_i t
          cases t <;> exact hr _ _ _ _ _ _ _ _
      | block id b => exact hr _ _ _ _ _ _ _ _
      | loop b => exact hr _ _ _ _ _ _ _ _
      | rangeFunc f ps assign body => exact rangeK_eq c hr ⟨fn, nt, tm, .code (.rangeFunc f ps assign body) :: k, ds, rnd⟩ h f ps assign body k K
      | exit id =>
        show exitF id k (fun k => runK fn nt tm k ds rnd h K) (leaveK c runK fn tm ds rnd h (some (.exit id)) K) = _
        rw [exitF_eq]
        simp only [stepD, stepF]
        cases exitO id k with
        | none => exact leaveK_eq c hr ⟨fn, nt, tm, _, ds, rnd⟩ h _ K
        | some k' => exact hr _ _ _ _ _ _ _ _
      | scope b => exact hr _ _ _ _ _ _ _ _
      | label l => exact hr _ _ _ _ _ _ _ _
      | goto l =>
        show Option.rec (motive := fun _ => Bool) (leaveK c runK fn tm ds rnd h (some (.goto l)) K) (fun k => runK fn nt tm k ds rnd h K) (gotoIn l k) = _
        simp only [stepD, stepF]
        cases gotoIn l k with
        | none => exact leaveK_eq c hr ⟨fn, nt, tm, _, ds, rnd⟩ h _ K
        | some k' => exact hr _ _ _ _ _ _ _ _
      | ret => exact leaveK_eq c hr ⟨fn, nt, tm, _, ds, rnd⟩ h _ K
      | refuse w => rfl
    | inBlock id => exact hr _ _ _ _ _ _ _ _
    | inLoop b => exact hr _ _ _ _ _ _ _ _
    | inScope b => exact hr _ _ _ _ _ _ _ _
    | beginRound => exact roundK_eq hr ⟨fn, nt, tm, _, ds, rnd⟩ h k K
    | _ => rfl

theorem runK_eq : ∀ (n fn nt : Nat) (tm : T V) (todo : List Item) (ds : List D) (rnd : Option Nat) (h : H) (K : V → H → Bool), runK c n fn nt tm todo ds rnd h K = bnd2 (runD c n ⟨fn, nt, tm, todo, ds, rnd⟩ h) K
  | 0, _, _, _, _, _, _, _, _ => rfl
  | n + 1, fn, nt, tm, todo, ds, rnd, h, K => stepK_eq c (fun fn nt tm todo ds rnd h K => runK_eq n fn nt tm todo ds rnd h K) fn nt tm todo ds rnd h K

end
end Go.Fal
namespace Go.Fal

section
variable {c : Cfg}

theorem stepD_some {runf : Fr → H → Option (V × H)} {fr : Fr} {h h' : H} {v : V} (hv : stepD c runf fr h = some (v, h')) : stepF c runf fr h = some (v, h') := by
  unfold stepD at hv
  split at hv
  · split at hv
    · exact hv
    · cases hv
  · exact hv

theorem runD_next : ∀ (n : Nat) (fr : Fr) (h : H) (v : V) (h' : H), runD c n fr h = some (v, h') → h.next ≤ h'.next
  | 0, _, _, _, _, hv => by simp [runD] at hv
  | n + 1, fr, h, v, h', hv => step_next (runD_next n) fr h v h' (stepD_some hv)

theorem runD_sound (hc : CfgOk c) : ∀ n, RunOk c (runD c n)
  | 0 => fun fr h v h' hv => by simp [runD] at hv
  | n + 1 => fun fr h v h' hv => step_sound hc (runD_sound hc n) (runD_next n) fr h v h' (stepD_some hv)

/-- WHAT THE KERNEL RECKONED, IS A CALL OF THE MODEL. -/
theorem enterK_calls (hc : CfgOk c) {n f : Nat} {args : List V} {h : H} {K : V → H → Bool} (hv : enterK c (runK c n) f args h K = true) {φ : Phi} {w : World} {xs : Array Value} (hg : Glob c.ng φ) (s : Sim φ h w) (hf : ∀ b, h.next ≤ b → φ b = none)
    (ha : VRs φ args xs.toList) : Calls c.P f xs w (fun e w' => ∃ v h' φ' v', K v h' = true ∧ e = .returned v' ∧ VR φ' v v' ∧ Tr φ h w φ' h' w' ∧ Sim φ' h' w') := by
  rw [enterK_eq c (runK_eq c n)] at hv
  obtain ⟨v, h', he, hk⟩ := bnd2_true hv
  split at he
  · rename_i fr hen
    have := run_calls (runD_sound hc n) hen he hg s (fun b hb _ => hf b hb) ha
    refine Calls.mono this fun e w' ⟨φ', v', h1, h2, h3, h4⟩ => ⟨v, h', φ', v', hk, h1, h2, h3, h4⟩
  · cases he

/-- a call that is done once for all, reckoned by the kernel over the rows that are only read -/
theorem closed_of_runK (hc : CfgOk c) {n f : Nat} {args : List V} {v : V} {hb : H} (hv : enterK c (runK c n) f args hb (fun u _ => vbF u v) = true) (hng : c.ng ≤ hb.next) (hro : ROnly hb) (hca : args.all V.clean0 = true) (hcv : v.clean = true)
    {φ : Phi} {h : H} {w : World} {xs : Array Value} (s : Sim φ h w) (hg : Glob c.ng φ) (hsub : ∀ b o, hb.get b = some o → h.get b = some o) (ha : VRs φ args xs.toList) (cr : Frame) (cs : List Frame) :
    ∃ φ' w' v', Steps c.P (lone (Frame.enter c.P f xs .normal) (cr :: cs) w) (lone (cr.finish v') cs w') ∧ VR φ' v v' ∧ Tr φ h w φ' h w' ∧ Sim φ' h w' := by
  rw [enterK_eq c (runK_eq c n)] at hv
  obtain ⟨u, h', he, hk⟩ := bnd2_true hv
  rw [vbF_eq] at hk
  obtain rfl := vbeq_eq _ _ hk
  split at he
  · rename_i fr hen
    exact run_closed (runD_sound hc n) hen he hng hro hca hcv s hg hsub ha cr cs
  · cases he

end
end Go.Fal
