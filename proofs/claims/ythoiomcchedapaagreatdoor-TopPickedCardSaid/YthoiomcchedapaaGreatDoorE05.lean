/-
  THE ENGINE: an interpreter of our own for the model's programs, and the proof that each of its runs is a call of the model, for every start that it sees.
-/
import Derived.Test.YthoiomcchedapaaGreatDoorE04
import Derived.Defers
import Derived.RangeFuncIn
set_option autoImplicit true
set_option relaxedAutoImplicit true
set_option linter.unusedVariables false
set_option linter.unusedSimpArgs false
namespace Go.Fal

section
variable {c : Cfg}

/-- how a run of a frame ends -/
def Done (c : Cfg) (rnd : Option Nat) (φ : Phi) (h : H) (w : World) (b : Frame) (cs : List Frame) (v : V) (h' : H) (m : Machine) : Prop :=
  match rnd with
  | none => ∃ φ' w' fr v' fn, Steps c.P m (lone fr cs w') ∧ fr.fn = b.fn ∧ fr.kind = b.kind ∧ fr.mode = .returning ∧ fr.defers = [] ∧ c.P.funcs[fr.fn]? = some fn ∧ (results fn fr.tmps).run c.P w' = .ok v' w' ∧
      VR φ' v v' ∧ Tr φ h w φ' h' w' ∧ Sim φ' h' w'
  | some _ => b.kind = .normal → ∀ cr rest, cs = cr :: rest → ∃ φ' w' v', Steps c.P m (lone (cr.finish v') rest w') ∧ VR φ' v v' ∧ Tr φ h w φ' h' w' ∧ Sim φ' h' w'

theorem Done.of {rnd : Option Nat} {φ φ₁ : Phi} {h h₁ h' : H} {w w₁ : World} {b : Frame} {cs : List Frame} {v : V} {m m₁ : Machine} (hs : Steps c.P m m₁) (ht : Tr φ h w φ₁ h₁ w₁) (hd : Done c rnd φ₁ h₁ w₁ b cs v h' m₁) : Done c rnd φ h w b cs v h' m := by
  cases rnd with
  | none =>
    obtain ⟨φ', w', fr, v', fn, r1, r2, r3, r4, r5, r6, r7, r8, r9, r10⟩ := hd
    exact ⟨φ', w', fr, v', fn, hs.trans r1, r2, r3, r4, r5, r6, r7, r8, ht.trans r9, r10⟩
  | some l =>
    intro hk cr rest hcs
    obtain ⟨φ', w', v', r1, r2, r3, r4⟩ := hd hk cr rest hcs
    exact ⟨φ', w', v', hs.trans r1, r2, ht.trans r3, r4⟩

/-- what is asked of runs -/
def RunOk (c : Cfg) (runf : Fr → H → Option (V × H)) : Prop :=
  ∀ (fr : Fr) (h : H) (v : V) (h' : H), runf fr h = some (v, h') → ∀ (φ : Phi) (w : World) (b : Frame) (a : Act) (cs : List Frame), Glob c.ng φ → Sim φ h w → b.fn = fr.fn → a.tmps.size = fr.nt →
    EnvR φ fr.tm a.tmps → DsR φ fr.ds a.defers → RndR φ fr.rnd b.roundOf → KindOk b cs → Free φ h h' → Done c fr.rnd φ h w b cs v h' (lone (b.atR a fr.todo) cs w)

theorem Free.sub {φ φ₁ : Phi} {h h₁ h' : H} {w w₁ : World} (hf : Free φ h h') (ht : Tr φ h w φ₁ h₁ w₁) : Free φ₁ h₁ h' := fun b hb hb' => by
  have := ht.next
  rw [ht.fresh b (.inr hb)]; exact hf b (by omega) hb'

theorem regL_sound (hc : CfgOk c) {call : Out → H → Option (V × H)} (hcall : CallOk c call) (hnext : ∀ out h v h', call out h = some (v, h') → h.next ≤ h'.next) {nt : Nat} {rnd : Option Nat} {ops : Array Oper} {b : Frame} {cs : List Frame} {k : List Item} (hk : KindOk b cs) :
    ∀ (l : List Nat) (tm : T V) (ds : List D) (h : H) (r : T V × List D × H), regL c call nt rnd ops l tm ds h = some r → ∀ (φ : Phi) (w : World) (a : Act), Glob c.ng φ → Sim φ h w → a.tmps.size = nt → EnvR φ tm a.tmps → DsR φ ds a.defers →
      RndR φ rnd b.roundOf → Free φ h r.2.2 →
      ∃ φ' w' a', Steps c.P (lone (b.atR a (.inRegion ops l :: k)) cs w) (lone (b.atR a' (.inRegion ops [] :: k)) cs w') ∧ a'.tmps.size = nt ∧ EnvR φ' r.1 a'.tmps ∧ DsR φ' r.2.1 a'.defers ∧ Tr φ h w φ' r.2.2 w' ∧ Sim φ' r.2.2 w'
  | [], tm, ds, h, r, hv, φ, w, a, hg, s, hs, he, hd, hr, hf => by
    simp only [regL, Option.some.injEq] at hv; subst hv
    exact ⟨φ, w, a, .refl _ _, hs, he, hd, Tr.refl φ s.dom, s⟩
  | i :: is, tm, ds, h, r, hv, φ, w, a, hg, s, hs, he, hd, hr, hf => by
    simp only [regL] at hv
    split at hv
    · cases hv
    · rename_i o ho
      split at hv
      · cases hv
      · rename_i hw
        split at hv
        · rename_i tm' hp
          have hw' := wantO_sound he hw
          have hstep := stepR_op_skip (P := c.P) (b := b) (a := a) (k := k) (cs := cs) (w := w) (ops := ops) (i := i) (rest := is) (by rw [ho]; simpa using hw')
          rw [ho] at hstep; simp only [Option.bind_some] at hstep
          obtain ⟨φ', w', a', q1, q2, q3, q4, q5, q6⟩ := regL_sound hc hcall hnext hk is tm' ds h r hv φ w (a.put o.dst undef) hg s ((put_size _ _ _).trans hs) (he.put hs hp (undef_VR φ)) (by rw [put_defers]; exact hd) hr hf
          exact ⟨φ', w', a', .head hstep q1, q2, q3, q4, q5, q6⟩
        · cases hv
      · rename_i hw
        split at hv
        · cases hv
        · rename_i u ds' h1 hop
          split at hv
          · rename_i tm' hp
            have hw' := wantO_sound he hw
            have hn1 := opRun_next hnext hop
            have hn2 := regL_next hnext _ _ _ _ _ hv
            obtain ⟨φ₁, w₁, v', dd, p1, p2, p3, p4, p5⟩ := opRun_sound (rest := is) (k := k) hc hcall hnext hop hg s he hd hr hk (fun b hb hb' => hf b hb (by omega)) ho hw'
            obtain ⟨φ', w', a', q1, q2, q3, q4, q5, q6⟩ := regL_sound hc hcall hnext hk is tm' ds' h1 r hv φ₁ w₁ { (a.put o.dst v') with defers := dd } (hg.mono p4.le) p5 ((put_size _ _ _).trans hs)
              (((he.mono p4.le).put hs hp p2 : EnvR φ₁ tm' (a.put o.dst v').tmps)) p3 (hr.mono p4.le) (hf.sub p4)
            exact ⟨φ', w', a', p1.trans q1, q2, q3, q4, p4.trans q5, q6⟩
          · cases hv

/-! ### leaving -/
theorem resultsO_sound {h : H} {tm : T V} {xs : Array Value} {φ : Phi} {w : World} (s : Sim φ h w) (he : EnvR φ tm xs) {f : ResultVar → Sem Value} (hf1 : ∀ t, f (.tmp t) = pure (xs.getD t undef))
    (hf2 : ∀ a t, f (.cell a t) = (do loadVar t (← asAddr (xs.getD a undef)))) : ∀ (rs : List ResultVar) (vs : List V), resultsO c.P h tm rs = some vs →
    ∃ ys, (rs.mapM f).run c.P w = .ok ys w ∧ VRs φ vs ys
  | [], vs, hv => by simp only [resultsO, Option.some.injEq] at hv; subst hv; exact ⟨[], rfl, .nil⟩
  | .tmp t :: rs, vs, hv => by
    simp only [resultsO] at hv
    split at hv
    · rename_i v us hg hu
      cases hv
      obtain ⟨ys, r1, r2⟩ := resultsO_sound s he hf1 hf2 rs us hu
      obtain ⟨x, hx, hvx⟩ := he t v hg
      refine ⟨x :: ys, ?_, .cons hvx r2⟩
      have hgd : xs.getD t undef = x := by rw [Array.getD_eq_getD_getElem?, hx]; rfl
      simp only [List.mapM_cons, hf1, Sem.run_bind, Sem.run_pure, Result.andThen_ok, hgd, r1]
    · cases hv
  | .cell p t :: rs, vs, hv => by
    simp only [resultsO] at hv
    split at hv
    · rename_i x hx
      split at hv
      · rename_i v us hl hu
        cases hv
        obtain ⟨ys, r1, r2⟩ := resultsO_sound s he hf1 hf2 rs us hu
        obtain ⟨x', hx', hvx⟩ := he p x hx
        obtain ⟨u, q1, q2⟩ := loadO_sound s hvx hl
        have hptr : ∃ bb off, x = .ptr bb off := by
          unfold loadO at hl
          split at hl
          · exact ⟨_, _, rfl⟩
          · cases hl
        obtain ⟨bb, off, rfl⟩ := hptr
        cases hvx with
        | @ptr _ _ B N hp =>
        refine ⟨u :: ys, ?_, .cons q2 r2⟩
        simp only [Instr.loadAt, Instr.sureAddr, Sem.run_bind, Sem.run_pure, Result.andThen_ok] at q1
        have hgd : xs.getD p undef = .pointer (some ⟨B, off, none⟩) := by rw [Array.getD_eq_getD_getElem?, hx']; rfl
        have ha : (asAddr (xs.getD p undef)).run c.P w = .ok ⟨B, off, none⟩ w := by rw [hgd]; rfl
        simp only [List.mapM_cons, hf2, Sem.run_bind, ha, Sem.run_pure, Result.andThen_ok, q1, r1]
      · cases hv
    · cases hv

theorem results_sound {h : H} {tm : T V} {xs : Array Value} {φ : Phi} {w : World} (s : Sim φ h w) (he : EnvR φ tm xs) {fn : Func} {vs : List V} (hv : resultsO c.P h tm fn.results.toList = some vs) :
    ∃ v', (results fn xs).run c.P w = .ok v' w ∧ VR φ (oneOr vs) v' := by
  have key : ∀ f : ResultVar → Sem Value, (∀ t, f (.tmp t) = pure (xs.getD t undef)) → (∀ a t, f (.cell a t) = (do loadVar t (← asAddr (xs.getD a undef)))) →
      ∃ v', (do let vs ← fn.results.mapM f; pure (if h : vs.size = 1 then vs[0] else .tuple vs) : Sem Value).run c.P w = .ok v' w ∧ VR φ (oneOr vs) v' := by
    intro f hf1 hf2
    obtain ⟨ys, r1, r2⟩ := resultsO_sound s he hf1 hf2 _ _ hv
    refine ⟨if h : (⟨ys⟩ : Array Value).size = 1 then (⟨ys⟩ : Array Value)[0] else .tuple ⟨ys⟩, ?_, ?_⟩
    · rw [Array.mapM_eq_mapM_toList]
      simp only [Sem.run_bind, Sem.run_map, r1, Result.andThen_ok, Sem.run_pure]
    · have hl := r2.length
      unfold oneOr
      split
      · cases r2 with
        | cons h1 h2 =>
        cases h2
        exact h1
      · rename_i hne
        have : ¬ (⟨ys⟩ : Array Value).size = 1 := by
          intro h1
          have h1' : ys.length = 1 := h1
          rw [← hl] at h1'
          match vs, h1' with
          | [v], _ => exact hne v rfl
        rw [dif_neg this]
        exact .tup r2
  exact key _ (fun _ => rfl) (fun _ _ => rfl)

end
end Go.Fal
namespace Go.Fal

section
variable {c : Cfg}

theorem setArgs_get : ∀ (args : List V) (t : T V) (i j : Nat), (setArgs t i args).get j = if i ≤ j ∧ j < i + args.length then args[j - i]? else t.get j
  | [], t, i, j => by simp only [setArgs, List.length_nil]; rw [if_neg (by omega)]
  | v :: vs, t, i, j => by
    simp only [setArgs, List.length_cons]
    rw [setArgs_get vs, T.get_set]
    by_cases h1 : j = i
    · subst h1
      rw [if_neg (by omega), if_pos rfl, if_pos (by omega)]; simp
    · by_cases h2 : i ≤ j ∧ j < i + (vs.length + 1)
      · rw [if_pos (by omega), if_pos h2]
        obtain ⟨d, rfl⟩ : ∃ d, j = i + 1 + d := ⟨j - (i + 1), by omega⟩
        rw [show i + 1 + d - (i + 1) = d by omega, show i + 1 + d - i = d + 1 by omega]; simp
      · rw [if_neg (by omega), if_neg h1, if_neg h2]

theorem enter_frame {P : Program} {f : Nat} {args : List V} {fr : Fr} (he : enterFr P f args = some fr) {φ : Phi} {xs : Array Value} (ha : VRs φ args xs.toList) (kind : CallKind) :
    ∃ (b : Frame) (a : Act), Frame.enter P f xs kind = b.atR a fr.todo ∧ b.fn = fr.fn ∧ b.kind = kind ∧ b.roundOf = none ∧ fr.rnd = none ∧ fr.fn = f ∧ a.tmps.size = fr.nt ∧ EnvR φ fr.tm a.tmps ∧ DsR φ fr.ds a.defers := by
  unfold enterFr at he
  split at he
  · cases he
  · rename_i fn hf
    split at he
    · cases he
    · rename_i body hb
      cases he
      have hl := ha.length
      simp at hl
      refine ⟨{ (default : Frame) with fn := f, kind := kind }, { tmps := xs ++ Array.replicate (fn.ntmps - xs.size) undef, defers := [] }, ?_, rfl, rfl, rfl, rfl, rfl, ?_, ?_, trivial⟩
      · simp [Frame.enter, Frame.atR, hf, hb]; rfl
      · simp; omega
      · intro i v hi
        rw [setArgs_get] at hi
        split at hi
        · rename_i hlt
          obtain ⟨x, hx, hv⟩ := ha.get hi
          refine ⟨x, ?_, hv⟩
          rw [Array.getElem?_append_left (by omega), ← Array.getElem?_toList]
          simpa using hx
        · simp at hi

theorem step_collected {P : Program} {fr : Frame} {cs : List Frame} {w w' : World} {block : Nat} {ds calls : List Deferred} (hm : fr.mode = .returning) (hd : fr.defers = { target := .collected block, args := #[] } :: ds)
    (hr : (Instr.takeDeferred block).run P w = .ok calls w') : step P (lone fr cs w) = .next (lone { fr with defers := calls ++ ds } cs w') := by
  refine step_lone_go ?_
  simp [stepG, Go.unwind, hm, hd, hr]

theorem unwind_sound (hc : CfgOk c) {runf : Fr → H → Option (V × H)} (hrun : RunOk c runf) (hnext : ∀ (fr : Fr) (h : H) (v : V) (h' : H), runf fr h = some (v, h') → h.next ≤ h'.next) {fn : Nat} {tm : T V} {b : Frame} {cs : List Frame} (hbf : b.fn = fn) :
    ∀ (ds : List D) (h : H) (v : V) (h' : H), unwind c runf fn tm h ds = some (v, h') → ∀ (φ : Phi) (w : World) (fr : Frame), Glob c.ng φ → Sim φ h w → fr.fn = b.fn → fr.kind = b.kind → fr.mode = .returning → EnvR φ tm fr.tmps → DsR φ ds fr.defers → Free φ h h' →
      Done c none φ h w b cs v h' (lone fr cs w)
  | [], h, v, h', hv, φ, w, fr, hg, s, hff, hfk, hfm, he, hd, hf => by
    have hd' : fr.defers = [] := by cases h : fr.defers with
      | nil => rfl
      | cons x xs => rw [h] at hd; exact hd.elim
    simp only [unwind] at hv
    split at hv
    · rename_i f hfn
      split at hv
      · rename_i vs hrs
        cases hv
        obtain ⟨v', r1, r2⟩ := results_sound (c := c) s he hrs
        exact ⟨φ, w, fr, v', f, .refl _ _, hff, hfk, hfm, hd', by rw [hff, hbf]; exact hfn, r1, r2, Tr.refl φ s.dom, s⟩
      · cases hv
    · cases hv
  | .coll bk :: ds, h, v, h', hv, φ, w, fr, hg, s, hff, hfk, hfm, he, hd, hf => by
    obtain ⟨x, xs, hdx, hdr, hds⟩ : ∃ x xs, fr.defers = x :: xs ∧ DR φ (.coll bk) x ∧ DsR φ ds xs := by
      cases h : fr.defers with
      | nil => rw [h] at hd; exact hd.elim
      | cons x xs => rw [h] at hd; exact ⟨x, xs, rfl, hd.1, hd.2⟩
    cases hdr with
    | @coll _ B N hp =>
    simp only [unwind] at hv
    split at hv
    · rename_i hgb
      obtain ⟨B', M, y, hq, hh, hb⟩ := s.blk bk _ hgb rfl
      rw [hp] at hq; cases hq
      cases hb
      have hput := put_obj s (o' := .defd false) (x' := .deferred none) hgb rfl rfl rfl hp hh (.defd (live := false))
      have htk : (Instr.takeDeferred B).run c.P w = .ok [] { w with heap := w.heap.setIfInBounds B (.deferred none) } := by
        simp only [Instr.takeDeferred, Sem.run_bind, run_getObj hh (by simp), Result.andThen_ok, if_true, run_setObj _ hh (by simp), Sem.run_pure]
      have hst := step_collected (P := c.P) (cs := cs) hfm hdx htk
      refine Done.of (.one hst) hput.1 (unwind_sound hc hrun hnext hbf ds _ v h' hv φ _ _ hg hput.2 hff hfk hfm he (by simpa using hds) (hf.sub hput.1))
    · cases hv
  | .call f args :: ds, h, v, h', hv, φ, w, fr, hg, s, hff, hfk, hfm, he, hd, hf => by
    obtain ⟨x, xs, hdx, hdr, hds⟩ : ∃ x xs, fr.defers = x :: xs ∧ DR φ (.call f args) x ∧ DsR φ ds xs := by
      cases h : fr.defers with
      | nil => rw [h] at hd; exact hd.elim
      | cons x xs => rw [h] at hd; exact ⟨x, xs, rfl, hd.1, hd.2⟩
    cases hdr with
    | @call _ _ cap ys hvr =>
    simp only [unwind] at hv
    split at hv
    · rename_i fr' hen
      split at hv
      · rename_i u h1 hrn
        have hn1 := hnext _ _ _ _ hrn
        have hn2 := unwind_next hnext _ _ _ hv
        have hfn : ∃ fn', c.P.funcs[f]? = some fn' ∧ fn'.body.isSome = true := by
          unfold enterFr at hen
          split at hen
          · cases hen
          · rename_i fn' hf'
            split at hen
            · cases hen
            · rename_i hb'; exact ⟨fn', hf', by rw [hb']; rfl⟩
        obtain ⟨fn', hfn1, hfn2⟩ := hfn
        have hinv : (invoke (.fn (.func f) cap) ys).run c.P w = .ok (.enter f (ys ++ cap)) w := call_enter hc _ hfn1 hfn2
        have hst := step_defer (P := c.P) (cs := cs) (fr := fr) (d := { target := .fn (.func f) cap, args := ys }) (by rw [hfm]; simp) hdx rfl hinv
        obtain ⟨b', a', e1, e2, e3, e4, e5, e6, e7, e8, e9⟩ := enter_frame (P := c.P) hen (xs := ys ++ cap) (by simpa using hvr) .deferred
        have hd1 := hrun fr' h u h1 hrn φ w b' a' ({ fr with defers := xs } :: cs) hg s e2 e7 e8 e9 (by rw [e5, e4]; trivial) (.inr ⟨e3, _, _, rfl, hfm⟩) (fun b hb hb' => hf b hb (by omega))
        rw [e5] at hd1
        obtain ⟨φ₁, w₁, fr₁, v₁, fnn, q1, q2, q3, q4, q5, q6, q7, q8, q9, q10⟩ := hd1
        rw [e1] at hst
        have hgo : fr₁.going c.P w₁ (.returned v₁) := ⟨q4, q5, fnn, q6, q7⟩
        have hst2 := step_going_returned (c := { fr with defers := xs }) (cs := cs) (by rw [q3, e3]) hgo
        have hset : ({ ({ fr with defers := xs } : Frame) with mode := settle fr.mode } : Frame) = { fr with defers := xs } := by
          rw [hfm]; rfl
        have hst2' : step c.P (lone fr₁ ({ fr with defers := xs } :: cs) w₁) = .next (lone { fr with defers := xs } cs w₁) := by
          rw [hst2]
          show Stepped.next (lone { ({ fr with defers := xs } : Frame) with mode := settle fr.mode } cs w₁) = _
          rw [hset]
        refine Done.of (.head hst (q1.trans (.one hst2'))) q9 (unwind_sound hc hrun hnext hbf ds h1 v h' hv φ₁ w₁ { fr with defers := xs } (hg.mono q9.le) q10 hff hfk hfm (he.mono q9.le) (hds.mono q9.le) (hf.sub q9))
      · cases hv
    · cases hv

/-! ### rounds -/
theorem loop_block {φ : Phi} {h : H} {w : World} (s : Sim φ h w) {l B N : Nat} {st : LoopState} {pend : Option Code} {fn nt : Nat} {tm : T V} {ps : Array Tmp} {assign body : Code} {d : Nat}
    (hg : h.get l = some (.loop st pend fn nt tm ps assign body d)) (hp : φ l = some (B, N)) :
    N = 0 ∧ ∃ xs D M, w.heap[B]? = some (.loop { state := st, pending := pend, fn := fn, tmps := xs, params := ps, assign := assign, body := body, defers := D }) ∧ EnvR φ tm xs ∧ xs.size = nt ∧ φ d = some (D, M) := by
  obtain ⟨B', M, x, hq, hh, hb⟩ := s.blk l _ hg rfl
  rw [hp] at hq; cases hq
  cases hb with
  | loop h1 h2 h3 => exact ⟨rfl, _, _, _, hh, h1, h2, h3⟩

theorem setState_sound {φ : Phi} {h h' : H} {w : World} (s : Sim φ h w) {l B N : Nat} {st : LoopState} {pend : Option Code} (hs : setState h l st pend = some h') (hp : φ l = some (B, N)) :
    ∃ r : Loop, w.heap[B]? = some (.loop r) ∧ stateOf h l = some (r.state, r.pending) ∧ Tr φ h w φ h' { w with heap := w.heap.setIfInBounds B (.loop { r with state := st, pending := pend }) } ∧
      Sim φ h' { w with heap := w.heap.setIfInBounds B (.loop { r with state := st, pending := pend }) } := by
  unfold setState at hs
  split at hs
  · rename_i st0 pend0 fn nt tm ps assign body d hg
    cases hs
    obtain ⟨rfl, xs, D, M, hh, h1, h2, h3⟩ := loop_block s hg hp
    have := put_obj s (o' := .loop st pend fn nt tm ps assign body d) (x' := .loop { state := st, pending := pend, fn := fn, tmps := xs, params := ps, assign := assign, body := body, defers := D }) hg rfl rfl rfl hp hh (.loop h1 h2 h3)
    exact ⟨_, hh, by simp [stateOf, hg], this.1, this.2⟩
  · cases hs

theorem leaveF_sound (hc : CfgOk c) {runf : Fr → H → Option (V × H)} (hrun : RunOk c runf) (hnext : ∀ (fr : Fr) (h : H) (v : V) (h' : H), runf fr h = some (v, h') → h.next ≤ h'.next) {fr : Fr} {h : H} {jump : Option Code} {v : V} {h' : H}
    (hv : leaveF c runf fr h jump = some (v, h')) {φ : Phi} {w : World} {b : Frame} {a : Act} {cs : List Frame} (hg : Glob c.ng φ) (s : Sim φ h w) (hbf : b.fn = fr.fn) (he : EnvR φ fr.tm a.tmps) (hd : DsR φ fr.ds a.defers) (hr : RndR φ fr.rnd b.roundOf) (hf : Free φ h h')
    {k : List Item} (h0 : fr.rnd = none → isRet jump = true → step c.P (lone (b.atR a k) cs w) = .next (lone { b.atR a k with mode := .returning } cs w))
    (h1 : ∀ l w' v' cr rest, b.roundOf = some l → b.kind = .normal → (Instr.endRound l jump).run c.P w = .ok v' w' → step c.P (lone (b.atR a k) (cr :: rest) w) = .next (lone (cr.finish v') rest w')) :
    Done c fr.rnd φ h w b cs v h' (lone (b.atR a k) cs w) := by
  unfold leaveF at hv
  split at hv
  · rename_i l hrn
    rw [hrn] at hr
    cases hro : b.roundOf with
    | none => rw [hro] at hr; exact hr.elim
    | some B =>
    rw [hro] at hr
    obtain ⟨N, hp⟩ := hr
    split at hv
    · split at hv
      · rename_i h2 hs
        cases hv
        obtain ⟨r, q1, q2, q3, q4⟩ := setState_sound s hs hp
        have hend : (Instr.endRound B jump).run c.P w = .ok (.bool jump.isNone) { w with heap := w.heap.setIfInBounds B (.loop { r with state := if jump.isNone then .ready else .done, pending := jump }) } := by
          simp only [Instr.endRound, Instr.getLoop, Sem.run_bind, run_getObj q1 (by simp), Result.andThen_ok, Sem.run_pure, run_setObj _ q1 (by simp)]
        rw [hrn]
        intro hk cr rest hcs
        subst hcs
        exact ⟨φ, _, _, .one (h1 B _ _ cr rest hro hk hend), .bool _, q3, q4⟩
      · cases hv
    · cases hv
  · rename_i hrn
    split at hv
    · rename_i hir
      have hst := h0 hrn hir
      rw [hrn]
      exact Done.of (.one hst) (Tr.refl φ s.dom) (unwind_sound hc hrun hnext hbf _ _ _ _ hv φ w { b.atR a k with mode := .returning } hg s rfl rfl rfl he hd hf)
    · cases hv

end
end Go.Fal
namespace Go.Fal

section
variable {c : Cfg}

theorem zipSet_env {φ : Phi} : ∀ (ps : List Tmp) (args : List V) (tm tm' : T V) (ts xs : Array Value) (ys : List Value), zipSet tm ps args = some tm' → VRs φ args ys → EnvR φ tm ts → (∀ t ∈ ps, t < ts.size) →
    xs = (ps.zip ys).foldl (fun tmps (p : Tmp × Value) => tmps.setIfInBounds p.1 p.2) ts → EnvR φ tm' xs ∧ xs.size = ts.size
  | [], [], tm, tm', ts, xs, ys, hz, ha, he, _, hx => by
    simp only [zipSet, Option.some.injEq] at hz; subst hz; subst hx
    exact ⟨he, rfl⟩
  | [], _ :: _, _, _, _, _, _, hz, _, _, _, _ => by simp [zipSet] at hz
  | _ :: _, [], _, _, _, _, _, hz, _, _, _, _ => by simp [zipSet] at hz
  | p :: ps, v :: vs, tm, tm', ts, xs, ys, hz, ha, he, hb, hx => by
    cases ha with
    | @cons _ y _ ys hv ha =>
    simp only [zipSet] at hz
    simp only [List.zip_cons_cons, List.foldl_cons] at hx
    have hp : p < ts.size := hb p (by simp)
    have he' : EnvR φ (tm.set p v) (ts.setIfInBounds p y) := by
      intro i u hu
      rw [T.get_set] at hu
      split at hu
      · rename_i heq
        cases hu
        exact ⟨y, by rw [heq, Array.getElem?_setIfInBounds, if_pos rfl, if_pos hp], hv⟩
      · rename_i hne
        obtain ⟨z, hz', hvz⟩ := he i u hu
        exact ⟨z, by rw [Array.getElem?_setIfInBounds_ne (fun e => hne e.symm)]; exact hz', hvz⟩
    obtain ⟨r1, r2⟩ := zipSet_env ps vs (tm.set p v) tm' (ts.setIfInBounds p y) xs ys hz ha he' (fun t ht => by rw [Array.size_setIfInBounds]; exact hb t (by simp [ht])) hx
    exact ⟨r1, by rw [r2]; simp⟩

theorem round_frame {φ : Phi} {h : H} {w : World} (s : Sim φ h w) {l B N : Nat} {args : List V} {fr : Fr} (hrf : roundFr h l args = some fr) (hp : φ l = some (B, N)) {r : Loop} (hh : w.heap[B]? = some (.loop r)) {xs : Array Value} (ha : VRs φ args xs.toList) :
    ∃ (b : Frame) (a : Act), Frame.round B r.fn ((r.params.zip xs).foldl (fun tmps (t, a) => tmps.setIfInBounds t a) r.tmps) r.assign r.body .normal = b.atR a fr.todo ∧ b.fn = fr.fn ∧ b.kind = .normal ∧ b.roundOf = some B ∧ fr.rnd = some l ∧
      a.tmps.size = fr.nt ∧ EnvR φ fr.tm a.tmps ∧ DsR φ fr.ds a.defers := by
  unfold roundFr at hrf
  split at hrf
  · rename_i st pend fn nt tm ps assign body d hg
    obtain ⟨_, xs0, D, M, hh', h1, h2, h3⟩ := loop_block s hg hp
    rw [hh] at hh'
    cases hh'
    split at hrf
    · rename_i hall
      split at hrf
      · rename_i tm' hz
        cases hrf
        have hb : ∀ t ∈ ps.toList, t < xs0.size := fun t ht => by
          have := List.all_eq_true.1 hall t ht
          rw [h2]; simpa using this
        have hfold : (ps.zip xs).foldl (fun tmps (x : Tmp × Value) => match x with | (t, a) => tmps.setIfInBounds t a) xs0 = (ps.toList.zip xs.toList).foldl (fun tmps (p : Tmp × Value) => tmps.setIfInBounds p.1 p.2) xs0 := by
          rw [← Array.foldl_toList, Array.toList_zip]
        obtain ⟨r1, r2⟩ := zipSet_env ps.toList args tm tm' xs0 _ xs.toList hz ha h1 hb rfl
        refine ⟨{ (default : Frame) with fn := fn, kind := .normal, roundOf := some B }, { tmps := (ps.toList.zip xs.toList).foldl (fun tmps (p : Tmp × Value) => tmps.setIfInBounds p.1 p.2) xs0, defers := [] }, ?_, rfl, rfl, rfl, rfl, ?_, r1, trivial⟩
        · simp only [Frame.round, Frame.atR, hfold]
        · exact r2.trans h2
      · cases hrf
    · cases hrf
  · cases hrf

theorem callF_sound (hc : CfgOk c) {runf : Fr → H → Option (V × H)} (hrun : RunOk c runf) : CallOk c (callF c runf) := by
  intro out h v h' hv φ w nx hg s hf ho
  unfold callF at hv
  split at hv
  · rename_i f args
    split at hv
    · rename_i u hm
      split at hv
      · rename_i hl
        cases hv
        cases ho with
        | @call _ _ xs ha =>
        exact .inl ⟨f, xs, rfl, fun cr cs => hc.memo f args _ hm φ _ w xs s hg hl ha cr cs⟩
      · cases hv
    split at hv
    · rename_i fr hen
      cases ho with
      | @call _ _ xs ha =>
      refine .inl ⟨f, xs, rfl, fun cr cs => ?_⟩
      obtain ⟨b, a, e1, e2, e3, e4, e5, e6, e7, e8, e9⟩ := enter_frame (P := c.P) hen ha .normal
      have hd := hrun fr h v h' hv φ w b a (cr :: cs) hg s e2 e7 e8 e9 (by rw [e5, e4]; trivial) (.inl e3) hf
      rw [e5] at hd
      obtain ⟨φ', w', fr', v', fn, q1, q2, q3, q4, q5, q6, q7, q8, q9, q10⟩ := hd
      rw [e1]
      exact ⟨φ', w', v', q1.trans (.one (step_leave_returned ⟨q4, q5, by rw [q3, e3], fn, q6, q7⟩)), q8, q9, q10⟩
    · cases hv
  · rename_i l args
    split at hv
    · rename_i fr hrf
      cases ho with
      | @round _ _ xs B N r hp hh ha hsz =>
      refine .inr ⟨B, r.fn, _, r.assign, r.body, rfl, fun cr cs => ?_⟩
      obtain ⟨b, a, e1, e2, e3, e4, e5, e6, e7, e8⟩ := round_frame s hrf hp hh ha
      have hd := hrun fr h v h' hv φ w b a (cr :: cs) hg s e2 e6 e7 e8 (by rw [e5, e4]; exact ⟨N, hp⟩) (.inl e3) hf
      rw [e5] at hd
      rw [e1]
      exact hd e3 cr cs rfl
    · cases hv
  · cases hv

theorem exitO_eq (id : Nat) : ∀ (k : List Item), exitO id k = exitTo id k
  | [] => rfl
  | x :: k => by
    cases x <;> simp only [exitO, exitTo] <;> first
      | exact exitO_eq id k
      | (rename_i i
         by_cases e : i = id
         · simp [e]
         · have : (i == id) = false := by simpa using e
           simp only [e, this, if_false, Bool.false_eq_true]; exact exitO_eq id k)

theorem rangeF_sound (hc : CfgOk c) {runf : Fr → H → Option (V × H)} (hrun : RunOk c runf) (hnext : ∀ (fr : Fr) (h : H) (v : V) (h' : H), runf fr h = some (v, h') → h.next ≤ h'.next) {fr : Fr} {h : H} {f : Operand} {ps : Array Tmp} {assign body : Code} {k : List Item} {v : V} {h' : H}
    (hv : rangeF c runf fr h f ps assign body k = some (v, h')) {φ : Phi} {w : World} {b : Frame} {a : Act} {cs : List Frame} (hg : Glob c.ng φ) (s : Sim φ h w) (hbf : b.fn = fr.fn) (hnt : a.tmps.size = fr.nt) (he : EnvR φ fr.tm a.tmps) (hd : DsR φ fr.ds a.defers)
    (hr : RndR φ fr.rnd b.roundOf) (hk : KindOk b cs) (hf : Free φ h h') : Done c fr.rnd φ h w b cs v h' (lone (b.atR a (.code (.rangeFunc f ps assign body) :: k)) cs w) := by
  have hcall := callF_sound hc hrun
  unfold rangeF at hv
  split at hv
  · cases hv
  · rename_i d mark h1 hm
    split at hv
    · rename_i g first cap hev
      split at hv
      · rename_i u h3 hcl
        split at hv
        · rename_i st pend hso
          split at hv
          · cases hv
          · rename_i hnb
            split at hv
            · rename_i h4 hss
              have n1 := markF_next hm
              have n2 := callF_next hnext _ _ _ _ hcl
              have n3 := setState_next hss
              have n4 := hnext _ _ _ _ hv
              simp only [H.next_new] at n2
              -- the block for what the rounds defer
              obtain ⟨φ₁, w₁, D, dm, M, hmk, ht1, s1, hD, hdm⟩ : ∃ φ₁ w₁ D dm M, (∀ (fn : FuncId), (Instr.enterLoop fn a.tmps ps assign body b.roundOf).run c.P w =
                    .ok (w₁.heap.size, dm) (w₁.alloc (.loop { state := .ready, pending := none, fn := fn, tmps := a.tmps, params := ps, assign := assign, body := body, defers := D }))) ∧ Tr φ h w φ₁ h1 w₁ ∧ Sim φ₁ h1 w₁ ∧ φ₁ d = some (D, M) ∧ DsR φ₁ mark dm := by
                unfold markF at hm
                split at hm
                · rename_i l hrn
                  rw [hrn] at hr
                  cases hro : b.roundOf with
                  | none => rw [hro] at hr; exact hr.elim
                  | some B =>
                  rw [hro] at hr
                  obtain ⟨N, hp⟩ := hr
                  split at hm
                  · rename_i hgl
                    cases hm
                    obtain ⟨_, xs0, D, M, hh, g1, g2, g3⟩ := loop_block s hgl hp
                    refine ⟨φ, w, D, [], M, fun fn => ?_, Tr.refl φ s.dom, s, g3, trivial⟩
                    simp only [Instr.enterLoop, Instr.getLoop, Sem.run_bind, run_getObj hh (by simp), Result.andThen_ok, Sem.run_pure, run_newObj, World.alloc_eq]
                  · cases hm
                · rename_i hrn
                  rw [hrn] at hr
                  cases hro : b.roundOf with
                  | some B => rw [hro] at hr; exact hr.elim
                  | none =>
                  cases hm
                  simp only [H.next_new] at n1 n2 n3 n4
                  have hfr : φ h.next = none := hf h.next (Nat.le_refl _) (by omega)
                  obtain ⟨r1, r2, r3⟩ := new_obj (P := c.P) s hfr (.defd true) (.deferred (some [])) rfl (fun _ _ => .defd (live := true))
                  refine ⟨_, _, w.heap.size, [{ target := .collected w.heap.size, args := #[] }], 0, fun fn => ?_, r2, r3, Phi.add_same _ _ _, ⟨.coll (Phi.add_same _ _ _), trivial⟩⟩
                  simp only [Instr.enterLoop, Sem.run_bind, run_newObj, World.alloc_eq, Result.andThen_ok, Sem.run_pure]
              -- the record
              have hf1 : Free φ₁ h1 h' := hf.sub ht1
              have hfr : φ₁ h1.next = none := hf1 h1.next (Nat.le_refl _) (by omega)
              obtain ⟨_, ht2, s2⟩ := new_obj (P := c.P) s1 hfr (.loop .ready none fr.fn fr.nt fr.tm ps assign body d) (.loop { state := .ready, pending := none, fn := b.fn, tmps := a.tmps, params := ps, assign := assign, body := body, defers := D }) rfl
                (fun ψ hψ => by rw [hbf]; exact .loop ((he.mono ht1.le).mono hψ) hnt (hψ _ _ hD))
              have hf2 := hf1.sub ht2
              have hg2 : Glob c.ng (φ₁.add h1.next (w₁.heap.size, 0)) := (hg.mono ht1.le).mono ht2.le
              -- the call
              have hfv := ev_sound hg he hev
              generalize hfe : a.eval f = fv at hfv
              cases hfv with
              | @func _ _ _ first' cap' q1 q2 =>
              have hle2 := Phi.le_trans ht1.le ht2.le
              have hargs : VRs (φ₁.add h1.next (w₁.heap.size, 0)) (first ++ [V.yield h1.next] ++ cap) (first' ++ #[Value.func (.yield w₁.heap.size) #[] #[]] ++ cap').toList := by
                have := ((q1.mono hle2).append (.cons (.yield (Phi.add_same φ₁ h1.next (w₁.heap.size, 0))) .nil)).append (q2.mono hle2)
                simpa using this
              rcases hcall _ _ _ _ hcl _ _ (.enter g (first' ++ #[Value.func (.yield w₁.heap.size) #[] #[]] ++ cap')) hg2 s2 (fun b hb hb' => hf2 b hb (by omega)) (.call hargs) with ⟨f', xs', hnx, hgo⟩ | ⟨_, _, _, _, _, hnx, _⟩
              · cases hnx
                obtain ⟨φ₃, w₃, v', r1, r2, r3, r4⟩ := hgo (b.atR { a with defers := dm ++ a.defers } (.inRangeFunc w₁.heap.size :: k)) cs
                have hf3 := hf2.sub r3
                have hen : ∃ fn', c.P.funcs[g]? = some fn' ∧ fn'.body.isSome = true := by
                  unfold callF at hcl
                  simp only at hcl
                  split at hcl
                  · rename_i hm'; exact hc.memoBody _ _ _ hm'
                  · split at hcl
                    · rename_i fr' hen
                      unfold enterFr at hen
                      split at hen
                      · cases hen
                      · rename_i fn' hf'
                        split at hen
                        · cases hen
                        · rename_i hb'; exact ⟨fn', hf', by rw [hb']; rfl⟩
                    · cases hcl
                obtain ⟨fn', hfn1, hfn2⟩ := hen
                have hmp : (#[Operand.const (Value.func (.yield w₁.heap.size) #[] #[])] : Array Operand).map a.eval = #[Value.func (.yield w₁.heap.size) #[] #[]] := by simp [Act.eval]
                have hstep := stepR_rangeFunc (P := c.P) (b := b) (a := a) (k := k) (cs := cs) (w := w) (g := f) (ps := ps) (assign := assign) (body := body) (l := w₁.heap.size) (mark := dm)
                  (d := { target := .fn (.func g) cap', args := first' ++ #[Value.func (.yield w₁.heap.size) #[] #[]] }) (f := g) (args := first' ++ #[Value.func (.yield w₁.heap.size) #[] #[]] ++ cap') (hmk b.fn)
                  (w₁' := w₁.alloc (.loop { state := .ready, pending := none, fn := b.fn, tmps := a.tmps, params := ps, assign := assign, body := body, defers := D })) (by simp only [resolve, hmp, hfe, Deferred.ofValue]; rfl) (call_enter hc _ hfn1 hfn2)
                -- behind it
                have hp3 : φ₃ h1.next = some (w₁.heap.size, 0) := r3.le _ _ (Phi.add_same _ _ _)
                obtain ⟨r, t1, t2, t3, t4⟩ := setState_sound r4 hss hp3
                rw [hso] at t2
                simp only [Option.some.injEq, Prod.mk.injEq] at t2
                obtain ⟨rfl, rfl⟩ := t2
                have hend : (Instr.endLoop w₁.heap.size).run c.P w₃ = .ok r.pending { w₃ with heap := w₃.heap.setIfInBounds w₁.heap.size (.loop { r with state := .exhausted, pending := r.pending }) } := by
                  have hnb' : (r.state == .busy) = false := by simpa using hnb
                  simp only [Instr.endLoop, Instr.getLoop, Sem.run_bind, run_getObj t1 (by simp), Result.andThen_ok, Sem.run_pure, hnb', Bool.false_eq_true, if_false, run_setObj _ t1 (by simp)]
                have hstep2 := stepR_endRangeFunc (P := c.P) (b := b) (a := { a with defers := dm ++ a.defers }) (k := k) (cs := cs) hend
                have hcodes : (r.pending.map Item.code).toList ++ k = codes r.pending k := by
                  cases r.pending <;> rfl
                rw [hcodes] at hstep2
                rw [finish_atR_inRangeFunc] at r1
                have htr := ((ht1.trans ht2).trans r3).trans t3
                have hle := htr.le
                have hds : DsR φ₃ (mark ++ fr.ds) (dm ++ a.defers) := (hdm.mono (Phi.le_trans ht2.le r3.le)).append (hd.mono (Phi.le_trans (Phi.le_trans ht1.le ht2.le) r3.le))
                have := hrun { fr with ds := mark ++ fr.ds, todo := codes r.pending k } h4 v h' hv φ₃ _ b { a with defers := dm ++ a.defers } cs (hg.mono hle) t4 hbf hnt (he.mono hle) hds (hr.mono hle) hk (hf3.sub t3)
                exact Done.of (.head hstep (r1.trans (.one hstep2))) htr this
              · cases hnx
            · cases hv
        · cases hv
      · cases hv
    · cases hv

end
end Go.Fal
namespace Go.Fal

/-! ## What an operation depends on -/
section
variable {c : Cfg}

theorem mapO_congr {α β : Type} {f g : α → Option β} : ∀ (l : List α), (∀ x ∈ l, f x = g x) → mapO f l = mapO g l
  | [], _ => rfl
  | x :: l, h => by
    simp only [mapO, h x (by simp), mapO_congr l (fun y hy => h y (by simp [hy]))]

theorem evs_congr {ng : Nat} {tm tm' : T V} {l : List Operand} (h : ∀ x ∈ l, ev ng tm x = ev ng tm' x) : evs ng tm l = evs ng tm' l := mapO_congr l h

theorem evParts_congr {ng : Nat} {tm tm' : T V} {l : List (Nat × Operand)} (h : ∀ p ∈ l, ev ng tm p.2 = ev ng tm' p.2) : evParts ng tm l = evParts ng tm' l :=
  mapO_congr l fun p hp => by rw [h p hp]

theorem evOpt_congr {ng : Nat} {tm tm' : T V} {x : Option Operand} (h : ∀ y, x = some y → ev ng tm y = ev ng tm' y) : evOpt ng tm x = evOpt ng tm' x := by
  cases x with
  | none => rfl
  | some y => simp only [evOpt, h y rfl]

theorem opx_congr {tm tm' : T V} {h : H} {op : Op} (hE : ∀ x ∈ op.operands, ev c.ng tm x = ev c.ng tm' x) : opx c tm h op = opx c tm' h op := by
  cases op <;> simp only [opx, ev1, ev2] <;> (try rfl)
  case move x => rw [hE x (by simp [Op.operands])]
  case assign x => rw [hE x (by simp [Op.operands])]
  case pick q x y => rw [hE q (by simp [Op.operands]), hE x (by simp [Op.operands]), hE y (by simp [Op.operands])]
  case box e x => rw [hE x (by simp [Op.operands])]
  case build t ps => rw [evParts_congr (fun p hp => hE p.2 (by simp only [Op.operands, List.mem_toArray, List.mem_map]; exact ⟨p, hp, rfl⟩))]
  case buildSlice t n ps => rw [evParts_congr (fun p hp => hE p.2 (by simp only [Op.operands, List.mem_toArray, List.mem_map]; exact ⟨p, hp, rfl⟩))]
  case load t x => rw [hE x (by simp [Op.operands])]
  case store t x y => rw [hE x (by simp [Op.operands]), hE y (by simp [Op.operands])]
  case nilCheck x => rw [hE x (by simp [Op.operands])]
  case binOp op t x y _ => rw [hE x (by simp [Op.operands]), hE y (by simp [Op.operands])]
  case unOp op t x => rw [hE x (by simp [Op.operands])]
  case convert s d x => rw [hE x (by simp [Op.operands])]
  case makeInterface t x => rw [hE x (by simp [Op.operands])]
  case makeFunc fn a b => rw [evs_congr (fun x hx => hE x (by simp only [Op.operands, Array.mem_append]; exact .inl (Array.mem_toList_iff.1 hx))), evs_congr (tm := tm) (l := b.toList) (fun x hx => hE x (by simp only [Op.operands, Array.mem_append]; exact .inr (Array.mem_toList_iff.1 hx)))]
  case makeMap t r => rw [evOpt_congr (fun y hy => hE y (by simp [Op.operands, hy]))]
  case makeSlice t x y => rw [hE x (by simp [Op.operands]), hE y (by simp [Op.operands])]
  case slice t x lo hi mx => rw [hE x (by simp [Op.operands]), evOpt_congr (x := lo) (fun y hy => hE y (by simp [Op.operands, hy])), evOpt_congr (x := hi) (fun y hy => hE y (by simp [Op.operands, hy])), evOpt_congr (x := mx) (fun y hy => hE y (by simp [Op.operands, hy]))]
  case fieldAddr t x f => rw [hE x (by simp [Op.operands])]
  case field t x f => rw [hE x (by simp [Op.operands])]
  case indexAddr t x y => rw [hE x (by simp [Op.operands]), hE y (by simp [Op.operands])]
  case index t x y => rw [hE x (by simp [Op.operands]), hE y (by simp [Op.operands])]
  case lookup t x y ok => rw [hE x (by simp [Op.operands]), hE y (by simp [Op.operands])]
  case mapUpdate t x y z => rw [hE x (by simp [Op.operands]), hE y (by simp [Op.operands]), hE z (by simp [Op.operands])]
  case insert t x y z => rw [hE x (by simp [Op.operands]), hE y (by simp [Op.operands]), hE z (by simp [Op.operands])]
  case mapEntry t x y => rw [hE x (by simp [Op.operands]), hE y (by simp [Op.operands])]
  case entryStore t x y z => rw [hE x (by simp [Op.operands]), hE y (by simp [Op.operands]), hE z (by simp [Op.operands])]
  case range t x => rw [hE x (by simp [Op.operands])]
  case next x s => rw [hE x (by simp [Op.operands])]
  case extract x i => rw [hE x (by simp [Op.operands])]
  case call k =>
    rw [evs_congr (fun x hx => hE x (by simp only [Op.operands, Call.operands, Array.mem_append]; exact .inr (Array.mem_toList_iff.1 hx)))]
    split
    · rfl
    · obtain ⟨callee, kargs, kts⟩ := k
      cases callee with
      | builtin b => cases b <;> rfl
      | value f => simp only; rw [hE f (by simp [Op.operands, Call.operands])]
      | invoke r m => rfl
  case defer k =>
    rw [evs_congr (fun x hx => hE x (by simp only [Op.operands, Call.operands, Array.mem_append]; exact .inr (Array.mem_toList_iff.1 hx)))]
    split
    · rfl
    · obtain ⟨callee, kargs, kts⟩ := k
      cases callee with
      | builtin b => cases b <;> rfl
      | value f => simp only; rw [hE f (by simp [Op.operands, Call.operands])]
      | invoke r m => rfl

/-! ## Classes -/
theorem ret_eq (r : Option V) (h : H) : ret r h = r.map fun v => (Out.val v, h) := by cases r <;> rfl

theorem veq_indep {P : Program} {t : TypeId} {d : TypeDesc} (hu : P.underlying t = some d) (hd : d = .string ∨ d = .bool ∨ ∃ k, d = .int k) (h h2 : H) (n : Nat) (x y : V) : veq P h n t x y = veq P h2 n t x y := by
  cases n with
  | zero => rfl
  | succ n =>
    unfold veq
    rw [hu]
    rcases hd with rfl | rfl | ⟨k, rfl⟩ <;> cases x <;> cases y <;> rfl

theorem binO_indep {P : Program} {t : TypeId} {d : TypeDesc} (hu : P.underlying t = some d) (hd : d = .string ∨ d = .bool ∨ ∃ k, d = .int k) (h h2 : H) (op : BinOp) (ox oy : Operand) (x y : V) : binO P h op t ox oy x y = binO P h2 op t ox oy x y := by
  unfold binO
  simp only [veq_indep hu hd h h2]

theorem opx_P {tm : T V} {h h' : H} {op : Op} {out : Out} (hc : clsOf c.P op = .P) (hv : opx c tm h op = some (out, h')) : ∃ v, out = .val v ∧ h' = h ∧ ∀ h2, opx c tm h2 op = some (.val v, h2) := by
  cases op <;> simp only [clsOf] at hc <;> (try (cases hc; done)) <;> simp only [opx, ev1, ev2] at hv ⊢
  case move x => split at hv <;> cases hv; rename_i hx; exact ⟨_, rfl, rfl, fun h2 => by rfl⟩
  case assign x => split at hv <;> cases hv; exact ⟨_, rfl, rfl, fun h2 => by rfl⟩
  case pick q x y =>
    split at hv
    · cases hv
    · split at hv
      · split at hv <;> cases hv
        exact ⟨_, rfl, rfl, fun h2 => by rfl⟩
      · split at hv <;> cases hv
        exact ⟨_, rfl, rfl, fun h2 => by rfl⟩
      · cases hv
  case build t ps =>
    split at hv
    · rw [ret_eq, Option.map_eq_some_iff] at hv
      obtain ⟨v, hb, hv⟩ := hv
      cases hv
      exact ⟨v, rfl, rfl, fun h2 => by simp only [hb]; rfl⟩
    · cases hv
  case nilCheck x =>
    split at hv
    · cases hv
    · split at hv <;> cases hv
      · exact ⟨_, rfl, rfl, fun h2 => by rfl⟩
      · exact ⟨_, rfl, rfl, fun h2 => by rfl⟩
  case binOp op t x y t2 =>
    have hd : ∃ d, c.P.underlying t = some d ∧ (d = .string ∨ d = .bool ∨ ∃ k, d = .int k) := by
      split at hc
      · rename_i k hu; exact ⟨_, hu, .inr (.inr ⟨k, rfl⟩)⟩
      · rename_i hu; exact ⟨_, hu, .inl rfl⟩
      · rename_i hu; exact ⟨_, hu, .inr (.inl rfl)⟩
      · cases hc
    obtain ⟨d, hu, hd⟩ := hd
    split at hv
    · cases hv
    · split at hv
      · cases hv
      · rw [ret_eq, Option.map_eq_some_iff] at hv
        obtain ⟨v, hb, hv⟩ := hv
        cases hv
        refine ⟨v, rfl, rfl, fun h2 => ?_⟩
        rw [binO_indep hu hd h h2] at hb
        simp only [hb]; rfl
  case unOp op t x =>
    split at hv
    · cases hv
    · rw [ret_eq, Option.map_eq_some_iff] at hv
      obtain ⟨v, hb, hv⟩ := hv
      cases hv
      exact ⟨v, rfl, rfl, fun h2 => by simp only [hb]; rfl⟩
  case convert s d x =>
    split at hv
    · cases hv
    · rename_i a ha
      obtain ⟨v, hb, rfl⟩ := ret2_some hv
      split at hc
      · rename_i k k' hs hd
        cases a with
        | int j n =>
          simp only [convO, hs, hd] at hb
          cases hb
          exact ⟨_, rfl, rfl, fun h2 => by simp only [convO, hs, hd]; rfl⟩
        | _ => simp [convO, hs, hd] at hb
      all_goals cases hc
  case makeInterface t x =>
    split at hv
    · cases hv
    · split at hv
      · cases hv
      · rename_i hd hu; cases hv
        refine ⟨_, rfl, rfl, fun h2 => ?_⟩
        simp only
      · cases hv
  case makeFunc fn a b => split at hv <;> cases hv; exact ⟨_, rfl, rfl, fun h2 => by rfl⟩
  case slice t x lo hi mx =>
    split at hv
    · cases hv
    · split at hv
      · rw [ret_eq, Option.map_eq_some_iff] at hv
        obtain ⟨v, hb, hv⟩ := hv
        cases hv
        refine ⟨v, rfl, rfl, fun h2 => ?_⟩
        have : ∀ (xx : V) l u m, sliceO c.P h t xx l u m = sliceO c.P h2 t xx l u m := by
          intro xx l u m
          unfold sliceO
          split at hc
          · rename_i hu; rw [hu]; cases xx <;> rfl
          · rename_i e hu; rw [hu]; cases xx <;> rfl
          · cases hc
        rw [this] at hb
        simp only [hb]; rfl
      · cases hv
  case fieldAddr t x f =>
    split at hv
    · cases hv
    · rw [ret_eq, Option.map_eq_some_iff] at hv
      obtain ⟨v, hb, hv⟩ := hv
      cases hv
      exact ⟨v, rfl, rfl, fun h2 => by simp only [hb]; rfl⟩
  case field t x f =>
    split at hv
    · cases hv
    · rw [ret_eq, Option.map_eq_some_iff] at hv
      obtain ⟨v, hb, hv⟩ := hv
      cases hv
      exact ⟨v, rfl, rfl, fun h2 => by simp only [hb]; rfl⟩
  case indexAddr t x i =>
    split at hv
    · cases hv
    · split at hv
      · cases hv
      · rw [ret_eq, Option.map_eq_some_iff] at hv
        obtain ⟨v, hb, hv⟩ := hv
        cases hv
        exact ⟨v, rfl, rfl, fun h2 => by simp only [hb]; rfl⟩
  case index t x i =>
    split at hv
    · cases hv
    · split at hv
      · cases hv
      · rw [ret_eq, Option.map_eq_some_iff] at hv
        obtain ⟨v, hb, hv⟩ := hv
        cases hv
        exact ⟨v, rfl, rfl, fun h2 => by simp only [hb]; rfl⟩
  case extract x i =>
    split at hv
    · cases hv
    · split at hv
      · split at hv
        · rename_i hi
          cases hv; exact ⟨_, rfl, rfl, fun h2 => by simp only⟩
        · cases hv
      · cases hv
  case call k =>
    obtain ⟨callee, kargs, kts⟩ := k
    split at hv
    · cases hv
    · rename_i args hargs
      cases callee with
      | value f => cases hc
      | invoke r m => cases hc
      | builtin b =>
        simp only at hc hv ⊢
        cases b <;> simp only at hc hv ⊢ <;> (try (cases hc; done))
        case len =>
          obtain ⟨v, hbo, rfl⟩ := ret2_some hv
          cases ht : kts[0]? with
          | none => rw [ht] at hc; simp at hc
          | some t =>
            rw [ht] at hc
            simp only [Option.bind_some] at hc
            cases args with
            | nil => simp [builtinO, ht] at hbo
            | cons x xs =>
              cases xs with
              | cons y ys => simp [builtinO, ht] at hbo
              | nil =>
                simp only [builtinO, ht] at hbo
                split at hbo
                · rename_i u hl
                  cases hbo
                  refine ⟨_, rfl, rfl, fun h2 => ?_⟩
                  have hi : lenBuiltinO c.P h2 t x = lenBuiltinO c.P h t x := by
                    unfold lenBuiltinO
                    split at hc
                    · cases hc
                    · cases hc
                    · rename_i d n1 n2
                      cases d <;> first | (cases x <;> simp only [n2]; done) | skip
                      all_goals first | (rw [n2]; cases x <;> rfl) | skip
                      all_goals (exfalso; exact n1 _ _ rfl)
                  simp only [builtinO, ht, hi, hl]; rfl
                · cases hbo
        case max =>
          obtain ⟨v, hbo, rfl⟩ := ret2_some hv
          cases args with
          | nil => simp [builtinO] at hbo
          | cons x xs =>
            simp only [builtinO] at hbo
            split at hbo
            · rename_i u hl; cases hbo
              exact ⟨_, rfl, rfl, fun h2 => by simp only [builtinO, hl]; rfl⟩
            · cases hbo
        case min =>
          obtain ⟨v, hbo, rfl⟩ := ret2_some hv
          cases args with
          | nil => simp [builtinO] at hbo
          | cons x xs =>
            simp only [builtinO] at hbo
            split at hbo
            · rename_i u hl; cases hbo
              exact ⟨_, rfl, rfl, fun h2 => by simp only [builtinO, hl]; rfl⟩
            · cases hbo

end
end Go.Fal
namespace Go.Fal

section
variable {c : Cfg}

theorem buildSliceO_form {P : Program} {h h' : H} {t : TypeId} {n : Nat} {ps : List (Nat × V)} {v : V} (hb : buildSliceO P h t n ps = some (v, h')) :
    ∃ k cs, v = .slice h.next 0 n n k true ∧ h' = h.new (ofCells cs) ∧ ∀ h2, buildSliceO P h2 t n ps = some (.slice h2.next 0 n n k true, h2.new (ofCells cs)) := by
  unfold buildSliceO at hb
  split at hb
  · rename_i e hu
    split at hb
    · rename_i k hk
      split at hb
      · rename_i hle
        split at hb
        · rename_i z hz
          split at hb
          · rename_i hzl
            split at hb
            · rename_i cs hcs
              split at hb
              · rename_i hpl
                cases hb
                exact ⟨_, cs, rfl, rfl, fun h2 => by simp only [buildSliceO, hu, hk, hz]; rw [if_pos hle, if_pos hzl]; simp only [hcs]; rw [if_pos hpl]⟩
              · cases hb
            · cases hb
          · cases hb
        · cases hb
      · cases hb
    · cases hb
  · cases hb

theorem makeSliceO_form {P : Program} {h h' : H} {t : TypeId} {l k v : V} (hb : makeSliceO P h t l k = some (v, h')) :
    ∃ ll cc ss o, v = .slice h.next 0 ll cc ss true ∧ O.rw o = true ∧ h' = h.new o ∧ ∀ h2, makeSliceO P h2 t l k = some (.slice h2.next 0 ll cc ss true, h2.new o) := by
  unfold makeSliceO at hb
  split at hb
  · rename_i e k1 l1 k2 c1 hu
    split at hb
    · rename_i i hi
      split at hb
      · rename_i z hz
        split at hb
        · rename_i hcond
          cases hb
          exact ⟨_, _, _, _, rfl, rfl, rfl, fun h2 => by simp only [makeSliceO, hu, hi, hz]; rw [if_pos hcond]⟩
        · cases hb
      · cases hb
    · cases hb
  · cases hb

theorem opx_A {tm : T V} {h h' : H} {op : Op} {out : Out} (hc : clsOf c.P op = .A) (hv : opx c tm h op = some (out, h')) :
    ∃ v o, out = .val v ∧ o.rw = true ∧ h' = h.new o ∧ ∀ h2 : H, h2.next = h.next → opx c tm h2 op = some (.val v, h2.new o) := by
  cases op <;> simp only [clsOf] at hc <;> (try (cases hc; done)) <;> simp only [opx, ev1, ev2] at hv ⊢
  case alloc e =>
    split at hv
    · obtain ⟨v, hb, rfl⟩ := ret2_some hv
      unfold newCells at hb
      split at hb <;> cases hb
      rename_i hp
      exact ⟨_, _, rfl, rfl, rfl, fun h2 e => by simp only [newCells, hp, if_true, ret2, e]⟩
    · cases hv
  case box e x =>
    split at hv
    · cases hv
    · obtain ⟨v, hb, rfl⟩ := ret2_some hv
      unfold newCells at hb
      split at hb <;> cases hb
      rename_i hp
      exact ⟨_, _, rfl, rfl, rfl, fun h2 e => by simp only [newCells, hp, if_true, ret2, e]⟩
  case buildSlice t n ps =>
    split at hv
    · obtain ⟨v, hb, rfl⟩ := ret2_some hv
      obtain ⟨k, cs, rfl, rfl, hk⟩ := buildSliceO_form hb
      exact ⟨_, _, rfl, rfl, rfl, fun h2 e => by rw [hk h2, e]; rfl⟩
    · cases hv
  case makeMap t r =>
    split at hv
    · rename_i hu hr; cases hv
      exact ⟨_, _, rfl, rfl, rfl, fun h2 e => by simp only [e]⟩
    · rename_i hu hr; cases hv
      exact ⟨_, _, rfl, rfl, rfl, fun h2 e => by simp only [e]⟩
    · cases hv
  case makeSlice t l k =>
    split at hv
    · cases hv
    · split at hv
      · cases hv
      · obtain ⟨v, hb, rfl⟩ := ret2_some hv
        obtain ⟨ll, cc, ss, o, rfl, ho, rfl, hk⟩ := makeSliceO_form hb
        exact ⟨_, o, rfl, ho, rfl, fun h2 e => by rw [hk h2, e]; rfl⟩
  all_goals (exfalso; revert hc; repeat' split) <;> simp

theorem opx_R {tm : T V} {h h' : H} {op : Op} {out : Out} (hc : clsOf c.P op = .R) (hv : opx c tm h op = some (out, h')) {x : Operand} {av : V} (hx : rdOperand op = some x) (hev : ev c.ng tm x = some av) :
    ∃ v, out = .val v ∧ h' = h ∧ rdAt c.P h op av = some v ∧ ∀ (h2 : H) (u : V), rdAt c.P h2 op av = some u → opx c tm h2 op = some (.val u, h2) := by
  cases op <;> simp only [clsOf] at hc <;> (try (cases hc; done)) <;> simp only [rdOperand] at hx <;> (try (cases hx; done)) <;> simp only [opx, ev1] at hv ⊢
  case load t a =>
    cases hx
    rw [hev] at hv ⊢
    simp only at hv ⊢
    obtain ⟨v, hl, rfl, rfl⟩ := ret_some hv
    exact ⟨v, rfl, rfl, hl, fun h2 u hu => by simp only [rdAt] at hu; rw [hu]; rfl⟩
  case convert s d a =>
    cases hx
    rw [hev] at hv ⊢
    simp only at hv ⊢
    obtain ⟨v, hl, rfl⟩ := ret2_some hv
    split at hc
    · cases hc
    · rename_i e hs hd
      have key : ∀ (h2 h3 : H) (u : V), convO c.P h2 s d av = some (u, h3) → h3 = h2 := by
        intro h2 h3 u hu
        unfold convO at hu
        rw [hs, hd] at hu
        cases av <;> simp only at hu <;> (try (cases hu; done))
        · split at hu <;> cases hu; rfl
        · repeat' split at hu
          all_goals first | (cases hu; done) | (cases hu; rfl)
      have hh := key _ _ _ hl
      subst hh
      refine ⟨v, rfl, rfl, by simp only [rdAt, hl], fun h2 u hu => ?_⟩
      simp only [rdAt] at hu
      split at hu
      · rename_i v2 h3 h4
        cases hu
        have := key _ _ _ h4
        subst this
        rw [h4]; rfl
      · cases hu
    · cases hc
  all_goals (exfalso; revert hc; repeat' split) <;> simp

end

/-! ## One heap laid over another one -/
def T.over {α : Type} : T α → T α → T α
  | .e, b => b
  | .n l v r, .e => .n l v r
  | .n l v r, .n l' v' r' => .n (T.over l l') (match v with | some x => some x | none => v') (T.over r r')

theorem T.get_over {α : Type} : ∀ (a b : T α) (k : Nat), (T.over a b).get k = match a.get k with | some x => some x | none => b.get k
  | .e, b, k => by simp [T.over]
  | .n l v r, .e, k => by
    simp only [T.over, T.get_e]
    cases (T.n l v r).get k <;> rfl
  | .n l v r, .n l' v' r', 0 => by simp only [T.over, T.get]
  | .n l v r, .n l' v' r', k + 1 => by
    simp only [T.over, T.get]
    split
    · exact T.get_over l l' _
    · exact T.get_over r r' _

theorem Sim.congr {φ : Phi} {h h2 : H} {w : World} (s : Sim φ h w) (hg : ∀ b, h2.get b = h.get b) (hn : h.next ≤ h2.next) : Sim φ h2 w :=
  ⟨fun b o hb => Nat.lt_of_lt_of_le (s.dom b o (by rw [← hg]; exact hb)) hn, fun b o hb => s.blk b o (by rw [← hg]; exact hb),
   fun b c o u B N M h1 h2 => s.inj b c o u B N M (by rw [← hg]; exact h1) (by rw [← hg]; exact h2)⟩

theorem Sim.sub {φ : Phi} {h h2 : H} {w : World} (s : Sim φ h w) (hg : ∀ b o, h2.get b = some o → h.get b = some o) (hd : ∀ b o, h2.get b = some o → b < h2.next) : Sim φ h2 w :=
  ⟨hd, fun b o hb => s.blk b o (hg b o hb), fun b c o u B N M h1 h2 => s.inj b c o u B N M (hg _ _ h1) (hg _ _ h2)⟩

theorem Foot.sub {φ : Phi} {h h2 : H} {k : Nat} (hg : ∀ b o, h2.get b = some o → h.get b = some o) (hf : Foot φ h2 k) : Foot φ h k := by
  obtain ⟨b, o, N, h1, h3, h4⟩ := hf; exact ⟨b, o, N, hg _ _ h1, h3, h4⟩

/-- THE FRAME RULE: what a step does on a part of the heap it does on the whole. -/
theorem frame_rule {φ₀ φ φ' : Phi} {h₀ hh h h' : H} {w₀ w w' : World} (ht : Tr φ₀ h₀ w₀ φ hh w) (s : Sim φ hh w) (hs : Tr φ h w φ' h' w') (s' : Sim φ' h' w')
    (c1 : ∀ b o, h.get b = some o → hh.get b = some o) (hn0 : h₀.next ≤ h.next) (hn1 : h'.next ≤ hh.next) :
    Tr φ₀ h₀ w₀ φ' ⟨hh.next, T.over h'.t hh.t⟩ w' ∧ Sim φ' ⟨hh.next, T.over h'.t hh.t⟩ w' := by
  have get_over : ∀ b, (⟨hh.next, T.over h'.t hh.t⟩ : H).get b = match h'.get b with | some o => some o | none => hh.get b := by
    intro b
    have e := T.get_over h'.t hh.t b
    simp only [H.get] at *
    cases hx : h'.t.get b <;> simp only [hx] at e ⊢ <;> exact e
  -- a block of the whole lies in the step's part, or is kept
  have cases_ : ∀ b o, (⟨hh.next, T.over h'.t hh.t⟩ : H).get b = some o → h'.get b = some o ∨ (h'.get b = none ∧ h.get b = none ∧ hh.get b = some o) := by
    intro b o hb
    rw [get_over] at hb
    cases hb' : h'.get b with
    | some u => rw [hb'] at hb; simp only at hb; exact .inl hb
    | none =>
      rw [hb'] at hb; simp only at hb
      refine .inr ⟨rfl, ?_, hb⟩
      cases hx : h.get b with
      | none => rfl
      | some u => obtain ⟨u', hu'⟩ := hs.kept b u hx; rw [hb'] at hu'; cases hu'
  -- what is kept lies where it lay, and is not written
  have kept_ : ∀ b o B N x, hh.get b = some o → h.get b = none → o.live = true → φ b = some (B, N) → w.heap[B]? = some x → o.rw = true → w'.heap[B]? = some x := by
    intro b o B N x hb hn hl hp hx hr
    rw [hs.keep B (lt_of_heap hx)]
    · exact hx
    · rintro ⟨b2, o2, N2, g1, g2, g3⟩
      have := s.inj b b2 o o2 B N N2 hb (c1 _ _ g1) hl (O.live_of_rw g2) hp g3
      subst this
      rw [hn] at g1; cases g1
  have keptro_ : ∀ b o B N x, hh.get b = some o → h.get b = none → o.live = true → φ b = some (B, N) → w.heap[B]? = some x → w'.heap[B]? = some x := by
    intro b o B N x hb hn hl hp hx
    rw [hs.keep B (lt_of_heap hx)]
    · exact hx
    · rintro ⟨b2, o2, N2, g1, g2, g3⟩
      have := s.inj b b2 o o2 B N N2 hb (c1 _ _ g1) hl (O.live_of_rw g2) hp g3
      subst this
      rw [hn] at g1; cases g1
  have foot_ : ∀ k, Foot φ' ⟨hh.next, T.over h'.t hh.t⟩ k → Foot φ hh k ∨ w.heap.size ≤ k := by
    rintro k ⟨b, o, N, hb, hr, hp⟩
    rcases cases_ b o hb with hb | ⟨hb1, hb2, hb3⟩
    · rcases hs.foot k ⟨b, o, N, hb, hr, hp⟩ with hf | hf
      · exact .inl (Foot.sub c1 hf)
      · exact .inr hf
    · obtain ⟨B, M, x, g1, g2, _⟩ := s.blk b o hb3 (O.live_of_rw hr)
      have := hs.le _ _ g1
      rw [hp] at this; cases this
      exact .inl ⟨b, o, N, hb3, hr, g1⟩
  refine ⟨⟨Phi.le_trans ht.le hs.le, ?_, ht.next, Nat.le_trans ht.size hs.size, hs.os.trans ht.os, hs.tape.trans ht.tape, hs.output.trans ht.output, ?_, ?_, ?_, ?_, ?_⟩, ⟨?_, ?_, ?_⟩⟩
  · intro b hb
    rw [hs.fresh b (by simp only at hb; omega)]
    exact ht.fresh b hb
  · intro k hk hf
    have h1 := ht.keep k hk hf
    rw [hs.keep k (Nat.lt_of_lt_of_le hk ht.size) (fun hf' => (ht.foot k (Foot.sub c1 hf')).elim hf (by omega)), h1]
  · intro k hf
    rcases foot_ k hf with hf | hf
    · exact ht.foot k hf
    · exact .inr (Nat.le_trans ht.size hf)
  · intro b o hb hlt hl
    rcases cases_ b o hb with hb | ⟨hb1, hb2, hb3⟩
    · obtain ⟨u, hu, hul, hur⟩ := hs.old b o hb (Nat.lt_of_lt_of_le hlt hn0) hl
      obtain ⟨u2, hu2, hul2, hur2⟩ := ht.old b u (c1 _ _ hu) hlt hul
      exact ⟨u2, hu2, hul2, hur2.trans hur⟩
    · exact ht.old b o hb3 hlt hl
  · intro b o hb hge hl
    rcases cases_ b o hb with hb | ⟨hb1, hb2, hb3⟩
    · rcases Nat.lt_or_ge b h.next with hlt | hge'
      · obtain ⟨u, hu, hul, hur⟩ := hs.old b o hb hlt hl
        rw [← hur]; exact ht.newrw b u (c1 _ _ hu) hge hul
      · exact hs.newrw b o hb hge' hl
    · exact ht.newrw b o hb3 hge hl
  · intro b o hb
    obtain ⟨u, hu⟩ := ht.kept b o hb
    rw [get_over]
    cases h'.get b with
    | some u2 => exact ⟨u2, rfl⟩
    | none => exact ⟨u, hu⟩
  · intro b o hb
    rcases cases_ b o hb with hb | ⟨hb1, hb2, hb3⟩
    · exact Nat.lt_of_lt_of_le (s'.dom b o hb) hn1
    · exact s.dom b o hb3
  · intro b o hb hl
    rcases cases_ b o hb with hb | ⟨hb1, hb2, hb3⟩
    · exact s'.blk b o hb hl
    · obtain ⟨B, M, x, g1, g2, g3⟩ := s.blk b o hb3 hl
      exact ⟨B, M, x, hs.le _ _ g1, keptro_ b o B M x hb3 hb2 hl g1 g2, g3.mono hs.le⟩
  · intro b b2 o o2 B N N2 hb hb2 hl hl2 hp hp2
    rcases cases_ b o hb with hb | ⟨x1, x2, x3⟩
    · rcases cases_ b2 o2 hb2 with hb2 | ⟨y1, y2, y3⟩
      · exact s'.inj b b2 o o2 B N N2 hb hb2 hl hl2 hp hp2
      · -- one of the step's, one that is kept
        obtain ⟨B', M, x, g1, g2, _⟩ := s.blk b2 o2 y3 hl2
        have := hs.le _ _ g1
        rw [hp2] at this; cases this
        rcases Nat.lt_or_ge b h.next with hlt | hge
        · obtain ⟨u, hu, hul, _⟩ := hs.old b o hb hlt hl
          rw [hs.fresh b (.inl hlt)] at hp
          have := s.inj b b2 u o2 B N N2 (c1 _ _ hu) y3 hul hl2 hp g1
          exact this
        · have hr := hs.newrw b o hb hge hl
          rcases hs.foot B ⟨b, o, N, hb, hr, hp⟩ with ⟨b3, o3, N3, q1, q2, q3⟩ | hf
          · have := s.inj b3 b2 o3 o2 B N3 N2 (c1 _ _ q1) y3 (O.live_of_rw q2) hl2 q3 g1
            subst this
            rw [y2] at q1; cases q1
          · have := lt_of_heap g2; omega
    · rcases cases_ b2 o2 hb2 with hb2 | ⟨y1, y2, y3⟩
      · obtain ⟨B', M, x, g1, g2, _⟩ := s.blk b o x3 hl
        have := hs.le _ _ g1
        rw [hp] at this; cases this
        rcases Nat.lt_or_ge b2 h.next with hlt | hge
        · obtain ⟨u, hu, hul, _⟩ := hs.old b2 o2 hb2 hlt hl2
          rw [hs.fresh b2 (.inl hlt)] at hp2
          exact s.inj b b2 o u B N N2 x3 (c1 _ _ hu) hl hul g1 hp2
        · have hr := hs.newrw b2 o2 hb2 hge hl2
          rcases hs.foot B ⟨b2, o2, N2, hb2, hr, hp2⟩ with ⟨b3, o3, N3, q1, q2, q3⟩ | hf
          · have := s.inj b3 b o3 o B N3 N (c1 _ _ q1) x3 (O.live_of_rw q2) hl q3 g1
            subst this
            rw [x2] at q1; cases q1
          · have := lt_of_heap g2; omega
      · obtain ⟨B', M, x, g1, g2, _⟩ := s.blk b o x3 hl
        have e1 := hs.le _ _ g1
        rw [hp] at e1; cases e1
        obtain ⟨B', M, x, k1, k2, _⟩ := s.blk b2 o2 y3 hl2
        have e2 := hs.le _ _ k1
        rw [hp2] at e2; cases e2
        exact s.inj b b2 o o2 B N N2 x3 y3 hl hl2 g1 k1

end Go.Fal
