/-
  THE ENGINE: an interpreter of our own for the model's programs, and the proof that each of its runs is a call of the model, for every start that it sees.
-/
import Derived.Test.YthoiomcchedapaaGreatDoorE03
import GoSem.Extern.BytealgIndex
import GoSem.Extern.BytealgIndexByte
set_option autoImplicit true
set_option relaxedAutoImplicit true
set_option linter.unusedVariables false
set_option linter.unusedSimpArgs false
namespace Go.Fal

section
variable {P : Program} {φ : Phi} {h h' : H} {w : World}

theorem new_obj (s : Sim φ h w) (hf : φ h.next = none) (o : O) (x : Obj) (hrw : o.rw = true) (hb : ∀ ψ : Phi, φ.le ψ → BR ψ o 0 x) :
    (newObj x).run P w = .ok w.heap.size (w.alloc x) ∧ Tr φ h w (φ.add h.next (w.heap.size, 0)) (h.new o) (w.alloc x) ∧ Sim (φ.add h.next (w.heap.size, 0)) (h.new o) (w.alloc x) := by
  have := new_block s hf o x 0 hrw (hb _ (Phi.le_add _ hf))
  exact ⟨rfl, this.1, this.2⟩

theorem rangeO_sound (s : Sim φ h w) {t : TypeId} {x v : V} {x' : Value} (hx : VR φ x x') (hv : rangeO P h t x = some (v, h')) (hf : h'.next ≠ h.next → φ h.next = none) :
    ∃ φ' w' u, (Instr.range t x').run P w = .ok u w' ∧ Tr φ h w φ' h' w' ∧ Sim φ' h' w' ∧ VR φ' v u := by
  unfold rangeO at hv
  split at hv
  · rename_i l hu
    cases hv; cases hx with
    | str s₀ =>
    obtain ⟨h1, h2, h3⟩ := new_obj (P := P) s (hf (by simp)) (.siter (bytesOf s₀) 0) (.stringIter s₀ 0) rfl (fun _ _ => .siter)
    refine ⟨_, _, .pointer (some ⟨w.heap.size, 0, none⟩), ?_, h2, h3, .ptr (Phi.add_same _ _ _)⟩
    simp only [Instr.range, Sem.run_bind, run_underlying hu, Result.andThen_ok, Sem.run_pure, h1]
  · rename_i hu
    cases hv; cases hx
    obtain ⟨h1, h2, h3⟩ := new_obj (P := P) s (hf (by simp)) (.miter none 0 [] 0) (.mapIter none 0 #[] 0) rfl (fun _ _ => .miter (seen := #[]) (fun b hb => by cases hb) (fun _ => rfl))
    refine ⟨_, _, .pointer (some ⟨w.heap.size, 0, none⟩), ?_, h2, h3, .ptr (Phi.add_same _ _ _)⟩
    simp only [Instr.range, Sem.run_bind, run_underlying hu, Result.andThen_ok, Sem.run_pure, h1]
  · rename_i b hu
    split at hv
    · rename_i es clock hg
      cases hv
      cases hx with
      | @map _ B N hp =>
      obtain ⟨rfl, es', hh, hm⟩ := map_block s hg hp
      obtain ⟨h1, h2, h3⟩ := new_obj (P := P) s (hf (by simp)) (.miter (some b) clock [] clock) (.mapIter (some B) clock #[] clock) rfl
        (fun ψ hψ => .miter (seen := #[]) (fun c hc => by cases hc; exact ⟨B, 0, hψ _ _ hp, rfl⟩) (fun hc => by cases hc))
      refine ⟨_, _, .pointer (some ⟨w.heap.size, 0, none⟩), ?_, h2, h3, .ptr (Phi.add_same _ _ _)⟩
      simp only [Instr.range, Sem.run_bind, run_underlying hu, Result.andThen_ok, run_getObj hh (by simp), Sem.run_pure, h1]
    · cases hv
  · cases hv

theorem MapR.filter (p : Nat → Bool) : ∀ {es : List (V × V × Nat)} {xs : List MapEntry}, MapR φ es xs → MapR φ (es.filter fun e => p e.2.2) (xs.filter fun e => p e.born)
  | [], [], _ => trivial
  | [], _ :: _, h => h.elim
  | _ :: _, [], h => h.elim
  | e :: es, x :: xs, h => by
    have ih := MapR.filter p h.2.2.2
    simp only [List.filter_cons, h.2.2.1]
    split
    · exact ⟨h.1, h.2.1, h.2.2.1, ih⟩
    · exact ih

theorem MapR.all (p : Nat → Bool) : ∀ {es : List (V × V × Nat)} {xs : List MapEntry}, MapR φ es xs → (es.all fun e => p e.2.2) = (xs.all fun e => p e.born)
  | [], [], _ => rfl
  | [], _ :: _, h => h.elim
  | _ :: _, [], h => h.elim
  | e :: es, x :: xs, h => by simp only [List.all_cons, h.2.2.1, MapR.all p h.2.2.2]

theorem array_filter_list {α : Type} (a : Array α) (p : α → Bool) : a.filter p = (a.toList.filter p).toArray := by
  cases a; simp

theorem nextO_sound (s : Sim φ h w) {t : TypeId} {it v : V} {it' : Value} {isS : Bool} (hi : VR φ it it') (hv : nextO h it isS = some (v, h')) :
    ∃ w' u, (Instr.next it' isS t).run P w = .ok u w' ∧ Tr φ h w φ h' w' ∧ Sim φ h' w' ∧ VR φ v u := by
  have over : VR φ (.tup [.bool false]) (.tuple #[.bool false]) := .tup (.cons (.bool _) .nil)
  unfold nextO at hv
  split at hv
  · rename_i r
    cases hi with
    | @ptr _ _ B N hp =>
    split at hv
    · rename_i l pos hg
      obtain ⟨B', M, x, hq, hh, hb⟩ := s.blk r _ hg rfl
      rw [hp] at hq; cases hq
      cases hb with
      | @siter s₀ =>
      rw [bytesOf_get] at hv
      split at hv
      · rename_i c hc
        rw [Option.map_eq_some_iff] at hc
        obtain ⟨b, hb, rfl⟩ := hc
        split at hv
        · rename_i hlt
          cases hv
          have hpos : pos < s₀.size := by
            rcases Nat.lt_or_ge pos s₀.size with h1 | h1
            · exact h1
            · rw [ByteArray.getElem?_ge' s₀ pos (by omega)] at hb; cases hb
          have hget : s₀.get! pos = b := by
            rw [ByteArray.getElem?_lt' s₀ pos hpos] at hb
            cases hb
            cases s₀ with | mk d =>
            have hpos' : pos < d.size := hpos
            show d[pos]! = d[pos]
            rw [getElem!_pos d pos hpos']
          have hdec : Utf8.decode s₀ pos = (b.toNat, 1) := by
            unfold Utf8.decode
            simp only [Nat.add_zero, hget]
            rw [if_pos hlt]
          have hput := put_obj s (o' := .siter (bytesOf s₀) (pos + 1)) (x' := .stringIter s₀ (pos + 1)) hg rfl rfl rfl hp hh .siter
          refine ⟨_, .tuple #[.bool true, goInt pos, .int .i32 b.toNat], ?_, hput.1, hput.2, .tup (.cons (.bool _) (.cons (.int _ _) (.cons (.int _ _) .nil)))⟩
          simp only [Instr.next, Sem.run_bind, run_getObj hh (by simp), Result.andThen_ok, hpos, if_true, hdec, run_setObj _ hh (by simp), Sem.run_pure]
        · cases hv
      · rename_i hc
        cases hv
        have hpos : ¬ pos < s₀.size := by
          intro h1
          rw [ByteArray.getElem?_lt' s₀ pos h1] at hc
          cases hc
        refine ⟨w, _, ?_, Tr.refl φ s.dom, s, over⟩
        simp only [Instr.next, Sem.run_bind, run_getObj hh (by simp), Result.andThen_ok, hpos, if_false, Sem.run_pure]
    · cases hv
  · rename_i r
    cases hi with
    | @ptr _ _ B N hp =>
    split at hv
    · rename_i a b c hg
      cases hv
      obtain ⟨B', M, x, hq, hh, hb⟩ := s.blk r _ hg rfl
      rw [hp] at hq; cases hq
      cases hb with
      | miter h1 h2 =>
      have := h2 rfl
      subst this
      refine ⟨w, _, ?_, Tr.refl φ s.dom, s, over⟩
      simp only [Instr.next, Sem.run_bind, run_getObj hh (by simp), Result.andThen_ok, Sem.run_pure]
    · rename_i m since seen last hg
      obtain ⟨B', M, x, hq, hh, hb⟩ := s.blk r _ hg rfl
      rw [hp] at hq; cases hq
      cases hb with
      | @miter _ m' _ seen' _ h1 h2 =>
      obtain ⟨Bm, Nm, hpm, rfl⟩ := h1 m rfl
      split at hv
      · rename_i es clock hgm
        obtain ⟨rfl, es', hhm, hmr⟩ := map_block s hgm hpm
        split at hv
        · cases hv
        · rename_i hc0
          have hempty : es.isEmpty = es'.isEmpty := by
            have := hmr.length
            rw [Bool.eq_iff_iff]; simp [List.isEmpty_iff, ← List.length_eq_zero_iff, this]
          have hall := hmr.all (fun n => decide (n ≥ last))
          have hc0' : (!seen'.isEmpty && !es'.isEmpty && es'.all (fun e => decide (e.born ≥ last))) = false := by
            rw [← hempty, ← Array.all_toList, ← hall]
            have e1 : seen'.isEmpty = seen'.toList.isEmpty := by cases seen'; simp
            rw [e1]; simpa using hc0
          have hfil := hmr.filter (fun n => !seen'.toList.contains n)
          have hfil' : (es'.filter fun e => !seen'.contains e.born) = (es'.toList.filter fun e => !seen'.toList.contains e.born).toArray := by
            rw [array_filter_list]; simp
          have hrun : ∀ (u : Value) (w' : World), ((do
              let left := (es'.toList.filter fun e => !seen'.toList.contains e.born).toArray
              let old := left.filter (fun e => decide (e.born < since))
              let new := left.filter (fun e => decide (e.born ≥ since))
              let candidates := (if old.isEmpty then #[none] else #[]) ++ (old ++ new).map some
              match candidates[← choose (.mapNext candidates.size)]? with
              | some (some e) =>
                setObj B (.mapIter (some Bm) since (seen'.push e.born) clock)
                pure (.tuple #[.bool true, e.key, e.val])
              | some none => pure (.tuple #[.bool false])
              | none => stuck "Next: no such candidate" : Sem Value)).run P w = .ok u w' → (Instr.next (.pointer (some ⟨B, 0, none⟩)) false t).run P w = .ok u w' := by
            intro u w' hr
            simp only [Instr.next, Sem.run_bind, run_getObj hh (by simp), Result.andThen_ok, run_getObj hhm (by simp), hc0', Bool.false_eq_true, if_false, hfil']
            simp only [Sem.run_bind] at hr
            exact hr
          split at hv
          · rename_i hnil
            cases hv
            rw [hnil] at hfil
            have hnil' : (es'.toList.filter fun e => !seen'.toList.contains e.born) = [] := by
              generalize (es'.toList.filter fun e => !seen'.toList.contains e.born) = l at hfil
              cases l with
              | nil => rfl
              | cons a l => exact hfil.elim
            refine ⟨w, _, hrun _ _ ?_, Tr.refl φ s.dom, s, over⟩
            rw [hnil']
            simp [Question.forced]
          · rename_i e hone
            split at hv
            · rename_i hlt
              cases hv
              rw [hone] at hfil
              obtain ⟨e', hone', g1, g2, g3⟩ : ∃ e', (es'.toList.filter fun e => !seen'.toList.contains e.born) = [e'] ∧ VR φ e.1 e'.key ∧ VR φ e.2.1 e'.val ∧ e.2.2 = e'.born := by
                generalize (es'.toList.filter fun e => !seen'.toList.contains e.born) = l at hfil
                cases l with
                | nil => exact hfil.elim
                | cons a l => cases l with
                  | nil => exact ⟨a, rfl, hfil.1, hfil.2.1, hfil.2.2.1⟩
                  | cons b l => exact hfil.2.2.2.elim
              have hput := put_obj s (o' := .miter (some m) since (seen'.toList ++ [e.2.2]) clock) (x' := .mapIter (some Bm) since (seen'.push e'.born) clock) hg rfl rfl rfl hp hh
                (by
                  have := BR.miter (φ := φ) (m := some m) (m' := some Bm) (since := since) (seen := seen'.push e'.born) (stepped := clock) (fun b hb => by cases hb; exact ⟨Bm, 0, hpm, rfl⟩) (fun hc => by cases hc)
                  rw [Array.toList_push, ← g3] at this
                  rw [← g3]; exact this)
              refine ⟨_, .tuple #[.bool true, e'.key, e'.val], hrun _ _ ?_, hput.1, hput.2, .tup (.cons (.bool _) (.cons g1 (.cons g2 .nil)))⟩
              rw [hone']
              have hlt' : e'.born < since := by rw [← g3]; exact hlt
              have hnge : ¬ since ≤ e'.born := by omega
              simp [Question.forced, hlt', hnge, run_setObj _ hh (by simp)]
            · cases hv
          · cases hv
      · cases hv
    · cases hv
  · cases hv

end
end Go.Fal
namespace Go.Fal

structure CfgOk (c : Cfg) : Prop where
  names : ∀ (f : Nat) (fn : Func), c.P.funcs[f]? = some fn → fn.body.isSome = true → (fn.name == "runtime.NumGoroutine") = false
  ib : ∀ (fn : Func) (args : Array Value) (w : World), c.P.funcs[c.ib]? = some fn → fn.body = none → (callFunc c.ib args).run c.P w = ((Extern.BytealgIndexByte.indexByte args).run c.P w).andThen fun v w' => .ok (.value v) w'
  ix : ∀ (fn : Func) (args : Array Value) (w : World), c.P.funcs[c.ix]? = some fn → fn.body = none → (callFunc c.ix args).run c.P w = ((Extern.BytealgIndex.index args).run c.P w).andThen fun v w' => .ok (.value v) w'
  ml : c.P.globals.findIdx? (·.name == "internal/bytealg.MaxLen") = some c.ml
  mlt : c.ml < c.ng
  mixed : c.P.follows .mixedOrders = true
  memoBody : ∀ (f : Nat) (args : List V) (v : V), c.memo f args = some v → ∃ fn, c.P.funcs[f]? = some fn ∧ fn.body.isSome = true
  memo : ∀ (f : Nat) (args : List V) (v : V), c.memo f args = some v → ∀ (φ : Phi) (h : H) (w : World) (xs : Array Value), Sim φ h w → Glob c.ng φ → c.base h = true → VRs φ args xs.toList → ∀ (cr : Frame) (cs : List Frame),
    ∃ φ' w' v', Steps c.P (lone (Frame.enter c.P f xs .normal) (cr :: cs) w) (lone (cr.finish v') cs w') ∧ VR φ' v v' ∧ Tr φ h w φ' h w' ∧ Sim φ' h w'

theorem indexByte_eq (x y : Value) : Extern.BytealgIndexByte.indexByte ⟨[x, y]⟩ = (do
    let b ← Extern.Bytes.bytesOf x
    let c ← Extern.Bytes.asByte y
    match (List.range b.size).find? fun i => b[i]! == c with
    | some i => pure (goInt i)
    | none => pure (goInt (-1))) := rfl

theorem index_eq (x y : Value) : Extern.BytealgIndex.index ⟨[x, y]⟩ = (do
    let a ← Extern.Bytes.bytesOf x
    let b ← Extern.Bytes.bytesOf y
    if b.size < 2 || (b.size : Int) > (← Extern.BytealgIndex.maxLen) then
      unsupported (.noEntry "extern/internal/bytealg.Index.length")
    if a.size ≥ 2 ^ 32 - 15 then
      unsupported (.noEntry "extern/internal/bytealg.Index: a haystack of 2^32 - 15 bytes or more")
    match (List.range (a.size + 1 - b.size)).find? fun i => a.extract i (i + b.size) == b with
    | some i => pure (goInt i)
    | none => pure (goInt (-1))) := rfl

section
variable {c : Cfg} {φ : Phi} {h h' : H} {w : World}

theorem call_enter (hc : CfgOk c) {f : Nat} {fn : Func} (args : Array Value) (hf : c.P.funcs[f]? = some fn) (hb : fn.body.isSome = true) : (callFunc f args).run c.P w = .ok (.enter f args) w := by
  have hn := hc.names f fn hf hb
  have hb' : fn.body.isNone = false := by cases h : fn.body <;> simp_all
  simp only [callFunc, Sem.run_bind, run_program, Result.andThen_ok, hf, hn, Bool.false_eq_true, if_false, hb', Sem.run_pure]

theorem idxByte_sound (s : ByteArray) (b : UInt8) : ∀ (l : List Nat), (∀ i ∈ l, i < s.size) → l.find? (fun i => s[i]! == b) = idxByte (bytesOf s) b.toNat l
  | [], _ => rfl
  | i :: l, h => by
    have hi := h i (by simp)
    have ih := idxByte_sound s b l (fun j hj => h j (by simp [hj]))
    have hg : (bytesOf s)[i]? = some (s[i]!).toNat := by
      rw [bytesOf_get, ByteArray.getElem?_lt' s i hi, getElem!_pos s i hi]; rfl
    simp only [List.find?_cons, idxByte, hg, Option.some.injEq]
    by_cases e : s[i]! = b
    · simp [e]
    · have : ¬ (s[i]!).toNat = b.toNat := fun h => e (toNat_inj h)
      have e' : (s[i]! == b) = false := by simpa using e
      rw [e', if_neg this]; exact ih

theorem idxStr_sound (s p : ByteArray) : ∀ (l : List Nat), l.find? (fun i => s.extract i (i + p.size) == p) = idxStr (bytesOf s) (bytesOf p) l
  | [] => rfl
  | i :: l => by
    have ih := idxStr_sound s p l
    simp only [List.find?_cons, idxStr]
    have hb : bytesOf (s.extract i (i + p.size)) = ((bytesOf s).drop i).take (bytesOf p).length := by
      rw [bytesOf_extract, Nat.add_sub_cancel_left, bytesOf_length]
    by_cases e : ((bytesOf s).drop i).take (bytesOf p).length = bytesOf p
    · rw [if_pos e]
      rw [← hb] at e
      have : (s.extract i (i + p.size) == p) = true := by rw [beq_toListBytes, ← beq_bytesOf, e]; simp
      rw [this]
    · rw [if_neg e]
      rw [← hb] at e
      have : (s.extract i (i + p.size) == p) = false := by
        rw [beq_toListBytes, ← beq_bytesOf]; simpa using e
      rw [this]; exact ih

/-- what an outcome says -/
inductive OutR (φ : Phi) (w : World) : Out → Next → Prop
  | val {v : V} {x : Value} : VR φ v x → OutR φ w (.val v) (.value x)
  | skip : OutR φ w .skip .skip
  | call {f : Nat} {args : List V} {xs : Array Value} : VRs φ args xs.toList → OutR φ w (.call f args) (.enter f xs)
  | round {l : Nat} {args : List V} {xs : Array Value} {B N : Nat} {r : Loop} : φ l = some (B, N) → w.heap[B]? = some (.loop r) → VRs φ args xs.toList → xs.size = r.params.size →
      OutR φ w (.round l args) (.round B r.fn ((r.params.zip xs).foldl (fun tmps (t, a) => tmps.setIfInBounds t a) r.tmps) r.assign r.body)
  | defer {f : Nat} {args : List V} {d : Deferred} {xs : Array Value} : d.target = .fn (.func f) xs → VRs φ args (d.args.toList ++ xs.toList) → OutR φ w (.defer f args) (.defer d)
  | recover : OutR φ w .recover .recover

theorem callO_sound (hc : CfgOk c) (hg : Glob c.ng φ) (s : Sim φ h w) {f : Nat} {args : List V} {xs : Array Value} (ha : VRs φ args xs.toList) {out : Out} (hv : callO c h f args = some (out, h')) :
    h' = h ∧ ∃ nx, (callFunc f xs).run c.P w = .ok nx w ∧ OutR φ w out nx := by
  unfold callO at hv
  split at hv
  · cases hv
  · rename_i fn hf
    split at hv
    · rename_i hb
      cases hv
      exact ⟨rfl, _, call_enter hc xs hf hb, .call ha⟩
    · rename_i hb
      have hb' : fn.body = none := by cases h : fn.body <;> simp_all
      split at hv
      · rename_i he
        subst he
        split at hv
        · rename_i l b
          split at hv
          · rename_i b' hbb
            cases hv
            obtain ⟨ys⟩ := xs
            cases ha with
            | cons h1 ha =>
            cases ha with
            | cons h2 ha =>
            cases ha
            cases h1 with
            | str s₀ =>
            obtain ⟨rfl, hlt⟩ := byteO_sound h2 hbb
            refine ⟨rfl, .value (.int .i64 (match idxByte (bytesOf s₀) b' (List.range (bytesOf s₀).length) with | some i => (i : Int) | none => -1)), ?_, .val (.int _ _)⟩
            rw [hc.ib fn _ w hf hb']
            have hn : (Int.toNat (b' : Int)).toUInt8.toNat = b' := by
              rw [Int.toNat_natCast]; simp [Nat.toUInt8]; omega
            have := idxByte_sound s₀ (Int.toNat (b' : Int)).toUInt8 (List.range s₀.size) (fun i hi => List.mem_range.1 hi)
            rw [hn] at this
            rw [indexByte_eq]
            simp only [Extern.Bytes.bytesOf, Extern.Bytes.asByte, Sem.run_bind, Sem.run_pure, Result.andThen_ok, this, bytesOf_length]
            cases idxByte (bytesOf s₀) b' (List.range s₀.size) <;> rfl
          · cases hv
        · cases hv
      · split at hv
        · rename_i he
          subst he
          split at hv
          · rename_i l p
            split at hv
            · rename_i k m hl
              split at hv
              · rename_i hcond
                obtain ⟨hp2, hpm, hs⟩ := hcond
                cases hv
                obtain ⟨ys⟩ := xs
                cases ha with
                | cons h1 ha =>
                cases ha with
                | cons h2 ha =>
                cases ha
                cases h1 with
                | str s₀ =>
                cases h2 with
                | str p₀ =>
                obtain ⟨N, hN⟩ := hg c.ml hc.mlt
                obtain ⟨mv, hmv, hmr⟩ := load1_sound s hl hN
                cases hmr
                rw [bytesOf_length] at hp2 hpm hs
                refine ⟨rfl, .value (.int .i64 (match idxStr (bytesOf s₀) (bytesOf p₀) (List.range ((bytesOf s₀).length + 1 - (bytesOf p₀).length)) with | some i => (i : Int) | none => -1)), ?_, .val (.int _ _)⟩
                rw [hc.ix fn _ w hf hb']
                have hml : (Extern.BytealgIndex.maxLen).run c.P w = .ok m w := by
                  simp only [Extern.BytealgIndex.maxLen, globalAddr, Sem.run_bind, run_program, Result.andThen_ok, hc.ml, Sem.run_pure]
                  rw [run_load, hmv]
                  simp only [Result.andThen_ok, asInt, asIntOf, Sem.run_bind, Sem.run_pure]
                have hc1 : (decide (p₀.size < 2) || decide ((p₀.size : Int) > m)) = false := by simp; omega
                have := idxStr_sound s₀ p₀ (List.range (s₀.size + 1 - p₀.size))
                rw [index_eq]
                simp only [Extern.Bytes.bytesOf, Sem.run_bind, Sem.run_pure, Result.andThen_ok, hml, hc1, Bool.false_eq_true, if_false, this, bytesOf_length]
                rw [if_neg (by omega)]
                cases idxStr (bytesOf s₀) (bytesOf p₀) (List.range (s₀.size + 1 - p₀.size)) <;> rfl
              · cases hv
            · cases hv
          · cases hv
        · cases hv

end
end Go.Fal
namespace Go.Fal

section
variable {P : Program} {h h' : H}

theorem store1_next {b off : Nat} {v : V} (hv : h.store1 b off v = some h') : h'.next = h.next := by
  unfold H.store1 at hv
  repeat' split at hv
  all_goals first | (cases hv; done) | (cases hv; rfl)
theorem storeN_next {b : Nat} : ∀ {vs : List V} {off : Nat} {h h' : H}, h.storeN b off vs = some h' → h'.next = h.next
  | [], off, h, h', hv => by simp only [H.storeN, Option.some.injEq] at hv; subst hv; rfl
  | v :: vs, off, h, h', hv => by
    simp only [H.storeN] at hv
    split at hv
    · cases hv
    · rename_i h1 hs
      rw [storeN_next hv, store1_next hs]
theorem storeO_next {t : TypeId} {x v : V} (hv : storeO P h t x v = some h') : h'.next = h.next := by
  unfold storeO at hv
  repeat' split at hv
  all_goals first | (cases hv; done) | exact storeN_next hv
theorem newCells_next {vs : List V} {v : V} (hv : newCells h vs = some (v, h')) : h'.next = h.next + 1 := by
  unfold newCells at hv
  split at hv <;> cases hv
  rfl
theorem buildSliceO_next {t : TypeId} {n : Nat} {ps : List (Nat × V)} {v : V} (hv : buildSliceO P h t n ps = some (v, h')) : h'.next = h.next + 1 := by
  unfold buildSliceO at hv
  repeat' split at hv
  all_goals first | (cases hv; done) | (cases hv; rfl)
theorem makeSliceO_next {t : TypeId} {l k v : V} (hv : makeSliceO P h t l k = some (v, h')) : h'.next = h.next + 1 := by
  unfold makeSliceO at hv
  repeat' split at hv
  all_goals first | (cases hv; done) | (cases hv; rfl)
theorem convO_next {s d : TypeId} {x v : V} (hv : convO P h s d x = some (v, h')) : h.next ≤ h'.next := by
  unfold convO at hv
  repeat' split at hv
  all_goals first | (cases hv; done) | (cases hv; simp)
theorem appendO_next {t : TypeId} {s x v : V} (hv : appendO P h t s x = some (v, h')) : h.next ≤ h'.next := by
  unfold appendO at hv
  repeat' split at hv
  all_goals first | (cases hv; done) | (cases hv; simp; done) | (cases hv; rename_i hs; rw [storeN_next hs]; exact Nat.le_refl _)
theorem copyO_next {t : TypeId} {s x v : V} (hv : copyO P h t s x = some (v, h')) : h'.next = h.next := by
  unfold copyO at hv
  repeat' split at hv
  all_goals first | (cases hv; done) | (cases hv; rfl) | (cases hv; rename_i hs; exact storeN_next hs)
theorem mapUpdateO_next {t : TypeId} {m k x : V} (hv : mapUpdateO P h t m k x = some h') : h'.next = h.next := by
  unfold mapUpdateO at hv
  repeat' split at hv
  all_goals first | (cases hv; done) | (cases hv; rfl)
theorem mapEntryO_next {t : TypeId} {m k v : V} (hv : mapEntryO P h t m k = some (v, h')) : h'.next = h.next := by
  unfold mapEntryO at hv
  repeat' split at hv
  all_goals first | (cases hv; done) | (cases hv; rfl)
theorem entryStoreO_next {m k x : V} (hv : entryStoreO h m k x = some h') : h'.next = h.next := by
  unfold entryStoreO at hv
  repeat' split at hv
  all_goals first | (cases hv; done) | (cases hv; rfl)
theorem deleteO_next {t : TypeId} {m k : V} (hv : deleteO P h t m k = some h') : h'.next = h.next := by
  unfold deleteO at hv
  repeat' split at hv
  all_goals first | (cases hv; done) | (cases hv; rfl)
theorem rangeO_next {t : TypeId} {x v : V} (hv : rangeO P h t x = some (v, h')) : h.next ≤ h'.next := by
  unfold rangeO at hv
  repeat' split at hv
  all_goals first | (cases hv; done) | (cases hv; simp)
theorem nextO_next {x v : V} {b : Bool} (hv : nextO h x b = some (v, h')) : h'.next = h.next := by
  unfold nextO at hv
  repeat' split at hv
  all_goals first | (cases hv; done) | (cases hv; rfl)
theorem builtinO_next {b : Builtin} {ts : Array TypeId} {args : List V} {v : V} (hv : builtinO P h b ts args = some (v, h')) : h.next ≤ h'.next := by
  unfold builtinO at hv
  repeat' split at hv
  all_goals first
    | (cases hv; done)
    | exact appendO_next hv
    | exact Nat.le_of_eq (copyO_next hv).symm
    | (cases hv; exact Nat.le_refl _)
    | (cases hv; rename_i hs; exact Nat.le_of_eq (deleteO_next hs).symm)
theorem callO_next {c : Cfg} {f : Nat} {args : List V} {out : Out} (hv : callO c h f args = some (out, h')) : h' = h := by
  unfold callO at hv
  repeat' split at hv
  all_goals first | (cases hv; done) | (cases hv; rfl)
theorem callVO_next {c : Cfg} {f : V} {args : List V} {out : Out} (hv : callVO c h f args = some (out, h')) : h' = h := by
  unfold callVO at hv
  repeat' split at hv
  all_goals first | (cases hv; done) | exact callO_next hv | (cases hv; rfl)

theorem ret_some {r : Option V} {out : Out} (hv : ret r h = some (out, h')) : ∃ v, r = some v ∧ out = .val v ∧ h' = h := by
  unfold ret at hv; split at hv <;> cases hv; exact ⟨_, rfl, rfl, rfl⟩
theorem ret2_some {r : Option (V × H)} {out : Out} (hv : ret2 r = some (out, h')) : ∃ v, r = some (v, h') ∧ out = .val v := by
  unfold ret2 at hv; split at hv <;> cases hv; exact ⟨_, rfl, rfl⟩
theorem retH_some {r : Option H} {out : Out} (hv : retH r = some (out, h')) : r = some h' ∧ out = .skip := by
  unfold retH at hv; split at hv <;> cases hv; exact ⟨rfl, rfl⟩
theorem ev1_some {ng : Nat} {tm : T V} {x : Operand} {f : V → Option (Out × H)} {r : Out × H} (hv : ev1 ng tm x f = some r) : ∃ v, ev ng tm x = some v ∧ f v = some r := by
  unfold ev1 at hv; split at hv
  · cases hv
  · exact ⟨_, by assumption, hv⟩
theorem ev2_some {ng : Nat} {tm : T V} {x y : Operand} {f : V → V → Option (Out × H)} {r : Out × H} (hv : ev2 ng tm x y f = some r) : ∃ u v, ev ng tm x = some u ∧ ev ng tm y = some v ∧ f u v = some r := by
  unfold ev2 at hv; split at hv
  · cases hv
  · split at hv
    · cases hv
    · exact ⟨_, _, by assumption, by assumption, hv⟩
theorem evOpt_some {ng : Nat} {tm : T V} {φ : Phi} (hg : Glob ng φ) {a : Act} (he : EnvR φ tm a.tmps) {x : Option Operand} {v : Option V} (hv : evOpt ng tm x = some v) : OR φ v (x.map a.eval) := by
  unfold evOpt at hv; split at hv
  · cases hv; trivial
  · split at hv <;> cases hv
    exact ev_sound hg he (by assumption)

end
end Go.Fal
namespace Go.Fal

section
variable {c : Cfg} {φ : Phi} {h h' : H} {w : World}

theorem opx_next {tm : T V} {op : Op} {out : Out} (hv : opx c tm h op = some (out, h')) : h.next ≤ h'.next := by
  cases op <;> simp only [opx] at hv
  case move x => obtain ⟨v, _, hv⟩ := ev1_some hv; cases hv; exact Nat.le_refl _
  case assign x => obtain ⟨v, _, hv⟩ := ev1_some hv; cases hv; exact Nat.le_refl _
  case pick q a b =>
    obtain ⟨v, _, hv⟩ := ev1_some hv
    split at hv
    · obtain ⟨v, _, hv⟩ := ev1_some hv; cases hv; exact Nat.le_refl _
    · obtain ⟨v, _, hv⟩ := ev1_some hv; cases hv; exact Nat.le_refl _
    · cases hv
  case alloc e =>
    split at hv
    · obtain ⟨v, hv, _⟩ := ret2_some hv; have := newCells_next hv; omega
    · cases hv
  case box e x => obtain ⟨v, _, hv⟩ := ev1_some hv; obtain ⟨v, hv, _⟩ := ret2_some hv; have := newCells_next hv; omega
  case build t ps =>
    split at hv
    · obtain ⟨v, _, _, rfl⟩ := ret_some hv; exact Nat.le_refl _
    · cases hv
  case buildSlice t n ps =>
    split at hv
    · obtain ⟨v, hv, _⟩ := ret2_some hv; have := buildSliceO_next hv; omega
    · cases hv
  case load t a => obtain ⟨v, _, hv⟩ := ev1_some hv; obtain ⟨v, _, _, rfl⟩ := ret_some hv; exact Nat.le_refl _
  case store t a x => obtain ⟨u, v, _, _, hv⟩ := ev2_some hv; obtain ⟨hv, _⟩ := retH_some hv; have := storeO_next hv; omega
  case nilCheck x =>
    obtain ⟨v, _, hv⟩ := ev1_some hv
    split at hv <;> cases hv <;> exact Nat.le_refl _
  case binOp op t x y _ => obtain ⟨u, v, _, _, hv⟩ := ev2_some hv; obtain ⟨v, _, _, rfl⟩ := ret_some hv; exact Nat.le_refl _
  case unOp op t x => obtain ⟨v, _, hv⟩ := ev1_some hv; obtain ⟨v, _, _, rfl⟩ := ret_some hv; exact Nat.le_refl _
  case convert s d x => obtain ⟨v, _, hv⟩ := ev1_some hv; obtain ⟨v, hv, _⟩ := ret2_some hv; exact convO_next hv
  case makeInterface t x =>
    obtain ⟨v, _, hv⟩ := ev1_some hv
    split at hv <;> cases hv <;> exact Nat.le_refl _
  case makeFunc fn a b => split at hv <;> cases hv; exact Nat.le_refl _
  case makeMap t r => split at hv <;> cases hv <;> simp
  case makeSlice t l k => obtain ⟨u, v, _, _, hv⟩ := ev2_some hv; obtain ⟨v, hv, _⟩ := ret2_some hv; have := makeSliceO_next hv; omega
  case slice t x lo hi mx =>
    obtain ⟨v, _, hv⟩ := ev1_some hv
    split at hv
    · obtain ⟨v, _, _, rfl⟩ := ret_some hv; exact Nat.le_refl _
    · cases hv
  case fieldAddr s x f => obtain ⟨v, _, hv⟩ := ev1_some hv; obtain ⟨v, _, _, rfl⟩ := ret_some hv; exact Nat.le_refl _
  case field s x f => obtain ⟨v, _, hv⟩ := ev1_some hv; obtain ⟨v, _, _, rfl⟩ := ret_some hv; exact Nat.le_refl _
  case indexAddr t x i => obtain ⟨u, v, _, _, hv⟩ := ev2_some hv; obtain ⟨v, _, _, rfl⟩ := ret_some hv; exact Nat.le_refl _
  case index t x i => obtain ⟨u, v, _, _, hv⟩ := ev2_some hv; obtain ⟨v, _, _, rfl⟩ := ret_some hv; exact Nat.le_refl _
  case lookup t x i ok => obtain ⟨u, v, _, _, hv⟩ := ev2_some hv; obtain ⟨v, _, _, rfl⟩ := ret_some hv; exact Nat.le_refl _
  case mapUpdate t m k x => obtain ⟨v, _, hv⟩ := ev1_some hv; obtain ⟨u, v, _, _, hv⟩ := ev2_some hv; obtain ⟨hv, _⟩ := retH_some hv; have := mapUpdateO_next hv; omega
  case insert t m k x => obtain ⟨v, _, hv⟩ := ev1_some hv; obtain ⟨u, v, _, _, hv⟩ := ev2_some hv; obtain ⟨hv, _⟩ := retH_some hv; have := mapUpdateO_next hv; omega
  case mapEntry t m k => obtain ⟨u, v, _, _, hv⟩ := ev2_some hv; obtain ⟨v, hv, _⟩ := ret2_some hv; have := mapEntryO_next hv; omega
  case entryStore t m k x => obtain ⟨v, _, hv⟩ := ev1_some hv; obtain ⟨u, v, _, _, hv⟩ := ev2_some hv; obtain ⟨hv, _⟩ := retH_some hv; have := entryStoreO_next hv; omega
  case range t x => obtain ⟨v, _, hv⟩ := ev1_some hv; obtain ⟨v, hv, _⟩ := ret2_some hv; exact rangeO_next hv
  case next it s => obtain ⟨v, _, hv⟩ := ev1_some hv; obtain ⟨v, hv, _⟩ := ret2_some hv; have := nextO_next hv; omega
  case extract x i =>
    obtain ⟨v, _, hv⟩ := ev1_some hv
    split at hv
    · split at hv <;> cases hv; exact Nat.le_refl _
    · cases hv
  case call k =>
    split at hv
    · cases hv
    · split at hv
      · cases hv; exact Nat.le_refl _
      · obtain ⟨v, hv, _⟩ := ret2_some hv; exact builtinO_next hv
      · obtain ⟨v, _, hv⟩ := ev1_some hv; rw [callVO_next hv]; exact Nat.le_refl _
      · cases hv
  case defer k =>
    split at hv
    · cases hv
    · split at hv
      · obtain ⟨v, _, hv⟩ := ev1_some hv
        split at hv <;> cases hv; exact Nat.le_refl _
      · cases hv
  all_goals cases hv

theorem builtinO_sound (s : Sim φ h w) {b : Builtin} {ts : Array TypeId} {ty : TypeId} {cs : Array Bool} {args : List V} {xs : Array Value} (ha : VRs φ args xs.toList) {v : V} (hv : builtinO c.P h b ts args = some (v, h'))
    (hf : h'.next ≠ h.next → φ h.next = none) : ∃ φ' w' u, (builtin b ts ty cs xs).run c.P w = .ok (.value u) w' ∧ Tr φ h w φ' h' w' ∧ Sim φ' h' w' ∧ VR φ' v u := by
  have lift : ∀ {r : Sem Value} {φ' : Phi} {w' : World} {u : Value}, r.run c.P w = .ok u w' → ((do pure (.value (← r)) : Sem Next)).run c.P w = .ok (.value u) w' := fun hr => by
    simp only [Sem.run_bind, hr, Result.andThen_ok, Sem.run_pure]
  unfold builtinO at hv
  split at hv
  · rename_i t sv x ht
    obtain ⟨xs⟩ := xs
    cases ha with
    | cons h1 ha =>
    cases ha with
    | cons h2 ha =>
    cases ha
    have key : NoZeros c.P ts → appendO c.P h t sv x = some (v, h') → _ := fun hz hv => appendO_sound (ty := ty) s ht hz h1 h2 hv hf
    split at hv
    · rename_i u hu
      split at hv
      · cases hv
      · rename_i d hd hnd
        obtain ⟨φ', w', y, r1, r2, r3, r4⟩ := key (.inr ⟨u, d, hu, hnd, fun k hk => hd k (by rw [← hk])⟩) hv
        exact ⟨φ', w', y, lift (φ' := φ') r1, r2, r3, r4⟩
      · cases hv
    · rename_i hu
      obtain ⟨φ', w', y, r1, r2, r3, r4⟩ := key (.inl hu) hv
      exact ⟨φ', w', y, lift (φ' := φ') r1, r2, r3, r4⟩
  · rename_i t d x ht
    obtain ⟨xs⟩ := xs
    cases ha with
    | cons h1 ha =>
    cases ha with
    | cons h2 ha =>
    cases ha
    obtain ⟨φ', w', y, r1, r2, r3, r4⟩ := copyO_sound (ty := ty) s ht h1 h2 hv
    exact ⟨φ', w', y, lift (φ' := φ') r1, r2, r3, r4⟩
  · rename_i t x ht
    split at hv
    · rename_i u hu
      cases hv
      obtain ⟨xs⟩ := xs
      cases ha with
      | cons h1 ha =>
      cases ha
      obtain ⟨y, r1, r2⟩ := lenBuiltinO_sound (ty := ty) s ht h1 hu
      exact ⟨φ, w, y, lift (φ' := φ) r1, Tr.refl φ s.dom, s, r2⟩
    · cases hv
  · rename_i x ys
    split at hv
    · rename_i u hu
      cases hv
      obtain ⟨xs⟩ := xs
      cases ha with
      | cons h1 ha =>
      obtain ⟨y, r1, r2⟩ := foldO_sound (P := c.P) (w := w) (g := Builtin.max2) (fun _ _ _ _ _ hx hy hv => maxO_sound hx hy hv) _ _ _ _ _ ha h1 hu
      exact ⟨φ, w, y, lift (φ' := φ) r1, Tr.refl φ s.dom, s, r2⟩
    · cases hv
  · rename_i x ys
    split at hv
    · rename_i u hu
      cases hv
      obtain ⟨xs⟩ := xs
      cases ha with
      | cons h1 ha =>
      obtain ⟨y, r1, r2⟩ := foldO_sound (P := c.P) (w := w) (g := Builtin.min2) (fun _ _ _ _ _ hx hy hv => minO_sound hx hy hv) _ _ _ _ _ ha h1 hu
      exact ⟨φ, w, y, lift (φ' := φ) r1, Tr.refl φ s.dom, s, r2⟩
    · cases hv
  · rename_i t m k ht
    split at hv
    · rename_i h1' hd
      cases hv
      obtain ⟨xs⟩ := xs
      cases ha with
      | cons h1 ha =>
      cases ha with
      | cons h2 ha =>
      cases ha
      obtain ⟨w', r1, r2, r3⟩ := deleteO_sound (ty := ty) s ht h1 h2 hd
      exact ⟨φ, w', _, lift (φ' := φ) r1, r2, r3, .tup .nil⟩
    · cases hv
  · cases hv

end
end Go.Fal
namespace Go.Fal

section
variable {c : Cfg} {φ : Phi} {h h' : H} {w : World}

theorem lift_value {P : Program} {r : Sem Value} {w w' : World} {u : Value} (hr : r.run P w = .ok u w') : ((do pure (.value (← r)) : Sem Next)).run P w = .ok (.value u) w' := by
  simp only [Sem.run_bind, hr, Result.andThen_ok, Sem.run_pure]
theorem lift_skip {P : Program} {r : Sem Unit} {w w' : World} (hr : r.run P w = .ok () w') : ((do r; pure .skip : Sem Next)).run P w = .ok .skip w' := by
  simp only [Sem.run_bind, hr, Result.andThen_ok, Sem.run_pure]

theorem isConst_run {x : Operand} : isConst x = true → True := fun _ => trivial

theorem yield_run {P : Program} {B N : Nat} {l : Nat} {args : List V} {xs : Array Value} (s : Sim φ h w) (hp : φ l = some (B, N)) (ha : VRs φ args xs.toList) {st pend fn nt tm ps assign body d}
    (hg : h.get l = some (.loop st pend fn nt tm ps assign body d)) (hl : args.length = ps.size) :
    ∃ nx, (Instr.yield B xs).run P w = .ok nx w ∧ OutR φ w (.round l args) nx := by
  obtain ⟨B', M, x, hq, hh, hb⟩ := s.blk l _ hg rfl
  rw [hp] at hq; cases hq
  cases hb with
  | @loop _ _ _ _ _ ys _ _ _ _ D N' h1 h2 h3 =>
  have hlen := ha.length
  simp at hlen
  have hsz : xs.size = ps.size := by omega
  refine ⟨_, ?_, .round (r := { state := st, pending := pend, fn := fn, tmps := ys, params := ps, assign := assign, body := body, defers := D }) hp hh ha hsz⟩
  simp only [Instr.yield, Instr.getLoop, Sem.run_bind, run_getObj hh (by simp), Result.andThen_ok, Sem.run_pure]
  rw [if_neg (by simpa using hsz)]
  rfl

theorem call_value (hc : CfgOk c) (hg : Glob c.ng φ) (s : Sim φ h w) {f : V} {f' : Value} {args : List V} {xs : Array Value} (hf : VR φ f f') (ha : VRs φ args xs.toList) {out : Out} (hv : callVO c h f args = some (out, h')) :
    h' = h ∧ ∃ d nx, (Deferred.ofValue f' xs).run c.P w = .ok d w ∧ (invoke d.target d.args).run c.P w = .ok nx w ∧ OutR φ w out nx := by
  unfold callVO at hv
  split at hv
  · rename_i g first cap
    cases hf with
    | @func _ _ _ first' cap' h1 h2 =>
    obtain ⟨rfl, nx, r1, r2⟩ := callO_sound (xs := first' ++ xs ++ cap') hc hg s (by simpa using (h1.append ha).append h2) hv
    exact ⟨rfl, { target := .fn (.func g) cap', args := first' ++ xs }, nx, rfl, r1, r2⟩
  · rename_i b
    cases hf with
    | @yield _ B N hp =>
    split at hv
    · rename_i st pend fn nt tm ps assign body d hg'
      split at hv
      · rename_i hl
        cases hv
        obtain ⟨nx, r1, r2⟩ := yield_run (P := c.P) s hp ha hg' hl
        refine ⟨rfl, { target := .fn (.yield B) #[], args := #[] ++ xs }, nx, rfl, ?_, r2⟩
        simpa [invoke] using r1
      · cases hv
    · cases hv
  · cases hv

theorem opx_sound (hc : CfgOk c) (hg : Glob c.ng φ) (s : Sim φ h w) {tm : T V} {a : Act} (he : EnvR φ tm a.tmps) {o : Oper} {out : Out} (hv : opx c tm h o.op = some (out, h'))
    (hfree : ∀ b, h.next ≤ b → b < h'.next → φ b = none) :
    ∃ φ' w' nx, (execOp a.eval o).run c.P w = .ok nx w' ∧ Tr φ h w φ' h' w' ∧ Sim φ' h' w' ∧ OutR φ' w' out nx := by
  have hle := opx_next hv
  have hf : h'.next ≠ h.next → φ h.next = none := fun hne => hfree h.next (Nat.le_refl _) (by omega)
  have refl := Tr.refl (w := w) φ s.dom
  generalize hop : o.op = op at hv
  have ex : execOp a.eval o = execOp a.eval { o with op := op } := by rw [← hop]
  rw [ex]
  cases op <;> simp only [opx] at hv
  case move x =>
    obtain ⟨v, h1, hv⟩ := ev1_some hv; cases hv
    exact ⟨φ, w, _, rfl, refl, s, .val (ev_sound hg he h1)⟩
  case assign x =>
    obtain ⟨v, h1, hv⟩ := ev1_some hv; cases hv
    exact ⟨φ, w, _, rfl, refl, s, .val (ev_sound hg he h1)⟩
  case pick q x y =>
    obtain ⟨v, h1, hv⟩ := ev1_some hv
    have hq := ev_sound hg he h1
    split at hv
    · obtain ⟨u, h2, hv⟩ := ev1_some hv; cases hv
      generalize hqe : a.eval q = qv at hq
      cases hq
      exact ⟨φ, w, .value (a.eval x), by simp only [execOp, hqe, asBool, Sem.run_bind, Sem.run_pure, Result.andThen_ok, if_true], refl, s, .val (ev_sound hg he h2)⟩
    · obtain ⟨u, h2, hv⟩ := ev1_some hv; cases hv
      generalize hqe : a.eval q = qv at hq
      cases hq
      exact ⟨φ, w, .value (a.eval y), by simp only [execOp, hqe, asBool, Sem.run_bind, Sem.run_pure, Result.andThen_ok, Bool.false_eq_true, if_false], refl, s, .val (ev_sound hg he h2)⟩
    · cases hv
  case alloc e =>
    split at hv
    · rename_i z hz
      obtain ⟨v, hn, rfl⟩ := ret2_some hv
      obtain ⟨z', hz1, hz2, _⟩ := run_zeroValue (w := w) hz φ
      have := newCells_next hn
      obtain ⟨φ', w', x, r1, r2, r3, r4⟩ := newCells_sound (P := c.P) s e hz2.cells hn (hf (by omega))
      refine ⟨φ', w', .value (.pointer (some x)), ?_, r2, r3, .val r4⟩
      simp only [execOp]
      refine lift_value ?_
      simp only [Instr.alloc, Sem.run_bind, hz1, Result.andThen_ok, newVar, r1, Sem.run_pure]
    · cases hv
  case box e x =>
    obtain ⟨v, h1, hv⟩ := ev1_some hv
    obtain ⟨u, hn, rfl⟩ := ret2_some hv
    have := newCells_next hn
    obtain ⟨φ', w', y, r1, r2, r3, r4⟩ := newCells_sound (P := c.P) s e (ev_sound hg he h1).cells hn (hf (by omega))
    refine ⟨φ', w', .value (.pointer (some y)), ?_, r2, r3, .val r4⟩
    simp only [execOp]
    refine lift_value ?_
    simp only [Instr.box, Sem.run_bind, newVar, r1, Result.andThen_ok, Sem.run_pure]
  case build t ps =>
    split at hv
    · rename_i qs hps
      obtain ⟨v, hb, rfl, rfl⟩ := ret_some hv
      obtain ⟨h1, h2⟩ := evParts_sound hg he hps
      obtain ⟨u, r1, r2⟩ := buildO_sound (w := w) (ps' := ps.map fun p => (p.1, a.eval p.2)) (by simpa using h1) (by simpa using h2) hb
      exact ⟨φ, w, .value u, lift_value r1, refl, s, .val r2⟩
    · cases hv
  case buildSlice t n ps =>
    split at hv
    · rename_i qs hps
      obtain ⟨v, hb, rfl⟩ := ret2_some hv
      obtain ⟨h1, h2⟩ := evParts_sound hg he hps
      have := buildSliceO_next hb
      obtain ⟨φ', w', u, r1, r2, r3, r4⟩ := buildSliceO_sound s (ps' := ps.map fun p => (p.1, a.eval p.2)) (by simpa using h1) (by simpa using h2) hb (hf (by omega))
      exact ⟨φ', w', .value u, lift_value r1, r2, r3, .val r4⟩
    · cases hv
  case load t x =>
    obtain ⟨v, h1, hv⟩ := ev1_some hv
    obtain ⟨u, hl, rfl, rfl⟩ := ret_some hv
    obtain ⟨y, r1, r2⟩ := loadO_sound s (ev_sound hg he h1) hl
    exact ⟨φ, w, .value y, lift_value r1, refl, s, .val r2⟩
  case store t x y =>
    obtain ⟨u, v, h1, h2, hv⟩ := ev2_some hv
    obtain ⟨hst, rfl⟩ := retH_some hv
    obtain ⟨w', r1, r2, r3⟩ := storeO_sound s (ev_sound hg he h1) (ev_sound hg he h2) hst
    exact ⟨φ, w', .skip, lift_skip r1, r2, r3, .skip⟩
  case nilCheck x =>
    obtain ⟨v, h1, hv⟩ := ev1_some hv
    have hx := ev_sound hg he h1
    generalize hxe : a.eval x = xv at hx
    split at hv
    · cases hv; cases hx with
      | ptr hp => exact ⟨φ, w, _, by simp only [execOp, hxe]; rfl, refl, s, .val (.ptr hp)⟩
    · cases hv; cases hx with
      | func g1 g2 => exact ⟨φ, w, _, by simp only [execOp, hxe]; rfl, refl, s, .val (.func g1 g2)⟩
    · cases hv
  case binOp op t x y t2 =>
    obtain ⟨u, v, h1, h2, hv⟩ := ev2_some hv
    obtain ⟨z, hb, rfl, rfl⟩ := ret_some hv
    obtain ⟨q, r1, r2⟩ := binO_sound s (ev_sound hg he h1) (ev_sound hg he h2) hb
    exact ⟨φ, w, .value q, lift_value r1, refl, s, .val r2⟩
  case unOp op t x =>
    obtain ⟨v, h1, hv⟩ := ev1_some hv
    obtain ⟨z, hb, rfl, rfl⟩ := ret_some hv
    obtain ⟨q, r1, r2⟩ := unO_sound (P := c.P) (w := w) (ev_sound hg he h1) hb
    exact ⟨φ, w, .value q, lift_value r1, refl, s, .val r2⟩
  case convert src dst x =>
    obtain ⟨v, h1, hv⟩ := ev1_some hv
    obtain ⟨u, hb, rfl⟩ := ret2_some hv
    obtain ⟨φ', w', y, r1, r2, r3, r4⟩ := convO_sound s (ev_sound hg he h1) hb hf
    exact ⟨φ', w', .value y, lift_value r1, r2, r3, .val r4⟩
  case makeInterface t x =>
    obtain ⟨v, h1, hv⟩ := ev1_some hv
    have hx := ev_sound hg he h1
    split at hv
    · cases hv
    · rename_i d hd hu
      cases hv
      refine ⟨φ, w, .value (.iface t (a.eval x)), lift_value ?_, refl, s, .val (.iface hx)⟩
      simp only [Instr.makeInterface, Sem.run_bind, run_underlying hu, Result.andThen_ok]
      cases d <;> first | rfl | exact absurd hu (hd _)
    · cases hv
  case makeFunc fn first cap =>
    split at hv
    · rename_i f va vb h1 h2
      cases hv
      exact ⟨φ, w, .value (.func (.func f) (first.map a.eval) (cap.map a.eval)), rfl, refl, s, .val (.func (by simpa using evs_sound hg he h1) (by simpa using evs_sound hg he h2))⟩
    · cases hv
  case makeMap t r =>
    split at hv
    · rename_i hu hr
      cases hv
      have hr' := evOpt_some hg he hr
      cases r with
      | some _ => exact hr'.elim
      | none =>
      obtain ⟨r1, r2, r3⟩ := new_obj (P := c.P) s (hf (by simp)) (.map [] 0) (.map #[] 0) rfl (fun _ _ => .map trivial)
      refine ⟨_, _, .value (.map (some w.heap.size)), lift_value ?_, r2, r3, .val (.map (Phi.add_same _ _ _))⟩
      simp only [Option.map_none, Instr.makeMap, Sem.run_bind, r1, Result.andThen_ok, Sem.run_pure]
    · rename_i k n hu hr
      cases hv
      have hr' := evOpt_some hg he hr
      cases r with
      | none => exact hr'.elim
      | some x =>
      simp only [Option.map_some, OR] at hr'
      generalize hxe : a.eval x = xv at hr'
      cases hr'
      obtain ⟨r1, r2, r3⟩ := new_obj (P := c.P) s (hf (by simp)) (.map [] 0) (.map #[] 0) rfl (fun _ _ => .map trivial)
      refine ⟨_, _, .value (.map (some w.heap.size)), lift_value ?_, r2, r3, .val (.map (Phi.add_same _ _ _))⟩
      simp only [Option.map_some, hxe, Instr.makeMap, Sem.run_bind, run_underlying hu, Result.andThen_ok, asInt, asIntOf, Sem.run_pure, r1]
    · cases hv
  case makeSlice t l k =>
    obtain ⟨u, v, h1, h2, hv⟩ := ev2_some hv
    obtain ⟨z, hb, rfl⟩ := ret2_some hv
    have := makeSliceO_next hb
    obtain ⟨φ', w', y, r1, r2, r3, r4⟩ := makeSliceO_sound s (ev_sound hg he h1) (ev_sound hg he h2) hb (hf (by omega))
    exact ⟨φ', w', .value y, lift_value r1, r2, r3, .val r4⟩
  case slice t x lo hi mx =>
    obtain ⟨v, h1, hv⟩ := ev1_some hv
    split at hv
    · rename_i lo' hi' mx' hlo hhi hmx
      obtain ⟨u, hb, rfl, rfl⟩ := ret_some hv
      obtain ⟨y, r1, r2⟩ := sliceO_sound s (ev_sound hg he h1) (evOpt_some hg he hlo) (evOpt_some hg he hhi) (evOpt_some hg he hmx) hb
      exact ⟨φ, w, .value y, lift_value r1, refl, s, .val r2⟩
    · cases hv
  case fieldAddr t x f =>
    obtain ⟨v, h1, hv⟩ := ev1_some hv
    obtain ⟨u, hb, rfl, rfl⟩ := ret_some hv
    obtain ⟨y, r1, r2⟩ := fieldAddrO_sound (w := w) (ev_sound hg he h1) hb
    exact ⟨φ, w, .value y, lift_value r1, refl, s, .val r2⟩
  case field t x f =>
    obtain ⟨v, h1, hv⟩ := ev1_some hv
    obtain ⟨u, hb, rfl, rfl⟩ := ret_some hv
    obtain ⟨y, r1, r2⟩ := fieldO_sound (w := w) (ev_sound hg he h1) hb
    exact ⟨φ, w, .value y, lift_value r1, refl, s, .val r2⟩
  case indexAddr t x i =>
    obtain ⟨u, v, h1, h2, hv⟩ := ev2_some hv
    obtain ⟨z, hb, rfl, rfl⟩ := ret_some hv
    obtain ⟨y, r1, r2⟩ := indexAddrO_sound (w := w) (ev_sound hg he h1) (ev_sound hg he h2) hb
    exact ⟨φ, w, .value y, lift_value r1, refl, s, .val r2⟩
  case index t x i =>
    obtain ⟨u, v, h1, h2, hv⟩ := ev2_some hv
    obtain ⟨z, hb, rfl, rfl⟩ := ret_some hv
    obtain ⟨y, r1, r2⟩ := indexO_sound (w := w) (ev_sound hg he h1) (ev_sound hg he h2) hb
    exact ⟨φ, w, .value y, lift_value r1, refl, s, .val r2⟩
  case lookup t x i ok =>
    obtain ⟨u, v, h1, h2, hv⟩ := ev2_some hv
    obtain ⟨z, hb, rfl, rfl⟩ := ret_some hv
    obtain ⟨y, r1, r2⟩ := lookupO_sound s (ev_sound hg he h1) (ev_sound hg he h2) hb
    exact ⟨φ, w, .value y, lift_value r1, refl, s, .val r2⟩
  case mapUpdate t m k x =>
    obtain ⟨u, h0, hv⟩ := ev1_some hv
    obtain ⟨v, z, h1, h2, hv⟩ := ev2_some hv
    obtain ⟨hst, rfl⟩ := retH_some hv
    obtain ⟨w', r1, r2, r3⟩ := mapUpdateO_sound s (ev_sound hg he h0) (ev_sound hg he h1) (ev_sound hg he h2) hst
    exact ⟨φ, w', .skip, lift_skip r1, r2, r3, .skip⟩
  case insert t m k x =>
    obtain ⟨u, h0, hv⟩ := ev1_some hv
    obtain ⟨v, z, h1, h2, hv⟩ := ev2_some hv
    obtain ⟨hst, rfl⟩ := retH_some hv
    obtain ⟨w', r1, r2, r3⟩ := mapUpdateO_sound s (ev_sound hg he h0) (ev_sound hg he h1) (ev_sound hg he h2) hst
    exact ⟨φ, w', .skip, lift_skip r1, r2, r3, .skip⟩
  case mapEntry t m k =>
    obtain ⟨u, v, h1, h2, hv⟩ := ev2_some hv
    obtain ⟨z, hb, rfl⟩ := ret2_some hv
    obtain ⟨w', y, r1, r2, r3, r4⟩ := mapEntryO_sound s (ev_sound hg he h1) (ev_sound hg he h2) hb
    exact ⟨φ, w', .value y, lift_value r1, r2, r3, .val r4⟩
  case entryStore t m k x =>
    obtain ⟨u, h0, hv⟩ := ev1_some hv
    obtain ⟨v, z, h1, h2, hv⟩ := ev2_some hv
    obtain ⟨hst, rfl⟩ := retH_some hv
    obtain ⟨w', r1, r2, r3⟩ := entryStoreO_sound (t := t) s (ev_sound hg he h0) (ev_sound hg he h1) (ev_sound hg he h2) hst
    exact ⟨φ, w', .skip, lift_skip r1, r2, r3, .skip⟩
  case range t x =>
    obtain ⟨v, h1, hv⟩ := ev1_some hv
    obtain ⟨u, hb, rfl⟩ := ret2_some hv
    obtain ⟨φ', w', y, r1, r2, r3, r4⟩ := rangeO_sound s (ev_sound hg he h1) hb hf
    exact ⟨φ', w', .value y, lift_value r1, r2, r3, .val r4⟩
  case next it st =>
    obtain ⟨v, h1, hv⟩ := ev1_some hv
    obtain ⟨u, hb, rfl⟩ := ret2_some hv
    obtain ⟨w', y, r1, r2, r3, r4⟩ := nextO_sound (t := o.type) s (ev_sound hg he h1) hb
    exact ⟨φ, w', .value y, lift_value r1, r2, r3, .val r4⟩
  case extract x i =>
    obtain ⟨v, h1, hv⟩ := ev1_some hv
    have hx := ev_sound hg he h1
    generalize hxe : a.eval x = xv at hx
    split at hv
    · split at hv
      · rename_i u hu
        cases hv
        cases hx with
        | tup hr =>
        obtain ⟨y, hy, hvy⟩ := hr.get hu
        rw [Array.getElem?_toList] at hy
        refine ⟨φ, w, .value y, lift_value ?_, refl, s, .val hvy⟩
        simp only [hxe, Instr.extract, hy, Sem.run_pure]
      · cases hv
    · cases hv
  case call k =>
    obtain ⟨callee, kargs, kts⟩ := k
    split at hv
    · cases hv
    · rename_i args hargs
      have ha := evs_sound hg he hargs
      split at hv
      · rename_i hcal
        simp only at hcal; subst hcal
        cases hv
        exact ⟨φ, w, .recover, rfl, refl, s, .recover⟩
      · rename_i b hb hcal
        simp only at hcal; subst hcal
        obtain ⟨v, hbo, rfl⟩ := ret2_some hv
        obtain ⟨φ', w', u, r1, r2, r3, r4⟩ := builtinO_sound (ty := o.type) (cs := kargs.map fun | .const _ => true | _ => false) (xs := kargs.map a.eval) s (by simpa using ha) hbo hf
        refine ⟨φ', w', .value u, ?_, r2, r3, .val r4⟩
        simp only [execOp, resolve, Sem.run_bind, Sem.run_pure, Result.andThen_ok, invoke]
        exact r1
      · rename_i f hcal
        simp only at hcal; subst hcal
        obtain ⟨v, h1, hv⟩ := ev1_some hv
        obtain ⟨rfl, d, nx, r1, r2, r3⟩ := call_value (xs := kargs.map a.eval) hc hg s (ev_sound hg he h1) (by simpa using ha) hv
        refine ⟨φ, w, nx, ?_, refl, s, r3⟩
        simp only [execOp, resolve, Sem.run_bind, r1, Result.andThen_ok]
        exact r2
      · cases hv
  case defer k =>
    obtain ⟨callee, kargs, kts⟩ := k
    split at hv
    · cases hv
    · rename_i args hargs
      have ha := evs_sound hg he hargs
      split at hv
      · rename_i f hcal
        simp only at hcal; subst hcal
        obtain ⟨v, h1, hv⟩ := ev1_some hv
        have hx := ev_sound hg he h1
        generalize hxe : a.eval f = xv at hx
        split at hv
        · rename_i g first cap
          cases hv
          cases hx with
          | @func _ _ _ first' cap' g1 g2 =>
          refine ⟨φ, w, .defer { target := .fn (.func g) cap', args := first' ++ kargs.map a.eval }, ?_, refl, s, .defer rfl (by simpa using (g1.append ha).append g2)⟩
          simp only [execOp, resolve, hxe, Deferred.ofValue, Sem.run_bind, Sem.run_pure, Result.andThen_ok]
        · cases hv
      · cases hv
  all_goals cases hv

end
end Go.Fal
namespace Go.Fal

/-! ## How far the names have gone -/
section
variable {c : Cfg}

theorem opRun_next {call : Out → H → Option (V × H)} (hcall : ∀ out h v h', call out h = some (v, h') → h.next ≤ h'.next) {rnd : Option Nat} {tm : T V} {ds : List D} {h : H} {o : Oper} {v : V} {ds' : List D} {h' : H}
    (hv : opRun c call rnd tm ds h o = some (v, ds', h')) : h.next ≤ h'.next := by
  unfold opRun at hv
  split at hv
  · cases hv
  · rename_i hx; cases hv; exact opx_next hx
  · rename_i hx; cases hv; exact opx_next hx
  · rename_i hx; split at hv <;> cases hv; exact opx_next hx
  · rename_i hx; split at hv <;> cases hv; exact opx_next hx
  · rename_i hx
    split at hv
    · rename_i hc; cases hv; exact Nat.le_trans (opx_next hx) (hcall _ _ _ _ hc)
    · cases hv

theorem regL_next {call : Out → H → Option (V × H)} (hcall : ∀ out h v h', call out h = some (v, h') → h.next ≤ h'.next) {nt : Nat} {rnd : Option Nat} {ops : Array Oper} : ∀ (l : List Nat) (tm : T V) (ds : List D) (h : H) (r : T V × List D × H),
    regL c call nt rnd ops l tm ds h = some r → h.next ≤ r.2.2.next
  | [], tm, ds, h, r, hv => by simp only [regL, Option.some.injEq] at hv; subst hv; exact Nat.le_refl _
  | i :: is, tm, ds, h, r, hv => by
    simp only [regL] at hv
    split at hv
    · cases hv
    · split at hv
      · cases hv
      · split at hv
        · exact regL_next hcall is _ _ _ _ hv
        · cases hv
      · split at hv
        · cases hv
        · rename_i ho
          split at hv
          · exact Nat.le_trans (opRun_next hcall ho) (regL_next hcall is _ _ _ _ hv)
          · cases hv

theorem regD_next {call : Out → H → Option (V × H)} (hcall : ∀ out h v h', call out h = some (v, h') → h.next ≤ h'.next) {nt : Nat} {rnd : Option Nat} {ops : Array Oper} {bs : List Nat} :
    ∀ (l : List Nat) (tm : T V) (ds : List D) (h : H) (past : List (Nat × H)) (rds : List Rd) (r : T V × List D × H),
    regD c call nt rnd ops bs l tm ds h past rds = some r → h.next ≤ r.2.2.next
  | [], tm, ds, h, _, _, r, hv => by simp only [regD, Option.some.injEq] at hv; subst hv; exact Nat.le_refl _
  | i :: is, tm, ds, h, past, rds, r, hv => by
    simp only [regD] at hv
    split at hv
    · cases hv
    · split at hv
      · cases hv
      · split at hv
        · exact regD_next hcall is _ _ _ _ _ _ hv
        · cases hv
      · split at hv
        · cases hv
        · rename_i ho
          have h1 := opRun_next hcall ho
          split at hv
          · cases hv
          · split at hv
            · split at hv
              · cases hv
              · split at hv
                · cases hv
                · split at hv
                  · exact Nat.le_trans h1 (regD_next hcall is _ _ _ _ _ _ hv)
                  · cases hv
            · split at hv
              · exact Nat.le_trans h1 (regD_next hcall is _ _ _ _ _ _ hv)
              · cases hv
            · exact Nat.le_trans h1 (regD_next hcall is _ _ _ _ _ _ hv)

theorem setState_next {h h' : H} {l : Nat} {st : LoopState} {pend : Option Code} (hv : setState h l st pend = some h') : h'.next = h.next := by
  unfold setState at hv; split at hv <;> cases hv; rfl

theorem unwind_next {runf : Fr → H → Option (V × H)} (hr : ∀ (fr : Fr) (h : H) (v : V) (h' : H), runf fr h = some (v, h') → h.next ≤ h'.next) {fn : Nat} {tm : T V} : ∀ (ds : List D) {h : H} (v : V) (h' : H), unwind c runf fn tm h ds = some (v, h') → h.next ≤ h'.next
  | [], h, v, h', hv => by
    simp only [unwind] at hv
    split at hv
    · split at hv <;> cases hv; exact Nat.le_refl _
    · cases hv
  | .coll b :: ds, h, v, h', hv => by
    simp only [unwind] at hv
    split at hv
    · exact unwind_next (h := h.put b (.defd false)) hr ds _ _ hv
    · cases hv
  | .call f args :: ds, h, v, h', hv => by
    simp only [unwind] at hv
    split at hv
    · split at hv
      · rename_i hx; exact Nat.le_trans (hr _ _ _ _ hx) (unwind_next hr ds _ _ hv)
      · cases hv
    · cases hv

theorem callF_next {runf : Fr → H → Option (V × H)} (hr : ∀ (fr : Fr) (h : H) (v : V) (h' : H), runf fr h = some (v, h') → h.next ≤ h'.next) (out : Out) (h : H) (v : V) (h' : H) (hv : callF c runf out h = some (v, h')) : h.next ≤ h'.next := by
  unfold callF at hv
  split at hv
  · split at hv
    · split at hv
      · cases hv; exact Nat.le_refl _
      · cases hv
    · split at hv
      · exact hr _ _ _ _ hv
      · cases hv
  · split at hv
    · exact hr _ _ _ _ hv
    · cases hv
  · cases hv

theorem leaveF_next {runf : Fr → H → Option (V × H)} (hr : ∀ (fr : Fr) (h : H) (v : V) (h' : H), runf fr h = some (v, h') → h.next ≤ h'.next) {fr : Fr} {h h' : H} {jump : Option Code} {v : V} (hv : leaveF c runf fr h jump = some (v, h')) : h.next ≤ h'.next := by
  unfold leaveF at hv
  split at hv
  · split at hv
    · split at hv
      · rename_i hs; cases hv; exact Nat.le_of_eq (setState_next hs).symm
      · cases hv
    · cases hv
  · split at hv
    · exact unwind_next hr _ _ _ hv
    · cases hv

theorem markF_next {fr : Fr} {h h1 : H} {d : Nat} {mark : List D} (hv : markF fr h = some (d, mark, h1)) : h.next ≤ h1.next := by
  unfold markF at hv
  repeat' split at hv
  all_goals first | (cases hv; done) | (cases hv; simp)

theorem rangeF_next {runf : Fr → H → Option (V × H)} (hr : ∀ (fr : Fr) (h : H) (v : V) (h' : H), runf fr h = some (v, h') → h.next ≤ h'.next) {fr : Fr} {h h' : H} {f : Operand} {ps : Array Tmp} {assign body : Code} {k : List Item} {v : V}
    (hv : rangeF c runf fr h f ps assign body k = some (v, h')) : h.next ≤ h'.next := by
  unfold rangeF at hv
  split at hv
  · cases hv
  · rename_i hm
    have h1 := markF_next hm
    split at hv
    · split at hv
      · rename_i hc
        have h2 := callF_next hr _ _ _ _ hc
        split at hv
        · split at hv
          · cases hv
          · split at hv
            · rename_i hs
              have h3 := setState_next hs
              have h4 := hr _ _ _ _ hv
              simp only [H.next_new] at h2
              omega
            · cases hv
        · cases hv
      · cases hv
    · cases hv

theorem step_next {runf : Fr → H → Option (V × H)} (ih : ∀ (fr : Fr) (h : H) (v : V) (h' : H), runf fr h = some (v, h') → h.next ≤ h'.next) (fr : Fr) (h : H) (v : V) (h' : H) (hv : stepF c runf fr h = some (v, h')) : h.next ≤ h'.next := by
  have hcall := callF_next (c := c) ih
  unfold stepF at hv
  split at hv
  · exact leaveF_next ih hv
  · split at hv
    · exact leaveF_next ih hv
    · exact ih _ _ _ _ hv
    · exact ih _ _ _ _ hv
    · exact ih _ _ _ _ hv
    · split at hv
      · exact ih _ _ _ _ hv
      · cases hv
    · exact ih _ _ _ _ hv
    · exact ih _ _ _ _ hv
    · exact ih _ _ _ _ hv
    · split at hv
      · exact ih _ _ _ _ hv
      · exact leaveF_next ih hv
    · split at hv
      · exact ih _ _ _ _ hv
      · exact leaveF_next ih hv
    · unfold regionF at hv
      split at hv
      · split at hv
        · split at hv
          · rename_i hd; exact Nat.le_trans (regD_next hcall _ _ _ _ _ _ _ hd) (ih _ _ _ _ hv)
          · cases hv
        · cases hv
      · split at hv
        · rename_i hd; exact Nat.le_trans (regL_next hcall _ _ _ _ _ hd) (ih _ _ _ _ hv)
        · cases hv
    · exact rangeF_next ih hv
    · cases hv
  · exact ih _ _ _ _ hv
  · exact ih _ _ _ _ hv
  · exact ih _ _ _ _ hv
  · unfold roundF at hv
    split at hv
    · split at hv
      · split at hv
        · rename_i hs; have := setState_next hs; have := ih _ _ _ _ hv; omega
        · cases hv
      · cases hv
    · cases hv
  · cases hv

theorem run_next : ∀ (n : Nat) (fr : Fr) (h : H) (v : V) (h' : H), run c n fr h = some (v, h') → h.next ≤ h'.next
  | 0, _, _, _, _, hv => by simp [run] at hv
  | n + 1, fr, h, v, h', hv => step_next (run_next n) fr h v h' hv

end
end Go.Fal
namespace Go.Fal

/-! ## Frames -/
inductive DR (φ : Phi) : D → Deferred → Prop
  | coll {b B N : Nat} : φ b = some (B, N) → DR φ (.coll b) { target := .collected B, args := #[] }
  | call {f : Nat} {args : List V} {xs ys : Array Value} : VRs φ args (ys.toList ++ xs.toList) → DR φ (.call f args) { target := .fn (.func f) xs, args := ys }

def DsR (φ : Phi) : List D → List Deferred → Prop
  | [], [] => True
  | d :: ds, x :: xs => DR φ d x ∧ DsR φ ds xs
  | _, _ => False

theorem DR.mono {φ ψ : Phi} (h : φ.le ψ) {d : D} {x : Deferred} (hd : DR φ d x) : DR ψ d x := by
  cases hd with
  | coll h1 => exact .coll (h _ _ h1)
  | call h1 => exact .call (h1.mono h)
theorem DsR.mono {φ ψ : Phi} (h : φ.le ψ) : ∀ {ds : List D} {xs : List Deferred}, DsR φ ds xs → DsR ψ ds xs
  | [], [], _ => trivial
  | [], _ :: _, h' => h'.elim
  | _ :: _, [], h' => h'.elim
  | _ :: _, _ :: _, ⟨a, b⟩ => ⟨a.mono h, DsR.mono h b⟩
theorem DsR.append {φ : Phi} : ∀ {ds es : List D} {xs ys : List Deferred}, DsR φ ds xs → DsR φ es ys → DsR φ (ds ++ es) (xs ++ ys)
  | [], _, [], _, _, h => h
  | [], _, _ :: _, _, h', _ => h'.elim
  | _ :: _, _, [], _, h', _ => h'.elim
  | _ :: _, _, _ :: _, _, ⟨a, b⟩, h => ⟨a, DsR.append b h⟩

def RndR (φ : Phi) : Option Nat → Option Nat → Prop
  | none, none => True
  | some l, some B => ∃ N, φ l = some (B, N)
  | _, _ => False
theorem RndR.mono {φ ψ : Phi} (h : φ.le ψ) {x y : Option Nat} (hr : RndR φ x y) : RndR ψ x y := by
  cases x <;> cases y <;> simp only [RndR] at hr ⊢
  obtain ⟨N, hN⟩ := hr
  exact ⟨N, h _ _ hN⟩

/-- a frame that a call made: what a look for a panic comes to -/
def KindOk (b : Frame) (cs : List Frame) : Prop := b.kind = .normal ∨ (b.kind = .deferred ∧ ∃ c rest, cs = c :: rest ∧ c.mode = .returning)

theorem tryRecover_none {fr : Frame} {cs : List Frame} (h : fr.kind = .normal ∨ (fr.kind = .deferred ∧ ∃ c rest, cs = c :: rest ∧ c.mode = .returning)) : tryRecover fr cs = none := by
  rcases h with h | ⟨h, c, rest, rfl, hm⟩
  · unfold tryRecover; rw [h]
  · unfold tryRecover; rw [h]; simp only [hm]

def Free (φ : Phi) (h h' : H) : Prop := ∀ b, h.next ≤ b → b < h'.next → φ b = none

section
variable {c : Cfg}

/-- What is asked of a call. -/
def CallOk (c : Cfg) (call : Out → H → Option (V × H)) : Prop :=
  ∀ (out : Out) (h : H) (v : V) (h' : H), call out h = some (v, h') → ∀ (φ : Phi) (w : World) (nx : Next), Glob c.ng φ → Sim φ h w → Free φ h h' → OutR φ w out nx →
    ((∃ f xs, nx = .enter f xs ∧ ∀ (cr : Frame) (cs : List Frame), ∃ φ' w' v', Steps c.P (lone (Frame.enter c.P f xs .normal) (cr :: cs) w) (lone (cr.finish v') cs w') ∧ VR φ' v v' ∧ Tr φ h w φ' h' w' ∧ Sim φ' h' w') ∨
     (∃ l f tmps assign body, nx = .round l f tmps assign body ∧ ∀ (cr : Frame) (cs : List Frame), ∃ φ' w' v', Steps c.P (lone (Frame.round l f tmps assign body .normal) (cr :: cs) w) (lone (cr.finish v') cs w') ∧ VR φ' v v' ∧ Tr φ h w φ' h' w' ∧ Sim φ' h' w'))

theorem put_defers (a : Act) (dst : Option Tmp) (v : Value) : (a.put dst v).defers = a.defers := by cases dst <;> rfl
theorem put_size (a : Act) (dst : Option Tmp) (v : Value) : (a.put dst v).tmps.size = a.tmps.size := by
  cases dst with
  | none => rfl
  | some d => simp [Act.put]

theorem EnvR.put {φ : Phi} {tm tm' : T V} {a : Act} {nt : Nat} {dst : Option Tmp} {v : V} {x : Value} (he : EnvR φ tm a.tmps) (hs : a.tmps.size = nt) (hp : putT nt tm dst v = some tm') (hv : VR φ v x) : EnvR φ tm' (a.put dst x).tmps := by
  unfold putT at hp
  split at hp
  · cases hp; exact he
  · rename_i d
    split at hp
    · rename_i hd
      cases hp
      intro i u hu
      rw [T.get_set] at hu
      simp only [Act.put]
      split at hu
      · rename_i heq
        cases hu
        exact ⟨x, by rw [heq, Array.getElem?_setIfInBounds, if_pos rfl, if_pos (hs.symm ▸ hd)], hv⟩
      · rename_i hne
        obtain ⟨y, hy, hvy⟩ := he i u hu
        exact ⟨y, by rw [Array.getElem?_setIfInBounds_ne (by omega)]; exact hy, hvy⟩
    · cases hp

theorem undef_VR (φ : Phi) : VR φ undefV undef := .tup .nil

/-- is it to be done? -/
theorem wantO_sound {φ : Phi} {tm : T V} {a : Act} (he : EnvR φ tm a.tmps) {ops : Array Oper} {o : Oper} {b : Bool} (hw : wantO ops tm o = some b) : Region.wanted o (yielded ops a.tmps) = b := by
  unfold wantO at hw
  unfold Region.wanted
  split at hw
  · rename_i hg; cases hw; rw [hg]
  · rename_i j want hg
    rw [hg]
    simp only
    unfold yielded
    split at hw
    · rename_i hj; cases hw; rw [hj]; simp
    · rename_i oj hj
      rw [hj]
      simp only [Option.bind_some]
      split at hw
      · rename_i hd; cases hw; rw [hd]; simp
      · rename_i d hd
        rw [hd]
        simp only [Option.bind_some]
        split at hw
        · rename_i b' hb
          cases hw
          obtain ⟨x, hx, hv⟩ := he d _ hb
          cases hv
          rw [hx]
          cases b' <;> cases want <;> rfl
        · rename_i v hv hb
          cases hw
          obtain ⟨x, hx, hr⟩ := he d _ hb
          rw [hx]
          cases hr <;> first | rfl | exact absurd rfl (hv _)
        · cases hw

/-- One operation, as the machine makes it. -/
theorem opRun_sound (hc : CfgOk c) {call : Out → H → Option (V × H)} (hcall : CallOk c call) (hnext : ∀ out h v h', call out h = some (v, h') → h.next ≤ h'.next) {rnd : Option Nat} {tm : T V} {ds ds' : List D} {h h' : H} {o : Oper} {v : V}
    (hv : opRun c call rnd tm ds h o = some (v, ds', h')) {φ : Phi} {w : World} (hg : Glob c.ng φ) (s : Sim φ h w) {b : Frame} {a : Act} {cs : List Frame} (he : EnvR φ tm a.tmps) (hd : DsR φ ds a.defers) (hr : RndR φ rnd b.roundOf)
    (hk : KindOk b cs) (hfree : Free φ h h') {ops : Array Oper} {i : Nat} {rest : List Nat} {k : List Item} (hi : ops[i]? = some o) (hw : Region.wanted o (yielded ops a.tmps) = true) :
    ∃ φ' w' v' dd, Steps c.P (lone (b.atR a (.inRegion ops (i :: rest) :: k)) cs w) (lone (b.atR { (a.put o.dst v') with defers := dd } (.inRegion ops rest :: k)) cs w') ∧ VR φ' v v' ∧ DsR φ' ds' dd ∧ Tr φ h w φ' h' w' ∧ Sim φ' h' w' := by
  have hstep := stepGR_op (P := c.P) (b := b) (a := a) (k := k) (cs := cs) (w := w) (rest := rest) hi hw
  have hfin : ∀ v', (b.atR a (.inRegion ops (i :: rest) :: k)).finish v' = b.atR { (a.put o.dst v') with defers := a.defers } (.inRegion ops rest :: k) := fun v' => by
    rw [Frame.finish_atR, hi]; simp only [Option.bind_some]
    congr 1
    cases o.dst <;> rfl
  unfold opRun at hv
  split at hv
  · cases hv
  · rename_i u h1 hx
    cases hv
    obtain ⟨φ', w', nx, r1, r2, r3, r4⟩ := opx_sound hc hg s he hx hfree
    cases r4 with
    | @val _ x hvx =>
    refine ⟨φ', w', x, a.defers, .one (step_lone_go ?_), hvx, hd.mono r2.le, r2, r3⟩
    have hnd : ∀ k, o.op ≠ .defer k := by intro k hk; rw [hk] at hx; simp only [opx] at hx; repeat' split at hx
                                          all_goals first | (cases hx; done) | (obtain ⟨_, _, hx⟩ := ev1_some hx; split at hx <;> cases hx)
    rw [hstep, Oper.semAt_eq _ _ _ hnd, ← hfin]
    simp [stepG.apply, r1]
  · rename_i h1 hx
    cases hv
    obtain ⟨φ', w', nx, r1, r2, r3, r4⟩ := opx_sound hc hg s he hx hfree
    cases r4 with
    | skip =>
    refine ⟨φ', w', undef, a.defers, .one (step_lone_go ?_), undef_VR _, hd.mono r2.le, r2, r3⟩
    have hnd : ∀ k, o.op ≠ .defer k := by intro k hk; rw [hk] at hx; simp only [opx] at hx; repeat' split at hx
                                          all_goals first | (cases hx; done) | (obtain ⟨_, _, hx⟩ := ev1_some hx; split at hx <;> cases hx)
    rw [hstep, Oper.semAt_eq _ _ _ hnd, ← hfin]
    simp [stepG.apply, r1]
  · rename_i h1 hx
    split at hv
    · cases hv
      obtain ⟨φ', w', nx, r1, r2, r3, r4⟩ := opx_sound hc hg s he hx hfree
      cases r4 with
      | recover =>
      have hro : b.roundOf = none := by cases hb : b.roundOf with
        | none => rfl
        | some l => rw [hb] at hr; exact hr.elim
      refine ⟨φ', w', .nilIface, a.defers, .one (step_lone_go ?_), .nili, hd.mono r2.le, r2, r3⟩
      rw [hstep, hro, Oper.semAt_none, ← hfin]
      have htr : tryRecover (b.atR a (.inRegion ops (i :: rest) :: k)) cs = none := tryRecover_none hk
      have hro' : (b.atR a (.inRegion ops (i :: rest) :: k)).roundOf = none := hro
      simp [stepG.apply, r1, hro', htr]
    · cases hv
  · rename_i f args h1 hx
    split at hv
    · cases hv
      obtain ⟨φ', w', nx, r1, r2, r3, r4⟩ := opx_sound hc hg s he hx hfree
      cases r4 with
      | @defer _ _ d xs hdt hdv =>
      have hro : b.roundOf = none := by cases hb : b.roundOf with
        | none => rfl
        | some l => rw [hb] at hr; exact hr.elim
      have hdr : DR φ' (.call f args) d := by
        obtain ⟨tg, ys⟩ := d
        simp only at hdt; subst hdt
        exact .call hdv
      refine ⟨φ', w', undef, d :: a.defers, .one (step_lone_go ?_), undef_VR _, ⟨hdr, hd.mono r2.le⟩, r2, r3⟩
      rw [hstep, hro, Oper.semAt_none]
      simp only [stepG.apply, Sem.runT_eq, r1, GStep.bare_after]
      have hf2 : ({ b.atR a (.inRegion ops (i :: rest) :: k) with defers := d :: (b.atR a (.inRegion ops (i :: rest) :: k)).defers } : Frame).finish undef = b.atR { (a.put o.dst undef) with defers := d :: a.defers } (.inRegion ops rest :: k) := by
        have := Frame.finish_atR b { a with defers := d :: a.defers } ops i rest k undef
        rw [hi] at this; simp only [Option.bind_some] at this
        simp only [Frame.atR] at this ⊢
        rw [this]
        cases o.dst <;> rfl
      exact congrArg (fun fr => GStep.go { frame := fr, callers := cs, status := .running, dying := none } w') hf2
    · cases hv
  · rename_i out h1 n1 n2 n3 n4 hx
    split at hv
    · rename_i u h2 hcl
      cases hv
      have hn1 := opx_next hx
      have hn2 := hnext _ _ _ _ hcl
      obtain ⟨φ', w', nx, r1, r2, r3, r4⟩ := opx_sound hc hg s he hx (fun b hb hb' => hfree b hb (by omega))
      have hfree' : Free φ' h1 h' := fun b hb hb' => by rw [r2.fresh b (.inr hb)]; exact hfree b (by omega) hb'
      have hnd : ∀ k, o.op ≠ .defer k := by intro k hk; rw [hk] at hx; simp only [opx] at hx; repeat' split at hx
                                            all_goals first | (cases hx; done) | (obtain ⟨_, _, hx⟩ := ev1_some hx; split at hx <;> cases hx; exact n4 _ _ rfl)
      rcases hcall _ _ _ _ hcl φ' w' nx (hg.mono r2.le) r3 hfree' r4 with ⟨f, xs, rfl, hrun⟩ | ⟨l, f, tmps, assign, body, rfl, hrun⟩
      · obtain ⟨φ₂, w₂, v', q1, q2, q3, q4⟩ := hrun (b.atR a (.inRegion ops (i :: rest) :: k)) cs
        refine ⟨φ₂, w₂, v', a.defers, .head (step_lone_go ?_) (hfin v' ▸ q1), q2, hd.mono (Phi.le_trans r2.le q3.le), r2.trans q3, q4⟩
        rw [hstep, Oper.semAt_eq _ _ _ hnd]
        simp [stepG.apply, r1, Frame.atR]
      · obtain ⟨φ₂, w₂, v', q1, q2, q3, q4⟩ := hrun (b.atR a (.inRegion ops (i :: rest) :: k)) cs
        refine ⟨φ₂, w₂, v', a.defers, .head (step_lone_go ?_) (hfin v' ▸ q1), q2, hd.mono (Phi.le_trans r2.le q3.le), r2.trans q3, q4⟩
        rw [hstep, Oper.semAt_eq _ _ _ hnd]
        simp [stepG.apply, r1, Frame.atR]
    · cases hv

end
end Go.Fal
