/-
  THE ENGINE: an interpreter of our own for the model's programs, and the proof that each of its runs is a call of the model, for every start that it sees.
-/
import Derived.Test.YthoiomcchedapaaGreatDoorE02
set_option autoImplicit true
set_option relaxedAutoImplicit true
set_option linter.unusedVariables false
set_option linter.unusedSimpArgs false
namespace Go.Fal

section
variable {P : Program} {φ : Phi} {h h' : H} {w : World}

theorem freeze_new (w : World) (C : Array Value) (e : TypeId) (k : Nat) :
    (w.alloc (.cells C e)).freeze ⟨w.heap.size, k, none⟩ 1 = w.alloc (.cells C e (k, k + 1)) := by
  simp only [World.freeze, World.alloc]
  rw [if_neg (by decide)]
  congr 1
  apply Array.ext_getElem?
  intro i
  rw [Array.getElem?_modify, Array.getElem?_push, Array.getElem?_push]
  by_cases hi : i = w.heap.size
  · subst hi; simp
  · rw [if_neg (by omega), if_neg hi, if_neg hi]

theorem most_val : most = 1099511627776 := by decide

theorem cut_append {w : World} {need old : Nat} {e : TypeId} : need ≤ (Question.appendCap need old e).cut (w.tape w.drawn (.appendCap need old e)) := by
  simp only [Question.cut]; omega

theorem run_chooseCap (P : Program) (w : World) (need old : Nat) (e : TypeId) :
    (choose (.appendCap need old e)).run P w = .ok ((Question.appendCap need old e).cut (w.tape w.drawn (.appendCap need old e))) w.drew := by
  simp [Question.forced]

theorem convO_sound (s : Sim φ h w) {src dst : TypeId} {x v : V} {x' : Value} (hx : VR φ x x') (hv : convO P h src dst x = some (v, h')) (hf : h'.next ≠ h.next → φ h.next = none) :
    ∃ φ' w' u, (convert src dst x').run P w = .ok u w' ∧ Tr φ h w φ' h' w' ∧ Sim φ' h' w' ∧ VR φ' v u := by
  have same : ∀ {v : V} {u : Value} {h' : H}, h = h' → (convert src dst x').run P w = .ok u w → VR φ v u → ∃ φ' w' u, (convert src dst x').run P w = .ok u w' ∧ Tr φ h w φ' h' w' ∧ Sim φ' h' w' ∧ VR φ' v u :=
    fun e h1 h2 => e ▸ ⟨φ, w, _, h1, Tr.refl φ s.dom, s, h2⟩
  unfold convO at hv
  split at hv
  · rename_i k hs hd
    cases hv; cases hx
    exact same rfl (by simp only [convert, Sem.run_bind, run_underlying hs, run_underlying hd, Result.andThen_ok]; rfl) (.int _ _)
  · rename_i hs hd
    cases hv; cases hx
    exact same rfl (by simp only [convert, Sem.run_bind, run_underlying hs, run_underlying hd, Result.andThen_ok]; rfl) (.str _)
  · rename_i hs hd
    cases hv; cases hx
    exact same rfl (by simp only [convert, Sem.run_bind, run_underlying hs, run_underlying hd, Result.andThen_ok]; rfl) (.str _)
  · rename_i e s' hs hd
    split at hv
    · rename_i he
      split at hv
      · rename_i hlen
        cases hv
        cases hx with
        | str s₀ =>
        have hfr := hf (by simp)
        rw [bytesOf_length] at hlen ⊢
        generalize hcap : (Question.appendCap s₀.size 0 e).cut (w.tape w.drawn (.appendCap s₀.size 0 e)) = cap
        have hge : s₀.size ≤ cap := hcap ▸ cut_append
        let C : Array Value := (s₀.data.map fun b => .int .u8 b.toNat) ++ Array.replicate (cap - s₀.size) (.int .u8 0)
        have hCs : C.size = cap := by simp [C]; omega
        have hbl : BR (φ.add h.next (w.drew.heap.size, C.size)) (.cells true false s₀.size ((bytesOf s₀).map fun (c : Nat) => V.int .u8 c) .e) C.size (.cells C e (C.size, C.size + 1)) := by
          refine .cells (by omega) (fun i u hi hu => ?_) (fun o _ => by omega) (fun h0 => by cases h0)
          simp only [cellAt, T.get_e, List.length_map, bytesOf_length, Nat.mod_eq_of_lt hi, List.getElem?_map, Option.map_eq_some_iff] at hu
          obtain ⟨n, hn, rfl⟩ := hu
          refine ⟨.int .u8 n, ?_, .int _ _⟩
          simp only [C]
          rw [Array.getElem?_append_left (by simpa using hi)]
          simp only [bytesOf, List.getElem?_map, Option.map_eq_some_iff] at hn
          obtain ⟨b, hb, rfl⟩ := hn
          rw [Array.getElem?_toList] at hb
          simp [hb]
        have hnb := new_block s.drew hfr _ _ C.size rfl hbl
        refine ⟨_, _, .slice (some ⟨w.heap.size, 0, none⟩) s₀.size cap, ?_, (Tr.drew s.dom).trans hnb.1, hnb.2, ?_⟩
        · simp only [convert, Sem.run_bind, run_underlying hs, run_underlying hd, Result.andThen_ok, run_underlying he, Conv.stringToBytes, run_chooseCap, hcap]
          have hrow : (newRow e C).run P w.drew = .ok ⟨w.drew.heap.size, 0, none⟩ (w.drew.alloc (.cells C e)) := by simp [newRow]; rfl
          have hrow' : (newRow e ((s₀.data.map fun b => Value.int .u8 b.toNat) ++ Array.replicate (cap - s₀.size) (.int .u8 0))).run P w.drew = .ok ⟨w.drew.heap.size, 0, none⟩ (w.drew.alloc (.cells C e)) := hrow
          rw [hrow']
          simp only [Result.andThen_ok, markStringish, Sem.run_bind, run_shape]
          have hsh : (w.drew.alloc (.cells C e)).shape? w.drew.heap.size = some (e, C.size) := by
            unfold World.shape?
            rw [heap_push_new]
          rw [hsh]
          simp only [run_freeze, Result.andThen_ok, Sem.run_pure, freeze_new]
          rfl
        · exact .slice (Phi.add_same _ _ _) hge hge (fun h0 => by cases h0) (fun _ => rfl) (by omega)
      · cases hv
    · cases hv
  · rename_i e hs hd
    split at hv
    · rename_i he
      cases hv; cases hx
      refine same rfl (u := .string .empty) (by simp only [convert, Sem.run_bind, run_underlying hs, run_underlying hd, Result.andThen_ok, run_underlying he]; rfl) ?_
      have : ([] : List Nat) = bytesOf .empty := rfl
      rw [this]; exact .str _
    · cases hv
  · rename_i e b off len cap es ex hs hd
    split at hv
    · rename_i he
      split at hv
      · rename_i vs hl
        split at hv
        · rename_i l hb
          split at hv
          · split at hv
            · cases hv
              cases hx with
              | @slice _ _ _ _ _ _ B N o' cap' hp g1 g2 g3 g4 g5 =>
              obtain ⟨xs, hlen, hr, hc⟩ := loadN_sound s hp len off vs hl
              obtain ⟨hb1, hb2⟩ := mapO_some hb
              have hrl := hr.length
              have hld : (loadCells ⟨B, o', none⟩ len).run P w = .ok ⟨xs⟩ w := by
                by_cases h0 : len = 0
                · subst h0
                  obtain rfl : xs = [] := List.length_eq_zero_iff.1 hlen
                  rfl
                · obtain rfl := g4 (by omega)
                  exact run_loadCells' P w B o' len xs hlen hc
              have key := fun f hf => bytesToString_loop P w f hf xs l ByteArray.empty (by omega) (fun i x n hxi hli => by
                have : i < vs.length := by
                  have := (List.getElem?_eq_some_iff.1 hli).1
                  omega
                obtain ⟨v, hv⟩ : ∃ v, vs[i]? = some v := ⟨vs[i], List.getElem?_eq_getElem this⟩
                obtain ⟨y, hy, hvy⟩ := hr.get hv
                rw [hxi] at hy; cases hy
                exact byteO_sound hvy (hb2 i v n hv hli))
              have hrun : ∃ s', (Conv.bytesToString (.slice (some ⟨B, o', none⟩) len cap')).run P w = .ok (.string s') w ∧ bytesOf s' = l := by
                simp only [Conv.bytesToString, Sem.run_bind, hld, Result.andThen_ok]
                rw [← Array.forIn_toList]
                have key2 : ∀ f : Value → ByteArray → Sem (ForInStep ByteArray), (∀ (n : Int) (s : ByteArray), f (.int .u8 n) s = pure (.yield (s.push (UInt8.ofNat n.toNat)))) →
                    ∃ s', ((forIn xs ByteArray.empty f).run P w).andThen (fun a w' => Sem.run P (Pure.pure (Value.string a)) w') = .ok (.string s') w ∧ bytesOf s' = l := fun f hf => by
                  obtain ⟨s', h1, h2⟩ := key f hf
                  exact ⟨s', by rw [h1]; rfl, by rw [h2]; rfl⟩
                refine key2 _ ?_
                intro n s; rfl
              obtain ⟨s', h1, h3⟩ := hrun
              refine same rfl (u := .string s') ?_ (by rw [← h3]; exact .str _)
              simp only [convert, Sem.run_bind, run_underlying hs, run_underlying hd, Result.andThen_ok, run_underlying he, h1]
            · cases hv
          · cases hv
        · cases hv
      · cases hv
    · cases hv
  · cases hv

end
end Go.Fal
namespace Go.Fal

section
variable {P : Program} {φ : Phi} {h h' : H} {w : World}

/-- a block is given up -/
theorem kill_block (s : Sim φ h w) {b : Nat} {o : O} (hg : h.get b = some o) : Tr φ h w φ (h.put b .dead) w ∧ Sim φ (h.put b .dead) w := by
  have hb := s.dom b o hg
  refine ⟨⟨φ.le_refl, fun _ _ => rfl, Nat.le_refl _, Nat.le_refl _, rfl, rfl, rfl, fun _ _ _ => rfl, ?_, ?_, ?_, fun c u hg => by
    by_cases e : c = b
    · exact ⟨.dead, by rw [e]; simp⟩
    · exact ⟨u, by rw [H.get_put_ne _ _ e]; exact hg⟩⟩, ⟨?_, ?_, ?_⟩⟩
  · rintro k ⟨c, u, M, hgc, hr, hp⟩
    by_cases e : c = b
    · subst e; simp at hgc; subst hgc; cases hr
    · rw [H.get_put_ne _ _ e] at hgc; exact .inl ⟨c, u, M, hgc, hr, hp⟩
  · intro c u hgc _ hl
    by_cases e : c = b
    · subst e; simp at hgc; subst hgc; cases hl
    · rw [H.get_put_ne _ _ e] at hgc; exact ⟨u, hgc, hl, rfl⟩
  · intro c u hgc hn hl
    by_cases e : c = b
    · subst e; omega
    · rw [H.get_put_ne _ _ e] at hgc; exact absurd (s.dom c u hgc) (by omega)
  · intro c u hgc
    by_cases e : c = b
    · subst e; exact hb
    · rw [H.get_put_ne _ _ e] at hgc; exact s.dom c u hgc
  · intro c u hgc hl
    by_cases e : c = b
    · subst e; simp at hgc; subst hgc; cases hl
    · rw [H.get_put_ne _ _ e] at hgc; exact s.blk c u hgc hl
  · intro c d u v B M M' hgc hgd hlc hld
    by_cases e : c = b
    · subst e; simp at hgc; subst hgc; cases hlc
    · rw [H.get_put_ne _ _ e] at hgc
      by_cases e' : d = b
      · subst e'; simp at hgd; subst hgd; cases hld
      · rw [H.get_put_ne _ _ e'] at hgd
        exact s.inj c d u v B M M' hgc hgd hlc hld

/-- a block goes on under a new name -/
theorem rename_block (s : Sim φ h w) (hf : φ h.next = none) {b B N : Nat} {o : O} (hg : h.get b = some o) (hr : o.rw = true) (hp : φ b = some (B, N)) :
    Tr φ h w (φ.add h.next (B, N)) ((h.put b .dead).new o) w ∧ Sim (φ.add h.next (B, N)) ((h.put b .dead).new o) w := by
  have hb := s.dom b o hg
  have hl := O.live_of_rw hr
  have hle : φ.le (φ.add h.next (B, N)) := Phi.le_add _ hf
  have get_new : ((h.put b .dead).new o).get h.next = some o := by
    have := H.get_new_same (h.put b .dead) o
    simpa using this
  have get_dead : ((h.put b .dead).new o).get b = some .dead := by
    rw [H.get_new_ne _ _ (by simp; omega)]; simp
  have get_other : ∀ c, c ≠ b → c ≠ h.next → ((h.put b .dead).new o).get c = h.get c := fun c e e' => by
    rw [H.get_new_ne _ _ (by simpa using e'), H.get_put_ne _ _ e]
  refine ⟨⟨hle, ?_, by simp, Nat.le_refl _, rfl, rfl, rfl, fun _ _ _ => rfl, ?_, ?_, ?_, fun c u hg => by
    by_cases e : c = b
    · exact ⟨.dead, by rw [e]; exact get_dead⟩
    · exact ⟨u, by rw [get_other c e (by have := s.dom c u hg; omega)]; exact hg⟩⟩, ⟨?_, ?_, ?_⟩⟩
  · intro c hc
    simp at hc
    exact Phi.add_ne _ _ (by omega)
  · rintro k ⟨c, u, M, hgc, hrc, hpc⟩
    by_cases e' : c = h.next
    · subst e'
      rw [get_new] at hgc; cases hgc
      simp at hpc
      exact .inl ⟨b, _, N, hg, hr, by rw [hp, hpc.1]⟩
    · rw [Phi.add_ne _ _ e'] at hpc
      by_cases e : c = b
      · subst e; rw [get_dead] at hgc; cases hgc; cases hrc
      · rw [get_other c e e'] at hgc; exact .inl ⟨c, u, M, hgc, hrc, hpc⟩
  · intro c u hgc hn hlc
    by_cases e : c = b
    · subst e; rw [get_dead] at hgc; cases hgc; cases hlc
    · rw [get_other c e (by omega)] at hgc; exact ⟨u, hgc, hlc, rfl⟩
  · intro c u hgc hn hlc
    by_cases e' : c = h.next
    · subst e'; rw [get_new] at hgc; cases hgc; exact hr
    · rw [get_other c (by omega) e'] at hgc; exact absurd (s.dom c u hgc) (by omega)
  · intro c u hgc
    by_cases e' : c = h.next
    · subst e'; simp
    · by_cases e : c = b
      · subst e; simp; omega
      · rw [get_other c e e'] at hgc; have := s.dom c u hgc; simp; omega
  · intro c u hgc hlc
    by_cases e' : c = h.next
    · subst e'
      rw [get_new] at hgc; cases hgc
      obtain ⟨B', M, x, hq, hh, hbr⟩ := s.blk b _ hg hl
      rw [hp] at hq; cases hq
      exact ⟨B, N, x, Phi.add_same _ _ _, hh, hbr.mono hle⟩
    · by_cases e : c = b
      · subst e; rw [get_dead] at hgc; cases hgc; cases hlc
      · rw [get_other c e e'] at hgc
        obtain ⟨B', M, x, hq, hh, hbr⟩ := s.blk c u hgc hlc
        exact ⟨B', M, x, hle _ _ hq, hh, hbr.mono hle⟩
  · intro c d u v B₁ M M' hgc hgd hlc hld hpc hpd
    by_cases ec : c = b
    · subst ec; rw [get_dead] at hgc; cases hgc; cases hlc
    by_cases ed : d = b
    · subst ed; rw [get_dead] at hgd; cases hgd; cases hld
    by_cases ec' : c = h.next
    · by_cases ed' : d = h.next
      · rw [ec', ed']
      · subst ec'
        rw [Phi.add_ne _ _ ed'] at hpd
        rw [get_other d ed ed'] at hgd
        simp at hpc
        have := s.inj d b v o B₁ M' N hgd hg hld hl hpd (by rw [hp, hpc.1])
        exact absurd this ed
    · rw [Phi.add_ne _ _ ec'] at hpc
      rw [get_other c ec ec'] at hgc
      by_cases ed' : d = h.next
      · subst ed'
        simp at hpd
        have := s.inj c b u o B₁ M N hgc hg hlc hl hpc (by rw [hp, hpd.1])
        exact absurd this ec
      · rw [Phi.add_ne _ _ ed'] at hpd
        rw [get_other d ed ed'] at hgd
        exact s.inj c d u v B₁ M M' hgc hgd hlc hld hpc hpd

theorem firstO_sound (s : Sim φ h w) {size n : Nat} {x : V} {x' : Value} {vs : List V} (hx : VR φ x x') (hv : firstO h size n x = some vs) :
    ∃ xs, (Builtin.firstCells size n x').run P w = .ok ⟨xs⟩ w ∧ VRs φ vs xs := by
  unfold firstO at hv
  split at hv
  · split at hv
    · cases hv; cases hx
      exact ⟨[], rfl, .nil⟩
    · cases hv
  · rename_i b off len cap es ex
    cases hx with
    | @slice _ _ _ _ _ _ B N o' cap' hp g1 g2 g3 g4 g5 =>
    split at hv
    · rename_i h0
      cases hv
      refine ⟨[], ?_, .nil⟩
      subst h0
      simp only [Builtin.firstCells, Nat.zero_mul]; rfl
    · rename_i h0
      split at hv
      · rename_i hle
        split at hv
        · split at hv
          · obtain ⟨xs, hl, hr, hc⟩ := loadN_sound s hp (n * size) off vs hv
            obtain rfl := g4 (by omega)
            exact ⟨xs, run_loadCells' P w B o' (n * size) xs hl hc, hr⟩
          · cases hv
        · cases hv
      · cases hv
  · rename_i l
    cases hv
    cases hx with
    | str s₀ =>
    refine ⟨((s₀.extract 0 n).data.map fun b => .int .u8 b.toNat).toList, rfl, ?_⟩
    have e : ((bytesOf s₀).take n) = bytesOf (s₀.extract 0 n) := by rw [bytesOf_extract]; simp
    rw [e]
    generalize s₀.extract 0 n = s₁
    have : ∀ l : List UInt8, VRs φ ((l.map (·.toNat)).map fun (c : Nat) => V.int .u8 c) (l.map fun b => Value.int .u8 b.toNat) := by
      intro l
      induction l with
      | nil => exact .nil
      | cons a l ih => exact .cons (.int _ _) ih
    simpa [bytesOf] using this s₁.data.toList
  · cases hv

end
end Go.Fal
namespace Go.Fal

section
variable {P : Program} {φ : Phi} {h h' : H} {w : World}

theorem lenO_sound {x : V} {x' : Value} {n : Nat} (hx : VR φ x x') (hn : lenO x = some n) : (Builtin.lenOf x').run P w = .ok n w := by
  unfold lenO at hn
  split at hn <;> cases hn <;> cases hx
  · rfl
  · rfl
  · simp only [bytesOf_length]; rfl

theorem growBy_le (n : Nat) : ∀ (r c : Nat), c ≤ 2 * n + 200 → Builtin.growBy n r c ≤ 2 * n + 200
  | 0, c, h => h
  | r + 1, c, h => by
    simp only [Builtin.growBy]
    split
    · exact h
    · exact growBy_le n r _ (by omega)

theorem nextcap_le (n old : Nat) (h : old < n) : Builtin.nextslicecap n old ≤ 2 * n + 200 := by
  unfold Builtin.nextslicecap
  split
  · omega
  · split
    · omega
    · exact growBy_le n 4 old (by omega)

/-- the second argument is no number (the form of append(s, make(..)...)) -/
def NoZeros (P : Program) (ts : Array TypeId) : Prop :=
  ts[1]? = none ∨ ∃ u d, ts[1]? = some u ∧ P.underlying u = some d ∧ ∀ k, d ≠ .int k

theorem append_room {ts : Array TypeId} {ty t e : TypeId} {i : TypeInfo} {n : Nat} {x' : Value} {base : Option Addr} {sLen sCap : Nat} {new : Array Value} {w' : World} (ht : ts[0]? = some t) (hu : P.underlying t = some (.slice e))
    (hi : P.info? e = some i) (hz : NoZeros P ts) (hn : (Builtin.lenOf x').run P w = .ok n w) (hc : sLen + n ≤ sCap) (hf : (Builtin.firstCells i.size n x').run P w = .ok new w)
    (hst : ∀ a, base = some a → (storeCells (a.add (sLen * i.size)) new.toList).run P w = .ok () w') (hnb : base = none → w' = w) :
    (Builtin.append_ ts ty #[.slice base sLen sCap, x']).run P w = .ok (.slice base (sLen + n) sCap) w' := by
  have hs : (sizeOf e).run P w = .ok i.size w := run_sizeOf (by simp [sizeO, hi])
  unfold Builtin.append_
  rcases hz with h1 | ⟨u, d, h1, hu1, hd⟩
  · simp only [ht, h1, List.getElem?_toArray, List.getElem?_cons_zero, List.getElem?_cons_succ, Sem.run_bind, run_underlying hu, Result.andThen_ok, hs, Sem.run_pure, Bool.false_eq_true, if_false, hn, Bool.not_false, if_true, hc, hf]
    cases base with
    | none => rw [hnb rfl]; rfl
    | some a => simp only [Sem.run_bind, hst a rfl, Result.andThen_ok, Sem.run_pure]
  · simp only [ht, h1, List.getElem?_toArray, List.getElem?_cons_zero, List.getElem?_cons_succ, Sem.run_bind, run_underlying hu, run_underlying hu1, Result.andThen_ok, hs, Sem.run_pure]
    cases d
    case int k => exact absurd rfl (hd k)
    all_goals
      simp only [Bool.false_eq_true, if_false, Sem.run_bind, hn, Result.andThen_ok, Bool.not_false, if_true, hc, hf]
      cases base with
      | none => rw [hnb rfl]; rfl
      | some a => simp only [Sem.run_bind, hst a rfl, Result.andThen_ok, Sem.run_pure]

theorem append_grow {ts : Array TypeId} {ty t e : TypeId} {i : TypeInfo} {n : Nat} {x' : Value} {base : Option Addr} {sLen sCap : Nat} {old new : Array Value} {z : Value} (ht : ts[0]? = some t) (hu : P.underlying t = some (.slice e))
    (hi : P.info? e = some i) (hz : NoZeros P ts) (hn : (Builtin.lenOf x').run P w = .ok n w) (hc : ¬ sLen + n ≤ sCap) (hm : sLen + n ≤ most) (hb : (2 * (sLen + n) + 200) * i.bytes ≤ 2 ^ 47) (hzv : i.zero = some z)
    (hfo : (Builtin.firstCells i.size sLen (.slice base sLen sCap)).run P w.drew = .ok old w.drew) (hf : (Builtin.firstCells i.size n x').run P w.drew = .ok new w.drew) :
    ∃ cap rest, sLen + n ≤ cap ∧ rest.size = (cap - (sLen + n)) * z.cells.size ∧ (Builtin.append_ ts ty #[.slice base sLen sCap, x']).run P w = .ok (.slice (some ⟨w.heap.size, 0, none⟩) (sLen + n) cap) (w.drew.alloc (.cells (old ++ new ++ rest) e)) := by
  have hs : (sizeOf e).run P w = .ok i.size w := run_sizeOf (by simp [sizeO, hi])
  have hmax : ¬ (((sLen + n : Nat) : Int) > IntKind.i64.max ∧ (false = true ∨ i.bytes = 0)) := by
    rintro ⟨h, _⟩
    have : IntKind.i64.max = 9223372036854775807 := by decide
    rw [this] at h
    rw [most_val] at hm
    omega
  have hcap : ¬ (Builtin.nextslicecap (sLen + n) sCap * i.bytes > 2 ^ 48) := by
    have := nextcap_le (sLen + n) sCap (by omega)
    have := Nat.mul_le_mul_right i.bytes this
    omega
  refine ⟨(Question.appendCap (sLen + n) sCap e).cut (w.tape w.drawn (.appendCap (sLen + n) sCap e)), Builtin.zeroCells z.cells ((Question.appendCap (sLen + n) sCap e).cut (w.tape w.drawn (.appendCap (sLen + n) sCap e)) - (sLen + n)), cut_append, by simp [Builtin.zeroCells], ?_⟩
  have hzr : (zeroValue e).run P w.drew = .ok z w.drew := by simp [zeroValue, run_typeInfo hi, hzv]
  unfold Builtin.append_
  have hmax' : ¬ (((sLen + n : Nat) : Int) > IntKind.i64.max ∧ (False ∨ i.bytes = 0)) := by
    rintro ⟨h, h'⟩; exact hmax ⟨h, by simpa using h'⟩
  rcases hz with h1 | ⟨u, d, h1, hu1, hd⟩
  · simp only [ht, h1, List.getElem?_toArray, List.getElem?_cons_zero, List.getElem?_cons_succ, Sem.run_bind, run_underlying hu, Result.andThen_ok, hs, Sem.run_pure, Bool.false_eq_true, if_false, hn, Bool.not_false, if_true, hc,
      run_typeInfo hi, hmax', hcap, run_chooseCap]
    generalize (Question.appendCap (sLen + n) sCap e).cut (w.tape w.drawn (.appendCap (sLen + n) sCap e)) = cap
    simp only [Result.andThen_ok, run_askRoom, hfo, hf, hzr]
    simp [newRow]; rfl
  · simp only [ht, h1, List.getElem?_toArray, List.getElem?_cons_zero, List.getElem?_cons_succ, Sem.run_bind, run_underlying hu, run_underlying hu1, Result.andThen_ok, hs, Sem.run_pure]
    cases d
    case int k => exact absurd rfl (hd k)
    all_goals
      simp only [Bool.false_eq_true, if_false, Sem.run_bind, hn, Result.andThen_ok, Bool.not_false, if_true, hc, run_typeInfo hi, hmax', hcap, run_chooseCap]
      generalize (Question.appendCap (sLen + n) sCap e).cut (w.tape w.drawn (.appendCap (sLen + n) sCap e)) = cap
      simp only [Result.andThen_ok, run_askRoom, hfo, hf, hzr]
      simp [newRow]; rfl

theorem cellAt_sets (z : List V) (t : T V) (k : Nat) (vs : List V) (i : Nat) : cellAt z (t.sets k vs) i = if k ≤ i ∧ i < k + vs.length then vs[i - k]? else cellAt z t i := by
  unfold cellAt
  rw [T.get_sets]
  by_cases h : k ≤ i ∧ i < k + vs.length
  · rw [if_pos h, if_pos h]
    have : i - k < vs.length := by omega
    rw [List.getElem?_eq_getElem this]
  · rw [if_neg h, if_neg h]

theorem BR_grown {ψ : Phi} {vs : List V} {xs rest : List Value} {e : TypeId} (hr : VRs ψ vs xs) : BR ψ (ofCells vs) (xs ++ rest).length (.cells ⟨xs ++ rest⟩ e) := by
  have hl := hr.length
  have hsz : (⟨xs ++ rest⟩ : Array Value).size = (xs ++ rest).length := rfl
  rw [← hsz]
  unfold ofCells
  refine .cells (by simp; omega) (fun i v hi hv => ?_) (fun o _ => by omega) (fun _ => ⟨rfl, rfl⟩)
  simp only [cellAt, T.get_e] at hv
  rw [Nat.mod_eq_of_lt hi] at hv
  obtain ⟨x, hx, hv⟩ := hr.get hv
  exact ⟨x, by rw [← Array.getElem?_toList, List.getElem?_append_left (by omega)]; exact hx, hv⟩

theorem run_storeCells_any (P : Program) {B e lo hi : Nat} (off : Nat) : ∀ (xs : List Value) (i : Nat) (C : Array Value) (w : World), w.heap[B]? = some (.cells C e (lo, hi)) → (∀ o, o < C.size → ¬ (lo ≤ o ∧ o < hi)) →
    off + i + xs.length ≤ C.size → (∀ x ∈ xs, x.oneCell' = true) →
    ∃ w' C', (storeCells ⟨B, off, none⟩ xs i).run P w = .ok () w' ∧ w'.heap[B]? = some (.cells C' e (lo, hi)) ∧ C'.size = C.size ∧
      (∀ k, C'[k]? = if off + i ≤ k ∧ k < off + i + xs.length then xs[k - (off + i)]? else C[k]?) ∧ (∀ k, k ≠ B → w'.heap[k]? = w.heap[k]?) ∧ w'.heap.size = w.heap.size ∧ w'.os = w.os ∧ w'.tape = w.tape ∧ w'.output = w.output
  | [], i, C, w, hh, _, _, _ => ⟨w, C, by simp [storeCells], hh, rfl, fun k => by simp only [List.length_nil]; rw [if_neg (by omega)], fun _ _ => rfl, rfl, rfl, rfl, rfl⟩
  | x :: xs, i, C, w, hh, hfz, hle, hone => by
    simp only [List.length_cons] at hle
    have h1 := heap_setCell_same (i := off + i) hh x
    obtain ⟨w', C', r1, r2, r3, r4, r5, r6, r7, r8, r9⟩ := run_storeCells_any P off xs (i + 1) (C.setIfInBounds (off + i) x) (w.setCell ⟨B, off + i, none⟩ x) h1 (by simpa using hfz) (by simp; omega) (fun y hy => hone y (by simp [hy]))
    refine ⟨w', C', ?_, r2, by simpa using r3, ?_, fun k hk => (r5 k hk).trans (heap_setCell_ne hk x), r6.trans (by simp [World.setCell]), r7, r8, r9⟩
    · simp only [storeCells, Sem.run_bind, addr_add]
      rw [run_store P w _ x _ (hone x (by simp)), cell_of_block hh]
      have : C[off + i]? = some C[off + i] := Array.getElem?_eq_getElem (by omega)
      rw [this]
      simp only
      rw [frozen_of_block hh]
      have := hfz (off + i) (by omega)
      rw [if_neg (by simp; omega)]
      exact r1
    · intro k
      rw [r4 k, Array.getElem?_setIfInBounds]
      simp only [List.length_cons]
      by_cases h1 : k = off + i
      · subst h1
        rw [if_neg (by omega), if_pos rfl, if_pos (by omega), if_pos (by omega)]; simp
      · by_cases h2 : off + i ≤ k ∧ k < off + i + (xs.length + 1)
        · rw [if_pos (by omega), if_pos h2]
          obtain ⟨d, rfl⟩ : ∃ d, k = off + i + 1 + d := ⟨k - (off + i + 1), by omega⟩
          rw [show off + i + 1 + d - (off + (i + 1)) = d by omega, show off + i + 1 + d - (off + i) = d + 1 by omega]; simp
        · rw [if_neg (by omega), if_neg (by omega), if_neg h2]

theorem VRs.plain {φ : Phi} : ∀ {vs : List V} {xs : List Value}, VRs φ vs xs → vs.all V.plain = true → ∀ x ∈ xs, x.oneCell' = true
  | [], _, h, _, x, hx => by cases h; simp at hx
  | v :: vs, _, h, hp, x, hx => by
    cases h with
    | cons hv hr =>
      simp only [List.all_cons, Bool.and_eq_true] at hp
      rcases List.mem_cons.1 hx with rfl | hx
      · exact hv.plain hp.1
      · exact VRs.plain hr hp.2 x hx

theorem appendO_sound (s : Sim φ h w) {ts : Array TypeId} {ty t : TypeId} {sv x v : V} {s' x' : Value} (ht : ts[0]? = some t) (hz : NoZeros P ts) (hs : VR φ sv s') (hx : VR φ x x')
    (hv : appendO P h t sv x = some (v, h')) (hf : h'.next ≠ h.next → φ h.next = none) :
    ∃ φ' w' u, (Builtin.append_ ts ty #[s', x']).run P w = .ok u w' ∧ Tr φ h w φ' h' w' ∧ Sim φ' h' w' ∧ VR φ' v u := by
  unfold appendO at hv
  split at hv
  · rename_i e hu
    split at hv
    · rename_i i hi
      split at hv
      · rename_i n hn
        have hlen := lenO_sound (P := P) (w := w) hx hn
        split at hv
        · rename_i new hnew
          split at hv
          · rename_i z hzv
            split at hv
            · rename_i hc
              simp only [Bool.and_eq_true, beq_iff_eq] at hc
              obtain ⟨⟨hzs, hpl⟩, hnl⟩ := hc
              split at hv
              · cases hs
                split at hv
                · rename_i h0
                  cases hv
                  subst h0
                  obtain ⟨new', hnr, hnv⟩ := firstO_sound (P := P) s hx hnew
                  refine ⟨φ, w, .slice none 0 0, ?_, Tr.refl φ s.dom, s, .nils⟩
                  exact append_room ht hu hi hz hlen (by omega) hnr (fun a ha => by cases ha) (fun _ => rfl)
                · rename_i h0
                  split at hv
                  · rename_i hb
                    cases hv
                    obtain ⟨new', hnr, hnv⟩ := firstO_sound (P := P) s.drew hx hnew
                    have hnl' := hnv.length
                    obtain ⟨cap, rest, h1, h2, h3⟩ := append_grow (P := P) (w := w) (ty := ty) (base := none) (sLen := 0) (sCap := 0) (old := #[]) ht hu hi hz hlen (by omega) (by omega) (by simpa using hb.2) hzv (by simp [Builtin.firstCells]) hnr
                    have hfr := hf (by simp)
                    have hnb := new_block (N := (new' ++ rest.toList).length) s.drew hfr (ofCells new) (.cells ⟨new' ++ rest.toList⟩ e) rfl (BR_grown (hnv.mono (Phi.le_add _ hfr)))
                    have he : (#[] ++ (⟨new'⟩ : Array Value) ++ rest) = ⟨new' ++ rest.toList⟩ := by apply Array.ext'; simp
                    rw [he] at h3
                    refine ⟨_, _, _, h3, (Tr.drew s.dom).trans hnb.1, hnb.2, ?_⟩
                    simp only [Nat.zero_add] at h1 h2 ⊢
                    refine .slice (Phi.add_same _ _ _) h1 h1 (fun h => by cases h) (fun _ => rfl) ?_
                    simp only [List.length_append, Array.length_toList, h2, hzs, ← hnl', hnl]
                    rw [Nat.zero_add, ← Nat.add_mul, Nat.add_sub_cancel' h1]
                    exact Nat.le_refl _
                  · cases hv
              · rename_i b off len cap es ex
                split at hv
                · rename_i hb
                  obtain ⟨rfl, hlc, hm, hby⟩ := hb
                  have hsz : sizeO P e = some i.size := by simp [sizeO, hi]
                  cases hs with
                  | @slice _ _ _ _ _ _ B N o' cap' hp g1 g2 g3 g4 g5 =>
                  split at hv
                  · rename_i h0
                    cases hv
                    subst h0
                    obtain ⟨new', hnr, hnv⟩ := firstO_sound (P := P) s hx hnew
                    have hnl' := hnv.length
                    obtain rfl : new' = [] := List.length_eq_zero_iff.1 (by omega)
                    refine ⟨φ, w, .slice (some ⟨B, o', none⟩) len cap', ?_, Tr.refl φ s.dom, s, .slice hp g1 g2 g3 g4 g5⟩
                    exact append_room ht hu hi hz hlen (by omega) hnr (fun a ha => by simp [storeCells]) (fun h => by cases h)
                  · rename_i h0
                    split at hv
                    · rename_i hroom
                      split at hv
                      · rename_i h1 hst
                        cases hv
                        obtain ⟨new', hnr, hnv⟩ := firstO_sound (P := P) s hx hnew
                        obtain rfl := g4 (by omega)
                        obtain ⟨w', hw1, hw2, hw3, _⟩ := storeN_sound (P := P) hp (o' + len * i.size) new new' 0 h h' w s hst hnv
                        refine ⟨φ, w', .slice (some ⟨B, o', none⟩) (len + n) cap', ?_, hw2, hw3, .slice hp (by omega) g2 g3 g4 g5⟩
                        exact append_room ht hu hi hz hlen (by omega) hnr (fun a ha => by cases ha; rw [addr_add]; exact hw1) (fun h => by cases h)
                      · cases hv
                    · rename_i hnroom
                      split at hv
                      · rename_i hex
                        have hcc := g3 hex
                        subst hcc
                        split at hv
                        · rename_i old hold
                          split at hv
                          · rename_i hol
                            cases hv
                            obtain ⟨new', hnr, hnv⟩ := firstO_sound (P := P) s.drew hx hnew
                            obtain ⟨old', hor, hov⟩ := firstO_sound (P := P) s.drew (.slice hp g1 g2 g3 g4 g5) hold
                            have hnl' := hnv.length
                            have hol' := hov.length
                            obtain ⟨cap, rest, h1, h2, h3⟩ := append_grow (P := P) (w := w) (ty := ty) ht hu hi hz hlen hnroom hm hby hzv hor hnr
                            have hfr := hf (by simp)
                            have hnb := new_block (N := ((old' ++ new') ++ rest.toList).length) s.drew hfr (ofCells (old ++ new)) (.cells ⟨(old' ++ new') ++ rest.toList⟩ e) rfl (BR_grown ((hov.append hnv).mono (Phi.le_add _ hfr)))
                            have he : ((⟨old'⟩ : Array Value) ++ (⟨new'⟩ : Array Value) ++ rest) = ⟨(old' ++ new') ++ rest.toList⟩ := by apply Array.ext'; simp
                            rw [he] at h3
                            refine ⟨_, _, _, h3, (Tr.drew s.dom).trans hnb.1, hnb.2, ?_⟩
                            refine .slice (Phi.add_same _ _ _) h1 h1 (fun h => by cases h) (fun _ => rfl) ?_
                            simp only [List.length_append, Array.length_toList, h2, hzs, ← hnl', hnl, ← hol', hol]
                            rw [Nat.zero_add, ← Nat.add_mul, ← Nat.add_mul, Nat.add_sub_cancel' h1]
                            exact Nat.le_refl _
                          · cases hv
                        · cases hv
                      · split at hv
                        · rename_i pl nn zz tt hg
                          split at hv
                          · rename_i hb
                            obtain ⟨rfl, hle⟩ := hb
                            cases hv
                            have hfr := hf (by simp)
                            obtain ⟨B', M, y, hq, hh, hbr⟩ := s.blk b _ hg rfl
                            rw [hp] at hq; cases hq
                            cases hbr with
                            | @cells _ _ _ _ _ C elem lo hi' c1 c2 c3 c4 =>
                            have hnn : (len + n) * i.size = len * i.size + n * i.size := Nat.add_mul _ _ _
                            by_cases hroom : len + n ≤ cap'
                            · obtain ⟨new', hnr, hnv⟩ := firstO_sound (P := P) s hx hnew
                              have hnl' := hnv.length
                              obtain rfl := g4 (by omega)
                              have hmul := Nat.mul_le_mul_right i.size hroom
                              obtain ⟨w', C', r1, r2, r3, r4, r5, r6, r7, r8, r9⟩ := run_storeCells_any P (0 + len * i.size) new' 0 C w hh (c3 rfl) (by omega) (hnv.plain hpl)
                              have hput := put_block (w' := w') s (o' := .cells true pl ((len + n) * i.size) zz (tt.sets (len * i.size) new)) (x := .cells C' elem (lo, hi')) hg rfl rfl rfl hp r2
                                (by
                                  rw [← r3]
                                  refine .cells (by rw [r3]; omega) (fun k u hk hu => ?_) (by rw [r3]; exact c3) c4
                                  rw [cellAt_sets] at hu
                                  have hr4 := r4 k
                                  split at hu
                                  · rename_i hin
                                    obtain ⟨y, hy, hvy⟩ := hnv.get hu
                                    refine ⟨y, ?_, hvy⟩
                                    rw [hr4, if_pos (by omega), ← hy]
                                    congr 1; omega
                                  · rename_i hin
                                    have hkl : k < len * i.size := by omega
                                    obtain ⟨y, hy, hvy⟩ := c2 k u (by omega) hu
                                    refine ⟨y, ?_, hvy⟩
                                    rw [hr4, if_neg (by omega)]; exact hy)
                                r5 r6 r7 r8 r9
                              have hren := rename_block (h := h.put b (.cells true pl ((len + n) * i.size) zz (tt.sets (len * i.size) new))) hput.2 hfr (b := b) (B := B) (N := C.size) (o := .cells true pl ((len + n) * i.size) zz (tt.sets (len * i.size) new)) (by simp) rfl hp
                              have hH : ((h.put b (.cells true pl ((len + n) * i.size) zz (tt.sets (len * i.size) new))).put b .dead) = h.put b .dead := by
                                simp only [H.put, T.set_set]
                              rw [hH] at hren
                              refine ⟨_, w', .slice (some ⟨B, 0, none⟩) (len + n) cap', ?_, hput.1.trans hren.1, hren.2, ?_⟩
                              · exact append_room ht hu hi hz hlen hroom hnr (fun a ha => by cases ha; rw [addr_add]; exact r1) (fun h => by cases h)
                              · exact .slice (Phi.add_same _ _ _) hroom hroom (fun h => by cases h) (fun _ => rfl) (by omega)
                            · obtain ⟨new', hnr, hnv⟩ := firstO_sound (P := P) s.drew hx hnew
                              have hnl' := hnv.length
                              have hor : (Builtin.firstCells i.size len (.slice (some ⟨B, o', none⟩) len cap')).run P w.drew = .ok ⟨C.toList.take (len * i.size)⟩ w.drew := by
                                simp only [Builtin.firstCells]
                                by_cases h0 : cap' = 0
                                · obtain rfl : len = 0 := by omega
                                  simp only [Nat.zero_mul, List.take_zero]; rfl
                                · obtain rfl := g4 h0
                                  refine run_loadCells' P w.drew B 0 (len * i.size) _ (by simp; omega) (fun j y hj => ?_)
                                  rw [cell_of_block (w := w.drew) hh]
                                  rw [List.getElem?_take] at hj
                                  split at hj
                                  · rw [Nat.zero_add, ← Array.getElem?_toList]; exact hj
                                  · cases hj
                              obtain ⟨cap, rest, h1, h2, h3⟩ := append_grow (P := P) (w := w) (ty := ty) ht hu hi hz hlen hroom hm hby hzv hor hnr
                              have he : ((⟨C.toList.take (len * i.size)⟩ : Array Value) ++ (⟨new'⟩ : Array Value) ++ rest) = ⟨(C.toList.take (len * i.size) ++ new') ++ rest.toList⟩ := by apply Array.ext'; simp
                              rw [he] at h3
                              have hk := kill_block s.drew hg
                              have hol : (C.toList.take (len * i.size)).length = len * i.size := by simp; omega
                              have hnb := new_block (N := (⟨(C.toList.take (len * i.size) ++ new') ++ rest.toList⟩ : Array Value).size) hk.2 hfr (.cells true pl ((len + n) * i.size) zz (tt.sets (len * i.size) new)) (.cells ⟨(C.toList.take (len * i.size) ++ new') ++ rest.toList⟩ e (0, 0)) rfl
                                (by
                                  refine .cells (by simp [hol]; omega) (fun k u hk hu => ?_) (fun o _ => by omega) (fun _ => ⟨rfl, rfl⟩)
                                  rw [cellAt_sets] at hu
                                  rw [← Array.getElem?_toList]
                                  split at hu
                                  · rename_i hin
                                    obtain ⟨y, hy, hvy⟩ := hnv.get hu
                                    refine ⟨y, ?_, hvy.mono (Phi.le_add _ hfr)⟩
                                    rw [List.append_assoc, List.getElem?_append_right (by omega), hol, List.getElem?_append_left (by omega)]
                                    exact hy
                                  · rename_i hin
                                    have hkl : k < len * i.size := by omega
                                    obtain ⟨y, hy, hvy⟩ := c2 k u (by omega) hu
                                    refine ⟨y, ?_, hvy.mono (Phi.le_add _ hfr)⟩
                                    rw [List.append_assoc, List.getElem?_append_left (by omega), List.getElem?_take, if_pos hkl, Array.getElem?_toList]
                                    exact hy)
                              refine ⟨_, _, _, h3, ((Tr.drew s.dom).trans hk.1).trans hnb.1, hnb.2, ?_⟩
                              refine .slice (Phi.add_same _ _ _) h1 h1 (fun h => by cases h) (fun _ => rfl) ?_
                              have h4 := Nat.mul_le_mul_right i.size h1
                              have h5 : (cap - (len + n)) * i.size = cap * i.size - (len + n) * i.size := Nat.sub_mul _ _ _
                              have h6 : (⟨(C.toList.take (len * i.size) ++ new') ++ rest.toList⟩ : Array Value).size = len * i.size + new'.length + rest.size := by
                                show ((C.toList.take (len * i.size) ++ new') ++ rest.toList).length = _
                                rw [List.length_append, List.length_append, hol]; simp
                              rw [h6, h2, hzs]
                              omega
                          · cases hv
                        · cases hv
                · cases hv
              · cases hv
            · cases hv
          · simp at hv
        · cases hv
      · cases hv
    · cases hv
  · cases hv

end
end Go.Fal
namespace Go.Fal

section
variable {P : Program} {φ : Phi} {h h' : H} {w : World}

theorem copyO_sound (s : Sim φ h w) {ts : Array TypeId} {ty t : TypeId} {d x v : V} {d' x' : Value} (ht : ts[0]? = some t) (hd : VR φ d d') (hx : VR φ x x')
    (hv : copyO P h t d x = some (v, h')) :
    ∃ φ' w' u, (Builtin.copy_ ts ty #[d', x']).run P w = .ok u w' ∧ Tr φ h w φ' h' w' ∧ Sim φ' h' w' ∧ VR φ' v u := by
  unfold copyO at hv
  split at hv
  · rename_i e hu
    split at hv
    · rename_i size sn hsz hsn
      have hlx := lenO_sound (P := P) (w := w) hx hsn
      have f0 : ∀ {n : Nat} {cs : List V}, firstO h size n x = some cs → n = 0 → cs = [] := by
        intro n cs hf h0
        subst h0
        unfold firstO at hf
        split at hf
        · split at hf <;> cases hf; rfl
        · rw [if_pos rfl] at hf; cases hf; rfl
        · cases hf; simp
        · cases hf
      split at hv
      · cases hd
        split at hv
        · rename_i cs hcs
          cases hv
          obtain ⟨xs, hf, hr⟩ := firstO_sound (P := P) s hx hcs
          refine ⟨φ, w, .int .i64 0, ?_, Tr.refl φ s.dom, s, .int _ _⟩
          unfold Builtin.copy_
          simp only [ht, List.getElem?_toArray, List.getElem?_cons_zero, List.getElem?_cons_succ, Sem.run_bind, run_underlying hu, Result.andThen_ok, hlx, run_sizeOf hsz]
          rw [show Nat.min sn 0 = 0 from Nat.min_zero _, hf]
          rfl
        · cases hv
      · rename_i b off dn cap es ex
        cases hd with
        | @slice _ _ _ _ _ _ B N o' cap' hp g1 g2 g3 g4 g5 =>
        split at hv
        · rename_i cs hcs
          obtain ⟨xs, hf, hr⟩ := firstO_sound (P := P) s hx hcs
          split at hv
          · rename_i h0
            cases hv
            obtain rfl := f0 hcs h0
            cases hr
            refine ⟨φ, w, .int .i64 0, ?_, Tr.refl φ s.dom, s, .int _ _⟩
            unfold Builtin.copy_
            simp only [ht, List.getElem?_toArray, List.getElem?_cons_zero, List.getElem?_cons_succ, Sem.run_bind, run_underlying hu, Result.andThen_ok, hlx, run_sizeOf hsz]
            rw [show Nat.min sn dn = min sn dn from rfl, hf]
            simp only [Result.andThen_ok, storeCells, Sem.run_pure, h0]
            rfl
          · rename_i h0
            split at hv
            · rename_i h1 hst
              cases hv
              obtain rfl := g4 (by omega)
              obtain ⟨w', hw1, hw2, hw3, _⟩ := storeN_sound (P := P) hp o' cs xs 0 h h' w s (by simpa using hst) hr
              refine ⟨φ, w', _, ?_, hw2, hw3, .int _ _⟩
              unfold Builtin.copy_
              simp only [ht, List.getElem?_toArray, List.getElem?_cons_zero, List.getElem?_cons_succ, Sem.run_bind, run_underlying hu, Result.andThen_ok, hlx, run_sizeOf hsz]
              rw [show Nat.min sn dn = min sn dn from rfl, hf]
              simp only [Result.andThen_ok, hw1]
              rfl
            · cases hv
        · cases hv
      · cases hv
    · cases hv
  · cases hv

end
end Go.Fal
namespace Go.Fal

section
variable {P : Program} {φ : Phi} {h h' : H} {w : World}

theorem run_getObj {B : Nat} {o : Obj} (hh : w.heap[B]? = some o) (hc : ∀ c e f, o ≠ .cells c e f) : (getObj B).run P w = .ok o w := by
  simp only [getObj, Sem.run, hh]

theorem run_setObj {B : Nat} {o : Obj} (o' : Obj) (hh : w.heap[B]? = some o) (hc : ∀ c e f, o ≠ .cells c e f) : (setObj B o').run P w = .ok () { w with heap := w.heap.setIfInBounds B o' } := by
  simp only [setObj, Sem.run, hh]

/-- the block behind a map -/
theorem map_block (s : Sim φ h w) {b B N : Nat} {es : List (V × V × Nat)} {clock : Nat} (hg : h.get b = some (.map es clock)) (hp : φ b = some (B, N)) :
    N = 0 ∧ ∃ es', w.heap[B]? = some (.map es' clock) ∧ MapR φ es es'.toList := by
  obtain ⟨B', M, x, hq, hh, hb⟩ := s.blk b _ hg rfl
  rw [hp] at hq; cases hq
  cases hb with
  | map hm => exact ⟨rfl, _, hh, hm⟩

theorem put_obj (s : Sim φ h w) {b B N : Nat} {o o' : O} {x x' : Obj} (hg : h.get b = some o) (hl : o.live = true) (hr : o.rw = true) (hr' : o'.rw = true) (hp : φ b = some (B, N)) (hh : w.heap[B]? = some x) (hb : BR φ o' N x') :
    Tr φ h w φ (h.put b o') { w with heap := w.heap.setIfInBounds B x' } ∧ Sim φ (h.put b o') { w with heap := w.heap.setIfInBounds B x' } := by
  refine put_block s hg hl hr hr' hp (x := x') ?_ hb (fun k hk => ?_) (by simp) rfl rfl rfl
  · simp [lt_of_heap hh]
  · simp only [Array.getElem?_setIfInBounds]
    rw [if_neg (by omega)]

theorem lenBuiltinO_sound (s : Sim φ h w) {ts : Array TypeId} {ty t : TypeId} {x v : V} {x' : Value} (ht : ts[0]? = some t) (hx : VR φ x x') (hv : lenBuiltinO P h t x = some v) :
    ∃ u, (Builtin.len_ ts ty #[x']).run P w = .ok u w ∧ VR φ v u := by
  have st : ∀ {r : Sem Value}, Builtin.len_ ts ty #[x'] = r → (∃ u, r.run P w = .ok u w ∧ VR φ v u) → ∃ u, (Builtin.len_ ts ty #[x']).run P w = .ok u w ∧ VR φ v u := fun e h => e ▸ h
  unfold lenBuiltinO at hv
  unfold Builtin.len_
  simp only [ht, List.getElem?_toArray, List.getElem?_cons_zero, Sem.run_bind]
  split at hv
  · rename_i hu; cases hv; cases hx
    rw [run_underlying hu]; simp only [Result.andThen_ok, bytesOf_length]
    exact ⟨_, rfl, .int _ _⟩
  · rename_i hu; cases hv
    rw [run_underlying hu]; simp only [Result.andThen_ok]
    exact ⟨_, rfl, .int _ _⟩
  · rename_i a _ hu
    split at hv
    · rename_i ha; cases hv
      rw [run_underlying hu]; simp only [Result.andThen_ok, Sem.run_bind, run_underlying ha]
      exact ⟨_, rfl, .int _ _⟩
    · cases hv
  · rename_i hu; cases hv; cases hx
    rw [run_underlying hu]; simp only [Result.andThen_ok]
    exact ⟨_, rfl, .int _ _⟩
  · rename_i hu; cases hv; cases hx
    rw [run_underlying hu]; simp only [Result.andThen_ok]
    exact ⟨_, rfl, .int _ _⟩
  · rename_i hu; cases hv; cases hx
    rw [run_underlying hu]; simp only [Result.andThen_ok]
    exact ⟨_, rfl, .int _ _⟩
  · rename_i b hu
    split at hv
    · rename_i es clock hg
      cases hv
      cases hx with
      | map hp =>
      obtain ⟨_, es', hh, hm⟩ := map_block s hg hp
      have hl : ∀ (es : List (V × V × Nat)) (xs : List MapEntry), MapR φ es xs → es.length = xs.length := by
        intro es
        induction es with
        | nil => intro xs hm; cases xs <;> simp_all [MapR]
        | cons e es ih => intro xs hm; cases xs with | nil => exact hm.elim | cons x xs => simp [ih xs hm.2.2.2]
      rw [run_underlying hu]; simp only [Result.andThen_ok, Sem.run_bind, run_getObj hh (by simp)]
      refine ⟨.int .i64 es'.size, rfl, ?_⟩
      have := hl _ _ hm
      rw [this, Array.length_toList]
      exact .int _ _
    · cases hv
  · cases hv

theorem maxO_sound {x y v : V} {x' y' : Value} (hx : VR φ x x') (hy : VR φ y y') (hv : maxO x y = some v) : ∃ u, (Builtin.max2 x' y').run P w = .ok u w ∧ VR φ v u := by
  unfold maxO at hv
  split at hv
  · cases hx; cases hy; cases hv; exact ⟨_, rfl, .int _ _⟩
  · cases hv
theorem minO_sound {x y v : V} {x' y' : Value} (hx : VR φ x x') (hy : VR φ y y') (hv : minO x y = some v) : ∃ u, (Builtin.min2 x' y').run P w = .ok u w ∧ VR φ v u := by
  unfold minO at hv
  split at hv
  · cases hx; cases hy; cases hv; exact ⟨_, rfl, .int _ _⟩
  · cases hv

theorem foldO_sound {f : V → V → Option V} {g : Value → Value → Sem Value} (hfg : ∀ x y v x' y', VR φ x x' → VR φ y y' → f x y = some v → ∃ u, (g x' y').run P w = .ok u w ∧ VR φ v u) :
    ∀ (ys : List V) (ys' : List Value) (x v : V) (x' : Value), VRs φ ys ys' → VR φ x x' → foldO f x ys = some v → ∃ u, (ys'.foldlM g x').run P w = .ok u w ∧ VR φ v u
  | [], _, x, v, x', hr, hx, h => by
    cases hr; simp only [foldO, Option.some.injEq] at h; subst h
    exact ⟨x', rfl, hx⟩
  | y :: ys, _, x, v, x', hr, hx, h => by
    cases hr with
    | cons hy hr =>
    simp only [foldO] at h
    split at h
    · rename_i z hz
      obtain ⟨u, h1, h2⟩ := hfg _ _ _ _ _ hx hy hz
      obtain ⟨u', h3, h4⟩ := foldO_sound hfg ys _ z v u hr h2 h
      exact ⟨u', by simp only [List.foldlM_cons, Sem.run_bind, h1, Result.andThen_ok]; exact h3, h4⟩
    · cases h

/-! ### maps -/
theorem forIn_unit {α : Type} (P : Program) (w : World) (f : α → PUnit → Sem (ForInStep PUnit)) : ∀ (l : List α), (∀ a ∈ l, (f a PUnit.unit).run P w = .ok (.yield PUnit.unit) w) → (forIn l PUnit.unit f).run P w = .ok PUnit.unit w
  | [], _ => rfl
  | a :: l, h => by
    simp only [List.forIn_cons, Sem.run_bind, h a (by simp), Result.andThen_ok]
    exact forIn_unit P w f l (fun b hb => h b (by simp [hb]))

theorem keyOk_sound (P : Program) (φ : Phi) (w : World) (empty : Bool) : ∀ (d D : Nat) (t : TypeId) (v : V) (x : Value), keyOk P d t v = true → d ≤ D → VR φ v x → (Instr.checkKey empty D t x).run P w = .ok () w := by
  intro d
  induction d with
  | zero => intro D t v x h; simp [keyOk] at h
  | succ d ih =>
    intro D t v x hk hD hv
    obtain ⟨D, rfl⟩ : ∃ k, D = k + 1 := ⟨D - 1, by omega⟩
    unfold keyOk at hk
    split at hk
    · cases hk
    · rename_i n e cs hu
      split at hk
      · rename_i sz hsz
        cases hv with
        | agg hr =>
        simp only [Instr.checkKey, Sem.run_bind, run_underlying hu, Result.andThen_ok]
        simp only [Std.Legacy.Range.forIn_eq_forIn_range', Std.Legacy.Range.size, Nat.sub_zero, Nat.add_one_sub_one, Nat.div_one]
        rw [forIn_unit P w _ (List.range' 0 n) (fun i hi => ?_)]
        · rfl
        · have := List.all_eq_true.1 hk i (by rw [List.range_eq_range']; exact hi)
          split at this
          · rename_i x hx
            obtain ⟨y, hy, hvy⟩ := run_part (w := w) hx hr
            simp only [Sem.run_bind, run_sizeOf hsz, Result.andThen_ok, hy, ih D _ _ _ this (by omega) hvy, Sem.run_pure]
          · cases this
      · cases hk
    · rename_i fs cs hu
      cases hv with
      | agg hr =>
      simp only [Instr.checkKey, Sem.run_bind, run_underlying hu, Result.andThen_ok]
      rw [← Array.forIn_toList, forIn_unit P w _ fs.toList (fun f hf => ?_)]
      · rfl
      · have := List.all_eq_true.1 hk f hf
        by_cases hn : f.name = "_"
        · simp only [hn, ne_eq, not_true_eq_false, if_false, Sem.run_pure]
        · simp only [Bool.or_eq_true] at this
          have hk := this.resolve_left (by simpa using hn)
          split at hk
          · rename_i x hx
            obtain ⟨y, hy, hvy⟩ := run_part (w := w) hx hr
            simp only [hn, ne_eq, not_false_eq_true, if_true, Sem.run_bind, hy, Result.andThen_ok, ih D _ _ _ hk (by omega) hvy, Sem.run_pure]
          · cases hk
    · cases hk
    · cases hk
    · rename_i dsc n1 n2 n3 n4 n5 hu
      simp only [Instr.checkKey, Sem.run_bind, run_underlying (by assumption : P.underlying t = some dsc), Result.andThen_ok]
      cases dsc <;> first | rfl | simp_all
    · cases hk

end
end Go.Fal
namespace Go.Fal

section
variable {P : Program} {φ : Phi} {h h' : H} {w : World}

theorem MapR.length : ∀ {es : List (V × V × Nat)} {xs : List MapEntry}, MapR φ es xs → es.length = xs.length
  | [], [], _ => rfl
  | [], _ :: _, h => h.elim
  | _ :: _, [], h => h.elim
  | _ :: _, _ :: _, h => by simp [MapR.length h.2.2.2]

theorem MapR.get : ∀ {es : List (V × V × Nat)} {xs : List MapEntry}, MapR φ es xs → ∀ {i : Nat} {e}, es[i]? = some e → ∃ x, xs[i]? = some x ∧ VR φ e.1 x.key ∧ VR φ e.2.1 x.val ∧ e.2.2 = x.born
  | [], _, _, i, e, he => by simp at he
  | _ :: _, [], h, _, _, _ => h.elim
  | e₀ :: es, x :: xs, h, i, e, he => by
    cases i with
    | zero => simp at he; subst he; exact ⟨x, rfl, h.1, h.2.1, h.2.2.1⟩
    | succ i => simpa using MapR.get h.2.2.2 (by simpa using he)

theorem MapR.set : ∀ {es : List (V × V × Nat)} {xs : List MapEntry}, MapR φ es xs → ∀ (i : Nat) {e} {x : MapEntry}, VR φ e.1 x.key → VR φ e.2.1 x.val → e.2.2 = x.born → MapR φ (es.set i e) (xs.set i x)
  | [], [], h, _, _, _, _, _, _ => by simpa using h
  | [], _ :: _, h, _, _, _, _, _, _ => h.elim
  | _ :: _, [], h, _, _, _, _, _, _ => h.elim
  | _ :: _, _ :: _, h, i, _, _, a, b, c => by
    cases i with
    | zero => exact ⟨a, b, c, h.2.2.2⟩
    | succ i => exact ⟨h.1, h.2.1, h.2.2.1, MapR.set h.2.2.2 i a b c⟩

theorem MapR.push : ∀ {es : List (V × V × Nat)} {xs : List MapEntry}, MapR φ es xs → ∀ {e} {x : MapEntry}, VR φ e.1 x.key → VR φ e.2.1 x.val → e.2.2 = x.born → MapR φ (es ++ [e]) (xs ++ [x])
  | [], [], _, _, _, a, b, c => ⟨a, b, c, trivial⟩
  | [], _ :: _, h, _, _, _, _, _ => h.elim
  | _ :: _, [], h, _, _, _, _, _ => h.elim
  | _ :: _, _ :: _, h, _, _, a, b, c => ⟨h.1, h.2.1, h.2.2.1, MapR.push h.2.2.2 a b c⟩

theorem MapR.erase : ∀ {es : List (V × V × Nat)} {xs : List MapEntry}, MapR φ es xs → ∀ (i : Nat), MapR φ (es.eraseIdx i) (xs.eraseIdx i)
  | [], [], _, _ => trivial
  | [], _ :: _, h, _ => h.elim
  | _ :: _, [], h, _ => h.elim
  | _ :: _, _ :: _, h, i => by
    cases i with
    | zero => exact h.2.2.2
    | succ i => exact ⟨h.1, h.2.1, h.2.2.1, MapR.erase h.2.2.2 i⟩

/-- what is found -/
def FoundR (φ : Phi) (i₀ : Nat) (es : List (V × V × Nat)) (es' : List MapEntry) : Option (Nat × V) → Option (Nat × Value) → Prop
  | none, none => True
  | some (i, v), some (j, x) => i = j ∧ i₀ ≤ i ∧ VR φ v x ∧ ∃ e x', es[i - i₀]? = some e ∧ e.2.1 = v ∧ es'[i - i₀]? = some x' ∧ x'.val = x
  | _, _ => False

theorem sameNow_sound {t : TypeId} {kind : TypeDesc} (hu : P.underlying t = some kind) {k u : V} {k' u' : Value} (hk : VR φ k k') (hx : VR φ u u') {b : Bool} (hb : veq P h 40 t k u = some b) :
    Instr.sameNow kind k' u' = none ∨ Instr.sameNow kind k' u' = some b := by
  unfold veq at hb
  rw [hu] at hb
  cases kind
  case bool => cases hk <;> cases hx <;> simp only [Instr.sameNow] <;> first | exact .inl rfl | (simp only [Option.some.injEq] at hb; exact .inr (by rw [hb])) | (simp at hb; done)
  case int k => cases hk <;> cases hx <;> simp only [Instr.sameNow] <;> first
    | exact .inl rfl
    | (simp only at hb; split at hb
       · rename_i hkk; cases hb; exact .inr (by rw [if_pos hkk])
       · cases hb)
    | (simp at hb; done)
  case string => cases hk <;> cases hx <;> simp only [Instr.sameNow] <;> first
    | exact .inl rfl
    | (simp only [Option.some.injEq] at hb
       right
       rw [← hb, beq_toListBytes, beq_bytesOf])
    | (simp at hb; done)
  all_goals exact .inl (by cases hk <;> cases hx <;> rfl)

theorem findO_sound (s : Sim φ h w) {t : TypeId} {kind : TypeDesc} (hu : P.underlying t = some kind) {k : V} {k' : Value} (hk : VR φ k k') : ∀ (es : List (V × V × Nat)) (es' : List MapEntry) (i : Nat) (r : Option (Nat × V)),
    MapR φ es es' → findO P h t k es i = some r → ∃ r', FoundR φ i es es' r r' ∧ (Instr.findAsking t k' es' i).run P w = .ok r' w ∧ (Instr.findNow kind k' es' i = none ∨ Instr.findNow kind k' es' i = some r')
  | [], [], i, r, _, hr => by
    simp only [findO, Option.some.injEq] at hr; subst hr
    exact ⟨none, trivial, rfl, .inr rfl⟩
  | [], _ :: _, _, _, hm, _ => hm.elim
  | _ :: _, [], _, _, hm, _ => hm.elim
  | e :: es, x :: es', i, r, hm, hr => by
    simp only [findO] at hr
    have hq := fun b (hb : veq P h 40 t k e.1 = some b) => sameNow_sound hu hk hm.1 hb
    split at hr
    · rename_i hv
      cases hr
      refine ⟨some (i, x.val), ⟨rfl, Nat.le_refl _, hm.2.1, e, x, by simp, rfl, by simp, rfl⟩, ?_, ?_⟩
      · simp only [Instr.findAsking, Sem.run_bind, Op.equal, Op.maxDepth, veq_sound s 40 10000 t k e.1 true k' x.key hv (by omega) hk hm.1, Result.andThen_ok, if_true, Sem.run_pure]
      · simp only [Instr.findNow]
        rcases hq true hv with hq | hq <;> rw [hq]
        · exact .inl rfl
        · exact .inr rfl
    · rename_i hv
      obtain ⟨r', h1, h2, h3⟩ := findO_sound s hu hk es es' (i + 1) r hm.2.2.2 hr
      refine ⟨r', ?_, ?_, ?_⟩
      · cases r with
        | none => cases r' with
          | none => trivial
          | some q => exact h1.elim
        | some p =>
          obtain ⟨j, v⟩ := p
          cases r' with
          | none => exact h1.elim
          | some q =>
            obtain ⟨j', y⟩ := q
            obtain ⟨rfl, g1, g2, e', x', g3, g4, g5, g6⟩ := h1
            refine ⟨rfl, by omega, g2, e', x', ?_, g4, ?_, g6⟩
            · rw [show j - i = (j - (i + 1)) + 1 by omega]; simpa using g3
            · rw [show j - i = (j - (i + 1)) + 1 by omega]; simpa using g5
      · simp only [Instr.findAsking, Sem.run_bind, Op.equal, Op.maxDepth, veq_sound s 40 10000 t k e.1 false k' x.key hv (by omega) hk hm.1, Result.andThen_ok, Bool.false_eq_true, if_false]
        exact h2
      · simp only [Instr.findNow]
        rcases hq false hv with hq | hq <;> rw [hq]
        · exact .inl rfl
        · exact h3
    · cases hr

theorem findKey_sound (s : Sim φ h w) {t : TypeId} {k : V} {k' : Value} (hk : VR φ k k') {es : List (V × V × Nat)} {es' : List MapEntry} {r : Option (Nat × V)} (hm : MapR φ es es') (hko : keyOk P 40 t k = true) (hr : findO P h t k es 0 = some r) :
    ∃ r', FoundR φ 0 es es' r r' ∧ (Instr.findKey t k' es').run P w = .ok r' w := by
  have hu : ∃ kind, P.underlying t = some kind := by
    cases hu : P.underlying t with
    | none => unfold keyOk at hko; rw [hu] at hko; simp at hko
    | some d => exact ⟨d, rfl⟩
  obtain ⟨kind, hu⟩ := hu
  obtain ⟨r', h1, h2, h3⟩ := findO_sound s hu hk es es' 0 r hm hr
  refine ⟨r', h1, ?_⟩
  simp only [Instr.findKey, Sem.run_bind, run_underlying hu, Result.andThen_ok]
  rcases h3 with h3 | h3 <;> rw [h3]
  · exact h2
  · rfl

theorem lookupO_sound (s : Sim φ h w) {t : TypeId} {m k v : V} {m' k' : Value} {ok : Bool} (hm : VR φ m m') (hk : VR φ k k') (hv : lookupO P h t m k ok = some v) :
    ∃ u, (Instr.lookup t m' k' ok).run P w = .ok u w ∧ VR φ v u := by
  unfold lookupO at hv
  split at hv
  · rename_i kt et hu
    split at hv
    · rename_i es hes
      split at hv
      · rename_i hko
        have hL : ∃ es' : Array MapEntry, MapR φ es es'.toList ∧ ∀ (r : Option (Nat × Value)) (u : Value), (Instr.findKey kt k' es'.toList).run P w = .ok r w →
            ((match r with | some (_, v) => pure (if ok then .tuple #[v, .bool true] else v) | none => do
              let z ← zeroValue et
              pure (if ok then .tuple #[z, .bool false] else z) : Sem Value)).run P w = .ok u w → (Instr.lookup t m' k' ok).run P w = .ok u w := by
          split at hes
          · cases hes; cases hm
            refine ⟨#[], trivial, fun r u h1 h2 => ?_⟩
            simp only [Instr.lookup, Sem.run_bind, run_underlying hu, Result.andThen_ok, Sem.run_pure, keyOk_sound P φ w _ 40 10000 kt k k' hko (by omega) hk, h1]
            cases r <;> simp only [Sem.run_bind, Sem.run_pure] at h2 ⊢ <;> exact h2
          · rename_i b
            split at hes
            · rename_i es₀ clock hg
              cases hes
              cases hm with
              | map hp =>
              obtain ⟨_, es', hh, hm⟩ := map_block s hg hp
              refine ⟨es', hm, fun r u h1 h2 => ?_⟩
              simp only [Instr.lookup, Sem.run_bind, run_underlying hu, run_getObj hh (by simp), Result.andThen_ok, Sem.run_pure, keyOk_sound P φ w _ 40 10000 kt k k' hko (by omega) hk, h1]
              cases r <;> simp only [Sem.run_bind, Sem.run_pure] at h2 ⊢ <;> exact h2
            · cases hes
          · cases hes
        obtain ⟨es', hmr, hL⟩ := hL
        split at hv
        · rename_i i x hf
          cases hv
          obtain ⟨r', hr1, hr2⟩ := findKey_sound s hk hmr hko hf
          cases r' with
          | none => exact hr1.elim
          | some q =>
            obtain ⟨j, y⟩ := q
            obtain ⟨rfl, _, hvx, _⟩ := hr1
            refine ⟨if ok then .tuple #[y, .bool true] else y, hL _ _ hr2 rfl, ?_⟩
            · cases ok
              · exact hvx
              · exact .tup (.cons hvx (.cons (.bool _) .nil))
        · rename_i hf
          split at hv
          · rename_i z hz
            cases hv
            obtain ⟨r', hr1, hr2⟩ := findKey_sound s hk hmr hko hf
            cases r' with
            | some q => exact hr1.elim
            | none =>
              obtain ⟨z', hz1, hz2, _⟩ := run_zeroValue (w := w) hz φ
              refine ⟨if ok then .tuple #[z', .bool false] else z', hL _ _ hr2 (by simp only [Sem.run_bind, hz1, Result.andThen_ok, Sem.run_pure]), ?_⟩
              · cases ok
                · exact hz2
                · exact .tup (.cons hz2 (.cons (.bool _) .nil))
          · cases hv
        · cases hv
      · cases hv
    · cases hv
  · cases hv

end
end Go.Fal
namespace Go.Fal

section
variable {P : Program} {φ : Phi} {h h' : H} {w : World}

theorem same1_sound {x y : V} {x' y' : Value} (hx : VR φ x x') (hy : VR φ y y') (hs : same1 x y = true) (n : Nat) : Instr.sameBits (n + 1) x' y' = true := by
  unfold same1 at hs
  split at hs
  · cases hx; cases hy; simpa [Instr.sameBits] using hs
  · cases hx; cases hy; simpa [Instr.sameBits] using hs
  · cases hx; cases hy
    simp only [Instr.sameBits]
    rw [beq_toListBytes, ← beq_bytesOf]; exact hs
  · simp only [Bool.and_eq_true, beq_iff_eq] at hs
    obtain ⟨rfl, rfl⟩ := hs
    cases hx with
    | ptr h1 =>
    cases hy with
    | ptr h2 =>
    rw [h1] at h2; cases h2
    simp [Instr.sameBits]
  · cases hx; cases hy; rfl
  · cases hs

theorem sames_sound (n : Nat) : ∀ {xs ys : List V} {xs' ys' : List Value}, VRs φ xs xs' → VRs φ ys ys' → sames xs ys = true →
    xs'.length = ys'.length ∧ ((xs'.zip ys').all fun (x, y) => Instr.sameBits (n + 1) x y) = true
  | [], [], _, _, h1, h2, _ => by cases h1; cases h2; exact ⟨rfl, rfl⟩
  | [], _ :: _, _, _, _, _, h => by simp [sames] at h
  | _ :: _, [], _, _, _, _, h => by simp [sames] at h
  | x :: xs, y :: ys, _, _, h1, h2, h => by
    cases h1 with
    | cons a b =>
    cases h2 with
    | cons c d =>
    simp only [sames, Bool.and_eq_true] at h
    obtain ⟨e, f⟩ := sames_sound n b d h.2
    exact ⟨by simp [e], by simp only [List.zip_cons_cons, List.all_cons, Bool.and_eq_true]; exact ⟨same1_sound a c h.1 n, f⟩⟩

theorem same_sound {x y : V} {x' y' : Value} (hx : VR φ x x') (hy : VR φ y y') (hs : same x y = true) : (Instr.keyThatStays x' y').run P w = .ok y' w := by
  have : Instr.sameBits 10000 x' y' = true := by
    unfold same at hs
    split at hs
    · cases hx with
      | agg h1 =>
      cases hy with
      | agg h2 =>
      obtain ⟨e, f⟩ := sames_sound 9998 h1 h2 hs
      simp only [Instr.sameBits, Bool.and_eq_true, beq_iff_eq]
      refine ⟨by simpa using e, f⟩
    · exact same1_sound hx hy hs 9999
  simp only [Instr.keyThatStays, this, if_true, Sem.run_pure]

theorem array_modify_list {α : Type} (a : Array α) (i : Nat) (f : α → α) (x : α) (hx : a.toList[i]? = some x) : (a.modify i f).toList = a.toList.set i (f x) := by
  apply List.ext_getElem?
  intro j
  rw [Array.getElem?_toList, Array.getElem?_modify]
  by_cases e : i = j
  · subst e
    rw [if_pos rfl, ← Array.getElem?_toList, hx, List.getElem?_set_self (List.getElem?_eq_some_iff.1 hx).1]; rfl
  · rw [if_neg e, List.getElem?_set_ne e, Array.getElem?_toList]

theorem mapUpdateO_sound (s : Sim φ h w) {t : TypeId} {m k x : V} {m' k' x' : Value} (hm : VR φ m m') (hk : VR φ k k') (hx : VR φ x x') (hv : mapUpdateO P h t m k x = some h') :
    ∃ w', (Instr.mapUpdate t m' k' x').run P w = .ok () w' ∧ Tr φ h w φ h' w' ∧ Sim φ h' w' := by
  unfold mapUpdateO at hv
  split at hv
  · rename_i kt et b hu
    cases hm with
    | @map _ B N hp =>
    split at hv
    · rename_i es clock hg
      obtain ⟨rfl, es', hh, hmr⟩ := map_block s hg hp
      split at hv
      · rename_i hko
        have hchk := keyOk_sound P φ w false 40 10000 kt k k' hko (by omega) hk
        split at hv
        · rename_i i y hf
          split at hv
          · rename_i e he
            split at hv
            · rename_i hsm
              cases hv
              obtain ⟨r', hr1, hr2⟩ := findKey_sound s hk hmr hko hf
              cases r' with
              | none => exact hr1.elim
              | some q =>
                obtain ⟨j, z⟩ := q
                obtain ⟨rfl, _, hvz, _⟩ := hr1
                obtain ⟨e', he', g1, g2, g3⟩ := hmr.get he
                have he'' : es'[i]? = some e' := by rw [← Array.getElem?_toList]; exact he'
                have hput := put_obj s (o' := .map (es.set i (k, x, e.2.2)) clock) (x' := .map (es'.modify i fun e => { e with key := k', val := x' }) clock) hg rfl rfl rfl hp hh
                  (.map (by rw [array_modify_list _ _ _ e' he']; exact hmr.set i hk hx g3))
                refine ⟨_, ?_, hput.1, hput.2⟩
                simp only [Instr.mapUpdate, Sem.run_bind, run_underlying hu, Result.andThen_ok, run_getObj hh (by simp), hchk, hr2, he'', Option.map_some, Option.getD_some, same_sound g1 hk hsm, run_setObj _ hh (by simp)]
            · cases hv
          · cases hv
        · rename_i hf
          cases hv
          obtain ⟨r', hr1, hr2⟩ := findKey_sound s hk hmr hko hf
          cases r' with
          | some q => exact hr1.elim
          | none =>
            have hput := put_obj s (o' := .map (es ++ [(k, x, clock)]) (clock + 1)) (x' := .map (es'.push { key := k', val := x', born := clock }) (clock + 1)) hg rfl rfl rfl hp hh
              (.map (by rw [Array.toList_push]; exact hmr.push hk hx rfl))
            refine ⟨_, ?_, hput.1, hput.2⟩
            simp only [Instr.mapUpdate, Sem.run_bind, run_underlying hu, Result.andThen_ok, run_getObj hh (by simp), hchk, hr2, run_setObj _ hh (by simp)]
        · cases hv
      · cases hv
    · cases hv
  · cases hv

theorem mapEntryO_sound (s : Sim φ h w) {t : TypeId} {m k v : V} {m' k' : Value} (hm : VR φ m m') (hk : VR φ k k') (hv : mapEntryO P h t m k = some (v, h')) :
    ∃ w' u, (Instr.mapEntry t m' k').run P w = .ok u w' ∧ Tr φ h w φ h' w' ∧ Sim φ h' w' ∧ VR φ v u := by
  unfold mapEntryO at hv
  split at hv
  · rename_i kt et b hu
    cases hm with
    | @map _ B N hp =>
    split at hv
    · rename_i es clock hg
      obtain ⟨rfl, es', hh, hmr⟩ := map_block s hg hp
      split at hv
      · rename_i hko
        have hchk := keyOk_sound P φ w false 40 10000 kt k k' hko (by omega) hk
        split at hv
        · rename_i i y hf
          split at hv
          · rename_i e he
            split at hv
            · rename_i hsm
              cases hv
              obtain ⟨r', hr1, hr2⟩ := findKey_sound s hk hmr hko hf
              cases r' with
              | none => exact hr1.elim
              | some q =>
                obtain ⟨j, z⟩ := q
                obtain ⟨rfl, _, hvz, _⟩ := hr1
                obtain ⟨e', he', g1, g2, g3⟩ := hmr.get he
                have he'' : es'[i]? = some e' := by rw [← Array.getElem?_toList]; exact he'
                have hput := put_obj s (o' := .map (es.set i (k, e.2.1, e.2.2)) clock) (x' := .map (es'.modify i fun e => { e with key := k' }) clock) hg rfl rfl rfl hp hh
                  (.map (by rw [array_modify_list _ _ _ e' he']; exact hmr.set i hk g2 g3))
                refine ⟨_, .tuple #[z, goInt e'.born], ?_, hput.1, hput.2, .tup (.cons hvz (.cons (by rw [g3]; exact .int _ _) .nil))⟩
                simp only [Instr.mapEntry, Sem.run_bind, run_underlying hu, Result.andThen_ok, run_getObj hh (by simp), hchk, hr2, he'', Option.map_some, Option.getD_some, same_sound g1 hk hsm, run_setObj _ hh (by simp), Sem.run_pure]
            · cases hv
          · cases hv
        · rename_i hf
          split at hv
          · rename_i z hz
            cases hv
            obtain ⟨r', hr1, hr2⟩ := findKey_sound s hk hmr hko hf
            cases r' with
            | some q => exact hr1.elim
            | none =>
              obtain ⟨z', hz1, hz2, _⟩ := run_zeroValue (w := w) hz φ
              have hput := put_obj s (o' := .map (es ++ [(k, z, clock)]) (clock + 1)) (x' := .map (es'.push { key := k', val := z', born := clock }) (clock + 1)) hg rfl rfl rfl hp hh
                (.map (by rw [Array.toList_push]; exact hmr.push hk hz2 rfl))
              refine ⟨_, .tuple #[z', goInt clock], ?_, hput.1, hput.2, .tup (.cons hz2 (.cons (.int _ _) .nil))⟩
              simp only [Instr.mapEntry, Sem.run_bind, run_underlying hu, Result.andThen_ok, run_getObj hh (by simp), hchk, hr2, hz1, run_setObj _ hh (by simp), Sem.run_pure]
          · cases hv
        · cases hv
      · cases hv
    · cases hv
  · cases hv

theorem bornAt_sound (n : Int) : ∀ (es : List (V × V × Nat)) (es' : List MapEntry) (i j : Nat), MapR φ es es' → bornAt n es i = some j → i ≤ j ∧ es'.findIdx? (fun e => (e.born : Int) == n) = some (j - i)
  | [], _, _, _, _, h => by simp [bornAt] at h
  | _ :: _, [], _, _, h, _ => h.elim
  | e :: es, x :: es', i, j, hm, h => by
    simp only [bornAt, hm.2.2.1] at h
    rw [List.findIdx?_cons]
    split at h
    · rename_i hb
      cases h
      simp [hb]
    · rename_i hb
      obtain ⟨h1, h2⟩ := bornAt_sound n es es' (i + 1) j hm.2.2.2 h
      refine ⟨by omega, ?_⟩
      simp only [hb, Bool.false_eq_true, if_false, h2, Option.map_some]
      congr 1; omega

theorem entryStoreO_sound (s : Sim φ h w) {t : TypeId} {m k x : V} {m' k' x' : Value} (hm : VR φ m m') (hk : VR φ k k') (hx : VR φ x x') (hv : entryStoreO h m k x = some h') :
    ∃ w', (Instr.entryStore t m' k' x').run P w = .ok () w' ∧ Tr φ h w φ h' w' ∧ Sim φ h' w' := by
  unfold entryStoreO at hv
  split at hv
  · rename_i b kk n
    cases hk
    cases hm with
    | @map _ B N hp =>
    split at hv
    · rename_i es clock hg
      obtain ⟨rfl, es', hh, hmr⟩ := map_block s hg hp
      split at hv
      · rename_i i hb
        split at hv
        · rename_i e he
          cases hv
          obtain ⟨_, hfi⟩ := bornAt_sound n es es'.toList 0 i hmr hb
          obtain ⟨e', he', g1, g2, g3⟩ := hmr.get he
          have hput := put_obj s (o' := .map (es.set i (e.1, x, e.2.2)) clock) (x' := .map (es'.modify i fun e => { e with val := x' }) clock) hg rfl rfl rfl hp hh
            (.map (by rw [array_modify_list _ _ _ e' he']; exact hmr.set i g1 hx g3))
          refine ⟨_, ?_, hput.1, hput.2⟩
          have hfi' : es'.findIdx? (fun e => (e.born : Int) == n) = some i := by
            have e1 : es' = es'.toList.toArray := by simp
            rw [e1, List.findIdx?_toArray]; simpa using hfi
          simp only [Instr.entryStore, Sem.run_bind, Result.andThen_ok, run_getObj hh (by simp), asInt, asIntOf, Sem.run_pure, hfi', run_setObj _ hh (by simp)]
        · cases hv
      · cases hv
    · cases hv
  · cases hv

theorem deleteO_sound (s : Sim φ h w) {ts : Array TypeId} {ty t : TypeId} {m k : V} {m' k' : Value} (ht : ts[0]? = some t) (hm : VR φ m m') (hk : VR φ k k') (hv : deleteO P h t m k = some h') :
    ∃ w', (Builtin.delete_ ts ty #[m', k']).run P w = .ok (.tuple #[]) w' ∧ Tr φ h w φ h' w' ∧ Sim φ h' w' := by
  unfold deleteO at hv
  split at hv
  · rename_i kt et b hu
    cases hm with
    | @map _ B N hp =>
    split at hv
    · rename_i es clock hg
      obtain ⟨rfl, es', hh, hmr⟩ := map_block s hg hp
      split at hv
      · rename_i hko
        have hchk := fun e => keyOk_sound P φ w e 40 10000 kt k k' hko (by omega) hk
        split at hv
        · rename_i i y hf
          cases hv
          obtain ⟨r', hr1, hr2⟩ := findKey_sound s hk hmr hko hf
          cases r' with
          | none => exact hr1.elim
          | some q =>
            obtain ⟨j, z⟩ := q
            obtain ⟨rfl, _, _, e, x', g1, g2, g3, g4⟩ := hr1
            have hput := put_obj s (o' := .map (es.eraseIdx i) clock) (x' := .map (es'.eraseIdxIfInBounds i) clock) hg rfl rfl rfl hp hh
              (.map (by
                have : (es'.eraseIdxIfInBounds i).toList = es'.toList.eraseIdx i := by
                  simp
                rw [this]; exact hmr.erase i))
            refine ⟨_, ?_, hput.1, hput.2⟩
            simp only [Builtin.delete_, ht, List.getElem?_toArray, List.getElem?_cons_zero, List.getElem?_cons_succ, Sem.run_bind, run_underlying hu, Result.andThen_ok, run_getObj hh (by simp), hchk, hr2, run_setObj _ hh (by simp), Sem.run_pure]
        · rename_i hf
          cases hv
          obtain ⟨r', hr1, hr2⟩ := findKey_sound s hk hmr hko hf
          cases r' with
          | some q => exact hr1.elim
          | none =>
            have hput := put_obj s (o' := .map es clock) (x' := .map es' clock) hg rfl rfl rfl hp hh (.map hmr)
            refine ⟨_, ?_, hput.1, hput.2⟩
            simp only [Builtin.delete_, ht, List.getElem?_toArray, List.getElem?_cons_zero, List.getElem?_cons_succ, Sem.run_bind, run_underlying hu, Result.andThen_ok, run_getObj hh (by simp), hchk, hr2, run_setObj _ hh (by simp), Sem.run_pure]
        · cases hv
      · cases hv
    · cases hv
  · cases hv

end
end Go.Fal
