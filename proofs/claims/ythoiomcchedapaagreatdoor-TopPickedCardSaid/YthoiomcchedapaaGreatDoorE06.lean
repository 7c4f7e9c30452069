/-
  THE ENGINE: an interpreter of our own for the model's programs, and the proof that each of its runs is a call of the model, for every start that it sees.
-/
import Derived.Test.YthoiomcchedapaaGreatDoorE05
import Derived.Orders
set_option autoImplicit true
set_option relaxedAutoImplicit true
set_option linter.unusedVariables false
set_option linter.unusedSimpArgs false
namespace Go.Fal

/-! ## Equality of values -/
mutual
theorem vbeq_eq : ∀ (u v : V), vbeq u v = true → u = v
  | .bool a, v, h => by cases v <;> simp_all [vbeq]
  | .int j a, v, h => by cases v <;> simp_all [vbeq]
  | .str a, v, h => by cases v <;> simp_all [vbeq]
  | .nilp, v, h => by cases v <;> simp_all [vbeq]
  | .ptr a o, v, h => by cases v <;> simp_all [vbeq]
  | .nils, v, h => by cases v <;> simp_all [vbeq]
  | .slice a b c d e f, v, h => by cases v <;> simp_all [vbeq]
  | .nilm, v, h => by cases v <;> simp_all [vbeq]
  | .map a, v, h => by cases v <;> simp_all [vbeq]
  | .nilf, v, h => by cases v <;> simp_all [vbeq]
  | .yield a, v, h => by cases v <;> simp_all [vbeq]
  | .nili, v, h => by cases v <;> simp_all [vbeq]
  | .func f a b, v, h => by
    cases v with
    | func g a' b' =>
      cases f <;> cases g <;> simp only [vbeq, Bool.and_eq_true, beq_iff_eq, Bool.false_eq_true] at h
      obtain ⟨⟨rfl, h1⟩, h2⟩ := h
      rw [vsbeq_eq a a' h1, vsbeq_eq b b' h2]
    | _ => cases f <;> simp [vbeq] at h
  | .iface t x, v, h => by
    cases v with
    | iface u y =>
      simp only [vbeq, Bool.and_eq_true, beq_iff_eq] at h
      obtain ⟨rfl, h1⟩ := h
      rw [vbeq_eq x y h1]
    | _ => simp [vbeq] at h
  | .agg a, v, h => by
    cases v with
    | agg b => simp only [vbeq] at h; rw [vsbeq_eq a b h]
    | _ => simp [vbeq] at h
  | .tup a, v, h => by
    cases v with
    | tup b => simp only [vbeq] at h; rw [vsbeq_eq a b h]
    | _ => simp [vbeq] at h
theorem vsbeq_eq : ∀ (u v : List V), vsbeq u v = true → u = v
  | [], v, h => by cases v <;> simp_all [vsbeq]
  | x :: xs, v, h => by
    cases v with
    | nil => simp [vsbeq] at h
    | cons y ys =>
      simp only [vsbeq, Bool.and_eq_true] at h
      rw [vbeq_eq x y h.1, vsbeq_eq xs ys h.2]
end

/-! ## A part of a trie -/
def T.keepIf {α : Type} : T α → (Nat → Bool) → T α
  | .e, _ => .e
  | .n l v r, p => .n (T.keepIf l fun k => p (2 * k + 1)) (if p 0 then v else none) (T.keepIf r fun k => p (2 * k + 2))

theorem T.get_keepIf {α : Type} : ∀ (t : T α) (p : Nat → Bool) (k : Nat), (t.keepIf p).get k = if p k then t.get k else none
  | .e, p, k => by simp [T.keepIf]
  | .n l v r, p, 0 => by simp only [T.keepIf, T.get]
  | .n l v r, p, k + 1 => by
    simp only [T.keepIf, T.get]
    split
    · rename_i h
      rw [T.get_keepIf l]
      rw [show 2 * (k / 2) + 1 = k + 1 by omega]
    · rename_i h
      rw [T.get_keepIf r]
      rw [show 2 * (k / 2) + 2 = k + 1 by omega]

theorem T.get_over_set {α : Type} (b : T α) (k : Nat) (x : α) (j : Nat) : (T.over (T.set .e k x) b).get j = if j = k then some x else b.get j := by
  rw [T.get_over, T.get_set]
  by_cases h : j = k
  · simp [h]
  · simp [h]

/-! ## What comes ahead -/
theorem befores_spec : ∀ (l : List Oper) (acc : List Nat) (j : Nat), (j < acc.length → (befores l acc)[j]? = acc.reverse[j]?) ∧
    (∀ i, acc.length ≤ j → ((befores l acc)[j]?.getD 0).testBit i = true → ∃ o, l[j - acc.length]? = some o ∧ ∃ e ∈ o.after, Region.binds .any e = true ∧ (e.on = i ∨ (e.on < j ∧ ((befores l acc)[e.on]?.getD 0).testBit i = true)))
  | [], acc, j => by
    refine ⟨fun _ => rfl, fun i hj hb => ?_⟩
    rw [befores, List.getElem?_eq_none (by simpa using hj)] at hb
    simp at hb
  | o :: os, acc, j => by
    have ih := fun j => befores_spec os ((o.after.toList.foldl (fun s e => if Region.binds .any e then s ||| 2 ^ e.on ||| (acc.reverse[e.on]?.getD 0) else s) 0) :: acc) j
    refine ⟨fun hj => ?_, fun i hj hb => ?_⟩
    · rw [befores, (ih j).1 (by simp; omega), List.reverse_cons, List.getElem?_append_left (by simpa using hj)]
    · rcases Nat.eq_or_lt_of_le hj with he | hlt
      · have h1 := (ih j).1 (by simp; omega)
        rw [befores] at hb
        rw [h1, List.reverse_cons, List.getElem?_append_right (by simp; omega)] at hb
        simp only [List.length_reverse, ← he, Nat.sub_self, List.getElem?_cons_zero, Option.getD_some] at hb
        refine ⟨o, by rw [← he]; simp, ?_⟩
        have key : ∀ (l : List Edge) (s : Nat), (l.foldl (fun s e => if Region.binds .any e then s ||| 2 ^ e.on ||| (acc.reverse[e.on]?.getD 0) else s) s).testBit i = true →
            s.testBit i = true ∨ ∃ e ∈ l, Region.binds .any e = true ∧ (e.on = i ∨ (acc.reverse[e.on]?.getD 0).testBit i = true) := by
          intro l
          induction l with
          | nil => intro s hs; exact .inl hs
          | cons e l ihl =>
            intro s hs
            simp only [List.foldl_cons] at hs
            rcases ihl _ hs with h2 | ⟨e', he', hr⟩
            · split at h2
              · rename_i hbind
                simp only [Nat.testBit_or, Bool.or_eq_true] at h2
                rcases h2 with (h2 | h2) | h2
                · exact .inl h2
                · refine .inr ⟨e, by simp, hbind, .inl ?_⟩
                  rw [Nat.testBit_two_pow] at h2
                  simpa using h2
                · exact .inr ⟨e, by simp, hbind, .inr h2⟩
              · exact .inl h2
            · exact .inr ⟨e', by simp [he'], hr⟩
        rcases key _ _ hb with h2 | ⟨e, he', hbind, hr⟩
        · simp at h2
        · refine ⟨e, by simpa using he', hbind, hr.imp_right fun h2 => ?_⟩
          have hlt : e.on < acc.length := by
            rcases Nat.lt_or_ge e.on acc.length with hl | hl
            · exact hl
            · rw [List.getElem?_eq_none (by simpa using hl)] at h2; simp at h2
          refine ⟨by omega, ?_⟩
          rw [befores, (ih e.on).1 (by simp; omega), List.reverse_cons, List.getElem?_append_left (by simpa using hlt)]
          exact h2
      · rw [befores] at hb ⊢
        obtain ⟨o', ho', hr⟩ := (ih j).2 i (by simp; omega) hb
        refine ⟨o', ?_, hr⟩
        simp only [List.length_cons] at ho'
        rw [show j - acc.length = (j - (acc.length + 1)) + 1 by omega, List.getElem?_cons_succ]
        exact ho'

theorem ahead {ops : Array Oper} {S : Nat → Prop} (hS : ∀ j o, S j → ops[j]? = some o → ∀ e ∈ o.after, Region.binds .any e = true → S e.on) :
    ∀ (j : Nat) (o : Oper), ops[j]? = some o → (∀ e ∈ o.after, Region.binds .any e = true → S e.on) → ∀ i, ((befores ops.toList [])[j]?.getD 0).testBit i = true → S i := by
  intro j
  induction j using Nat.strongRecOn with
  | ind j ih =>
    intro o ho he i hb
    obtain ⟨o', ho', e, hm, hbind, hr⟩ := (befores_spec ops.toList [] j).2 i (by simp) hb
    simp only [List.length_nil, Nat.sub_zero, Array.getElem?_toList] at ho'
    rw [ho] at ho'; cases ho'
    have hSe := he e hm hbind
    rcases hr with rfl | ⟨hlt, hb'⟩
    · exact hSe
    · cases hoe : ops[e.on]? with
      | none =>
        exfalso
        obtain ⟨o2, ho2, _⟩ := (befores_spec ops.toList [] e.on).2 i (by simp) hb'
        simp only [List.length_nil, Nat.sub_zero, Array.getElem?_toList] at ho2
        rw [hoe] at ho2; cases ho2
      | some oe => exact ih e.on hlt oe hoe (hS e.on oe hSe hoe) i hb'

theorem pairsOk_spec {P : Program} {ops : Array Oper} {bs : List Nat} (h : pairsOk P ops bs = true) {i j : Nat} {oi oj : Oper} (hi : ops[i]? = some oi) (hj : ops[j]? = some oj) (hlt : i < j) : pairOk P ops bs i j oi oj = true := by
  unfold pairsOk at h
  rw [List.all_eq_true] at h
  have h1 := h j (by rw [List.mem_range]; exact (Array.getElem?_eq_some_iff.1 hj).1)
  rw [List.all_eq_true] at h1
  have h2 := h1 i (by rw [List.mem_range]; exact hlt)
  rw [hi, hj] at h2
  exact h2

theorem edgesOk_spec {ops : Array Oper} (h : edgesOk ops = true) {j : Nat} {o : Oper} (hj : ops[j]? = some o) : ∀ e ∈ o.after, Region.binds .any e = true → e.on < j := by
  unfold edgesOk at h
  rw [List.all_eq_true] at h
  have h1 := h j (by rw [List.mem_range]; exact (Array.getElem?_eq_some_iff.1 hj).1)
  rw [hj] at h1
  simp only [List.all_eq_true] at h1
  intro e he hb
  have := h1 e (by simpa using he)
  simpa [hb] using this

/-! ## The trace of a drawn region, in the order of its text -/
structure At where
  tm : T V
  ds : List D
  h : H
  want : Bool
  v : V
  x : V

structure TrOk (c : Cfg) (call : Out → H → Option (V × H)) (nt : Nat) (rnd : Option Nat) (ops : Array Oper) (tr : Nat → At) (j : Nat) (o : Oper) : Prop where
  op : ops[j]? = some o
  want : wantO ops (tr j).tm o = some (tr j).want
  put : putT nt (tr j).tm o.dst (tr j).v = some (tr (j + 1)).tm
  skip : (tr j).want = false → (tr j).v = undefV ∧ (tr (j + 1)).ds = (tr j).ds ∧ (tr (j + 1)).h = (tr j).h
  run : (tr j).want = true → opRun c call rnd (tr j).tm (tr j).ds (tr j).h o = some ((tr j).v, (tr (j + 1)).ds, (tr (j + 1)).h)
  read : (tr j).want = true → clsOf c.P o.op = .R → ∃ x, rdOperand o.op = some x ∧ ev c.ng (tr j).tm x = some (tr j).x ∧ rdOld (tr j).h (tr j).x = true

def bit (bs : List Nat) (j i : Nat) : Bool := (bs[j]?.getD 0).testBit i

theorem regD_trace {c : Cfg} {call : Out → H → Option (V × H)} {nt : Nat} {rnd : Option Nat} {ops : Array Oper} {bs : List Nat} : ∀ (m i : Nat) (tm : T V) (ds : List D) (h : H) (past : List (Nat × H)) (rds : List Rd) (r : T V × List D × H),
    regD c call nt rnd ops bs (List.range' i m) tm ds h past rds = some r → ∃ tr : Nat → At, (tr i).tm = tm ∧ (tr i).ds = ds ∧ (tr i).h = h ∧ (tr (i + m)).tm = r.1 ∧ (tr (i + m)).ds = r.2.1 ∧ (tr (i + m)).h = r.2.2 ∧
      (∀ j, i ≤ j → j < i + m → ∃ o, TrOk c call nt rnd ops tr j o) ∧
      (∀ j o, i ≤ j → j < i + m → ops[j]? = some o → (tr j).want = true → clsOf c.P o.op = .R →
        (∀ p ∈ past, bit bs j p.1 = true ∨ rdNew p.2 (tr j).x = true ∨ rdSame c.P p.2 o.op (tr j).x (tr j).v = true) ∧
        (∀ j' o', i ≤ j' → j' < j → ops[j']? = some o' → (tr j').want = true → clsOf c.P o'.op = .E → bit bs j j' = true ∨ rdNew (tr j').h (tr j).x = true ∨ rdSame c.P (tr j').h o.op (tr j).x (tr j).v = true)) ∧
      (∀ j o, i ≤ j → j < i + m → ops[j]? = some o → (tr j).want = true → clsOf c.P o.op = .E →
        (∀ q ∈ rds, bit bs j q.i = true ∨ rdSame c.P (tr (j + 1)).h q.op q.x q.v = true) ∧
        (∀ j' o', i ≤ j' → j' < j → ops[j']? = some o' → (tr j').want = true → clsOf c.P o'.op = .R → bit bs j j' = true ∨ rdSame c.P (tr (j + 1)).h o'.op (tr j').x (tr j').v = true))
  | 0, i, tm, ds, h, past, rds, r, hv => by
    simp only [List.range'_zero, regD, Option.some.injEq] at hv
    subst hv
    exact ⟨fun _ => ⟨tm, ds, h, false, undefV, undefV⟩, rfl, rfl, rfl, rfl, rfl, rfl, fun j h1 h2 => by omega, fun j o h1 h2 => by omega, fun j o h1 h2 => by omega⟩
  | m + 1, i, tm, ds, h, past, rds, r, hv => by
    simp only [List.range'_succ, regD] at hv
    -- how a trace grows
    have grow : ∀ (o : Oper) (want : Bool) (v x : V) (tm' : T V) (ds' : List D) (h' : H) (past' : List (Nat × H)) (rds' : List Rd), ops[i]? = some o → wantO ops tm o = some want → putT nt tm o.dst v = some tm' →
        (want = false → v = undefV ∧ ds' = ds ∧ h' = h) → (want = true → opRun c call rnd tm ds h o = some (v, ds', h')) →
        (want = true → clsOf c.P o.op = .R → ∃ y, rdOperand o.op = some y ∧ ev c.ng tm y = some x ∧ rdOld h x = true) →
        (want = true → clsOf c.P o.op = .R → ∀ p ∈ past, bit bs i p.1 = true ∨ rdNew p.2 x = true ∨ rdSame c.P p.2 o.op x v = true) →
        (want = true → clsOf c.P o.op = .E → ∀ q ∈ rds, bit bs i q.i = true ∨ rdSame c.P h' q.op q.x q.v = true) →
        (∀ p ∈ past, p ∈ past') → (∀ q ∈ rds, q ∈ rds') → (want = true → clsOf c.P o.op = .E → (i, h) ∈ past') → (want = true → clsOf c.P o.op = .R → (⟨i, o.op, x, v⟩ : Rd) ∈ rds') →
        regD c call nt rnd ops bs (List.range' (i + 1) m) tm' ds' h' past' rds' = some r →
        ∃ tr : Nat → At, (tr i).tm = tm ∧ (tr i).ds = ds ∧ (tr i).h = h ∧ (tr (i + (m + 1))).tm = r.1 ∧ (tr (i + (m + 1))).ds = r.2.1 ∧ (tr (i + (m + 1))).h = r.2.2 ∧
          (∀ j, i ≤ j → j < i + (m + 1) → ∃ o, TrOk c call nt rnd ops tr j o) ∧
          (∀ j o, i ≤ j → j < i + (m + 1) → ops[j]? = some o → (tr j).want = true → clsOf c.P o.op = .R →
            (∀ p ∈ past, bit bs j p.1 = true ∨ rdNew p.2 (tr j).x = true ∨ rdSame c.P p.2 o.op (tr j).x (tr j).v = true) ∧
            (∀ j' o', i ≤ j' → j' < j → ops[j']? = some o' → (tr j').want = true → clsOf c.P o'.op = .E → bit bs j j' = true ∨ rdNew (tr j').h (tr j).x = true ∨ rdSame c.P (tr j').h o.op (tr j).x (tr j).v = true)) ∧
          (∀ j o, i ≤ j → j < i + (m + 1) → ops[j]? = some o → (tr j).want = true → clsOf c.P o.op = .E →
            (∀ q ∈ rds, bit bs j q.i = true ∨ rdSame c.P (tr (j + 1)).h q.op q.x q.v = true) ∧
            (∀ j' o', i ≤ j' → j' < j → ops[j']? = some o' → (tr j').want = true → clsOf c.P o'.op = .R → bit bs j j' = true ∨ rdSame c.P (tr (j + 1)).h o'.op (tr j').x (tr j').v = true)) := by
      intro o want v x tm' ds' h' past' rds' ho hw hp hsk hrun hread hck1 hck2 hsub1 hsub2 hin1 hin2 hrec
      obtain ⟨tr, t1, t2, t3, t4, t5, t6, t7, t8, t9⟩ := regD_trace m (i + 1) tm' ds' h' past' rds' r hrec
      have e0 : ∀ j, i + 1 ≤ j → (fun j => if j = i then (⟨tm, ds, h, want, v, x⟩ : At) else tr j) j = tr j := fun j hj => by
        show (if j = i then _ else tr j) = tr j
        rw [if_neg (by omega)]
      have ei : (fun j => if j = i then (⟨tm, ds, h, want, v, x⟩ : At) else tr j) i = ⟨tm, ds, h, want, v, x⟩ := if_pos rfl
      have em : i + (m + 1) = i + 1 + m := by omega
      generalize hf : (fun j => if j = i then (⟨tm, ds, h, want, v, x⟩ : At) else tr j) = f at e0 ei
      refine ⟨f, by rw [ei], by rw [ei], by rw [ei], by rw [e0 _ (by omega), em]; exact t4, by rw [e0 _ (by omega), em]; exact t5, by rw [e0 _ (by omega), em]; exact t6, ?_, ?_, ?_⟩
      · intro j h1 h2
        rcases Nat.eq_or_lt_of_le h1 with rfl | hlt
        · refine ⟨o, ho, ?_, ?_, ?_, ?_, ?_⟩ <;> rw [ei] <;> (try rw [e0 _ (Nat.le_refl _)])
          · exact hw
          · rw [t1]; exact hp
          · rw [t2, t3]; exact hsk
          · rw [t2, t3]; exact hrun
          · exact hread
        · obtain ⟨o', q⟩ := t7 j hlt (by omega)
          exact ⟨o', q.op, by rw [e0 _ hlt]; exact q.want, by rw [e0 _ hlt, e0 _ (by omega)]; exact q.put, by rw [e0 _ hlt, e0 _ (by omega)]; exact q.skip,
            by rw [e0 _ hlt, e0 _ (by omega)]; exact q.run, by rw [e0 _ hlt]; exact q.read⟩
      · intro j oj h1 h2 hj hwj hcj
        rcases Nat.eq_or_lt_of_le h1 with rfl | hlt
        · rw [ho] at hj; cases hj
          rw [ei] at hwj ⊢
          exact ⟨hck1 hwj hcj, fun j' o' h3 h4 => by omega⟩
        · rw [e0 _ hlt] at hwj ⊢
          obtain ⟨q1, q2⟩ := t8 j oj hlt (by omega) hj hwj hcj
          refine ⟨fun p hp' => q1 p (hsub1 p hp'), fun j' o' h3 h4 ho' hw' hc' => ?_⟩
          rcases Nat.eq_or_lt_of_le h3 with rfl | hlt'
          · rw [ho] at ho'; cases ho'
            rw [ei] at hw' ⊢
            exact q1 _ (hin1 hw' hc')
          · rw [e0 _ hlt'] at hw' ⊢
            exact q2 j' o' hlt' h4 ho' hw' hc'
      · intro j oj h1 h2 hj hwj hcj
        rcases Nat.eq_or_lt_of_le h1 with rfl | hlt
        · rw [ho] at hj; cases hj
          rw [ei] at hwj
          rw [e0 _ (Nat.le_refl _), t3]
          exact ⟨hck2 hwj hcj, fun j' o' h3 h4 => by omega⟩
        · rw [e0 _ hlt] at hwj
          rw [e0 _ (by omega)]
          obtain ⟨q1, q2⟩ := t9 j oj hlt (by omega) hj hwj hcj
          refine ⟨fun p hp' => q1 p (hsub2 p hp'), fun j' o' h3 h4 ho' hw' hc' => ?_⟩
          rcases Nat.eq_or_lt_of_le h3 with rfl | hlt'
          · rw [ho] at ho'; cases ho'
            rw [ei] at hw' ⊢
            exact q1 _ (hin2 hw' hc')
          · rw [e0 _ hlt'] at hw' ⊢
            exact q2 j' o' hlt' h4 ho' hw' hc'
    split at hv
    · cases hv
    · rename_i o ho
      split at hv
      · cases hv
      · rename_i hw
        split at hv
        · rename_i tm' hp
          exact grow o false undefV undefV tm' ds h past rds ho hw hp (fun _ => ⟨rfl, rfl, rfl⟩) (by simp) (by simp) (by simp) (by simp) (fun _ h => h) (fun _ h => h) (by simp) (by simp) hv
        · cases hv
      · rename_i hw
        split at hv
        · cases hv
        · rename_i v ds' h' hop
          split at hv
          · cases hv
          · rename_i tm' hp
            split at hv
            · rename_i hcls
              split at hv
              · cases hv
              · rename_i y hy
                split at hv
                · cases hv
                · rename_i x hx
                  split at hv
                  · rename_i hck
                    rw [Bool.and_eq_true, List.all_eq_true] at hck
                    refine grow o true v x tm' ds' h' past _ ho hw hp (by simp) (fun _ => hop) (fun _ _ => ⟨y, hy, hx, hck.1⟩) (fun _ _ p hp' => ?_) (fun _ hE => by rw [hcls] at hE; cases hE) (fun _ h => h) (fun _ h => by simp [h]) (fun _ hE => by rw [hcls] at hE; cases hE) (fun _ _ => by simp) hv
                    have := hck.2 p hp'
                    simp only [Bool.or_eq_true, or_assoc] at this
                    exact this
                  · cases hv
            · rename_i hcls
              split at hv
              · rename_i hck
                rw [List.all_eq_true] at hck
                refine grow o true v undefV tm' ds' h' _ rds ho hw hp (by simp) (fun _ => hop) (fun _ hE => by rw [hcls] at hE; cases hE) (fun _ hE => by rw [hcls] at hE; cases hE) (fun _ _ q hq => ?_) (fun _ h => by simp [h]) (fun _ h => h) (fun _ _ => by simp) (fun _ hE => by rw [hcls] at hE; cases hE) hv
                have := hck q hq
                simp only [Bool.or_eq_true] at this
                exact this
              · cases hv
            · rename_i n1 n2
              exact grow o true v undefV tm' ds' h' past rds ho hw hp (by simp) (fun _ => hop) (fun _ hE => absurd hE n1) (fun _ hE => absurd hE n1) (fun _ hE => absurd hE n2) (fun _ h => h) (fun _ h => h) (fun _ hE => absurd hE n2) (fun _ hE => absurd hE n1) hv

end Go.Fal
namespace Go.Fal

section
variable {c : Cfg} {call : Out → H → Option (V × H)} {nt : Nat} {rnd : Option Nat} {ops : Array Oper} {tr : Nat → At}

theorem opRun_congr {tm tm' : T V} {ds : List D} {h : H} {o : Oper} (hE : ∀ x ∈ o.op.operands, ev c.ng tm x = ev c.ng tm' x) : opRun c call rnd tm ds h o = opRun c call rnd tm' ds h o := by
  unfold opRun; rw [opx_congr hE]

theorem opRun_P {tm : T V} {ds ds' : List D} {h h' : H} {o : Oper} {v : V} (hc : clsOf c.P o.op = .P) (hv : opRun c call rnd tm ds h o = some (v, ds', h')) :
    ds' = ds ∧ h' = h ∧ ∀ h2 ds2, opRun c call rnd tm ds2 h2 o = some (v, ds2, h2) := by
  cases hx : opx c tm h o.op with
  | none => unfold opRun at hv; rw [hx] at hv; cases hv
  | some p =>
    obtain ⟨out, h1⟩ := p
    obtain ⟨u, rfl, rfl, hk⟩ := opx_P hc hx
    unfold opRun at hv; rw [hx] at hv; cases hv
    exact ⟨rfl, rfl, fun h2 ds2 => by unfold opRun; rw [hk h2]⟩

theorem opRun_A {tm : T V} {ds ds' : List D} {h h' : H} {o : Oper} {v : V} (hc : clsOf c.P o.op = .A) (hv : opRun c call rnd tm ds h o = some (v, ds', h')) :
    ∃ oo : O, oo.rw = true ∧ ds' = ds ∧ h' = h.new oo ∧ ∀ (h2 : H) ds2, h2.next = h.next → opRun c call rnd tm ds2 h2 o = some (v, ds2, h2.new oo) := by
  cases hx : opx c tm h o.op with
  | none => unfold opRun at hv; rw [hx] at hv; cases hv
  | some p =>
    obtain ⟨out, h1⟩ := p
    obtain ⟨u, oo, rfl, ho, rfl, hk⟩ := opx_A hc hx
    unfold opRun at hv; rw [hx] at hv; cases hv
    exact ⟨oo, ho, rfl, rfl, fun h2 ds2 e => by unfold opRun; rw [hk h2 e]⟩

theorem opRun_R {tm : T V} {ds ds' : List D} {h h' : H} {o : Oper} {v : V} (hc : clsOf c.P o.op = .R) (hv : opRun c call rnd tm ds h o = some (v, ds', h')) {y : Operand} {x : V} (hy : rdOperand o.op = some y) (hx : ev c.ng tm y = some x) :
    ds' = ds ∧ h' = h ∧ rdAt c.P h o.op x = some v ∧ ∀ (h2 : H) ds2, rdAt c.P h2 o.op x = some v → opRun c call rnd tm ds2 h2 o = some (v, ds2, h2) := by
  cases hp : opx c tm h o.op with
  | none => unfold opRun at hv; rw [hp] at hv; cases hv
  | some p =>
    obtain ⟨out, h1⟩ := p
    obtain ⟨u, rfl, rfl, hr, hk⟩ := opx_R hc hp hy hx
    unfold opRun at hv; rw [hp] at hv; cases hv
    exact ⟨rfl, rfl, hr, fun h2 ds2 e => by unfold opRun; rw [hk h2 _ e]⟩

theorem load1_congr {h h2 : H} {b : Nat} (e : h2.get b = h.get b) (off : Nat) : h2.load1 b off = h.load1 b off := by
  unfold H.load1; rw [e]
theorem loadN_congr {h h2 : H} {b : Nat} (e : h2.get b = h.get b) : ∀ (k off : Nat), h2.loadN b off k = h.loadN b off k
  | 0, _ => rfl
  | k + 1, off => by simp only [H.loadN, load1_congr e, loadN_congr e k]

theorem rdAt_congr {P : Program} {h h2 : H} {op : Op} {x : V} (hc : clsOf P op = .R) (hx : ∀ b, ((∃ o, x = .ptr b o) ∨ (∃ o l k s f, x = .slice b o l k s f)) → h2.get b = h.get b) : rdAt P h2 op x = rdAt P h op x := by
  unfold rdAt
  split
  · unfold loadO
    cases x with
    | ptr b o =>
      have e := hx b (.inl ⟨o, rfl⟩)
      simp only [loadN_congr e, load1_congr e, e]
    | _ => rfl
  · rename_i s d a
    simp only [clsOf] at hc
    split at hc
    · cases hc
    · rename_i ee hs hd
      unfold convO
      rw [hs, hd]
      cases x with
      | slice b o l k s f =>
        have e := hx b (.inr ⟨o, l, k, s, f, rfl⟩)
        simp only [loadN_congr e, e]
        cases P.underlying ee with
        | none => rfl
        | some dd =>
          cases dd <;> (try rfl)
          rename_i kk
          cases kk <;> (try rfl)
          cases h.loadN b o l with
          | none => rfl
          | some vs =>
            simp only
            cases mapO byteO vs with
            | none => rfl
            | some ss =>
              simp only
              cases h.get b with
              | none => rfl
              | some o => cases ho : o.live <;> simp only [ho, if_true, Bool.false_eq_true, if_false]
      | nils =>
        simp only
        cases P.underlying ee with
        | none => rfl
        | some dd =>
          cases dd <;> (try rfl)
          rename_i kk
          cases kk <;> rfl
      | _ => rfl
    · cases hc
  · rfl

theorem rdSame_eq {P : Program} {h : H} {op : Op} {x v : V} (hs : rdSame P h op x v = true) : rdAt P h op x = some v := by
  unfold rdSame at hs
  split at hs
  · rename_i u hu; rw [hu, vbeq_eq _ _ hs]
  · cases hs

/-! ## What the trace says -/
structure Ctx (c : Cfg) (call : Out → H → Option (V × H)) (nt : Nat) (rnd : Option Nat) (ops : Array Oper) (tr : Nat → At) : Prop where
  ok : ∀ j o, ops[j]? = some o → TrOk c call nt rnd ops tr j o
  ck1 : ∀ j o, ops[j]? = some o → (tr j).want = true → clsOf c.P o.op = .R → ∀ j' o', j' < j → ops[j']? = some o' → (tr j').want = true → clsOf c.P o'.op = .E →
    bit (befores ops.toList []) j j' = true ∨ rdNew (tr j').h (tr j).x = true ∨ rdSame c.P (tr j').h o.op (tr j).x (tr j).v = true
  ck2 : ∀ j o, ops[j]? = some o → (tr j).want = true → clsOf c.P o.op = .E → ∀ j' o', j' < j → ops[j']? = some o' → (tr j').want = true → clsOf c.P o'.op = .R →
    bit (befores ops.toList []) j j' = true ∨ rdSame c.P (tr (j + 1)).h o'.op (tr j').x (tr j').v = true
  pairs : pairsOk c.P ops (befores ops.toList []) = true
  edges : edgesOk ops = true
  hnext : ∀ out h v h', call out h = some (v, h') → h.next ≤ h'.next

def isC (c : Cfg) (ops : Array Oper) (tr : Nat → At) (k : Cls) (j : Nat) : Prop := ∃ o, ops[j]? = some o ∧ clsOf c.P o.op = k ∧ (tr j).want = true
def writes (ops : Array Oper) (t j : Nat) : Prop := ∃ o, ops[j]? = some o ∧ o.dst = some t

theorem get_some {j : Nat} (h : j < ops.size) : ∃ o, ops[j]? = some o := ⟨_, Array.getElem?_eq_getElem h⟩
theorem lt_of_op {j : Nat} {o : Oper} (h : ops[j]? = some o) : j < ops.size := (Array.getElem?_eq_some_iff.1 h).1

theorem Ctx.next1 (C : Ctx c call nt rnd ops tr) {j : Nat} {o : Oper} (hj : ops[j]? = some o) : (tr j).h.next ≤ (tr (j + 1)).h.next := by
  have k := C.ok j o hj
  cases hw : (tr j).want with
  | false => rw [(k.skip hw).2.2]; exact Nat.le_refl _
  | true => exact opRun_next C.hnext (k.run hw)

theorem Ctx.mono (C : Ctx c call nt rnd ops tr) {i j : Nat} (hij : i ≤ j) (hj : j ≤ ops.size) : (tr i).h.next ≤ (tr j).h.next := by
  induction j with
  | zero => obtain rfl : i = 0 := by omega
            exact Nat.le_refl _
  | succ j ih =>
    rcases Nat.eq_or_lt_of_le hij with rfl | hlt
    · exact Nat.le_refl _
    · obtain ⟨o, ho⟩ := get_some (ops := ops) (j := j) (by omega)
      exact Nat.le_trans (ih (by omega) (by omega)) (C.next1 ho)

/-- what an allocation leaves -/
theorem Ctx.alloc (C : Ctx c call nt rnd ops tr) {j : Nat} (hA : isC c ops tr .A j) : ∃ oo : O, oo.rw = true ∧ (tr (j + 1)).ds = (tr j).ds ∧ (tr (j + 1)).h = (tr j).h.new oo := by
  obtain ⟨o, ho, hc, hw⟩ := hA
  obtain ⟨oo, h1, h2, h3, _⟩ := opRun_A hc ((C.ok j o ho).run hw)
  exact ⟨oo, h1, h2, h3⟩

/-- the others leave what there is -/
theorem Ctx.calm (C : Ctx c call nt rnd ops tr) {j : Nat} (hj : j < ops.size) (hE : ¬ isC c ops tr .E j) (hA : ¬ isC c ops tr .A j) : (tr (j + 1)).ds = (tr j).ds ∧ (tr (j + 1)).h = (tr j).h := by
  obtain ⟨o, ho⟩ := get_some hj
  have k := C.ok j o ho
  cases hw : (tr j).want with
  | false => exact (k.skip hw).2
  | true =>
    cases hc : clsOf c.P o.op with
    | E => exact absurd ⟨o, ho, hc, hw⟩ hE
    | A => exact absurd ⟨o, ho, hc, hw⟩ hA
    | P => obtain ⟨h1, h2, _⟩ := opRun_P hc (k.run hw); exact ⟨h1, h2⟩
    | R =>
      obtain ⟨y, hy, hx, _⟩ := k.read hw hc
      obtain ⟨h1, h2, _⟩ := opRun_R hc (k.run hw) hy hx
      exact ⟨h1, h2⟩

/-- a stretch without effects -/
theorem Ctx.seg (C : Ctx c call nt rnd ops tr) {g : Nat} : ∀ {i : Nat}, g ≤ i → i ≤ ops.size → (∀ j, g ≤ j → j < i → ¬ isC c ops tr .E j) →
    (tr i).ds = (tr g).ds ∧ (∀ b, b < (tr g).h.next → (tr i).h.get b = (tr g).h.get b) ∧ (∀ b, (tr i).h.get b = (tr g).h.get b ∨ ∃ j, g ≤ j ∧ j < i ∧ isC c ops tr .A j ∧ b = (tr j).h.next)
  | 0, hg, _, _ => by obtain rfl : g = 0 := by omega
                      exact ⟨rfl, fun _ _ => rfl, fun _ => .inl rfl⟩
  | i + 1, hg, hi, hE => by
    rcases Nat.eq_or_lt_of_le hg with rfl | hlt
    · exact ⟨rfl, fun _ _ => rfl, fun _ => .inl rfl⟩
    · obtain ⟨q1, q2, q3⟩ := C.seg (g := g) (i := i) (by omega) (by omega) (fun j h1 h2 => hE j h1 (by omega))
      have hm := C.mono (i := g) (j := i) (by omega) (by omega)
      by_cases hA : isC c ops tr .A i
      · obtain ⟨oo, _, h2, h3⟩ := C.alloc hA
        rw [h2, h3]
        refine ⟨q1, fun b hb => ?_, fun b => ?_⟩
        · rw [H.get_new_ne _ _ (by omega)]; exact q2 b hb
        · by_cases e : b = (tr i).h.next
          · exact .inr ⟨i, by omega, by omega, hA, e⟩
          · rw [H.get_new_ne _ _ e]
            rcases q3 b with h | ⟨j, h1, h2, h3, h4⟩
            · exact .inl h
            · exact .inr ⟨j, h1, by omega, h3, h4⟩
      · obtain ⟨h2, h3⟩ := C.calm (by omega) (hE i (by omega) (by omega)) hA
        rw [h2, h3]
        refine ⟨q1, q2, fun b => ?_⟩
        rcases q3 b with h | ⟨j, h1, h2, h3, h4⟩
        · exact .inl h
        · exact .inr ⟨j, h1, by omega, h3, h4⟩

theorem Ctx.alloc_next (C : Ctx c call nt rnd ops tr) {j : Nat} (hA : isC c ops tr .A j) : (tr (j + 1)).h.next = (tr j).h.next + 1 := by
  obtain ⟨oo, _, _, h3⟩ := C.alloc hA
  rw [h3]; rfl

theorem Ctx.alloc_lt (C : Ctx c call nt rnd ops tr) {i j : Nat} (hA : isC c ops tr .A i) (hij : i < j) (hj : j ≤ ops.size) : (tr i).h.next < (tr j).h.next := by
  have h1 := C.alloc_next hA
  have h2 := C.mono (i := i + 1) (j := j) (by omega) hj
  omega

/-- a temporary that nothing writes -/
theorem Ctx.unwritten (C : Ctx c call nt rnd ops tr) {g t : Nat} : ∀ {i : Nat}, g ≤ i → i ≤ ops.size → (∀ j, g ≤ j → j < i → ¬ writes ops t j) → (tr i).tm.get t = (tr g).tm.get t
  | 0, hg, _, _ => by obtain rfl : g = 0 := by omega
                      rfl
  | i + 1, hg, hi, hE => by
    rcases Nat.eq_or_lt_of_le hg with rfl | hlt
    · rfl
    · have ih := C.unwritten (g := g) (t := t) (i := i) (by omega) (by omega) (fun j h1 h2 => hE j h1 (by omega))
      obtain ⟨o, ho⟩ := get_some (ops := ops) (j := i) (by omega)
      have hp := (C.ok i o ho).put
      unfold putT at hp
      split at hp
      · rw [← Option.some.inj hp]; exact ih
      · rename_i d hd
        split at hp
        · rw [← Option.some.inj hp, T.get_set_ne _ _ (fun e => hE i (by omega) (by omega) ⟨o, ho, by rw [hd, e]⟩)]
          exact ih
        · cases hp

theorem pairOk_cases {P : Program} {bs : List Nat} {i j : Nat} {oi oj : Oper} (h : pairOk P ops bs i j oi oj = true) :
    bit bs j i = true ∨ ((∀ t, oi.dst = some t → namesT ops oj t = false) ∧ (∀ t, oj.dst = some t → namesT ops oi t = false) ∧ ¬ (clsOf P oi.op = .E ∧ clsOf P oj.op = .E) ∧ ¬ (clsOf P oi.op = .A ∧ clsOf P oj.op = .E)) := by
  unfold pairOk at h
  simp only [Bool.or_eq_true, Bool.and_eq_true, Bool.not_eq_true'] at h
  rcases h with h | ⟨⟨h1, h2⟩, h3⟩
  · exact .inl h
  · refine .inr ⟨fun t ht => by rw [ht] at h1; exact h1, fun t ht => by rw [ht] at h2; exact h2, ?_, ?_⟩
    · rintro ⟨e1, e2⟩; rw [e1, e2] at h3; cases h3
    · rintro ⟨e1, e2⟩; rw [e1, e2] at h3; cases h3

theorem names_dst {o : Oper} {t : Nat} (h : o.dst = some t) : namesT ops o t = true := by simp [namesT, dstIs, h]
theorem names_operand {o : Oper} {t : Nat} (h : Operand.tmp t ∈ o.op.operands) : namesT ops o t = true := by
  have : o.op.operands.toList.any (tmpIs t) = true := by
    rw [List.any_eq_true]; exact ⟨_, by simpa using h, by simp [tmpIs]⟩
  simp only [namesT, this, Bool.or_true, Bool.true_or]
theorem names_guard {o oj : Oper} {t j : Nat} {wt : Bool} (h : o.guard = some (j, wt)) (hj : ops[j]? = some oj) (hd : oj.dst = some t) : namesT ops o t = true := by
  simp only [namesT, h, hj, dstIs, hd, beq_self_eq_true, Bool.or_true]

theorem ev_keepIf {ng : Nat} {tm : T V} {p : Nat → Bool} {x : Operand} (h : ∀ t, x = .tmp t → p t = true) : ev ng (tm.keepIf p) x = ev ng tm x := by
  cases x with
  | tmp t => simp only [ev, T.get_keepIf, h t rfl, if_true]
  | _ => rfl

theorem wantO_keepIf {tm : T V} {o : Oper} : wantO ops (tm.keepIf (namesT ops o)) o = wantO ops tm o := by
  unfold wantO
  cases hg : o.guard with
  | none => rfl
  | some q =>
    obtain ⟨j, wt⟩ := q
    simp only
    cases hj : ops[j]? with
    | none => rfl
    | some oj =>
      simp only
      cases hd : oj.dst with
      | none => rfl
      | some d => simp only [T.get_keepIf, names_guard hg hj hd, if_true]

end
end Go.Fal
namespace Go.Fal

section
variable {c : Cfg} {call : Out → H → Option (V × H)} {nt : Nat} {rnd : Option Nat} {ops : Array Oper} {tr : Nat → At}

/-- Where a run stands that has made the operations S: g is behind the last effect that was made. -/
structure Inv (c : Cfg) (nt : Nat) (ops : Array Oper) (tr : Nat → At) (S : Nat → Prop) (g : Nat) (hh : H) (φ₀ : Phi) (w₀ : World) (φ : Phi) (w : World) (a : Act) : Prop where
  trr : Tr φ₀ (tr 0).h w₀ φ hh w
  sim : Sim φ hh w
  nx : hh.next = (tr ops.size).h.next
  gle : g ≤ ops.size
  eff : ∀ j, isC c ops tr .E j → (S j ↔ j < g)
  last : g = 0 ∨ ∃ e, g = e + 1 ∧ isC c ops tr .E e
  low : ∀ b, b < (tr g).h.next → hh.get b = (tr g).h.get b
  pend : ∀ j, isC c ops tr .A j → S j → g ≤ j → hh.get (tr j).h.next = (tr (j + 1)).h.get (tr j).h.next
  only : ∀ b o, hh.get b = some o → b < (tr g).h.next ∨ ∃ j, isC c ops tr .A j ∧ S j ∧ g ≤ j ∧ b = (tr j).h.next
  unmapped : ∀ b, (tr g).h.next ≤ b → b < hh.next → (∀ j, isC c ops tr .A j → S j → g ≤ j → b ≠ (tr j).h.next) → φ b = none
  dom : ∀ b o, (tr g).h.get b = some o → b < (tr g).h.next
  size : a.tmps.size = nt
  env : ∀ t m, m ≤ ops.size → (∀ j, writes ops t j → (S j ↔ j < m)) → ∀ v, (tr m).tm.get t = some v → ∃ x, a.tmps[t]? = some x ∧ VR φ v x
  defs : DsR φ (tr g).ds a.defers

theorem isC_lt {k : Cls} {j : Nat} (h : isC c ops tr k j) : j < ops.size := let ⟨_, ho, _⟩ := h; lt_of_op ho
theorem isC_ne {k k' : Cls} {j : Nat} (h : isC c ops tr k j) (hne : k ≠ k') : ¬ isC c ops tr k' j := by
  rintro ⟨o, ho, hc, _⟩
  obtain ⟨o', ho', hc', _⟩ := h
  rw [ho] at ho'; cases ho'
  exact hne (hc'.symm.trans hc)

/-- what holds of the order at one operation that may come next -/
structure Turn (c : Cfg) (ops : Array Oper) (S : Nat → Prop) (i : Nat) (o : Oper) : Prop where
  op : ops[i]? = some o
  notin : ¬ S i
  before : ∀ j oj, j < i → ops[j]? = some oj → pairOk c.P ops (befores ops.toList []) j i oj o = true
  after : ∀ j oj, i < j → ops[j]? = some oj → pairOk c.P ops (befores ops.toList []) i j o oj = true
  bit1 : ∀ j, bit (befores ops.toList []) i j = true → S j
  bit2 : ∀ j, j < ops.size → S j → bit (befores ops.toList []) j i = false

theorem Ctx.turn (C : Ctx c call nt rnd ops tr) {S : Nat → Prop} (hS : ∀ j o, S j → ops[j]? = some o → ∀ e ∈ o.after, Region.binds .any e = true → S e.on) {i : Nat} {o : Oper} (hi : ops[i]? = some o) (hn : ¬ S i)
    (he : ∀ e ∈ o.after, Region.binds .any e = true → S e.on) : Turn c ops S i o where
  op := hi
  notin := hn
  before := fun j oj hlt hj => pairsOk_spec C.pairs hj hi hlt
  after := fun j oj hlt hj => pairsOk_spec C.pairs hi hj hlt
  bit1 := fun j hb => ahead hS i o hi he j hb
  bit2 := fun j hj hSj => by
    cases hb : bit (befores ops.toList []) j i with
    | false => rfl
    | true =>
      obtain ⟨oj, hoj⟩ := get_some hj
      exact absurd (ahead hS j oj hoj (hS j oj hSj hoj) i hb) hn

theorem Turn.names {S : Nat → Prop} {i : Nat} {o : Oper} (T : Turn c ops S i o) {t : Nat} (ht : namesT ops o t = true) : ∀ j, writes ops t j → (S j ↔ j < i) := by
  rintro j ⟨oj, hj, hd⟩
  constructor
  · intro hSj
    rcases Nat.lt_trichotomy j i with h | h | h
    · exact h
    · subst h; exact absurd hSj T.notin
    · rcases pairOk_cases (T.after j oj h hj) with hb | ⟨_, h2, _⟩
      · rw [T.bit2 j (lt_of_op hj) hSj] at hb; cases hb
      · rw [h2 t hd] at ht; cases ht
  · intro hlt
    rcases pairOk_cases (T.before j oj hlt hj) with hb | ⟨h1, _⟩
    · exact T.bit1 j hb
    · rw [h1 t hd] at ht; cases ht

theorem Turn.eff {S : Nat → Prop} {i : Nat} {o : Oper} (T : Turn c ops S i o) (hc : clsOf c.P o.op = .E) : ∀ j, isC c ops tr .E j → (S j ↔ j < i) := by
  rintro j ⟨oj, hj, hcj, _⟩
  constructor
  · intro hSj
    rcases Nat.lt_trichotomy j i with h | h | h
    · exact h
    · subst h; exact absurd hSj T.notin
    · rcases pairOk_cases (T.after j oj h hj) with hb | ⟨_, _, h3, _⟩
      · rw [T.bit2 j (lt_of_op hj) hSj] at hb; cases hb
      · exact absurd ⟨hc, hcj⟩ h3
  · intro hlt
    rcases pairOk_cases (T.before j oj hlt hj) with hb | ⟨_, _, h3, _⟩
    · exact T.bit1 j hb
    · exact absurd ⟨hcj, hc⟩ h3

theorem Turn.allocs {S : Nat → Prop} {i : Nat} {o : Oper} (T : Turn c ops S i o) (hc : clsOf c.P o.op = .E) : ∀ j, isC c ops tr .A j → j < i → S j := by
  rintro j ⟨oj, hj, hcj, _⟩ hlt
  rcases pairOk_cases (T.before j oj hlt hj) with hb | ⟨_, _, _, h4⟩
  · exact T.bit1 j hb
  · exact absurd ⟨hcj, hc⟩ h4

theorem Turn.alloc_late {S : Nat → Prop} {i : Nat} {o : Oper} (T : Turn c ops S i o) (hc : clsOf c.P o.op = .A) : ∀ j, isC c ops tr .E j → S j → j < i := by
  rintro j ⟨oj, hj, hcj, _⟩ hSj
  rcases Nat.lt_trichotomy j i with h | h | h
  · exact h
  · subst h; exact absurd hSj T.notin
  · rcases pairOk_cases (T.after j oj h hj) with hb | ⟨_, _, _, h4⟩
    · rw [T.bit2 j (lt_of_op hj) hSj] at hb; cases hb
    · exact absurd ⟨hc, hcj⟩ h4

/-- the temporaries behind an operation -/
theorem Inv.env_put (C : Ctx c call nt rnd ops tr) {S : Nat → Prop} {g : Nat} {hh : H} {φ₀ φ : Phi} {w₀ w : World} {a : Act} (I : Inv c nt ops tr S g hh φ₀ w₀ φ w a) {i : Nat} {o : Oper} (T : Turn c ops S i o) {φ' : Phi} (hle : φ.le φ') {x : Value} (hx : VR φ' (tr i).v x) :
    ∀ t m, m ≤ ops.size → (∀ j, writes ops t j → ((S j ∨ j = i) ↔ j < m)) → ∀ v, (tr m).tm.get t = some v → ∃ y, (a.put o.dst x).tmps[t]? = some y ∧ VR φ' v y := by
  intro t m hm hw v hv
  by_cases hd : o.dst = some t
  · have him : i < m := (hw i ⟨o, T.op, hd⟩).1 (.inr rfl)
    have hun := C.unwritten (g := i + 1) (t := t) (i := m) him hm (fun j h1 h2 hwj => by
      rcases (hw j hwj).2 h2 with hSj | hji
      · have := (T.names (names_dst hd) j hwj).1 hSj; omega
      · omega)
    rw [hun] at hv
    have hp := (C.ok i o T.op).put
    unfold putT at hp
    rw [hd] at hp
    simp only at hp
    split at hp
    · rename_i hlt
      rw [← Option.some.inj hp, Go.Fal.T.get_set_same] at hv
      cases hv
      refine ⟨x, ?_, hx⟩
      rw [hd]
      simp only [Act.put]
      rw [Array.getElem?_setIfInBounds, if_pos rfl, if_pos (I.size.symm ▸ hlt)]
    · cases hp
  · obtain ⟨y, hy, hvy⟩ := I.env t m hm (fun j hwj => by
      rw [← hw j hwj]
      constructor
      · exact .inl
      · rintro (h | h)
        · exact h
        · subst h
          obtain ⟨oj, hj, hdj⟩ := hwj
          rw [T.op] at hj; cases hj
          exact absurd hdj hd) v hv
    refine ⟨y, ?_, hvy.mono hle⟩
    cases hdst : o.dst with
    | none => exact hy
    | some d =>
      simp only [Act.put]
      rw [Array.getElem?_setIfInBounds_ne (fun e => hd (by rw [hdst, e]))]
      exact hy

/-- what the operation looks at -/
theorem Inv.envR {S : Nat → Prop} {g : Nat} {hh : H} {φ₀ φ : Phi} {w₀ w : World} {a : Act} (I : Inv c nt ops tr S g hh φ₀ w₀ φ w a) {i : Nat} {o : Oper} (T : Turn c ops S i o) : EnvR φ ((tr i).tm.keepIf (namesT ops o)) a.tmps := by
  intro t v hv
  rw [Go.Fal.T.get_keepIf] at hv
  split at hv
  · rename_i hn
    exact I.env t i (Nat.le_of_lt (lt_of_op T.op)) (T.names hn) v hv
  · cases hv

theorem ev_part {o : Oper} {tm : T V} {x : Operand} (hx : x ∈ o.op.operands) : ev c.ng (tm.keepIf (namesT ops o)) x = ev c.ng tm x :=
  ev_keepIf fun _ ht => names_operand (ht ▸ hx)

/-- a step that leaves the heap -/
theorem Inv.same {S : Nat → Prop} {g : Nat} {hh : H} {φ₀ φ : Phi} {w₀ w : World} {a : Act} (I : Inv c nt ops tr S g hh φ₀ w₀ φ w a) {i : Nat} (hE : ¬ isC c ops tr .E i) (hA : ¬ isC c ops tr .A i) {φ' : Phi} {w' : World} {a' : Act}
    (ht : Tr φ hh w φ' hh w') (hs : Sim φ' hh w') (hz : a'.tmps.size = nt) (hd : a'.defers = a.defers)
    (henv : ∀ t m, m ≤ ops.size → (∀ j, writes ops t j → ((S j ∨ j = i) ↔ j < m)) → ∀ v, (tr m).tm.get t = some v → ∃ y, a'.tmps[t]? = some y ∧ VR φ' v y) :
    Inv c nt ops tr (fun j => S j ∨ j = i) g hh φ₀ w₀ φ' w' a' where
  trr := I.trr.trans ht
  sim := hs
  nx := I.nx
  gle := I.gle
  eff := fun j hj => by
    rw [← I.eff j hj]
    constructor
    · rintro (h | h)
      · exact h
      · subst h; exact absurd hj hE
    · exact .inl
  last := I.last
  low := I.low
  pend := fun j hj hS hg => by
    rcases hS with h | h
    · exact I.pend j hj h hg
    · subst h; exact absurd hj hA
  only := fun b o hb => by
    rcases I.only b o hb with h | ⟨j, h1, h2, h3, h4⟩
    · exact .inl h
    · exact .inr ⟨j, h1, .inl h2, h3, h4⟩
  unmapped := fun b h1 h2 h3 => by
    rw [ht.fresh b (by omega)]
    exact I.unmapped b h1 h2 (fun j q1 q2 q3 => h3 j q1 (.inl q2) q3)
  dom := I.dom
  size := hz
  env := henv
  defs := by rw [hd]; exact I.defs.mono ht.le

/-- the block that a read looks at -/
theorem rdOld_lt {h : H} {x : V} (ho : rdOld h x = true) {b : Nat} (hx : (∃ o, x = .ptr b o) ∨ (∃ o l k s f, x = .slice b o l k s f)) : b < h.next := by
  rcases hx with ⟨o, rfl⟩ | ⟨o, l, k, s, f, rfl⟩ <;> simpa [rdOld] using ho
theorem rdNew_le {h : H} {x : V} (ho : rdNew h x = true) {b : Nat} (hx : (∃ o, x = .ptr b o) ∨ (∃ o l k s f, x = .slice b o l k s f)) : h.next ≤ b := by
  rcases hx with ⟨o, rfl⟩ | ⟨o, l, k, s, f, rfl⟩ <;> simpa [rdNew] using ho
theorem rdNew_some {h : H} {x : V} (ho : rdNew h x = true) : ∃ b, (∃ o, x = .ptr b o) ∨ (∃ o l k s f, x = .slice b o l k s f) := by
  cases x with
  | ptr b o => exact ⟨b, .inl ⟨o, rfl⟩⟩
  | slice b o l k s f => exact ⟨b, .inr ⟨o, l, k, s, f, rfl⟩⟩
  | _ => cases ho

/-- the first effect of a stretch, if there is one -/
theorem first_eff {g i : Nat} : (∀ j, g ≤ j → j < i → ¬ isC c ops tr .E j) ∨ ∃ e, g ≤ e ∧ e < i ∧ isC c ops tr .E e ∧ ∀ j, g ≤ j → j < e → ¬ isC c ops tr .E j := by
  induction i with
  | zero => exact .inl fun j h1 h2 => by omega
  | succ i ih =>
    rcases ih with h | ⟨e, h1, h2, h3, h4⟩
    · by_cases he : g ≤ i ∧ isC c ops tr .E i
      · exact .inr ⟨i, he.1, by omega, he.2, h⟩
      · refine .inl fun j h1 h2 hj => ?_
        rcases Nat.lt_or_ge j i with h5 | h5
        · exact h j h1 h5 hj
        · obtain rfl : j = i := by omega
          exact he ⟨h1, hj⟩
    · exact .inr ⟨e, h1, by omega, h3, h4⟩

/-- what is read, is what the text's order reads -/
theorem Inv.read (C : Ctx c call nt rnd ops tr) {S : Nat → Prop} {g : Nat} {hh : H} {φ₀ φ : Phi} {w₀ w : World} {a : Act} (I : Inv c nt ops tr S g hh φ₀ w₀ φ w a) {i : Nat} {o : Oper} (T : Turn c ops S i o) (hw : (tr i).want = true) (hc : clsOf c.P o.op = .R)
    (hold : rdOld (tr i).h (tr i).x = true) (hat : rdAt c.P (tr i).h o.op (tr i).x = some (tr i).v) (hmap : ∀ b, ((∃ o, (tr i).x = .ptr b o) ∨ (∃ o l k s f, (tr i).x = .slice b o l k s f)) → φ b ≠ none) : rdAt c.P hh o.op (tr i).x = some (tr i).v := by
  have hlt : ∀ b, ((∃ o, (tr i).x = .ptr b o) ∨ (∃ o l k s f, (tr i).x = .slice b o l k s f)) → b < (tr i).h.next := fun b hb => rdOld_lt hold hb
  have hi := lt_of_op T.op
  -- an effect ahead of it in the text that is not made
  have unmade : ∀ e, isC c ops tr .E e → e < i → ¬ S e → rdNew (tr e).h (tr i).x = true ∨ rdAt c.P (tr e).h o.op (tr i).x = some (tr i).v := by
    intro e he hei hSe
    obtain ⟨oe, hoe, hce, hwe⟩ := he
    rcases C.ck1 i o T.op hw hc e oe hei hoe hwe hce with h | h | h
    · exact absurd (T.bit1 e h) hSe
    · exact .inl h
    · exact .inr (rdSame_eq h)
  rcases Nat.lt_or_ge i g with hig | hgi
  · -- effects behind it in the text are made
    rcases I.last with h0 | ⟨e, rfl, he⟩
    · omega
    · have hie : i ≠ e := by rintro rfl; exact isC_ne ⟨o, T.op, hc, hw⟩ (by decide) he
      have hSe : S e := (I.eff e he).2 (by omega)
      obtain ⟨oe, hoe, hce, hwe⟩ := he
      rcases C.ck2 e oe hoe hwe hce i o (by omega) T.op hw hc with h | h
      · rw [T.bit2 e (lt_of_op hoe) hSe] at h; cases h
      · rw [← rdSame_eq h]
        refine rdAt_congr hc fun b hb => I.low b ?_
        exact Nat.lt_of_lt_of_le (hlt b hb) (C.mono (by omega) I.gle)
  · -- no effect behind it in the text is made
    by_cases hx : ∃ b, (∃ o, (tr i).x = .ptr b o) ∨ (∃ o l k s f, (tr i).x = .slice b o l k s f)
    · obtain ⟨b, hb⟩ := hx
      have hbu : ∀ b', ((∃ o, (tr i).x = .ptr b' o) ∨ (∃ o l k s f, (tr i).x = .slice b' o l k s f)) → b' = b := by
        intro b' hb'
        rcases hb with ⟨o1, h1⟩ | ⟨o1, l1, k1, s1, f1, h1⟩ <;> rcases hb' with ⟨o2, h2⟩ | ⟨o2, l2, k2, s2, f2, h2⟩ <;> rw [h1] at h2 <;> cases h2 <;> rfl
      -- from here on the stretch counts
      have stretch : ∀ s, g ≤ s → s ≤ i → b < (tr s).h.next → hh.get b = (tr s).h.get b → rdAt c.P hh o.op (tr i).x = some (tr i).v := by
        intro s hgs hsi hbs heq
        rcases first_eff (c := c) (ops := ops) (tr := tr) (g := s) (i := i) with hno | ⟨e, h1, h2, h3, h4⟩
        · obtain ⟨_, q2, _⟩ := C.seg hsi (by omega) hno
          rw [← hat]
          refine rdAt_congr hc fun b' hb' => ?_
          rw [hbu b' hb', heq, q2 b hbs]
        · obtain ⟨_, q2, _⟩ := C.seg h1 (by omega) h4
          have hSe : ¬ S e := fun hSe => by have := (I.eff e h3).1 hSe; omega
          rcases unmade e h3 h2 hSe with hnew | hr
          · have := rdNew_le hnew hb
            have := C.mono h1 (by omega)
            omega
          · rw [← hr]
            refine rdAt_congr hc fun b' hb' => ?_
            rw [hbu b' hb', heq, q2 b hbs]
      rcases Nat.lt_or_ge b (tr g).h.next with hbg | hbg
      · exact stretch g (Nat.le_refl _) hgi hbg (I.low b hbg)
      · -- it was made out of turn
        have hbn : b < hh.next := by rw [I.nx]; exact Nat.lt_of_lt_of_le (hlt b hb) (C.mono (by omega) (Nat.le_refl _))
        by_cases hp : ∃ j, isC c ops tr .A j ∧ S j ∧ g ≤ j ∧ b = (tr j).h.next
        · obtain ⟨j, hA, hSj, hgj, hbj⟩ := hp
          have hjn := isC_lt hA
          have hji : j < i := by
            rcases Nat.lt_or_ge j i with h | h
            · exact h
            · have := C.mono (i := i) (j := j) h (by omega)
              have := hlt b hb
              omega
          refine stretch (j + 1) (by omega) hji ?_ ?_
          · rw [hbj, C.alloc_next hA]; omega
          · rw [hbj]; exact I.pend j hA hSj hgj
        · exact absurd (I.unmapped b hbg hbn (fun j h1 h2 h3 h4 => hp ⟨j, h1, h2, h3, h4⟩)) (hmap b hb)
    · rw [rdAt_congr (h := (tr i).h) hc fun b hb => absurd ⟨b, hb⟩ hx]
      exact hat

end
end Go.Fal
namespace Go.Fal

section
variable {c : Cfg} {call : Out → H → Option (V × H)} {nt : Nat} {rnd : Option Nat} {ops : Array Oper} {tr : Nat → At}

theorem rdOperand_mem {op : Op} {y : Operand} (h : rdOperand op = some y) : y ∈ op.operands := by
  cases op <;> simp only [rdOperand] at h <;> (try (cases h; done)) <;> cases h <;> simp [Op.operands]

theorem VR_mapped {φ : Phi} {x : V} {y : Value} (h : VR φ x y) : ∀ b, ((∃ o, x = .ptr b o) ∨ (∃ o l k s f, x = .slice b o l k s f)) → φ b ≠ none := by
  rintro b (⟨o, rfl⟩ | ⟨o, l, k, s, f, rfl⟩)
  · cases h with | ptr hp => rw [hp]; simp
  · cases h with
    | slice hp => rw [hp]; simp

theorem Inv.step (hc : CfgOk c) (hcall : CallOk c call) (C : Ctx c call nt rnd ops tr) {S : Nat → Prop} {g : Nat} {hh : H} {φ₀ φ : Phi} {w₀ w : World} {a : Act} (I : Inv c nt ops tr S g hh φ₀ w₀ φ w a) {i : Nat} {o : Oper} (T : Turn c ops S i o)
    {b : Frame} {cs : List Frame} {k : List Item} {rest : List Nat} (hk : KindOk b cs) (hg : Glob c.ng φ) (hr : RndR φ rnd b.roundOf) :
    ∃ g' hh' φ' w' a', Steps c.P (lone (b.atR a (.inRegion ops (i :: rest) :: k)) cs w) (lone (b.atR a' (.inRegion ops rest :: k)) cs w') ∧ Inv c nt ops tr (fun j => S j ∨ j = i) g' hh' φ₀ w₀ φ' w' a' ∧ φ.le φ' := by
  have K := C.ok i o T.op
  have hi := lt_of_op T.op
  have he := I.envR T
  have hwn : wantO ops ((tr i).tm.keepIf (namesT ops o)) o = some (tr i).want := by rw [wantO_keepIf]; exact K.want
  have hw' := wantO_sound he hwn
  cases hw : (tr i).want with
  | false =>
    rw [hw] at hw'
    have hstep := stepR_op_skip (P := c.P) (b := b) (a := a) (k := k) (cs := cs) (w := w) (ops := ops) (i := i) (rest := rest) (by rw [T.op]; simpa using hw')
    rw [T.op] at hstep; simp only [Option.bind_some] at hstep
    have hnE : ∀ k, ¬ isC c ops tr k i := by rintro k ⟨_, _, _, h⟩; rw [hw] at h; cases h
    exact ⟨g, hh, φ, w, a.put o.dst undef, .one hstep, I.same (hnE _) (hnE _) (Tr.refl φ I.sim.dom) I.sim ((put_size _ _ _).trans I.size) (put_defers _ _ _)
      (I.env_put C T φ.le_refl (by rw [(K.skip hw).1]; exact undef_VR φ)), φ.le_refl⟩
  | true =>
    rw [hw] at hw'
    have hrun := K.run hw
    rw [opRun_congr (tm' := (tr i).tm.keepIf (namesT ops o)) (fun x hx => (ev_part hx).symm)] at hrun
    cases hcl : clsOf c.P o.op with
    | P =>
      have hnE : ¬ isC c ops tr .E i := isC_ne ⟨o, T.op, hcl, hw⟩ (by decide)
      have hnA : ¬ isC c ops tr .A i := isC_ne ⟨o, T.op, hcl, hw⟩ (by decide)
      obtain ⟨_, _, hop⟩ := opRun_P hcl hrun
      obtain ⟨φ', w', v', dd, p1, p2, p3, p4, p5⟩ := opRun_sound (rest := rest) (k := k) hc hcall C.hnext (hop hh (tr g).ds) hg I.sim he I.defs hr hk (fun b hb hb' => by omega) T.op hw'
      refine ⟨g, hh, φ', w', _, p1, ?_, p4.le⟩
      have I' := I.same hnE hnA (a' := a.put o.dst v') p4 p5 ((put_size _ _ _).trans I.size) (put_defers _ _ _) (I.env_put C T p4.le p2)
      exact { I' with size := I'.size, env := I'.env, defs := p3 }
    | R =>
      have hnE : ¬ isC c ops tr .E i := isC_ne ⟨o, T.op, hcl, hw⟩ (by decide)
      have hnA : ¬ isC c ops tr .A i := isC_ne ⟨o, T.op, hcl, hw⟩ (by decide)
      obtain ⟨y, hy, hx, hold⟩ := K.read hw hcl
      have hx' : ev c.ng ((tr i).tm.keepIf (namesT ops o)) y = some (tr i).x := by rw [ev_part (rdOperand_mem hy)]; exact hx
      obtain ⟨_, _, hat, hop⟩ := opRun_R hcl hrun hy hx'
      have hread := I.read C T hw hcl hold hat (VR_mapped (ev_sound hg he hx'))
      obtain ⟨φ', w', v', dd, p1, p2, p3, p4, p5⟩ := opRun_sound (rest := rest) (k := k) hc hcall C.hnext (hop hh (tr g).ds hread) hg I.sim he I.defs hr hk (fun b hb hb' => by omega) T.op hw'
      refine ⟨g, hh, φ', w', _, p1, ?_, p4.le⟩
      have I' := I.same hnE hnA (a' := a.put o.dst v') p4 p5 ((put_size _ _ _).trans I.size) (put_defers _ _ _) (I.env_put C T p4.le p2)
      exact { I' with size := I'.size, env := I'.env, defs := p3 }
    | A =>
      have hA : isC c ops tr .A i := ⟨o, T.op, hcl, hw⟩
      have hnE : ¬ isC c ops tr .E i := isC_ne hA (by decide)
      obtain ⟨oo, hoo, _, hnew, hop⟩ := opRun_A hcl hrun
      have hgi : g ≤ i := by
        rcases I.last with h0 | ⟨e, rfl, he'⟩
        · omega
        · have := T.alloc_late hcl e he' ((I.eff e he').2 (by omega)); omega
      have hnx := C.alloc_next hA
      have hnxN : (tr i).h.next + 1 ≤ hh.next := by rw [I.nx, ← hnx]; exact C.mono hi (Nat.le_refl _)
      have hgn := C.mono hgi (by omega)
      have hd0 : ∀ b o', (⟨(tr i).h.next, .e⟩ : H).get b = some o' → hh.get b = some o' := fun b o' hb => by simp [H.get] at hb
      have hs0 : Sim φ ⟨(tr i).h.next, .e⟩ w := I.sim.sub hd0 (fun b o' hb => by simp [H.get] at hb)
      have hfree : Free φ ⟨(tr i).h.next, .e⟩ ((⟨(tr i).h.next, .e⟩ : H).new oo) := by
        intro b h1 h2
        simp only [H.next_new] at h1 h2
        refine I.unmapped b (by omega) (by omega) fun j hj hSj hgj hbj => ?_
        have hji : j ≠ i := fun e => T.notin (e ▸ hSj)
        rcases Nat.lt_or_ge j i with h | h
        · have := C.alloc_lt hj h (by omega); omega
        · have := C.alloc_lt hA (show i < j by omega) (Nat.le_of_lt (isC_lt hj)); omega
      obtain ⟨φ', w', v', dd, p1, p2, p3, p4, p5⟩ := opRun_sound (rest := rest) (k := k) hc hcall C.hnext (hop ⟨(tr i).h.next, .e⟩ (tr g).ds rfl) hg hs0 he I.defs hr hk hfree T.op hw'
      obtain ⟨f1, f2⟩ := frame_rule I.trr I.sim p4 p5 hd0 (C.mono (Nat.zero_le i) (by omega)) hnxN
      have hget : ∀ b, (⟨hh.next, Go.Fal.T.over ((⟨(tr i).h.next, .e⟩ : H).new oo).t hh.t⟩ : H).get b = if b = (tr i).h.next then some oo else hh.get b := fun b => Go.Fal.T.get_over_set _ _ _ _
      refine ⟨g, ⟨hh.next, Go.Fal.T.over ((⟨(tr i).h.next, .e⟩ : H).new oo).t hh.t⟩, φ', w', _, p1, ?_, p4.le⟩
      exact {
        trr := f1
        sim := f2
        nx := I.nx
        gle := I.gle
        eff := fun j hj => by
          rw [← I.eff j hj]
          constructor
          · rintro (h | h)
            · exact h
            · subst h; exact absurd hj hnE
          · exact .inl
        last := I.last
        low := fun b hb => by rw [hget, if_neg (by omega)]; exact I.low b hb
        pend := fun j hj hS hgj => by
          rw [hget]
          rcases hS with h | h
          · have hji : j ≠ i := fun e => T.notin (e ▸ h)
            rw [if_neg]
            · exact I.pend j hj h hgj
            · intro e
              rcases Nat.lt_or_ge j i with h' | h'
              · have := C.alloc_lt hj h' (by omega); omega
              · have := C.alloc_lt hA (show i < j by omega) (Nat.le_of_lt (isC_lt hj)); omega
          · subst h
            rw [if_pos rfl, hnew, H.get_new_same]
        only := fun b o' hb => by
          rw [hget] at hb
          split at hb
          · rename_i e; exact .inr ⟨i, hA, .inr rfl, hgi, e⟩
          · rcases I.only b o' hb with h | ⟨j, h1, h2, h3, h4⟩
            · exact .inl h
            · exact .inr ⟨j, h1, .inl h2, h3, h4⟩
        unmapped := fun b h1 h2 h3 => by
          have hne := h3 i hA (.inr rfl) hgi
          rw [p4.fresh b (by simp only [H.next_new]; omega)]
          exact I.unmapped b h1 h2 (fun j q1 q2 q3 => h3 j q1 (.inl q2) q3)
        dom := I.dom
        size := (put_size _ _ _).trans I.size
        env := I.env_put C T p4.le p2
        defs := p3 }
    | E =>
      have hE : isC c ops tr .E i := ⟨o, T.op, hcl, hw⟩
      have hgi : g ≤ i := by
        rcases Nat.lt_or_ge i g with h | h
        · exact absurd ((I.eff i hE).2 h) T.notin
        · exact h
      have hno : ∀ j, g ≤ j → j < i → ¬ isC c ops tr .E j := fun j h1 h2 hj => by
        have := (I.eff j hj).1 ((T.eff hcl j hj).2 h2); omega
      have hall := T.allocs (tr := tr) hcl
      obtain ⟨q1, q2, q3⟩ := C.seg hgi (by omega) hno
      have hgn := C.mono hgi (by omega)
      have hin := C.next1 T.op
      have hN := C.mono (i := i + 1) (j := ops.size) hi (Nat.le_refl _)
      have pget : ∀ j, g ≤ j → j < i → isC c ops tr .A j → (tr i).h.get (tr j).h.next = (tr (j + 1)).h.get (tr j).h.next := fun j h1 h2 hj => by
        obtain ⟨_, r2, _⟩ := C.seg (g := j + 1) (i := i) h2 (by omega) (fun j' h3 h4 => hno j' (by omega) h4)
        exact r2 _ (by rw [C.alloc_next hj]; omega)
      have hsub : ∀ b o', (tr i).h.get b = some o' → hh.get b = some o' := by
        intro b o' hb
        rcases q3 b with h | ⟨j, h1, h2, h3, h4⟩
        · rw [h] at hb
          rw [I.low b (I.dom b o' hb)]; exact hb
        · subst h4
          rw [I.pend j h3 (hall j h3 h2) h1, ← pget j h1 h2 h3]; exact hb
      have hdom : ∀ b o', (tr i).h.get b = some o' → b < (tr i).h.next := by
        intro b o' hb
        rcases q3 b with h | ⟨j, h1, h2, h3, h4⟩
        · rw [h] at hb; exact Nat.lt_of_lt_of_le (I.dom b o' hb) hgn
        · rw [h4]; exact C.alloc_lt h3 h2 (by omega)
      have hs0 : Sim φ (tr i).h w := I.sim.sub hsub hdom
      have hfree : Free φ (tr i).h (tr (i + 1)).h := by
        intro b h1 h2
        refine I.unmapped b (by omega) (by rw [I.nx]; omega) fun j hj hSj hgj hbj => ?_
        have hji : j ≠ i := fun e => T.notin (e ▸ hSj)
        rcases Nat.lt_or_ge j i with h | h
        · have := C.alloc_lt hj h (by omega); omega
        · have := C.mono (i := i + 1) (j := j) (by omega) (Nat.le_of_lt (isC_lt hj)); omega
      obtain ⟨φ', w', v', dd, p1, p2, p3, p4, p5⟩ := opRun_sound (rest := rest) (k := k) hc hcall C.hnext hrun hg hs0 he (q1 ▸ I.defs) hr hk hfree T.op hw'
      obtain ⟨f1, f2⟩ := frame_rule I.trr I.sim p4 p5 hsub (C.mono (Nat.zero_le i) (by omega)) (by rw [I.nx]; exact hN)
      have hget : ∀ b, (⟨hh.next, Go.Fal.T.over (tr (i + 1)).h.t hh.t⟩ : H).get b = match (tr (i + 1)).h.get b with | some u => some u | none => hh.get b := by
        intro b
        have e := Go.Fal.T.get_over (tr (i + 1)).h.t hh.t b
        simp only [H.get] at *
        cases hx : (tr (i + 1)).h.t.get b <;> simp only [hx] at e ⊢ <;> exact e
      refine ⟨i + 1, ⟨hh.next, Go.Fal.T.over (tr (i + 1)).h.t hh.t⟩, φ', w', _, p1, ?_, p4.le⟩
      exact {
        trr := f1
        sim := f2
        nx := I.nx
        gle := hi
        eff := fun j hj => by
          constructor
          · rintro (h | h)
            · have := (T.eff hcl j hj).1 h; omega
            · omega
          · intro h
            rcases Nat.eq_or_lt_of_le (Nat.le_of_lt_succ h) with e | h'
            · exact .inr e
            · exact .inl ((T.eff hcl j hj).2 h')
        last := .inr ⟨i, rfl, hE⟩
        low := fun b hb => by
          rw [hget]
          cases hx : (tr (i + 1)).h.get b with
          | some u => rfl
          | none =>
            simp only
            cases hy : hh.get b with
            | none => rfl
            | some u =>
              exfalso
              have hib : (tr i).h.get b ≠ none := by
                rcases I.only b u hy with h | ⟨j, h1, h2, h3, h4⟩
                · rw [q2 b h, ← I.low b h, hy]; simp
                · have hji : j ≠ i := fun e => T.notin (e ▸ h2)
                  rcases Nat.lt_or_ge j i with h | h
                  · rw [h4, pget j h3 h h1, ← I.pend j h1 h2 h3, ← h4, hy]; simp
                  · have := C.mono (i := i + 1) (j := j) (by omega) (Nat.le_of_lt (isC_lt h1)); omega
              cases hz : (tr i).h.get b with
              | none => exact hib hz
              | some u' =>
                obtain ⟨u2, hu2⟩ := p4.kept b u' hz
                rw [hx] at hu2; cases hu2
        pend := fun j hj hS hgj => by
          have hS' : S j := by rcases hS with h | h
                               · exact h
                               · omega
          have hlt := C.mono (i := i + 1) (j := j) hgj (Nat.le_of_lt (isC_lt hj))
          rw [hget]
          cases hx : (tr (i + 1)).h.get (tr j).h.next with
          | some u => exact absurd (p5.dom _ _ hx) (by omega)
          | none => exact I.pend j hj hS' (by omega)
        only := fun b o' hb => by
          rw [hget] at hb
          cases hx : (tr (i + 1)).h.get b with
          | some u => exact .inl (p5.dom _ _ hx)
          | none =>
            rw [hx] at hb
            rcases I.only b o' hb with h | ⟨j, h1, h2, h3, h4⟩
            · exact .inl (by omega)
            · have hji : j ≠ i := fun e => T.notin (e ▸ h2)
              rcases Nat.lt_or_ge j i with h | h
              · left; rw [h4]; have := C.alloc_lt h1 h (by omega); omega
              · exact .inr ⟨j, h1, .inl h2, by omega, h4⟩
        unmapped := fun b h1 h2 h3 => by
          rw [p4.fresh b (.inr h1)]
          refine I.unmapped b (by omega) h2 (fun j r1 r2 r3 hbj => ?_)
          have hji : j ≠ i := fun e => T.notin (e ▸ r2)
          rcases Nat.lt_or_ge j i with h | h
          · have := C.alloc_lt r1 h (by omega); omega
          · exact h3 j r1 (.inl r2) (by omega) hbj
        dom := p5.dom
        size := (put_size _ _ _).trans I.size
        env := I.env_put C T p4.le p2
        defs := p3 }

end
end Go.Fal
namespace Go.Fal

section
variable {c : Cfg} {call : Out → H → Option (V × H)} {nt : Nat} {rnd : Option Nat} {ops : Array Oper} {tr : Nat → At}

theorem getD_listed {listed : Array Bool} {i j : Nat} (hi : i < listed.size) : (listed.setIfInBounds i true).getD j false = true ↔ (listed.getD j false = true ∨ j = i) := by
  by_cases h : i = j
  · subst h; simp [hi]
  · rw [getD_set_ne false h]
    constructor
    · exact .inl
    · rintro (h' | h')
      · exact h'
      · exact absurd h'.symm h

theorem count_listed {listed : Array Bool} {i : Nat} (hi : i < listed.size) (hf : listed.getD i true = false) {n : Nat} (hn : listed.toList.count false = n + 1) : (listed.setIfInBounds i true).toList.count false = n := by
  have hl : listed.toList[i] = false := by
    simp only [Array.getD_eq_getD_getElem?, Array.getElem?_eq_getElem hi, Option.getD_some] at hf
    simpa using hf
  rw [Array.toList_setIfInBounds, List.count_set (by simpa using hi), hl, hn]
  simp

theorem listed_all {listed : Array Bool} (h : listed.toList.count false = 0) {j : Nat} (hj : j < listed.size) : listed.getD j false = true := by
  rw [List.count_eq_zero] at h
  simp only [Array.getD_eq_getD_getElem?, Array.getElem?_eq_getElem hj, Option.getD_some]
  cases hx : listed[j] with
  | true => rfl
  | false => exact absurd (by rw [← hx]; simp) h

theorem listed_some {listed : Array Bool} {n : Nat} (h : listed.toList.count false = n + 1) : ∃ j, j < listed.size ∧ listed.getD j true = false := by
  have : false ∈ listed.toList := List.count_pos_iff.1 (by omega)
  obtain ⟨j, hj, he⟩ := List.getElem_of_mem this
  have hj' : j < listed.size := by simpa using hj
  refine ⟨j, hj', ?_⟩
  simp only [Array.getD_eq_getD_getElem?, Array.getElem?_eq_getElem hj', Option.getD_some]
  simpa using he

theorem getD_flip {listed : Array Bool} {j : Nat} (hj : j < listed.size) : listed.getD j true = listed.getD j false := by
  simp only [Array.getD_eq_getD_getElem?, Array.getElem?_eq_getElem hj, Option.getD_some]

/-- as long as one is left, one is ready -/
theorem ready_some (he : edgesOk ops = true) {listed : Array Bool} (hs : listed.size = ops.size) {n : Nat} (h : listed.toList.count false = n + 1) : Region.ready .any ops listed ≠ [] := by
  obtain ⟨j, hj, hf⟩ := listed_some h
  have key : ∀ m, (∀ j, j < m → j < ops.size → listed.getD j false = true) ∨ ∃ j, j < m ∧ j < ops.size ∧ listed.getD j true = false ∧ ∀ j', j' < j → listed.getD j' false = true := by
    intro m
    induction m with
    | zero => exact .inl fun j h => by omega
    | succ m ih =>
      rcases ih with h | ⟨j, h1, h2, h3, h4⟩
      · rcases Nat.lt_or_ge m ops.size with hm | hm
        · cases hx : listed.getD m false with
          | false => exact .inr ⟨m, by omega, hm, by rw [getD_flip (hs ▸ hm)]; exact hx, fun j' hj' => h j' hj' (by omega)⟩
          | true => exact .inl fun j h1 h2 => by
                      rcases Nat.lt_or_ge j m with h5 | h5
                      · exact h j h5 h2
                      · obtain rfl : j = m := by omega
                        exact hx
        · exact .inl fun j h1 h2 => h j (by omega) h2
      · exact .inr ⟨j, by omega, h2, h3, h4⟩
  rcases key ops.size with hall | ⟨j, _, h2, h3, h4⟩
  · have := hall j (hs ▸ hj) (hs ▸ hj)
    rw [← getD_flip hj, hf] at this; cases this
  · obtain ⟨o, ho⟩ := get_some h2
    have : j ∈ Region.ready .any ops listed := mem_ready.2 ⟨h3, o, ho, fun e hm hb => h4 _ (edgesOk_spec he ho e hm hb)⟩
    intro hnil
    rw [hnil] at this; cases this

theorem go_steps (hc : CfgOk c) (hcall : CallOk c call) (C : Ctx c call nt rnd ops tr) {φ₀ : Phi} {w₀ : World} {b : Frame} {cs : List Frame} {k : List Item} (hk : KindOk b cs) :
    ∀ (fuel t : Nat) (listed : Array Bool) (g : Nat) (hh : H) (φ : Phi) (w : World) (a : Act), listed.size = ops.size → listed.toList.count false = fuel →
      Inv c nt ops tr (fun j => listed.getD j false = true) g hh φ₀ w₀ φ w a → (∀ j o, listed.getD j false = true → ops[j]? = some o → ∀ e ∈ o.after, Region.binds .any e = true → listed.getD e.on false = true) → Glob c.ng φ → RndR φ rnd b.roundOf →
      ∃ (listed' : Array Bool) (g' : Nat) (hh' : H) (φ' : Phi) (w' : World) (a' : Act), Steps c.P (lone (b.atR a (.inRegion ops (Region.linearise.go .any ops fuel t listed []) :: k)) cs w) (lone (b.atR a' (.inRegion ops [] :: k)) cs w') ∧
        Inv c nt ops tr (fun j => listed'.getD j false = true) g' hh' φ₀ w₀ φ' w' a' ∧ (∀ j, j < ops.size → listed'.getD j false = true) := by
  intro fuel
  induction fuel with
  | zero =>
    intro t listed g hh φ w a hs hn I hS hg hr
    refine ⟨listed, g, hh, φ, w, a, ?_, I, fun j hj => listed_all hn (hs ▸ hj)⟩
    simp only [Region.linearise.go, List.reverse_nil]
    exact .refl _ _
  | succ fuel ih =>
    intro t listed g hh φ w a hs hn I hS hg hr
    have hne := ready_some C.edges hs hn
    obtain ⟨i, hi, hgo⟩ : ∃ i, i ∈ Region.ready .any ops listed ∧ Region.linearise.go .any ops (fuel + 1) t listed [] = i :: Region.linearise.go .any ops fuel (t / (Region.ready .any ops listed).length) (listed.setIfInBounds i true) [] := by
      have hlt : t % (Region.ready .any ops listed).length < (Region.ready .any ops listed).length := Nat.mod_lt _ (List.length_pos_iff.2 hne)
      refine ⟨(Region.ready .any ops listed)[t % (Region.ready .any ops listed).length], List.getElem_mem hlt, ?_⟩
      simp only [Region.linearise.go]
      change (match (Region.ready .any ops listed)[t % (Region.ready .any ops listed).length]? with
        | some i => Region.linearise.go .any ops fuel (t / (Region.ready .any ops listed).length) (listed.setIfInBounds i true) [i]
        | none => [].reverse) = _
      rw [List.getElem?_eq_getElem hlt]
      simp only
      rw [linearise_go_acc, List.reverse_singleton, List.singleton_append]
    obtain ⟨hun, o, ho, hall⟩ := mem_ready.1 hi
    have hio : i < listed.size := hs ▸ lt_of_op ho
    have hnot : ¬ listed.getD i false = true := by rw [← getD_flip hio, hun]; simp
    have T := C.turn (S := fun j => listed.getD j false = true) hS ho hnot hall
    obtain ⟨g', hh', φ', w', a', s1, I', hle⟩ := I.step hc hcall C T (k := k) (rest := Region.linearise.go .any ops fuel (t / (Region.ready .any ops listed).length) (listed.setIfInBounds i true) []) hk hg hr
    have hS' : (fun j => listed.getD j false = true ∨ j = i) = (fun j => (listed.setIfInBounds i true).getD j false = true) := funext fun j => propext (getD_listed hio).symm
    rw [hS'] at I'
    obtain ⟨listed', g2, hh2, φ2, w2, a2, r1, r2, r3⟩ := ih (t / (Region.ready .any ops listed).length) (listed.setIfInBounds i true) g' hh' φ' w' a' (by simpa using hs) (count_listed hio hun hn) I'
      (fun j oj hj hoj e hm hb => by
        rw [getD_listed hio] at hj ⊢
        rcases hj with h | rfl
        · exact .inl (hS j oj h hoj e hm hb)
        · rw [ho] at hoj; cases hoj
          exact .inl (hall e hm hb)) (hg.mono hle) (hr.mono hle)
    exact ⟨listed', g2, hh2, φ2, w2, a2, by rw [hgo]; exact s1.trans r1, r2, r3⟩

theorem regD_sound (hc : CfgOk c) (hcall : CallOk c call) (hnext : ∀ out h v h', call out h = some (v, h') → h.next ≤ h'.next) {b : Frame} {cs : List Frame} {k : List Item} (hk : KindOk b cs) (hdraw : drawOk c.P ops = true)
    {tm : T V} {ds : List D} {h : H} {r : T V × List D × H} (hv : regD c call nt rnd ops (befores ops.toList []) (List.range ops.size) tm ds h [] [] = some r) {φ : Phi} {w : World} {a : Act} (hg : Glob c.ng φ) (s : Sim φ h w) (hs : a.tmps.size = nt)
    (he : EnvR φ tm a.tmps) (hd : DsR φ ds a.defers) (hr : RndR φ rnd b.roundOf) (hf : Free φ h r.2.2) (t : Nat) :
    ∃ φ' w' a', Steps c.P (lone (b.atR a (.inRegion ops (Region.linearise .any ops t) :: k)) cs w) (lone (b.atR a' (.inRegion ops [] :: k)) cs w') ∧ a'.tmps.size = nt ∧ EnvR φ' r.1 a'.tmps ∧ DsR φ' r.2.1 a'.defers ∧ Tr φ h w φ' r.2.2 w' ∧ Sim φ' r.2.2 w' := by
  rw [List.range_eq_range'] at hv
  obtain ⟨tr, t1, t2, t3, t4, t5, t6, t7, t8, t9⟩ := regD_trace ops.size 0 tm ds h [] [] r hv
  rw [Nat.zero_add] at t4 t5 t6
  unfold drawOk at hdraw
  rw [Bool.and_eq_true] at hdraw
  have C : Ctx c call nt rnd ops tr := {
    ok := fun j o hj => by
      obtain ⟨o', K⟩ := t7 j (Nat.zero_le _) (by have := lt_of_op hj; omega)
      have := K.op
      rw [hj] at this; cases this
      exact K
    ck1 := fun j o hj hw hcl j' o' hlt hj' hw' hcl' => (t8 j o (Nat.zero_le _) (by have := lt_of_op hj; omega) hj hw hcl).2 j' o' (Nat.zero_le _) hlt hj' hw' hcl'
    ck2 := fun j o hj hw hcl j' o' hlt hj' hw' hcl' => (t9 j o (Nat.zero_le _) (by have := lt_of_op hj; omega) hj hw hcl).2 j' o' (Nat.zero_le _) hlt hj' hw' hcl'
    pairs := hdraw.2
    edges := hdraw.1
    hnext := hnext }
  have hmono := C.mono (Nat.zero_le ops.size) (Nat.le_refl _)
  rw [t3, t6] at hmono
  have hlisted : ∀ j, (Array.replicate ops.size false).getD j false = false := fun j => by
    simp only [Array.getD_eq_getD_getElem?]
    rw [Array.getElem?_replicate]
    split <;> rfl
  have hsim : Sim φ ⟨r.2.2.next, h.t⟩ w := s.congr (fun _ => rfl) hmono
  have I : Inv c nt ops tr (fun j => (Array.replicate ops.size false).getD j false = true) 0 ⟨r.2.2.next, h.t⟩ φ w φ w a := {
    trr := by
      rw [t3]
      have hrefl := Tr.refl (w := w) φ s.dom
      exact { hrefl with fresh := fun _ _ => rfl, next := hmono, foot := fun k hk => .inl hk, old := hrefl.old, newrw := hrefl.newrw, kept := hrefl.kept }
    sim := hsim
    nx := by rw [t6]
    gle := Nat.zero_le _
    eff := fun j _ => by rw [hlisted]; simp
    last := .inl rfl
    low := fun b _ => by rw [t3]; rfl
    pend := fun j _ h => by rw [hlisted] at h; cases h
    only := fun b o hb => .inl (by rw [t3]; exact s.dom b o hb)
    unmapped := fun b h1 h2 _ => hf b (by rw [t3] at h1; exact h1) h2
    dom := fun b o hb => by rw [t3] at hb ⊢; exact s.dom b o hb
    size := hs
    env := fun u m hm hw v hv => by
      have := C.unwritten (g := 0) (t := u) (i := m) (Nat.zero_le _) hm (fun j _ hj hwj => by
        have := (hw j hwj).2 hj
        rw [hlisted] at this; cases this)
      rw [this, t1] at hv
      exact he u v hv
    defs := by rw [t2]; exact hd }
  obtain ⟨listed', g', hh', φ', w', a', s1, I', hall⟩ := go_steps hc hcall C hk ops.size t (Array.replicate ops.size false) 0 _ φ w a (by simp) (by simp) I (fun j o hj => by rw [hlisted] at hj; cases hj) hg hr
  -- where all is done
  have hno : ∀ j, g' ≤ j → j < ops.size → ¬ isC c ops tr .E j := fun j h1 h2 hE => by
    have := (I'.eff j hE).1 (hall j h2); omega
  obtain ⟨q1, q2, q3⟩ := C.seg I'.gle (Nat.le_refl _) hno
  have hgn := C.mono I'.gle (Nat.le_refl _)
  have hget : ∀ b, r.2.2.get b = hh'.get b := by
    intro b
    rw [← t6]
    rcases Nat.lt_or_ge b (tr g').h.next with hb | hb
    · rw [q2 b hb, I'.low b hb]
    · have hpend : ∀ j, g' ≤ j → j < ops.size → isC c ops tr .A j → b = (tr j).h.next → (tr ops.size).h.get b = hh'.get b := fun j h1 h2 h3 h4 => by
        have := I'.pend j h3 (hall j h2) h1
        rw [h4, this]
        obtain ⟨_, r2, _⟩ := C.seg (g := j + 1) (i := ops.size) h2 (Nat.le_refl _) (fun j' h5 h6 => hno j' (by omega) h6)
        exact r2 _ (by rw [C.alloc_next h3]; omega)
      rcases q3 b with h | ⟨j, h1, h2, h3, h4⟩
      · cases hx : hh'.get b with
        | none =>
          rw [h]
          cases hy : (tr g').h.get b with
          | none => rfl
          | some u => exact absurd (I'.dom b u hy) (by omega)
        | some u =>
          rcases I'.only b u hx with h' | ⟨j, h1, _, h3, h4⟩
          · omega
          · rw [← hx]; exact hpend j h3 (isC_lt h1) h1 h4
      · exact hpend j h1 h2 h3 h4
  have hnx : r.2.2.next = hh'.next := by rw [I'.nx, t6]
  refine ⟨φ', w', a', s1, I'.size, ?_, ?_, ?_, I'.sim.congr hget (by rw [hnx]; exact Nat.le_refl _)⟩
  · intro i v hv
    exact I'.env i ops.size (Nat.le_refl _) (fun j hwj => by
      obtain ⟨o, ho, _⟩ := hwj
      have := lt_of_op ho
      simp [hall j this, this]) v (by rw [t4]; exact hv)
  · rw [← t5, q1]; exact I'.defs
  · have ht := I'.trr
    rw [t3] at ht
    exact {
      le := ht.le
      fresh := fun b hb => ht.fresh b (by rw [hnx] at hb; exact hb)
      next := hmono
      size := ht.size
      os := ht.os
      tape := ht.tape
      output := ht.output
      keep := ht.keep
      foot := fun k ⟨b, o, N, h1, h2, h3⟩ => ht.foot k ⟨b, o, N, by rw [← hget]; exact h1, h2, h3⟩
      old := fun b o hb => ht.old b o (by rw [← hget]; exact hb)
      newrw := fun b o hb => ht.newrw b o (by rw [← hget]; exact hb)
      kept := fun b o hb => by rw [hget]; exact ht.kept b o hb }

end
end Go.Fal
