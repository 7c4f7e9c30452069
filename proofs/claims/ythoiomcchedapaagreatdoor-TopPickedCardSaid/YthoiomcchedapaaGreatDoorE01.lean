/-
  THE ENGINE: an interpreter of our own for the model's programs, and the proof that each of its runs is a call of the model, for every start that it sees.
-/
import Derived.AtR
import Derived.Laws.World
set_option autoImplicit true
set_option relaxedAutoImplicit true
set_option linter.unusedVariables false
set_option linter.unusedSimpArgs false
namespace Go.Fal

/-! ## Tries over Nat -/
inductive T (α : Type) : Type where
  | e : T α
  | n (l : T α) (v : Option α) (r : T α) : T α

namespace T
variable {α : Type}

def get : T α → Nat → Option α
  | e, _ => none
  | n _ v _, 0 => v
  | n l _ r, k + 1 => if k % 2 = 0 then get l (k / 2) else get r (k / 2)

def mk1 : Nat → Nat → α → T α
  | 0, _, x => n e (some x) e
  | _ + 1, 0, x => n e (some x) e
  | f + 1, k + 1, x => if k % 2 = 0 then n (mk1 f (k / 2) x) none e else n e none (mk1 f (k / 2) x)

def set : T α → Nat → α → T α
  | e, k, x => mk1 k k x
  | n l _ r, 0, x => n l (some x) r
  | n l v r, k + 1, x => if k % 2 = 0 then n (set l (k / 2) x) v r else n l v (set r (k / 2) x)

@[simp] theorem get_e (k : Nat) : (e : T α).get k = none := by cases k <;> rfl

theorem get_mk1 (x : α) : ∀ (f k j : Nat), k ≤ f → (mk1 f k x).get j = if j = k then some x else none := by
  intro f
  induction f with
  | zero =>
    intro k j h
    obtain rfl : k = 0 := by omega
    cases j <;> simp [mk1, get]
  | succ f ih =>
    intro k j h
    cases k with
    | zero => cases j <;> simp [mk1, get]
    | succ k =>
      simp only [mk1]
      cases j with
      | zero => split <;> simp [get]
      | succ j =>
        split <;> rename_i hk
        · simp only [get]
          split <;> rename_i hj
          · rw [ih _ _ (by omega)]
            by_cases e : j = k
            · subst e; simp
            · rw [if_neg (by omega), if_neg (by omega)]
          · rw [if_neg (by omega)]
        · simp only [get]
          split <;> rename_i hj
          · rw [if_neg (by omega)]
          · rw [ih _ _ (by omega)]
            by_cases e : j = k
            · subst e; simp
            · rw [if_neg (by omega), if_neg (by omega)]

theorem get_set (t : T α) : ∀ (k : Nat) (x : α) (j : Nat), (t.set k x).get j = if j = k then some x else t.get j := by
  induction t with
  | e => intro k x j; simp only [set, get_e]; exact get_mk1 x k k j (Nat.le_refl _)
  | n l v r ihl ihr =>
    intro k x j
    cases k with
    | zero => cases j <;> simp [set, get]
    | succ k =>
      simp only [set]
      cases j with
      | zero => split <;> simp [get]
      | succ j =>
        split <;> rename_i hk
        · simp only [get]
          split <;> rename_i hj
          · rw [ihl]
            by_cases e : j = k
            · subst e; simp
            · rw [if_neg (by omega), if_neg (by omega)]
          · rw [if_neg (by omega)]
        · simp only [get]
          split <;> rename_i hj
          · rw [if_neg (by omega)]
          · rw [ihr]
            by_cases e : j = k
            · subst e; simp
            · rw [if_neg (by omega), if_neg (by omega)]

theorem get_set_same (t : T α) (k : Nat) (x : α) : (t.set k x).get k = some x := by rw [get_set]; simp
theorem get_set_ne (t : T α) {k j : Nat} (x : α) (h : j ≠ k) : (t.set k x).get j = t.get j := by rw [get_set]; simp [h]

theorem set_mk1 (x y : α) : ∀ (f k : Nat), k ≤ f → (mk1 f k x).set k y = mk1 f k y := by
  intro f
  induction f with
  | zero => intro k h; obtain rfl : k = 0 := by omega
            rfl
  | succ f ih =>
    intro k h
    cases k with
    | zero => rfl
    | succ k =>
      simp only [mk1]
      split <;> rename_i hk
      · simp only [set, hk, if_true]; rw [ih _ (by omega)]
      · simp only [set, hk, if_false]; rw [ih _ (by omega)]

theorem set_set (t : T α) : ∀ (k : Nat) (x y : α), (t.set k x).set k y = t.set k y := by
  induction t with
  | e => intro k x y; simp only [set]; exact set_mk1 x y k k (Nat.le_refl _)
  | n l v r ihl ihr =>
    intro k x y
    cases k with
    | zero => rfl
    | succ k =>
      simp only [set]
      by_cases hk : k % 2 = 0
      · simp only [hk, if_true, set, ihl]
      · simp only [hk, if_false, set, ihr]

/-- stores of a row of values from `k` on -/
def sets : T α → Nat → List α → T α
  | t, _, [] => t
  | t, k, x :: xs => sets (t.set k x) (k + 1) xs

theorem get_sets (xs : List α) : ∀ (t : T α) (k j : Nat), (t.sets k xs).get j = if k ≤ j ∧ j < k + xs.length then xs[j - k]? else t.get j := by
  induction xs with
  | nil => intro t k j; simp only [sets, List.length_nil]; rw [if_neg (by omega)]
  | cons x xs ih =>
    intro t k j
    simp only [sets, List.length_cons]
    rw [ih, get_set]
    by_cases h1 : j = k
    · subst h1
      rw [if_neg (by omega), if_pos rfl, if_pos (by omega)]; simp
    · by_cases h2 : k ≤ j ∧ j < k + (xs.length + 1)
      · rw [if_pos (by omega), if_pos h2]
        obtain ⟨d, rfl⟩ : ∃ d, j = k + 1 + d := ⟨j - (k + 1), by omega⟩
        rw [show k + 1 + d - (k + 1) = d by omega, show k + 1 + d - k = d + 1 by omega]; simp
      · rw [if_neg (by omega), if_neg h1, if_neg h2]
end T

/-! ## Values -/
inductive V : Type where
  | bool (b : Bool)
  | int (k : IntKind) (n : Int)
  | str (s : List Nat)
  | nilp
  | ptr (b off : Nat)
  | nils
  | slice (b off len cap es : Nat) (ex : Bool)
  | nilm
  | map (b : Nat)
  | nilf
  | func (fn : Fn) (first cap : List V)
  | yield (b : Nat)
  | nili
  | iface (t : Nat) (v : V)
  | agg (cs : List V)
  | tup (vs : List V)

instance : Inhabited V := ⟨.tup []⟩

def V.cells : V → List V
  | .agg cs => cs
  | v => [v]

/-- can it lie in one cell? -/
def V.plain : V → Bool
  | .agg _ | .tup _ => false
  | _ => true

def bytesOf (s : ByteArray) : List Nat := s.data.toList.map (·.toNat)

/-- Where the blocks lie: number and how many cells. -/
abbrev Phi := Nat → Option (Nat × Nat)

mutual
inductive VR (φ : Phi) : V → Value → Prop
  | bool (b : Bool) : VR φ (.bool b) (.bool b)
  | int (k : IntKind) (n : Int) : VR φ (.int k n) (.int k n)
  | str (s : ByteArray) : VR φ (.str (bytesOf s)) (.string s)
  | nilp : VR φ .nilp (.pointer none)
  | ptr {b off B N : Nat} : φ b = some (B, N) → VR φ (.ptr b off) (.pointer (some ⟨B, off, none⟩))
  | nils : VR φ .nils (.slice none 0 0)
  | slice {b off len cap es : Nat} {ex : Bool} {B N o' cap' : Nat} : φ b = some (B, N) → len ≤ cap' → cap ≤ cap' → (ex = true → cap' = cap) →
      (cap' ≠ 0 → o' = off) → o' + cap' * es ≤ N → VR φ (.slice b off len cap es ex) (.slice (some ⟨B, o', none⟩) len cap')
  | nilm : VR φ .nilm (.map none)
  | map {b B N : Nat} : φ b = some (B, N) → VR φ (.map b) (.map (some B))
  | nilf : VR φ .nilf .nilFunc
  | func {fn : Fn} {first cap : List V} {first' cap' : Array Value} : VRs φ first first'.toList → VRs φ cap cap'.toList → VR φ (.func fn first cap) (.func fn first' cap')
  | yield {b B N : Nat} : φ b = some (B, N) → VR φ (.yield b) (.func (.yield B) #[] #[])
  | nili : VR φ .nili .nilIface
  | iface {t : Nat} {v : V} {x : Value} : VR φ v x → VR φ (.iface t v) (.iface t x)
  | agg {cs : List V} {xs : Array Value} : VRs φ cs xs.toList → VR φ (.agg cs) (.agg xs)
  | tup {cs : List V} {xs : Array Value} : VRs φ cs xs.toList → VR φ (.tup cs) (.tuple xs)
inductive VRs (φ : Phi) : List V → List Value → Prop
  | nil : VRs φ [] []
  | cons {v : V} {x : Value} {vs : List V} {xs : List Value} : VR φ v x → VRs φ vs xs → VRs φ (v :: vs) (x :: xs)
end

def Phi.le (φ ψ : Phi) : Prop := ∀ b p, φ b = some p → ψ b = some p
theorem Phi.le_refl (φ : Phi) : φ.le φ := fun _ _ h => h
theorem Phi.le_trans {φ ψ χ : Phi} (h : φ.le ψ) (h' : ψ.le χ) : φ.le χ := fun b p e => h' b p (h b p e)

theorem VR.mono {φ ψ : Phi} (h : φ.le ψ) {v : V} {x : Value} (hv : VR φ v x) : VR ψ v x := by
  refine VR.rec (φ := φ) (motive_1 := fun v x _ => VR ψ v x) (motive_2 := fun v x _ => VRs ψ v x) ?_ ?_ ?_ ?_ ?_ ?_ ?_ ?_ ?_ ?_ ?_ ?_ ?_ ?_ ?_ ?_ ?_ ?_ hv
  · exact fun b => .bool b
  · exact fun k n => .int k n
  · exact fun s => .str s
  · exact .nilp
  · exact fun e => .ptr (h _ _ e)
  · exact .nils
  · exact fun e a b c d f => .slice (h _ _ e) a b c d f
  · exact .nilm
  · exact fun e => .map (h _ _ e)
  · exact .nilf
  · exact fun _ _ a b => .func a b
  · exact fun e => .yield (h _ _ e)
  · exact .nili
  · exact fun _ a => .iface a
  · exact fun _ a => .agg a
  · exact fun _ a => .tup a
  · exact .nil
  · exact fun _ _ a b => .cons a b

theorem VRs.mono {φ ψ : Phi} (h : φ.le ψ) {vs : List V} {xs : List Value} (hv : VRs φ vs xs) : VRs ψ vs xs := by
  induction vs generalizing xs with
  | nil => cases hv; exact .nil
  | cons v vs ih => cases hv with | cons a b => exact .cons (a.mono h) (ih b)

theorem VRs.length {φ : Phi} {vs : List V} {xs : List Value} (h : VRs φ vs xs) : vs.length = xs.length := by
  induction vs generalizing xs with
  | nil => cases h; rfl
  | cons v vs ih => cases h with | cons a b => simp [ih b]

theorem VRs.get {φ : Phi} {vs : List V} {xs : List Value} (h : VRs φ vs xs) {i : Nat} {v : V} (hi : vs[i]? = some v) : ∃ x, xs[i]? = some x ∧ VR φ v x := by
  induction vs generalizing xs i with
  | nil => simp at hi
  | cons u vs ih =>
    cases h with
    | cons a b =>
      cases i with
      | zero => simp at hi; subst hi; exact ⟨_, rfl, a⟩
      | succ i => simpa using ih b (by simpa using hi)

theorem VRs.append {φ : Phi} {vs us : List V} {xs ys : List Value} (h : VRs φ vs xs) (h' : VRs φ us ys) : VRs φ (vs ++ us) (xs ++ ys) := by
  induction vs generalizing xs with
  | nil => cases h; exact h'
  | cons v vs ih => cases h with | cons a b => exact .cons a (ih b)

theorem VRs.of_get {φ : Phi} : ∀ {vs : List V} {xs : List Value}, vs.length = xs.length → (∀ (i : Nat) v x, vs[i]? = some v → xs[i]? = some x → VR φ v x) → VRs φ vs xs
  | [], [], _, _ => .nil
  | v :: vs, x :: xs, hl, h => .cons (h 0 v x rfl rfl) (VRs.of_get (by simpa using hl) fun i v x a b => h (i + 1) v x (by simpa using a) (by simpa using b))

theorem VRs.take {φ : Phi} {vs : List V} {xs : List Value} (h : VRs φ vs xs) (k : Nat) : VRs φ (vs.take k) (xs.take k) := by
  induction vs generalizing xs k with
  | nil => cases h; simp; exact .nil
  | cons v vs ih => cases h with | cons a b => cases k with | zero => exact .nil | succ k => exact .cons a (ih b k)
theorem VRs.drop {φ : Phi} {vs : List V} {xs : List Value} (h : VRs φ vs xs) (k : Nat) : VRs φ (vs.drop k) (xs.drop k) := by
  induction vs generalizing xs k with
  | nil => cases h; simp; exact .nil
  | cons v vs ih => cases h with | cons a b => cases k with | zero => exact .cons a b | succ k => exact ih b k

theorem VRs.set {φ : Phi} {vs : List V} {xs : List Value} (h : VRs φ vs xs) (k : Nat) {v : V} {x : Value} (hv : VR φ v x) : VRs φ (vs.set k v) (xs.set k x) := by
  induction vs generalizing xs k with
  | nil => cases h; simp; exact .nil
  | cons u vs ih => cases h with | cons a b => cases k with | zero => exact .cons hv b | succ k => exact .cons a (ih b k)

theorem VR.cells {φ : Phi} {v : V} {x : Value} (h : VR φ v x) : VRs φ v.cells x.cells.toList := by
  cases h <;> first | (rename_i a; exact a) | (exact .cons (by constructor <;> assumption) .nil)

theorem VR.plain {φ : Phi} {v : V} {x : Value} (h : VR φ v x) (hp : v.plain = true) : x.oneCell' = true := by
  cases h <;> first | rfl | simp [V.plain] at hp

theorem VR.plain_cells {φ : Phi} {v : V} {x : Value} (h : VR φ v x) (hp : v.plain = true) : v.cells = [v] ∧ x.cells = #[x] := by
  cases h <;> first | exact ⟨rfl, rfl⟩ | simp [V.plain] at hp

end Go.Fal
namespace Go.Fal

/-! ## Blocks and the heap -/
inductive O : Type where
  | cells (rw pl : Bool) (n : Nat) (z : List V) (t : T V)
  | map (es : List (V × V × Nat)) (clock : Nat)
  | siter (s : List Nat) (pos : Nat)
  | miter (m : Option Nat) (since : Nat) (seen : List Nat) (stepped : Nat)
  | loop (st : LoopState) (pend : Option Code) (fn nt : Nat) (tm : T V) (ps : Array Tmp) (assign body : Code) (defs : Nat)
  | defd (live : Bool)
  | dead

def O.rw : O → Bool
  | .cells rw .. => rw
  | .dead => false
  | _ => true

def O.live : O → Bool
  | .dead => false
  | _ => true

structure H where
  next : Nat
  t : T O

def H.get (h : H) (b : Nat) : Option O := h.t.get b
def H.put (h : H) (b : Nat) (o : O) : H := { h with t := h.t.set b o }
def H.new (h : H) (o : O) : H := { next := h.next + 1, t := h.t.set h.next o }

@[simp] theorem H.get_put_same (h : H) (b : Nat) (o : O) : (h.put b o).get b = some o := T.get_set_same _ _ _
theorem H.get_put_ne (h : H) {b c : Nat} (o : O) (e : c ≠ b) : (h.put b o).get c = h.get c := T.get_set_ne _ _ e
@[simp] theorem H.get_new_same (h : H) (o : O) : (h.new o).get h.next = some o := T.get_set_same _ _ _
theorem H.get_new_ne (h : H) {c : Nat} (o : O) (e : c ≠ h.next) : (h.new o).get c = h.get c := T.get_set_ne _ _ e
@[simp] theorem H.next_put (h : H) (b : Nat) (o : O) : (h.put b o).next = h.next := rfl
@[simp] theorem H.next_new (h : H) (o : O) : (h.new o).next = h.next + 1 := rfl

/-- a cell: what was stored last, or what lay there at the beginning (a pattern, repeated) -/
def cellAt (z : List V) (t : T V) (i : Nat) : Option V :=
  match t.get i with
  | some v => some v
  | none => z[i % z.length]?

/-! ## What lies in a block -/
def EnvR (φ : Phi) (tm : T V) (xs : Array Value) : Prop := ∀ i v, tm.get i = some v → ∃ x, xs[i]? = some x ∧ VR φ v x

def MapR (φ : Phi) : List (V × V × Nat) → List MapEntry → Prop
  | [], [] => True
  | e :: es, x :: xs => VR φ e.1 x.key ∧ VR φ e.2.1 x.val ∧ e.2.2 = x.born ∧ MapR φ es xs
  | _, _ => False

theorem MapR.mono {φ ψ : Phi} (h : φ.le ψ) : ∀ {es : List (V × V × Nat)} {xs : List MapEntry}, MapR φ es xs → MapR ψ es xs
  | [], [], _ => trivial
  | [], _ :: _, h' => h'.elim
  | _ :: _, [], h' => h'.elim
  | _ :: _, _ :: _, ⟨a, b, c, d⟩ => ⟨a.mono h, b.mono h, c, MapR.mono h d⟩

inductive BR (φ : Phi) : O → Nat → Obj → Prop
  | cells {rw pl : Bool} {n : Nat} {z : List V} {t : T V} {C : Array Value} {elem lo hi : Nat} :
      n ≤ C.size → (∀ i v, i < n → cellAt z t i = some v → ∃ x, C[i]? = some x ∧ VR φ v x) →
      (rw = true → ∀ o, o < C.size → ¬ (lo ≤ o ∧ o < hi)) → (pl = true → lo = 0 ∧ hi = 0) →
      BR φ (.cells rw pl n z t) C.size (.cells C elem (lo, hi))
  | map {es : List (V × V × Nat)} {es' : Array MapEntry} {clock : Nat} :
      MapR φ es es'.toList → BR φ (.map es clock) 0 (.map es' clock)
  | siter {s : ByteArray} {pos : Nat} : BR φ (.siter (bytesOf s) pos) 0 (.stringIter s pos)
  | miter {m : Option Nat} {m' : Option Nat} {since : Nat} {seen : Array Nat} {stepped : Nat} :
      (∀ b, m = some b → ∃ B N, φ b = some (B, N) ∧ m' = some B) → (m = none → m' = none) →
      BR φ (.miter m since seen.toList stepped) 0 (.mapIter m' since seen stepped)
  | loop {st : LoopState} {pend : Option Code} {fn nt : Nat} {tm : T V} {xs : Array Value} {ps : Array Tmp} {assign body : Code} {defs D N : Nat} :
      EnvR φ tm xs → xs.size = nt → φ defs = some (D, N) →
      BR φ (.loop st pend fn nt tm ps assign body defs) 0 (.loop { state := st, pending := pend, fn := fn, tmps := xs, params := ps, assign := assign, body := body, defers := D })
  | defd {live : Bool} : BR φ (.defd live) 0 (.deferred (if live then some [] else none))

theorem EnvR.mono {φ ψ : Phi} (h : φ.le ψ) {tm : T V} {xs : Array Value} (he : EnvR φ tm xs) : EnvR ψ tm xs :=
  fun i v hi => let ⟨x, hx, hv⟩ := he i v hi; ⟨x, hx, hv.mono h⟩

theorem BR.mono {φ ψ : Phi} (h : φ.le ψ) {o : O} {N : Nat} {x : Obj} (hb : BR φ o N x) : BR ψ o N x := by
  cases hb with
  | cells a b c d => exact .cells a (fun i v hi hc => let ⟨x, hx, hv⟩ := b i v hi hc; ⟨x, hx, hv.mono h⟩) c d
  | map a => exact .map (a.mono h)
  | siter => exact .siter
  | miter a b => exact .miter (fun b hb => let ⟨B, N, h1, h2⟩ := a b hb; ⟨B, N, h _ _ h1, h2⟩) b
  | loop a b c => exact .loop (a.mono h) b (h _ _ c)
  | defd => exact .defd

/-! ## The relation between the two heaps -/
structure Sim (φ : Phi) (h : H) (w : World) : Prop where
  dom : ∀ b o, h.get b = some o → b < h.next
  blk : ∀ b o, h.get b = some o → o.live = true → ∃ B N x, φ b = some (B, N) ∧ w.heap[B]? = some x ∧ BR φ o N x
  inj : ∀ b c o u B N M, h.get b = some o → h.get c = some u → o.live = true → u.live = true → φ b = some (B, N) → φ c = some (B, M) → b = c

/-- the blocks that may be written -/
def Foot (φ : Phi) (h : H) (k : Nat) : Prop := ∃ b o N, h.get b = some o ∧ o.rw = true ∧ φ b = some (k, N)

/-- What a run does. -/
structure Tr (φ : Phi) (h : H) (w : World) (φ' : Phi) (h' : H) (w' : World) : Prop where
  le : φ.le φ'
  fresh : ∀ b, (b < h.next ∨ h'.next ≤ b) → φ' b = φ b
  next : h.next ≤ h'.next
  size : w.heap.size ≤ w'.heap.size
  os : w'.os = w.os
  tape : w'.tape = w.tape
  output : w'.output = w.output
  keep : ∀ k, k < w.heap.size → ¬ Foot φ h k → w'.heap[k]? = w.heap[k]?
  foot : ∀ k, Foot φ' h' k → Foot φ h k ∨ w.heap.size ≤ k
  old : ∀ b o, h'.get b = some o → b < h.next → o.live = true → ∃ u, h.get b = some u ∧ u.live = true ∧ u.rw = o.rw
  newrw : ∀ b o, h'.get b = some o → h.next ≤ b → o.live = true → o.rw = true
  kept : ∀ b o, h.get b = some o → ∃ u, h'.get b = some u

theorem O.live_of_rw {o : O} (h : o.rw = true) : o.live = true := by cases o <;> first | rfl | simp [O.rw] at h

theorem Tr.refl (φ : Phi) {h : H} {w : World} (hd : ∀ b o, h.get b = some o → b < h.next) : Tr φ h w φ h w :=
  ⟨φ.le_refl, fun _ _ => rfl, Nat.le_refl _, Nat.le_refl _, rfl, rfl, rfl, fun _ _ _ => rfl, fun _ h => .inl h, fun b o hb _ hl => ⟨o, hb, hl, rfl⟩,
   fun b o hb hn _ => absurd (hd b o hb) (by omega), fun _ o h => ⟨o, h⟩⟩

theorem Tr.trans {φ₀ φ₁ φ₂ : Phi} {h₀ h₁ h₂ : H} {w₀ w₁ w₂ : World} (a : Tr φ₀ h₀ w₀ φ₁ h₁ w₁) (b : Tr φ₁ h₁ w₁ φ₂ h₂ w₂) : Tr φ₀ h₀ w₀ φ₂ h₂ w₂ where
  le := Phi.le_trans a.le b.le
  fresh := fun k hk => by
    have := a.next; have := b.next
    rw [b.fresh k (by omega), a.fresh k (by omega)]
  next := Nat.le_trans a.next b.next
  size := Nat.le_trans a.size b.size
  os := b.os.trans a.os
  tape := b.tape.trans a.tape
  output := b.output.trans a.output
  keep := fun k hk hf => by
    rw [b.keep k (Nat.lt_of_lt_of_le hk a.size) (fun hf' => (a.foot k hf').elim hf (by omega)), a.keep k hk hf]
  foot := fun k hk => (b.foot k hk).elim (a.foot k) (fun h => .inr (Nat.le_trans a.size h))
  old := fun k o hk hn hl => by
    obtain ⟨u, hu, hul, hur⟩ := b.old k o hk (Nat.lt_of_lt_of_le hn a.next) hl
    obtain ⟨v, hv, hvl, hvr⟩ := a.old k u hu hn hul
    exact ⟨v, hv, hvl, hvr.trans hur⟩
  newrw := fun k o hk hn hl => by
    rcases Nat.lt_or_ge k h₁.next with hlt | hge
    · obtain ⟨u, hu, hul, hur⟩ := b.old k o hk hlt hl
      rw [← hur]; exact a.newrw k u hu hn hul
    · exact b.newrw k o hk hge hl
  kept := fun k o hk => let ⟨u, hu⟩ := a.kept k o hk; b.kept k u hu

/-- A draw. -/
theorem Tr.drew {φ : Phi} {h : H} {w : World} (hd : ∀ b o, h.get b = some o → b < h.next) : Tr φ h w φ h w.drew :=
  ⟨φ.le_refl, fun _ _ => rfl, Nat.le_refl _, Nat.le_refl _, rfl, rfl, rfl, fun _ _ _ => rfl, fun _ h => .inl h, fun b o hb _ hl => ⟨o, hb, hl, rfl⟩,
   fun b o hb hn _ => absurd (hd b o hb) (by omega), fun _ o h => ⟨o, h⟩⟩
theorem Sim.drew {φ : Phi} {h : H} {w : World} (s : Sim φ h w) : Sim φ h w.drew := ⟨s.dom, s.blk, s.inj⟩

/-! ## A new block -/
def Phi.add (φ : Phi) (b : Nat) (p : Nat × Nat) : Phi := fun c => if c = b then some p else φ c
@[simp] theorem Phi.add_same (φ : Phi) (b : Nat) (p : Nat × Nat) : φ.add b p b = some p := by simp [Phi.add]
theorem Phi.add_ne (φ : Phi) {b c : Nat} (p : Nat × Nat) (h : c ≠ b) : φ.add b p c = φ c := by simp [Phi.add, h]
theorem Phi.le_add {φ : Phi} {b : Nat} (p : Nat × Nat) (h : φ b = none) : φ.le (φ.add b p) := fun c q hc => by
  by_cases e : c = b
  · subst e; rw [h] at hc; cases hc
  · rw [Phi.add_ne _ _ e]; exact hc

theorem heap_push_old (w : World) (o : Obj) {k : Nat} (h : k < w.heap.size) : (w.alloc o).heap[k]? = w.heap[k]? := by
  show (w.heap.push o)[k]? = _
  rw [Array.getElem?_push, if_neg (by omega)]
theorem heap_push_new (w : World) (o : Obj) : (w.alloc o).heap[w.heap.size]? = some o := by
  show (w.heap.push o)[w.heap.size]? = _
  rw [Array.getElem?_push, if_pos rfl]

theorem lt_of_heap {w : World} {k : Nat} {x : Obj} (h : w.heap[k]? = some x) : k < w.heap.size := (Array.getElem?_eq_some_iff.1 h).1

theorem new_block {φ : Phi} {h : H} {w : World} (s : Sim φ h w) (hf : φ h.next = none) (o : O) (x : Obj) (N : Nat) (hrw : o.rw = true)
    (hb : BR (φ.add h.next (w.heap.size, N)) o N x) :
    Tr φ h w (φ.add h.next (w.heap.size, N)) (h.new o) (w.alloc x) ∧ Sim (φ.add h.next (w.heap.size, N)) (h.new o) (w.alloc x) := by
  have hle : φ.le (φ.add h.next (w.heap.size, N)) := Phi.le_add _ hf
  refine ⟨⟨hle, ?_, by simp, by simp, rfl, rfl, rfl, fun k hk _ => heap_push_old w x hk, ?_, ?_, ?_, fun b u hg => ⟨u, by rw [H.get_new_ne _ _ (by have := s.dom b u hg; omega)]; exact hg⟩⟩, ⟨?_, ?_, ?_⟩⟩
  · intro b hb
    simp only [H.next_new] at hb
    exact Phi.add_ne _ _ (by omega)
  · rintro k ⟨b, u, M, hg, hr, hp⟩
    by_cases e : b = h.next
    · subst e; simp at hp; right; omega
    · rw [H.get_new_ne _ _ e] at hg; rw [Phi.add_ne _ _ e] at hp; exact .inl ⟨b, u, M, hg, hr, hp⟩
  · intro b u hg hn hl
    rw [H.get_new_ne _ _ (by omega)] at hg
    exact ⟨u, hg, hl, rfl⟩
  · intro b u hg hn hl
    by_cases e : b = h.next
    · subst e; simp at hg; subst hg; exact hrw
    · rw [H.get_new_ne _ _ e] at hg; exact absurd (s.dom b u hg) (by omega)
  · intro b u hg
    by_cases e : b = h.next
    · subst e; simp
    · rw [H.get_new_ne _ _ e] at hg; have := s.dom b u hg; simp; omega
  · intro b u hg hl
    by_cases e : b = h.next
    · subst e
      simp at hg; subst hg
      exact ⟨_, _, x, Phi.add_same _ _ _, heap_push_new w x, hb⟩
    · rw [H.get_new_ne _ _ e] at hg
      obtain ⟨B, M, y, hp, hh, hbr⟩ := s.blk b u hg hl
      exact ⟨B, M, y, by rw [Phi.add_ne _ _ e]; exact hp, by rw [heap_push_old w x (lt_of_heap hh)]; exact hh, hbr.mono hle⟩
  · intro b c u v B M M' hg hg' hl hl' hp hp'
    by_cases e : b = h.next
    · subst e
      by_cases e' : c = h.next
      · exact e'.symm
      · rw [H.get_new_ne _ _ e'] at hg'
        rw [Phi.add_ne _ _ e'] at hp'
        simp at hp
        obtain ⟨B', M'', y, hq, hh, _⟩ := s.blk c v hg' hl'
        rw [hp'] at hq; cases hq
        have := lt_of_heap hh; omega
    · rw [H.get_new_ne _ _ e] at hg
      rw [Phi.add_ne _ _ e] at hp
      by_cases e' : c = h.next
      · subst e'
        simp at hp'
        obtain ⟨B', M'', y, hq, hh, _⟩ := s.blk b u hg hl
        rw [hp] at hq; cases hq
        have := lt_of_heap hh; omega
      · rw [H.get_new_ne _ _ e'] at hg'
        rw [Phi.add_ne _ _ e'] at hp'
        exact s.inj b c u v B M M' hg hg' hl hl' hp hp'

/-- A block is turned. -/
theorem put_block {φ : Phi} {h : H} {w w' : World} (s : Sim φ h w) {b : Nat} {o o' : O} {B N : Nat} {x : Obj}
    (hg : h.get b = some o) (hl : o.live = true) (hr : o.rw = true) (hr' : o'.rw = true) (hp : φ b = some (B, N)) (hx : w'.heap[B]? = some x) (hb : BR φ o' N x)
    (hother : ∀ k, k ≠ B → w'.heap[k]? = w.heap[k]?) (hsz : w'.heap.size = w.heap.size) (hos : w'.os = w.os) (ht : w'.tape = w.tape) (ho : w'.output = w.output) :
    Tr φ h w φ (h.put b o') w' ∧ Sim φ (h.put b o') w' := by
  have hl' := O.live_of_rw hr'
  refine ⟨⟨φ.le_refl, fun _ _ => rfl, Nat.le_refl _, by omega, hos, ht, ho, ?_, ?_, ?_, ?_, fun c u hg => by
    by_cases e : c = b
    · exact ⟨o', by rw [e]; simp⟩
    · exact ⟨u, by rw [H.get_put_ne _ _ e]; exact hg⟩⟩, ⟨?_, ?_, ?_⟩⟩
  · intro k hk hf
    exact hother k (fun e => hf (e ▸ ⟨b, o, N, hg, hr, hp⟩))
  · rintro k ⟨c, u, M, hgc, hrc, hpc⟩
    by_cases e : c = b
    · subst e; exact .inl ⟨c, o, M, hg, hr, hpc⟩
    · rw [H.get_put_ne _ _ e] at hgc; exact .inl ⟨c, u, M, hgc, hrc, hpc⟩
  · intro c u hgc hn hlc
    by_cases e : c = b
    · subst e; simp at hgc; subst hgc; exact ⟨o, hg, hl, by rw [hr, hr']⟩
    · rw [H.get_put_ne _ _ e] at hgc; exact ⟨u, hgc, hlc, rfl⟩
  · intro c u hgc hn hlc
    by_cases e : c = b
    · subst e; exact absurd (s.dom c o hg) (by omega)
    · rw [H.get_put_ne _ _ e] at hgc; exact absurd (s.dom c u hgc) (by omega)
  · intro c u hgc
    by_cases e : c = b
    · subst e; exact s.dom c o hg
    · rw [H.get_put_ne _ _ e] at hgc; exact s.dom c u hgc
  · intro c u hgc hlc
    by_cases e : c = b
    · subst e; simp at hgc; subst hgc; exact ⟨B, N, x, hp, hx, hb⟩
    · rw [H.get_put_ne _ _ e] at hgc
      obtain ⟨B', M, y, hq, hh, hbr⟩ := s.blk c u hgc hlc
      refine ⟨B', M, y, hq, ?_, hbr⟩
      rw [hother B' (fun e' => e (s.inj c b u o B' M N hgc hg hlc hl hq (e' ▸ hp)))]
      exact hh
  · intro c d u v B₁ M M' hgc hgd hlc hld hpc hpd
    by_cases e : c = b
    · subst e
      by_cases e' : d = c
      · exact e'.symm
      · rw [H.get_put_ne _ _ e'] at hgd
        exact s.inj c d o v B₁ M M' hg hgd hl hld hpc hpd
    · rw [H.get_put_ne _ _ e] at hgc
      by_cases e' : d = b
      · subst e'; exact s.inj c d u o B₁ M M' hgc hg hlc hl hpc hpd
      · rw [H.get_put_ne _ _ e'] at hgd
        exact s.inj c d u v B₁ M M' hgc hgd hlc hld hpc hpd

end Go.Fal
namespace Go.Fal

@[simp] theorem addr_add (B off n : Nat) : (⟨B, off, none⟩ : Addr).add n = ⟨B, off + n, none⟩ := by
  unfold Addr.add; split
  · subst_vars; rfl
  · rfl

/-! ## Loads -/
def H.load1 (h : H) (b off : Nat) : Option V :=
  match h.get b with
  | some (.cells _ _ n z t) => if off < n then cellAt z t off else none
  | _ => none

def H.loadN (h : H) (b : Nat) : Nat → Nat → Option (List V)
  | _, 0 => some []
  | off, k + 1 => match h.load1 b off with
    | none => none
    | some v => match h.loadN b (off + 1) k with
      | none => none
      | some vs => some (v :: vs)

theorem cell_of_block {w : World} {B : Nat} {C : Array Value} {e : TypeId} {f : Nat × Nat} (h : w.heap[B]? = some (.cells C e f)) (i : Nat) :
    w.cell? ⟨B, i, none⟩ = C[i]? := by simp [World.cell?, h]
theorem frozen_of_block {w : World} {B : Nat} {C : Array Value} {e lo hi : Nat} (h : w.heap[B]? = some (.cells C e (lo, hi))) (i : Nat) :
    w.frozen? ⟨B, i, none⟩ = (decide (lo ≤ i) && decide (i < hi)) := by simp [World.frozen?, h]

theorem load1_sound {φ : Phi} {h : H} {w : World} (s : Sim φ h w) {b off B N : Nat} {v : V} (hl : h.load1 b off = some v) (hp : φ b = some (B, N)) :
    ∃ x, w.cell? ⟨B, off, none⟩ = some x ∧ VR φ v x := by
  unfold H.load1 at hl
  split at hl
  · rename_i rw pl n z t hg
    split at hl
    · rename_i hlt
      obtain ⟨B', M, x, hq, hh, hbr⟩ := s.blk b _ hg rfl
      rw [hp] at hq; cases hq
      cases hbr with
      | cells h1 h2 h3 h4 =>
        obtain ⟨x, hx, hv⟩ := h2 off v hlt hl
        exact ⟨x, by rw [cell_of_block hh]; exact hx, hv⟩
    · cases hl
  · cases hl

theorem load1_phi {φ : Phi} {h : H} {w : World} (s : Sim φ h w) {b off : Nat} {v : V} (hl : h.load1 b off = some v) : ∃ B N, φ b = some (B, N) := by
  unfold H.load1 at hl
  split at hl
  · rename_i hg
    obtain ⟨B', M, x, hq, _⟩ := s.blk b _ hg rfl
    exact ⟨_, _, hq⟩
  · cases hl

theorem loadN_sound {φ : Phi} {h : H} {w : World} (s : Sim φ h w) {b B N : Nat} (hp : φ b = some (B, N)) : ∀ (k off : Nat) (vs : List V), h.loadN b off k = some vs →
    ∃ xs : List Value, xs.length = k ∧ VRs φ vs xs ∧ ∀ (j : Nat) x, xs[j]? = some x → w.cell? ⟨B, off + j, none⟩ = some x := by
  intro k
  induction k with
  | zero => intro off vs h; simp only [H.loadN, Option.some.injEq] at h; subst h; exact ⟨[], rfl, .nil, fun j x h => by simp at h⟩
  | succ k ih =>
    intro off vs hl
    simp only [H.loadN] at hl
    split at hl
    · cases hl
    · rename_i v hv
      split at hl
      · cases hl
      · rename_i us hus
        cases hl
        obtain ⟨x, hx, hvx⟩ := load1_sound s hv hp
        obtain ⟨xs, hlen, hr, hc⟩ := ih (off + 1) us hus
        refine ⟨x :: xs, by simp [hlen], .cons hvx hr, fun j y hj => ?_⟩
        cases j with
        | zero => simp at hj; subst hj; exact hx
        | succ j => rw [show off + (j + 1) = off + 1 + j by omega]; exact hc j y (by simpa using hj)

theorem run_loadCellsFrom' (P : Program) (w : World) (B off : Nat) : ∀ (n i : Nat) (acc : Array Value) (xs : List Value), xs.length = n →
    (∀ (j : Nat) x, xs[j]? = some x → w.cell? ⟨B, off + (i + j), none⟩ = some x) →
    (loadCellsFrom ⟨B, off, none⟩ i n acc).run P w = .ok ⟨acc.toList ++ xs⟩ w := by
  intro n
  induction n with
  | zero =>
    intro i acc xs hl h
    obtain rfl : xs = [] := by cases xs <;> simp_all
    simp [loadCellsFrom]
  | succ n ih =>
    intro i acc xs hl h
    cases xs with
    | nil => simp at hl
    | cons x xs =>
      have h0 := h 0 x rfl
      simp only [loadCellsFrom, Sem.run_bind, addr_add]
      rw [run_load]
      simp only [Nat.add_zero] at h0
      rw [h0]
      simp only [Result.andThen_ok]
      rw [ih (i + 1) (acc.push x) xs (by simpa using hl) (fun j y hj => by
        have := h (j + 1) y (by simpa using hj)
        rw [show off + (i + 1 + j) = off + (i + (j + 1)) by omega]; exact this)]
      simp

theorem run_loadCells' (P : Program) (w : World) (B off n : Nat) (xs : List Value) (hl : xs.length = n)
    (h : ∀ (j : Nat) x, xs[j]? = some x → w.cell? ⟨B, off + j, none⟩ = some x) :
    (loadCells ⟨B, off, none⟩ n).run P w = .ok ⟨xs⟩ w := by
  unfold loadCells
  rw [run_loadCellsFrom' P w B off n 0 #[] xs hl (fun j x hj => by rw [Nat.zero_add]; exact h j x hj)]
  simp

/-! ## Stores -/
def H.store1 (h : H) (b off : Nat) (v : V) : Option H :=
  match h.get b with
  | some (.cells true pl n z t) => if off < n then (if v.plain then some (h.put b (.cells true pl n z (t.set off v))) else none) else none
  | _ => none

def H.storeN (h : H) (b : Nat) : Nat → List V → Option H
  | _, [] => some h
  | off, v :: vs => match h.store1 b off v with
    | none => none
    | some h' => h'.storeN b (off + 1) vs

theorem cellAt_set (z : List V) (t : T V) (k : Nat) (v : V) (i : Nat) : cellAt z (t.set k v) i = if i = k then some v else cellAt z t i := by
  unfold cellAt
  rw [T.get_set]
  by_cases e : i = k
  · simp [e]
  · simp [e]

theorem heap_setCell_same {w : World} {B i : Nat} {C : Array Value} {e : TypeId} {f : Nat × Nat} (h : w.heap[B]? = some (.cells C e f)) (x : Value) :
    (w.setCell ⟨B, i, none⟩ x).heap[B]? = some (.cells (C.setIfInBounds i x) e f) := by
  simp [World.setCell, Array.getElem?_modify, h]
theorem heap_setCell_ne {w : World} {B i k : Nat} (h : k ≠ B) (x : Value) : (w.setCell ⟨B, i, none⟩ x).heap[k]? = w.heap[k]? := by
  simp only [World.setCell, Array.getElem?_modify]
  rw [if_neg (by omega)]

theorem store1_sound {P : Program} {φ : Phi} {h h' : H} {w : World} (s : Sim φ h w) {b off B N : Nat} {v : V} {x : Value} (hs : h.store1 b off v = some h') (hp : φ b = some (B, N))
    (hv : VR φ v x) : ∃ w', (store ⟨B, off, none⟩ x).run P w = .ok () w' ∧ Tr φ h w φ h' w' ∧ Sim φ h' w' ∧ w'.drawn = w.drawn := by
  unfold H.store1 at hs
  split at hs
  · rename_i pl n z t hg
    split at hs
    · rename_i hlt
      split at hs
      · rename_i hpl
        cases hs
        obtain ⟨B', M, y, hq, hh, hbr⟩ := s.blk b _ hg rfl
        rw [hp] at hq; cases hq
        cases hbr with
        | @cells rw pl n z t C elem lo hi h1 h2 h3 h4 =>
          refine ⟨w.setCell ⟨B, off, none⟩ x, ?_, ?_⟩
          · rw [run_store P w _ x _ (hv.plain hpl), cell_of_block hh]
            have : C[off]? = some C[off] := Array.getElem?_eq_getElem (by omega)
            rw [this]
            simp only
            rw [frozen_of_block hh]
            have := h3 rfl off (by omega)
            rw [if_neg (by simp; omega)]
          · have := put_block (w' := w.setCell ⟨B, off, none⟩ x) s (o' := .cells true pl n z (t.set off v)) (x := .cells (C.setIfInBounds off x) elem (lo, hi)) hg rfl rfl rfl hp (heap_setCell_same hh x)
              (by
                have hc : C.size = (C.setIfInBounds off x).size := by simp
                rw [hc]
                refine .cells (by rw [← hc]; exact h1) ?_ (fun _ => by rw [← hc]; exact h3 rfl) h4
                intro i u hi' hu
                rw [cellAt_set] at hu
                split at hu
                · subst_vars; cases hu
                  exact ⟨x, by simp [Array.getElem?_setIfInBounds]; omega, hv⟩
                · rename_i hne
                  obtain ⟨y, hy, hvy⟩ := h2 i u hi' hu
                  exact ⟨y, by rw [Array.getElem?_setIfInBounds_ne (by omega)]; exact hy, hvy⟩)
              (fun k hk => heap_setCell_ne hk x) (by simp [World.setCell]) rfl rfl rfl
            exact ⟨this.1, this.2, rfl⟩
      · cases hs
    · cases hs
  · cases hs

theorem storeN_sound {P : Program} {φ : Phi} {b B N : Nat} (hp : φ b = some (B, N)) (off : Nat) : ∀ (vs : List V) (xs : List Value) (i : Nat) (h h' : H) (w : World), Sim φ h w → h.storeN b (off + i) vs = some h' →
    VRs φ vs xs → ∃ w', (storeCells ⟨B, off, none⟩ xs i).run P w = .ok () w' ∧ Tr φ h w φ h' w' ∧ Sim φ h' w' ∧ w'.drawn = w.drawn := by
  intro vs
  induction vs with
  | nil =>
    intro xs i h h' w s hs hr
    cases hr
    simp only [H.storeN, Option.some.injEq] at hs; subst hs
    exact ⟨w, by simp [storeCells], Tr.refl φ s.dom, s, rfl⟩
  | cons v vs ih =>
    intro xs i h h' w s hs hr
    cases hr with
    | cons hv hr =>
      simp only [H.storeN] at hs
      split at hs
      · cases hs
      · rename_i h₁ h1
        obtain ⟨w₁, hw1, ht1, hs1, hd1⟩ := store1_sound (P := P) s h1 hp hv
        obtain ⟨w₂, hw2, ht2, hs2, hd2⟩ := ih _ (i + 1) h₁ h' w₁ hs1 (by rw [show off + (i + 1) = off + i + 1 by omega]; exact hs) hr
        refine ⟨w₂, ?_, ht1.trans ht2, hs2, hd2.trans hd1⟩
        simp only [storeCells, Sem.run_bind, addr_add]
        rw [hw1]
        simp only [Result.andThen_ok]
        exact hw2

end Go.Fal
namespace Go.Fal

/-! ## Constants -/
def mapO {α β : Type} (f : α → Option β) : List α → Option (List β)
  | [] => some []
  | x :: xs => match f x with
    | none => none
    | some y => match mapO f xs with
      | none => none
      | some ys => some (y :: ys)

def ofVal : Nat → Value → Option V
  | 0, _ => none
  | d + 1, x => match x with
    | .bool b => some (.bool b)
    | .int k n => some (.int k n)
    | .string s => some (.str (bytesOf s))
    | .pointer none => some .nilp
    | .slice none 0 0 => some .nils
    | .map none => some .nilm
    | .nilFunc => some .nilf
    | .nilIface => some .nili
    | .iface t v => match ofVal d v with | some v => some (.iface t v) | none => none
    | .agg cs => match mapO (ofVal d) cs.toList with | some vs => some (.agg vs) | none => none
    | .tuple cs => match mapO (ofVal d) cs.toList with | some vs => some (.tup vs) | none => none
    | _ => none

/-- What the interpreter is handed: the program, and which of its functions are the two of package bytealg that have no body. -/
structure Cfg where
  P : Program
  ng : Nat
  ib : Nat
  ix : Nat
  ml : Nat
  memo : Nat → List V → Option V
  base : H → Bool

def ev (ng : Nat) (tm : T V) : Operand → Option V
  | .tmp t => tm.get t
  | .const v => ofVal 4 v
  | .global g => if g < ng then some (.ptr g 0) else none
  | .func f => some (.func (.func f) [] [])

def evs (ng : Nat) (tm : T V) (l : List Operand) : Option (List V) := mapO (ev ng tm) l

def isAggB (P : Program) (t : TypeId) : Option Bool :=
  match P.underlying t with
  | some (.struct _) | some (.array _ _) => some true
  | some _ => some false
  | none => none

def sizeO (P : Program) (t : TypeId) : Option Nat := match P.info? t with | some i => some i.size | none => none
def zeroO (P : Program) (t : TypeId) : Option V := match P.info? t with
  | some i => match i.zero with | some z => ofVal 4 z | none => none
  | none => none

/-! ## Numbers -/
def intop (op : BinOp) (k : IntKind) (a b : Int) : Option V :=
  match op with
  | .add => some (.int k (k.wrap (a + b)))
  | .sub => some (.int k (k.wrap (a - b)))
  | .mul => some (.int k (k.wrap (a * b)))
  | .quo => if b = 0 then none else some (.int k (k.wrap (a.tdiv b)))
  | .rem => if b = 0 then none else some (.int k (a.tmod b))
  | .and => some (.int k (k.wrap (BitVec.ofInt k.bits a &&& BitVec.ofInt k.bits b).toNat))
  | .or => some (.int k (k.wrap (BitVec.ofInt k.bits a ||| BitVec.ofInt k.bits b).toNat))
  | .xor => some (.int k (k.wrap (BitVec.ofInt k.bits a ^^^ BitVec.ofInt k.bits b).toNat))
  | .andNot => some (.int k (k.wrap (BitVec.ofInt k.bits a &&& ~~~(BitVec.ofInt k.bits b)).toNat))
  | .eql => some (.bool (a == b))
  | .neq => some (.bool (a != b))
  | .lss => some (.bool (decide (a < b)))
  | .leq => some (.bool (decide (a ≤ b)))
  | .gtr => some (.bool (decide (a > b)))
  | .geq => some (.bool (decide (a ≥ b)))
  | .shl => if b < 0 then none else some (.int k (k.wrap (a * 2 ^ (min b.toNat k.bits))))
  | .shr => if b < 0 then none else some (.int k (a.fdiv (2 ^ (min b.toNat k.bits))))

def strless : List Nat → List Nat → Bool
  | _, [] => false
  | [], _ :: _ => true
  | a :: x, b :: y => decide (a < b) || (a == b && strless x y)

def most : Nat := 2 ^ 40

def strop (op : BinOp) (a b : List Nat) : Option V :=
  match op with
  | .add => if a.length + b.length ≤ most then some (.str (a ++ b)) else none
  | .eql => some (.bool (a == b))
  | .neq => some (.bool (!(a == b)))
  | .lss => some (.bool (strless a b))
  | .leq => some (.bool (strless a b || a == b))
  | .gtr => some (.bool (!(strless a b || a == b)))
  | .geq => some (.bool (!strless a b))
  | _ => none

/-! ## Equality -/
def partO (P : Program) (t : TypeId) (cs : List V) (off : Nat) : Option V :=
  match isAggB P t with
  | some true => match sizeO P t with
    | some n => some (.agg ((cs.drop off).take n))
    | none => none
  | some false => cs[off]?
  | none => none

/-- may two addresses be told apart by their blocks? -/
def plainBlk (h : H) (b : Nat) : Bool :=
  match h.get b with
  | some (.cells _ pl _ _ _) => pl
  | _ => false

def veqFields (eq : TypeId → V → V → Option Bool) (P : Program) (xs ys : List V) : List Field → Option Bool
  | [] => some true
  | f :: fs =>
    if f.name = "_" then veqFields eq P xs ys fs else
    match partO P f.type xs f.offset, partO P f.type ys f.offset with
    | some x, some y => match eq f.type x y with
      | some true => veqFields eq P xs ys fs
      | r => r
    | _, _ => none

def veqCells (eq : V → V → Option Bool) (P : Program) (e : TypeId) (n : Nat) (xs ys : List V) : Nat → Nat → Option Bool
  | _, 0 => some true
  | i, k + 1 =>
    match partO P e xs (i * n), partO P e ys (i * n) with
    | some x, some y => match eq x y with
      | some true => veqCells eq P e n xs ys (i + 1) k
      | r => r
    | _, _ => none

def veq (P : Program) (h : H) : Nat → TypeId → V → V → Option Bool
  | 0, _, _, _ => none
  | d + 1, t, x, y =>
    match P.underlying t, x, y with
    | some .bool, .bool a, .bool b => some (a == b)
    | some (.int _), .int k a, .int k' b => if k = k' then some (a == b) else none
    | some .string, .str a, .str b => some (a == b)
    | some (.pointer _), .nilp, .nilp => some true
    | some (.pointer _), .nilp, .ptr _ _ => some false
    | some (.pointer _), .ptr _ _, .nilp => some false
    | some (.pointer e), .ptr b o, .ptr c u =>
      match sizeO P e with
      | some s => if s = 0 then none else
        if b = c then some (o == u) else if plainBlk h b && plainBlk h c then some false else none
      | none => none
    | some (.interface _), .nili, .nili => some true
    | some (.interface _), .nili, .iface _ _ => some false
    | some (.interface _), .iface _ _, .nili => some false
    | some (.struct fs), .agg xs, .agg ys => if P.stoodInHeld t then none else veqFields (veq P h d) P xs ys fs.toList
    | some (.array n e), .agg xs, .agg ys => match sizeO P e with
      | some s => veqCells (veq P h d e) P e s xs ys 0 n
      | none => none
    | some (.slice _), .nils, .nils => some true
    | some (.slice _), .nils, .slice .. => some false
    | some (.slice _), .slice .., .nils => some false
    | some (.map _ _), .nilm, .nilm => some true
    | some (.map _ _), .nilm, .map _ => some false
    | some (.map _ _), .map _, .nilm => some false
    | some (.func _ _ _), .nilf, .nilf => some true
    | some (.func _ _ _), .nilf, .func .. => some false
    | some (.func _ _ _), .func .., .nilf => some false
    | _, _, _ => none

def isConst : Operand → Bool
  | .const _ => true
  | _ => false

/-- the guard ahead of '==' -/
def eqOk (P : Program) (t : TypeId) (ox oy : Operand) (x y : V) : Bool :=
  match x, y with
  | .nili, .nili => isConst ox || isConst oy
  | .agg _, .agg _ => !P.eqGuardType P.depth t
  | _, _ => true

def binO (P : Program) (h : H) (op : BinOp) (t : TypeId) (ox oy : Operand) (x y : V) : Option V :=
  match x, y with
  | .int k a, .int k' b => match op with
    | .shl | .shr => intop op k a b
    | _ => if k = k' then intop op k a b else none
  | .str a, .str b => strop op a b
  | x, y => match op with
    | .eql => if eqOk P t ox oy x y then (match veq P h 40 t x y with | some b => some (.bool b) | none => none) else none
    | .neq => if eqOk P t ox oy x y then (match veq P h 40 t x y with | some b => some (.bool (!b)) | none => none) else none
    | _ => none

def unO (op : UnOp) (x : V) : Option V :=
  match op, x with
  | .neg, .int k n => intop .sub k 0 n
  | .xor, .int k n => intop .xor k (if k.signed then -1 else k.max) n
  | .not, .bool b => some (.bool (!b))
  | _, _ => none

/-! ## Memory -/
def ofCells (vs : List V) : O := .cells true true vs.length vs .e

def newCells (h : H) (vs : List V) : Option (V × H) :=
  if vs.all V.plain then some (.ptr h.next 0, h.new (ofCells vs)) else none

def loadO (P : Program) (h : H) (t : TypeId) (x : V) : Option V :=
  match x with
  | .ptr b off => match isAggB P t with
    | some true => match sizeO P t with
      | some n => match h.loadN b off n with
        | some vs => match h.get b with
          | some o => if o.live then some (.agg vs) else none
          | none => none
        | none => none
      | none => none
    | some false => h.load1 b off
    | none => none
  | _ => none

def storeO (P : Program) (h : H) (t : TypeId) (x v : V) : Option H :=
  match x with
  | .ptr b off => match sizeO P t with
    | some n => if v.cells.length = n then h.storeN b off v.cells else none
    | none => none
  | _ => none

def fillO (place : Nat → Option (Nat × Nat)) (cells : List V) : List (Nat × V) → Option (List V)
  | [] => some cells
  | (i, v) :: rest =>
    match place i with
    | none => none
    | some (off, size) =>
      if v.cells.length = size ∧ off + v.cells.length ≤ cells.length
      then fillO place (cells.take off ++ v.cells ++ cells.drop (off + v.cells.length)) rest else none

def placesO (P : Program) (fs : List Field) : Option (List (Nat × Nat)) := mapO (fun f => match sizeO P f.type with | some n => some (f.offset, n) | none => none) fs

def evParts (ng : Nat) (tm : T V) (l : List (Nat × Operand)) : Option (List (Nat × V)) := mapO (fun p => match ev ng tm p.2 with | some v => some (p.1, v) | none => none) l

def buildO (P : Program) (t : TypeId) (parts : List (Nat × V)) : Option V :=
  match zeroO P t with
  | none => none
  | some z => match P.underlying t with
    | some (.struct fs) => match placesO P fs.toList with
      | some pl => match fillO (pl[·]?) z.cells parts with | some cs => some (.agg cs) | none => none
      | none => none
    | some (.array _ e) => match sizeO P e with
      | some n => match fillO (fun i => some (i * n, n)) z.cells parts with | some cs => some (.agg cs) | none => none
      | none => none
    | _ => none

def rep (z : List V) : Nat → List V
  | 0 => []
  | n + 1 => z ++ rep z n

def buildSliceO (P : Program) (h : H) (t : TypeId) (len : Nat) (parts : List (Nat × V)) : Option (V × H) :=
  match P.underlying t with
  | some (.slice e) => match sizeO P e with
    | some n => if len * n ≤ 65536 then (match zeroO P e with
      | some z => if z.cells.length = n then (match fillO (fun i => some (i * n, n)) (rep z.cells len) parts with
        | some cs => if cs.all V.plain then some (.slice h.next 0 len len n true, h.new (ofCells cs)) else none
        | none => none) else none
      | none => none) else none
    | none => none
  | _ => none

def makeSliceO (P : Program) (h : H) (t : TypeId) (l c : V) : Option (V × H) :=
  match P.underlying t, l, c with
  | some (.slice e), .int _ l, .int _ c => match P.info? e with
    | some i => match zeroO P e with
      | some z =>
        if 0 ≤ l ∧ l ≤ c ∧ c ≤ 1048576 ∧ i.bytes ≤ 1048576 ∧ z.cells.length = i.size ∧ z.cells.all V.plain = true
        then some (.slice h.next 0 l.toNat c.toNat i.size true, h.new (.cells true true (c.toNat * i.size) z.cells .e)) else none
      | none => none
    | none => none
  | _, _, _ => none

def asNat (v : V) : Option Nat :=
  match v with
  | .int _ n => if 0 ≤ n then some n.toNat else none
  | _ => none

def fieldAddrO (P : Program) (s : TypeId) (x : V) (f : Nat) : Option V :=
  match P.underlying s, x with
  | some (.struct fs), .ptr b off => match fs[f]? with
    | some f => match sizeO P f.type with
      | some n => if n = 0 then none else some (.ptr b (off + f.offset))
      | none => none
    | none => none
  | _, _ => none

def fieldO (P : Program) (s : TypeId) (x : V) (f : Nat) : Option V :=
  match P.underlying s, x with
  | some (.struct fs), .agg cs => match fs[f]? with
    | some f => partO P f.type cs f.offset
    | none => none
  | _, _ => none

def indexAddrO (P : Program) (t : TypeId) (x ix : V) : Option V :=
  match asNat ix with
  | none => none
  | some i => match P.underlying t, x with
    | some (.slice e), .slice b off len _ _ _ => if i < len then (match sizeO P e with | some n => some (.ptr b (off + i * n)) | none => none) else none
    | some (.array len e), .ptr b off => if i < len then (match sizeO P e with | some n => some (.ptr b (off + i * n)) | none => none) else none
    | _, _ => none

def indexO (P : Program) (t : TypeId) (x ix : V) : Option V :=
  match asNat ix with
  | none => none
  | some i => match P.underlying t, x with
    | some .string, .str s => match s[i]? with | some c => some (.int .u8 c) | none => none
    | some (.array len e), .agg cs => if i < len then (match sizeO P e with | some n => partO P e cs (i * n) | none => none) else none
    | _, _ => none

def boundO (d : Nat) : Option V → Option Nat
  | none => some d
  | some v => asNat v

def sliceO (P : Program) (h : H) (t : TypeId) (x : V) (lo hi mx : Option V) : Option V :=
  match P.underlying t, x with
  | some .string, .str s => match mx with
    | some _ => none
    | none => match boundO s.length hi, boundO 0 lo with
      | some u, some l => if l ≤ u ∧ u ≤ s.length then some (.str ((s.drop l).take (u - l))) else none
      | _, _ => none
  | some (.slice e), .nils => if (!mx.isSome || hi.isSome) then (match sizeO P e, boundO 0 mx, boundO 0 hi, boundO 0 lo with
    | some _, some 0, some 0, some 0 => some .nils
    | _, _, _, _ => none) else none
  | some (.slice e), .slice b off len cap es ex => match sizeO P e, boundO cap mx, boundO len hi, boundO 0 lo with
    | some n, some m, some u, some l =>
      if n = es ∧ len ≤ cap ∧ l ≤ u ∧ u ≤ m ∧ m ≤ cap ∧ (!mx.isSome || hi.isSome) = true then some (.slice b (off + l * n) (u - l) (m - l) es (ex || mx.isSome)) else none
    | _, _, _, _ => none
  | some (.pointer a), .ptr b off => match P.underlying a with
    | some (.array k e) => arr k e b off
    | _ => none
  | some (.array k e), .ptr b off => arr k e b off
  | _, _ => none
where arr (k : Nat) (e : TypeId) (b off : Nat) : Option V :=
  match sizeO P e, boundO k mx, boundO k hi, boundO 0 lo with
  | some n, some m, some u, some l =>
    if l ≤ u ∧ u ≤ m ∧ m ≤ k ∧ (!mx.isSome || hi.isSome) = true then (match h.get b with
      | some (.cells _ _ nn _ _) => if off + k * n ≤ nn then some (.slice b (off + l * n) (u - l) (m - l) n true) else none
      | _ => none) else none
  | _, _, _, _ => none

/-! ## Conversions -/
def byteO (v : V) : Option Nat :=
  match v with
  | .int .u8 n => if 0 ≤ n ∧ n < 256 then some n.toNat else none
  | _ => none

def convO (P : Program) (h : H) (src dst : TypeId) (x : V) : Option (V × H) :=
  match P.underlying src, P.underlying dst, x with
  | some (.int _), some (.int k), .int _ n => some (.int k (k.wrap n), h)
  | some (.int _), some .string, .int _ n => some (.str (bytesOf (Utf8.encode n)), h)
  | some .string, some .string, .str s => some (.str s, h)
  | some .string, some (.slice e), .str s => match P.underlying e with
    | some (.int .u8) => if s.length ≤ most then some (.slice h.next 0 s.length s.length 1 false, h.new (.cells true false s.length (s.map fun (c : Nat) => V.int .u8 c) .e)) else none
    | _ => none
  | some (.slice e), some .string, .nils => match P.underlying e with
    | some (.int .u8) => some (.str [], h)
    | _ => none
  | some (.slice e), some .string, .slice b off len _ _ _ => match P.underlying e with
    | some (.int .u8) => match h.loadN b off len with
      | some vs => match mapO byteO vs with
        | some s => match h.get b with
          | some o => if o.live then some (.str s, h) else none
          | none => none
        | none => none
      | none => none
    | _ => none
  | _, _, _ => none

/-! ## append, copy, len -/
def lenO (x : V) : Option Nat :=
  match x with
  | .nils => some 0
  | .slice _ _ len _ _ _ => some len
  | .str s => some s.length
  | _ => none

/-- the first n elements' cells -/
def firstO (h : H) (size n : Nat) (x : V) : Option (List V) :=
  match x with
  | .nils => if n * size = 0 then some [] else none
  | .slice b off len _ _ _ => if n = 0 then some [] else if n ≤ len then (match h.get b with
    | some o => if o.live then h.loadN b off (n * size) else none
    | none => none) else none
  | .str s => some ((s.take n).map fun (c : Nat) => V.int .u8 c)
  | _ => none

def appendO (P : Program) (h : H) (t : TypeId) (s x : V) : Option (V × H) :=
  match P.underlying t with
  | some (.slice e) => match P.info? e with
    | some i => match lenO x with
      | some n => match firstO h i.size n x with
        | some new =>
          if ((match i.zero with | some z => z.cells.size == i.size | none => false) && new.all V.plain && new.length == n * i.size) = true then
            match s with
            | .nils => if n = 0 then some (.nils, h) else if n ≤ most ∧ (2 * n + 200) * i.bytes ≤ 2 ^ 47 then some (.slice h.next 0 n n i.size false, h.new (ofCells new)) else none
            | .slice b off len cap es ex =>
              if es = i.size ∧ len ≤ cap ∧ len + n ≤ most ∧ (2 * (len + n) + 200) * i.bytes ≤ 2 ^ 47 then
                if n = 0 then some (.slice b off len cap es ex, h)
                else if len + n ≤ cap then
                  -- there is room, whatever the whole of it is
                  (match h.storeN b (off + len * es) new with
                    | some h' => some (.slice b off (len + n) cap es ex, h')
                    | none => none)
                else if ex then
                  -- there is no room: a new row; the old one stays
                  (match firstO h es len (.slice b off len cap es ex) with
                    | some old => if old.length = len * es then some (.slice h.next 0 (len + n) (len + n) es false, h.new (ofCells (old ++ new))) else none
                    | none => none)
                else
                  -- nobody knows: the old row is gone either way
                  (match h.get b with
                    | some (.cells true pl nn z t) =>
                      if off = 0 ∧ len * es ≤ nn then some (.slice h.next 0 (len + n) (len + n) es false, (h.put b .dead).new (.cells true pl ((len + n) * es) z (t.sets (len * es) new)))
                      else none
                    | _ => none)
              else none
            | _ => none
          else none
        | none => none
      | none => none
    | none => none
  | _ => none

def copyO (P : Program) (h : H) (t : TypeId) (d s : V) : Option (V × H) :=
  match P.underlying t with
  | some (.slice e) => match sizeO P e, lenO s with
    | some size, some sn => match d with
      | .nils => match firstO h size 0 s with
        | some _ => some (.int .i64 0, h)
        | none => none
      | .slice b off dn _ _ _ => match firstO h size (min sn dn) s with
        | some cs => if min sn dn = 0 then some (.int .i64 0, h) else (match h.storeN b off cs with
          | some h' => some (.int .i64 (min sn dn : Nat), h')
          | none => none)
        | none => none
      | _ => none
    | _, _ => none
  | _ => none

def lenBuiltinO (P : Program) (h : H) (t : TypeId) (x : V) : Option V :=
  match P.underlying t, x with
  | some .string, .str s => some (.int .i64 s.length)
  | some (.array n _), _ => some (.int .i64 n)
  | some (.pointer a), _ => match P.underlying a with
    | some (.array n _) => some (.int .i64 n)
    | _ => none
  | some (.slice _), .nils => some (.int .i64 0)
  | some (.slice _), .slice _ _ n _ _ _ => some (.int .i64 n)
  | some (.map _ _), .nilm => some (.int .i64 0)
  | some (.map _ _), .map b => match h.get b with
    | some (.map es _) => some (.int .i64 es.length)
    | _ => none
  | _, _ => none

def maxO (x y : V) : Option V := match x, y with | .int k a, .int _ b => some (.int k (if b > a then b else a)) | _, _ => none
def minO (x y : V) : Option V := match x, y with | .int k a, .int _ b => some (.int k (if b < a then b else a)) | _, _ => none
def foldO (f : V → V → Option V) : V → List V → Option V
  | x, [] => some x
  | x, y :: ys => match f x y with | some z => foldO f z ys | none => none

/-! ## Maps -/
def keyOk (P : Program) : Nat → TypeId → V → Bool
  | 0, _, _ => false
  | d + 1, t, v => match P.underlying t, v with
    | some (.interface _), _ => false
    | some (.array n e), .agg cs => match sizeO P e with
      | some s => (List.range n).all fun i => match partO P e cs (i * s) with | some x => keyOk P d e x | none => false
      | none => false
    | some (.struct fs), .agg cs => fs.toList.all fun f => f.name == "_" || match partO P f.type cs f.offset with | some x => keyOk P d f.type x | none => false
    | some (.array _ _), _ | some (.struct _), _ => false
    | some _, _ => true
    | none, _ => false

def findO (P : Program) (h : H) (t : TypeId) (k : V) : List (V × V × Nat) → Nat → Option (Option (Nat × V))
  | [], _ => some none
  | e :: es, i => match veq P h 40 t k e.1 with
    | some true => some (some (i, e.2.1))
    | some false => findO P h t k es (i + 1)
    | none => none

def lookupO (P : Program) (h : H) (t : TypeId) (m k : V) (ok : Bool) : Option V :=
  match P.underlying t with
  | some (.map kt et) =>
    match (match m with
      | .nilm => some []
      | .map b => match h.get b with
        | some (.map es _) => some es
        | _ => none
      | _ => none) with
    | some es => if keyOk P 40 kt k then (match findO P h kt k es 0 with
      | some (some (_, v)) => some (if ok then .tup [v, .bool true] else v)
      | some none => match zeroO P et with
        | some z => some (if ok then .tup [z, .bool false] else z)
        | none => none
      | none => none) else none
    | none => none
  | _ => none

/-- keys that are one and the same value -/
def same1 : V → V → Bool
  | .bool a, .bool b => a == b
  | .int j a, .int k b => j == k && a == b
  | .str a, .str b => a == b
  | .ptr a o, .ptr b u => a == b && o == u
  | .nilp, .nilp => true
  | _, _ => false
def sames : List V → List V → Bool
  | [], [] => true
  | x :: xs, y :: ys => same1 x y && sames xs ys
  | _, _ => false
def same (x y : V) : Bool :=
  match x, y with
  | .agg xs, .agg ys => sames xs ys
  | x, y => same1 x y

def mapUpdateO (P : Program) (h : H) (t : TypeId) (m k x : V) : Option H :=
  match P.underlying t, m with
  | some (.map kt _), .map b => match h.get b with
    | some (.map es clock) => if keyOk P 40 kt k then (match findO P h kt k es 0 with
      | some (some (i, _)) => match es[i]? with
        | some e => if same e.1 k then some (h.put b (.map (es.set i (k, x, e.2.2)) clock)) else none
        | none => none
      | some none => some (h.put b (.map (es ++ [(k, x, clock)]) (clock + 1)))
      | none => none) else none
    | _ => none
  | _, _ => none

def mapEntryO (P : Program) (h : H) (t : TypeId) (m k : V) : Option (V × H) :=
  match P.underlying t, m with
  | some (.map kt et), .map b => match h.get b with
    | some (.map es clock) => if keyOk P 40 kt k then (match findO P h kt k es 0 with
      | some (some (i, v)) => match es[i]? with
        | some e => if same e.1 k then some (.tup [v, .int .i64 e.2.2], h.put b (.map (es.set i (k, e.2.1, e.2.2)) clock)) else none
        | none => none
      | some none => match zeroO P et with
        | some z => some (.tup [z, .int .i64 clock], h.put b (.map (es ++ [(k, z, clock)]) (clock + 1)))
        | none => none
      | none => none) else none
    | _ => none
  | _, _ => none

def bornAt (n : Int) : List (V × V × Nat) → Nat → Option Nat
  | [], _ => none
  | e :: es, i => if (e.2.2 : Int) == n then some i else bornAt n es (i + 1)

def entryStoreO (h : H) (m s x : V) : Option H :=
  match m, s with
  | .map b, .int _ n => match h.get b with
    | some (.map es clock) => match bornAt n es 0 with
      | some i => match es[i]? with
        | some e => some (h.put b (.map (es.set i (e.1, x, e.2.2)) clock))
        | none => none
      | none => none
    | _ => none
  | _, _ => none

def deleteO (P : Program) (h : H) (t : TypeId) (m k : V) : Option H :=
  match P.underlying t, m with
  | some (.map kt _), .map b => match h.get b with
    | some (.map es clock) => if keyOk P 40 kt k then (match findO P h kt k es 0 with
      | some (some (i, _)) => some (h.put b (.map (es.eraseIdx i) clock))
      | some none => some (h.put b (.map es clock))
      | none => none) else none
    | _ => none
  | _, _ => none

/-! ## Ranges -/
def rangeO (P : Program) (h : H) (t : TypeId) (x : V) : Option (V × H) :=
  match P.underlying t, x with
  | some .string, .str s => some (.ptr h.next 0, h.new (.siter s 0))
  | some (.map _ _), .nilm => some (.ptr h.next 0, h.new (.miter none 0 [] 0))
  | some (.map _ _), .map b => match h.get b with
    | some (.map _ clock) => some (.ptr h.next 0, h.new (.miter (some b) clock [] clock))
    | _ => none
  | _, _ => none

/-- an ASCII byte, or nothing -/
def nextO (h : H) (it : V) (isString : Bool) : Option (V × H) :=
  match it, isString with
  | .ptr r 0, true => match h.get r with
    | some (.siter s pos) => match s[pos]? with
      | some c => if c < 128 then some (.tup [.bool true, .int .i64 pos, .int .i32 c], h.put r (.siter s (pos + 1))) else none
      | none => some (.tup [.bool false], h)
    | _ => none
  | .ptr r 0, false => match h.get r with
    | some (.miter none _ _ _) => some (.tup [.bool false], h)
    | some (.miter (some m) since seen last) => match h.get m with
      | some (.map es clock) =>
        if !seen.isEmpty && !es.isEmpty && es.all (fun e => decide (e.2.2 ≥ last)) then none else
        match es.filter (fun e => !seen.contains e.2.2) with
        | [] => some (.tup [.bool false], h)
        | [e] => if e.2.2 < since then some (.tup [.bool true, e.1, e.2.1], h.put r (.miter (some m) since (seen ++ [e.2.2]) clock)) else none
        | _ => none
      | _ => none
    | _ => none
  | _, _ => none

/-! ## One operation -/
inductive Out : Type where
  | val (v : V)
  | skip
  | call (f : Nat) (args : List V)
  | round (l : Nat) (args : List V)
  | defer (f : Nat) (args : List V)
  | recover

def idxByte (s : List Nat) (c : Nat) : List Nat → Option Nat
  | [] => none
  | i :: is => if s[i]? = some c then some i else idxByte s c is
def idxStr (s p : List Nat) : List Nat → Option Nat
  | [] => none
  | i :: is => if (s.drop i).take p.length = p then some i else idxStr s p is

def callO (c : Cfg) (h : H) (f : Nat) (args : List V) : Option (Out × H) :=
  match c.P.funcs[f]? with
  | none => none
  | some fn => if fn.body.isSome then some (.call f args, h) else
    if f = c.ib then (match args with
      | [.str s, b] => match byteO b with
        | some b => some (.val (.int .i64 (match idxByte s b (List.range s.length) with | some i => (i : Int) | none => -1)), h)
        | none => none
      | _ => none)
    else if f = c.ix then (match args with
      | [.str s, .str p] => match h.load1 c.ml 0 with
        | some (.int _ m) => if 2 ≤ p.length ∧ (p.length : Int) ≤ m ∧ s.length < 65536 then
            some (.val (.int .i64 (match idxStr s p (List.range (s.length + 1 - p.length)) with | some i => (i : Int) | none => -1)), h) else none
        | _ => none
      | _ => none)
    else none

def callVO (c : Cfg) (h : H) (f : V) (args : List V) : Option (Out × H) :=
  match f with
  | .func (.func g) first cap => callO c h g (first ++ args ++ cap)
  | .yield b => match h.get b with
    | some (.loop _ _ _ _ _ ps _ _ _) => if args.length = ps.size then some (.round b args, h) else none
    | _ => none
  | _ => none

def builtinO (P : Program) (h : H) (b : Builtin) (ts : Array TypeId) (args : List V) : Option (V × H) :=
  match b, ts[0]?, args with
  | .append, some t, [s, x] => match ts[1]? with
    | some u => match P.underlying u with
      | some (.int _) => none
      | some _ => appendO P h t s x
      | none => none
    | none => appendO P h t s x
  | .copy, some t, [d, s] => copyO P h t d s
  | .len, some t, [x] => match lenBuiltinO P h t x with | some v => some (v, h) | none => none
  | .max, _, x :: xs => match foldO maxO x xs with | some v => some (v, h) | none => none
  | .min, _, x :: xs => match foldO minO x xs with | some v => some (v, h) | none => none
  | .delete, some t, [m, k] => match deleteO P h t m k with | some h' => some (.tup [], h') | none => none
  | _, _, _ => none

def ret (r : Option V) (h : H) : Option (Out × H) := match r with | some v => some (.val v, h) | none => none
def ret2 (r : Option (V × H)) : Option (Out × H) := match r with | some (v, h) => some (.val v, h) | none => none
def retH (r : Option H) : Option (Out × H) := match r with | some h => some (.skip, h) | none => none

def ev2 (ng : Nat) (tm : T V) (x y : Operand) (f : V → V → Option (Out × H)) : Option (Out × H) :=
  match ev ng tm x with
  | none => none
  | some a => match ev ng tm y with
    | none => none
    | some b => f a b
def ev1 (ng : Nat) (tm : T V) (x : Operand) (f : V → Option (Out × H)) : Option (Out × H) :=
  match ev ng tm x with
  | none => none
  | some a => f a
def evOpt (ng : Nat) (tm : T V) : Option Operand → Option (Option V)
  | none => some none
  | some x => match ev ng tm x with | some v => some (some v) | none => none

def opx (c : Cfg) (tm : T V) (h : H) (op : Op) : Option (Out × H) :=
  let P := c.P
  match op with
  | .move x | .assign x => ev1 c.ng tm x fun v => some (.val v, h)
  | .pick q a b => ev1 c.ng tm q fun
    | .bool true => ev1 c.ng tm a fun v => some (.val v, h)
    | .bool false => ev1 c.ng tm b fun v => some (.val v, h)
    | _ => none
  | .alloc e => match zeroO P e with
    | some z => ret2 (newCells h z.cells)
    | none => none
  | .box _ x => ev1 c.ng tm x fun v => ret2 (newCells h v.cells)
  | .build t ps => match evParts c.ng tm ps.toList with
    | some ps => ret (buildO P t ps) h
    | none => none
  | .buildSlice t len ps => match evParts c.ng tm ps.toList with
    | some ps => ret2 (buildSliceO P h t len ps)
    | none => none
  | .load t a => ev1 c.ng tm a fun a => ret (loadO P h t a) h
  | .store t a x => ev2 c.ng tm a x fun a x => retH (storeO P h t a x)
  | .nilCheck x => ev1 c.ng tm x fun
    | .ptr b o => some (.val (.ptr b o), h)
    | .func (.func f) a b => some (.val (.func (.func f) a b), h)
    | _ => none
  | .binOp op t x y _ => ev2 c.ng tm x y fun a b => ret (binO P h op t x y a b) h
  | .unOp op _ x => ev1 c.ng tm x fun a => ret (unO op a) h
  | .convert s d x => ev1 c.ng tm x fun a => ret2 (convO P h s d a)
  | .makeInterface t x => ev1 c.ng tm x fun a => match P.underlying t with
    | some (.interface _) => none
    | some _ => some (.val (.iface t a), h)
    | none => none
  | .makeFunc fn first cap => match fn, evs c.ng tm first.toList, evs c.ng tm cap.toList with
    | .func f, some a, some b => some (.val (.func (.func f) a b), h)
    | _, _, _ => none
  | .makeMap t r => match P.underlying t, evOpt c.ng tm r with
    | some (.map _ _), some none => some (.val (.map h.next), h.new (.map [] 0))
    | some (.map _ _), some (some (.int _ _)) => some (.val (.map h.next), h.new (.map [] 0))
    | _, _ => none
  | .makeSlice t l k => ev2 c.ng tm l k fun l k => ret2 (makeSliceO P h t l k)
  | .slice t x lo hi mx => ev1 c.ng tm x fun x => match evOpt c.ng tm lo, evOpt c.ng tm hi, evOpt c.ng tm mx with
    | some lo, some hi, some mx => ret (sliceO P h t x lo hi mx) h
    | _, _, _ => none
  | .fieldAddr s x f => ev1 c.ng tm x fun x => ret (fieldAddrO P s x f) h
  | .field s x f => ev1 c.ng tm x fun x => ret (fieldO P s x f) h
  | .indexAddr t x i => ev2 c.ng tm x i fun x i => ret (indexAddrO P t x i) h
  | .index t x i => ev2 c.ng tm x i fun x i => ret (indexO P t x i) h
  | .lookup t x i ok => ev2 c.ng tm x i fun x i => ret (lookupO P h t x i ok) h
  | .mapUpdate t m k x | .insert t m k x => ev1 c.ng tm m fun m => ev2 c.ng tm k x fun k x => retH (mapUpdateO P h t m k x)
  | .mapEntry t m k => ev2 c.ng tm m k fun m k => ret2 (mapEntryO P h t m k)
  | .entryStore _ m s x => ev1 c.ng tm m fun m => ev2 c.ng tm s x fun s x => retH (entryStoreO h m s x)
  | .range t x => ev1 c.ng tm x fun x => ret2 (rangeO P h t x)
  | .next it s => ev1 c.ng tm it fun it => ret2 (nextO h it s)
  | .extract x i => ev1 c.ng tm x fun
    | .tup vs => match vs[i]? with | some v => some (.val v, h) | none => none
    | _ => none
  | .call k => match evs c.ng tm k.args.toList with
    | none => none
    | some args => match k.callee with
      | .builtin .recover => some (.recover, h)
      | .builtin b => ret2 (builtinO P h b k.argTypes args)
      | .value f => ev1 c.ng tm f fun f => callVO c h f args
      | .invoke _ _ => none
  | .defer k => match evs c.ng tm k.args.toList with
    | none => none
    | some args => match k.callee with
      | .value f => ev1 c.ng tm f fun
        | .func (.func g) first cap => some (.defer g (first ++ args ++ cap), h)
        | _ => none
      | _ => none
  | _ => none

end Go.Fal
