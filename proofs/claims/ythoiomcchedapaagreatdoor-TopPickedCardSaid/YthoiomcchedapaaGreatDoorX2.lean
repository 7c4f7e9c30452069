/-
  The world of the claim as the engine sees it; TopPicked called in it.
-/
import Derived.Test.YthoiomcchedapaaGreatDoorX1
import Derived.Test.YthoiomcchedapaaGreatDoorN05
import Derived.Test.YthoiomcchedapaaGreatDoorE07
import Derived.OpenShut
import Derived.LaidMore
import Derived.ProofKit
import Derived.SizedLaws
import Derived.ChangeSlices
import Derived.Carry
set_option autoImplicit true
set_option relaxedAutoImplicit true
set_option linter.unusedVariables false
set_option linter.unusedSimpArgs false
open Go Go.Proofs Go.Fal
namespace K
open Go.Proofs.YthoiomcchedapaaGreatDoor
open Go.ChangeShapes

/-! # A world as a heap of ours -/
def nCells (W : World) (b : Nat) : Nat := match W.heap[b]? with | some (.cells C _ _) => C.size | _ => 0

/-- a cell's number -/
def numV : Value → Option V
  | .int k n => some (.int k n)
  | _ => none
theorem numV_VR {x : Value} {v : V} (h : numV x = some v) (φ : Phi) : VR φ v x := by
  cases x <;> simp only [numV] at h <;> cases h
  exact .int _ _

def numT : List Value → Nat → T V → T V
  | [], _, t => t
  | x :: xs, i, t => numT xs (i + 1) (match numV x with | some v => t.set i v | none => t)
theorem numT_get : ∀ (xs : List Value) (i : Nat) (t : T V) (j : Nat), (numT xs i t).get j = if i ≤ j ∧ j < i + xs.length then (match (xs[j - i]?).bind numV with | some v => some v | none => t.get j) else t.get j
  | [], i, t, j => by simp [numT]
  | x :: xs, i, t, j => by
    rw [numT, numT_get xs (i + 1)]
    have hset : ∀ k, k ≠ i → (match numV x with | some v => t.set i v | none => t).get k = t.get k := by
      intro k hk
      cases numV x with
      | none => rfl
      | some v => exact T.get_set_ne _ _ hk
    by_cases e : j = i
    · subst e
      rw [if_neg (by omega), if_pos (by simp)]
      simp only [Nat.sub_self, List.getElem?_cons_zero, Option.bind_some]
      cases hx : numV x with
      | none => rfl
      | some v => exact T.get_set_same _ _ _
    · by_cases c : i + 1 ≤ j ∧ j < i + 1 + xs.length
      · rw [if_pos c, if_pos (by simp; omega)]
        obtain ⟨d, rfl⟩ : ∃ d, j = i + 1 + d := ⟨j - (i + 1), by omega⟩
        rw [show i + 1 + d - (i + 1) = d by omega, show i + 1 + d - i = d + 1 by omega, List.getElem?_cons_succ, hset _ (by omega)]
      · rw [if_neg c, if_neg (by simp; omega), hset _ e]

def viewO (C : Array Value) : O := .cells false false C.size [] (numT C.toList 0 .e)

/-- block b is seen as o -/
def GO (W : World) (b : Nat) (o : O) : Prop := ∃ C elem fr pl z t, W.heap[b]? = some (.cells C elem fr) ∧ o = .cells false pl C.size z t ∧ (pl = true → fr = (0, 0)) ∧
  (∀ φ i v, i < C.size → cellAt z t i = some v → ∃ x, C[i]? = some x ∧ VR φ v x) ∧ (∀ i k n, C[i]? = some (.int k n) → cellAt z t i = some (.int k n))

theorem GO_view {W : World} {b : Nat} {C : Array Value} {e : TypeId} {fr : Nat × Nat} (h : W.heap[b]? = some (.cells C e fr)) : GO W b (viewO C) := by
  have key : ∀ i, cellAt [] (numT C.toList 0 .e) i = (C[i]?).bind numV := by
    intro i
    unfold cellAt
    rw [numT_get]
    simp only [Nat.zero_le, true_and, Nat.zero_add, Nat.sub_zero, T.get_e, Array.length_toList, Array.getElem?_toList]
    by_cases c : i < C.size
    · rw [if_pos c]
      cases (C[i]?).bind numV <;> simp
    · rw [if_neg c]
      have : C[i]? = none := by simp; omega
      simp [this]
  refine ⟨C, e, fr, false, [], numT C.toList 0 .e, h, rfl, (fun h => by cases h), fun φ i v hi hv => ?_, fun i k n hc => ?_⟩
  · rw [key, Option.bind_eq_some_iff] at hv
    obtain ⟨x, hx, hv⟩ := hv
    exact ⟨x, hx, numV_VR hv φ⟩
  · rw [key, hc]; rfl

theorem GO_row {W : World} {b : Nat} {C : Array Value} {e : TypeId} {row : List V} {n : Nat} (h : W.heap[b]? = some (.cells C e (0, 0))) (hr : ∀ φ, VRs φ row C.toList) (hn : row.length = n) : GO W b (.cells false true n row .e) := by
  have hl : row.length = C.size := by rw [(hr fun _ => none).length]; simp
  have key : ∀ i, i < C.size → cellAt row .e i = row[i]? := by
    intro i hi
    unfold cellAt
    rw [T.get_e]
    simp only
    rw [Nat.mod_eq_of_lt (by omega)]
  refine ⟨C, e, (0, 0), true, row, .e, h, by rw [← hn, hl], fun _ => rfl, fun φ i v hi hv => ?_, fun i k n hc => ?_⟩
  · rw [key i hi] at hv
    obtain ⟨x, hx, hv⟩ := (hr φ).get hv
    exact ⟨x, by simpa using hx, hv⟩
  · have hi : i < C.size := (Array.getElem?_eq_some_iff.1 hc).1
    rw [key i hi]
    have : ∃ v, row[i]? = some v := ⟨row[i]'(by omega), by simp⟩
    obtain ⟨v, hv⟩ := this
    obtain ⟨x, hx, hv'⟩ := (hr fun _ => none).get hv
    rw [Array.getElem?_toList, hc] at hx
    cases hx
    cases hv'
    exact hv

def views (W : World) : List Nat → T O
  | [] => .e
  | b :: bs => match W.heap[b]? with
    | some (.cells C _ _) => (views W bs).set b (viewO C)
    | _ => views W bs
theorem views_get {W : World} : ∀ {bs : List Nat} {b : Nat} {o : O}, (views W bs).get b = some o → GO W b o
  | [], b, o, h => by simp [views] at h
  | c :: bs, b, o, h => by
    unfold views at h
    split at h
    · rename_i C e fr hc
      rw [T.get_set] at h
      split at h
      · rename_i e'; subst e'; cases h; exact GO_view hc
      · exact views_get h
    · exact views_get h
theorem views_mem {W : World} : ∀ {bs : List Nat} {b : Nat} {C : Array Value} {e : TypeId} {fr : Nat × Nat}, b ∈ bs → W.heap[b]? = some (.cells C e fr) → ∃ o, (views W bs).get b = some o
  | [], b, _, _, _, h, _ => by cases h
  | c :: bs, b, C, e, fr, h, hb => by
    unfold views
    by_cases c' : b = c
    · subst c'; rw [hb]; exact ⟨_, T.get_set_same _ _ _⟩
    · obtain ⟨o, ho⟩ := views_mem (by simpa [c'] using h) hb
      split
      · exact ⟨o, by rw [T.get_set_ne _ _ c']; exact ho⟩
      · exact ⟨o, ho⟩

def rows5 (m : Int) (t : T O) : T O := ((((t.set 0 (.cells false true 32 rowA .e)).set 1 (.cells false true 108 rowB .e)).set 3 (.cells false true 64 rowC .e)).set 4 (.cells false true 256 rowD .e)).set 5 (.cells false true 1 [.int .i64 m] .e)
/-- the heap -/
def hW (W : World) (m : Int) (bs : List Nat) (k : Nat) : H := ⟨max W.heap.size 11 + k, rows5 m (views W bs)⟩
/-- where its blocks lie: where they lay; the numbers from there on are feigned, for slices of no cell -/
def phiW (W : World) (fs : List (Nat × Nat)) : Phi := fun b => if b < max W.heap.size 11 then some (b, nCells W b) else fs[b - max W.heap.size 11]?

theorem hW_GO {W : World} {m : Int} {bs : List Nat} {k : Nat} (g : GW W) (hm : ∃ C e, W.heap[5]? = some (.cells C e (0, 0)) ∧ C.toList = [.int .i64 m]) {b : Nat} {o : O} (h : (hW W m bs k).get b = some o) : GO W b o := by
  simp only [H.get, hW, rows5, T.get_set] at h
  split at h
  · rename_i e; subst e; cases h
    obtain ⟨C, e, hc, hl⟩ := hm
    exact GO_row hc (fun φ => by rw [hl]; exact .cons (.int _ _) .nil) rfl
  split at h
  · rename_i e; subst e; cases h
    obtain ⟨C, e, hc, hl⟩ := g.d
    exact GO_row hc hl (by kernel_rfl)
  split at h
  · rename_i e; subst e; cases h
    obtain ⟨C, e, hc, hl⟩ := g.c
    exact GO_row hc hl (by kernel_rfl)
  split at h
  · rename_i e; subst e; cases h
    obtain ⟨C, e, hc, hl⟩ := g.b
    exact GO_row hc hl (by kernel_rfl)
  split at h
  · rename_i e; subst e; cases h
    obtain ⟨C, e, hc, hl⟩ := g.a
    exact GO_row hc hl (by kernel_rfl)
  exact views_get h

theorem hW_mem {W : World} {m : Int} {bs : List Nat} {k : Nat} {b : Nat} {C : Array Value} {e : TypeId} {fr : Nat × Nat} (hb : b ∈ bs) (hc : W.heap[b]? = some (.cells C e fr)) : ∃ o, (hW W m bs k).get b = some o := by
  simp only [H.get, hW, rows5, T.get_set]
  obtain ⟨o, ho⟩ := views_mem hb hc
  repeat' split
  all_goals first | exact ⟨_, rfl⟩ | exact ⟨o, ho⟩

theorem baseOk (W : World) (m : Int) (bs : List Nat) (k : Nat) : baseB (hW W m bs k) = true := by
  unfold baseB rowIs limIs rowIs.vbeqL
  simp only [H.get, hW, rows5, T.get_set]
  have a : vsbeq rowA rowA = true := by kernel_rfl
  have b : vsbeq rowB rowB = true := by kernel_rfl
  have c : vsbeq rowC rowC = true := by kernel_rfl
  have d : vsbeq rowD rowD = true := by kernel_rfl
  simp [a, b, c, d]

theorem hW_lt {W : World} {b : Nat} {o : O} (h : GO W b o) : b < W.heap.size := by
  obtain ⟨C, e, fr, pl, z, t, h, _⟩ := h
  exact (Array.getElem?_eq_some_iff.1 h).1

theorem hW_sim {W : World} {m : Int} {bs : List Nat} {k : Nat} {fs : List (Nat × Nat)} (g : GW W) (hm : ∃ C e, W.heap[5]? = some (.cells C e (0, 0)) ∧ C.toList = [.int .i64 m]) : Sim (phiW W fs) (hW W m bs k) W where
  dom := fun b o h => by
    have := hW_lt (hW_GO g hm h)
    show b < max W.heap.size 11 + k
    omega
  blk := fun b o h _ => by
    have hg := hW_GO g hm h
    have hlt := hW_lt hg
    obtain ⟨C, e, fr, pl, z, t, hc, rfl, hpl, h1, h2⟩ := hg
    refine ⟨b, C.size, _, by simp only [phiW]; rw [if_pos (by omega)]; simp only [nCells, hc], hc, ?_⟩
    exact .cells (Nat.le_refl _) (h1 _) (fun h => by cases h) (fun h => by have := hpl h; cases this; exact ⟨rfl, rfl⟩)
  inj := fun b c o u B N M hb hc _ _ e1 e2 => by
    have l1 := hW_lt (hW_GO g hm hb)
    have l2 := hW_lt (hW_GO g hm hc)
    simp only [phiW] at e1 e2
    rw [if_pos (by omega)] at e1 e2
    cases e1; cases e2; rfl

theorem hW_foot {W : World} {m : Int} {bs : List Nat} {k : Nat} {φ : Phi} (g : GW W) (hm : ∃ C e, W.heap[5]? = some (.cells C e (0, 0)) ∧ C.toList = [.int .i64 m]) (j : Nat) : ¬ Foot φ (hW W m bs k) j := by
  rintro ⟨b, o, N, h, hr, _⟩
  obtain ⟨C, e, fr, pl, z, t, hc, rfl, _⟩ := hW_GO g hm h
  cases hr

/-- a slice of bytes that came in -/
def InS (W : World) (v : Value) (l : List Int) : Prop := (v = .slice none 0 0 ∧ l = []) ∨
  ∃ (b off len cap : Nat) (zs : List Int), v = .slice (some ⟨b, off, none⟩) len cap ∧ len ≤ cap ∧ zs.length = cap ∧ l = zs.take len ∧ (∀ i, i < cap → W.cell? ⟨b, off + i, none⟩ = some (.int .u8 (zs.getD i 0)))

/-- how we see it: the j-th of those of no cell lies nowhere -/
def seen (W : World) (j : Nat) : Value → V
  | .slice none _ _ => .nils
  | .slice (some a) len cap => if cap = 0 then .slice (max W.heap.size 11 + j) a.off 0 0 1 true else .slice a.block a.off len cap 1 true
  | _ => .nils
def blkOf : Value → Nat × Nat
  | .slice (some a) _ _ => (a.block, a.off)
  | _ => (0, 0)

theorem seen_row {W : World} {m : Int} {bs : List Nat} {k j : Nat} {v : Value} {l : List Int} (g : GW W) (hm : ∃ C e, W.heap[5]? = some (.cells C e (0, 0)) ∧ C.toList = [.int .i64 m]) (h : InS W v l) (hb : (blkOf v).1 ∈ bs) : RowR (hW W m bs k) (seen W j v) (u8s l) := by
  rcases h with ⟨rfl, rfl⟩ | ⟨b, off, len, cap, zs, rfl, hlc, hz, rfl, hcell⟩
  · exact .inl ⟨rfl, rfl⟩
  · simp only [seen]
    have hb : b ∈ bs := hb
    by_cases c : cap = 0
    · rw [if_pos c]
      refine .inr (.inl ⟨?_, _, _, _, rfl⟩)
      obtain rfl : len = 0 := by omega
      rfl
    · rw [if_neg c]
      have hd : ∃ C e fr, W.heap[b]? = some (.cells C e fr) ∧ ∀ i, i < cap → C[off + i]? = some (.int .u8 (zs.getD i 0)) := by
        have h0 := hcell 0 (by omega)
        unfold World.cell? at h0
        split at h0
        · rename_i C e fr hC
          refine ⟨C, e, fr, hC, fun i hi => ?_⟩
          have := hcell i hi
          unfold World.cell? at this
          rw [hC] at this
          simpa using this
        · cases h0
      obtain ⟨C, e, fr, hC, hcs⟩ := hd
      obtain ⟨o, ho⟩ := hW_mem (m := m) (k := k) (bs := bs) hb hC
      have hg := hW_GO g hm ho
      have hlt := hW_lt hg
      obtain ⟨C', e', fr', pl, z, t, hc', rfl, _, _, hnum⟩ := hg
      rw [hC] at hc'
      cases hc'
      have hlen : (u8s (zs.take len)).length = len := by simp; omega
      have hsz : off + cap ≤ C.size := by
        have := (Array.getElem?_eq_some_iff.1 (hcs (cap - 1) (by omega))).1
        omega
      refine .inr (.inr ⟨b, off, cap, true, false, pl, C.size, z, t, by rw [hlen], by omega, by show b < max W.heap.size 11 + k; omega, ho, by omega, fun i x hx => ?_⟩)
      have hi : i < len := by have := (List.getElem?_eq_some_iff.1 hx).1; omega
      have e2 := hnum _ _ _ (hcs i (by omega))
      rw [e2]
      have e3 : (u8s (zs.take len))[i]? = some (.int .u8 (zs.getD i 0)) := by
        have : zs[i]? = some (zs.getD i 0) := by
          rw [List.getD_eq_getElem?_getD, List.getElem?_eq_getElem (by omega)]; rfl
        rw [u8s, List.getElem?_map, List.getElem?_take_of_lt hi, this]; rfl
      rw [e3] at hx
      exact hx
theorem seen_VR {W : World} {fs : List (Nat × Nat)} {j : Nat} {v : Value} {l : List Int} (h : InS W v l) (hf : fs[j]? = some (blkOf v)) : VR (phiW W fs) (seen W j v) v := by
  rcases h with ⟨rfl, rfl⟩ | ⟨b, off, len, cap, zs, rfl, hlc, hz, rfl, hcell⟩
  · exact .nils
  · simp only [seen]
    by_cases c : cap = 0
    · rw [if_pos c]
      subst c
      obtain rfl : len = 0 := by omega
      exact .slice (B := b) (N := off) (by simp only [phiW]; rw [if_neg (by omega)]; rw [show max W.heap.size 11 + j - max W.heap.size 11 = j by omega]; exact hf) (Nat.le_refl _) (Nat.le_refl _) (fun _ => rfl) (fun h => absurd rfl h) (by omega)
    · rw [if_neg c]
      have h1 := hcell (cap - 1) (by omega)
      unfold World.cell? at h1
      split at h1
      · rename_i C e fr hC
        simp only [Option.isSome_none, Bool.false_eq_true, if_false] at h1
        have hsz := (Array.getElem?_eq_some_iff.1 h1).1
        simp only at hC
        have hlt := (Array.getElem?_eq_some_iff.1 hC).1
        exact .slice (B := b) (N := C.size) (by simp only [phiW]; rw [if_pos (by omega)]; simp only [nCells, hC]) hlc (Nat.le_refl _) (fun _ => rfl) (fun _ => rfl) (by omega)
      · cases h1
end K
open Go Go.Proofs Go.Fal
namespace K
open Go.Proofs.YthoiomcchedapaaGreatDoor
open Go.ChangeShapes Go.WideShapes Go.ChangeAt Go.RowKit

theorem InS.len {W : World} {v : Value} {l : List Int} (h : InS W v l) : ∀ n, (∀ b off len cap, v = .slice (some ⟨b, off, none⟩) len cap → cap < n) → 0 < n → l.length < n := by
  intro n hn h0
  rcases h with ⟨rfl, rfl⟩ | ⟨b, off, len, cap, zs, rfl, hlc, hz, rfl, _⟩
  · exact h0
  · have := hn _ _ _ _ rfl
    simp; omega

/-- TopPicked, called in a world -/
theorem picked_calls {W : World} (g : GW W) {v1 v4 : Value} {l1 l4 : List Int} {sw : Bool} {ch ag mo : Int} (i1 : InS W v1 l1) (i4 : InS W v4 l4) (hl1 : l1.length < 2 ^ 60) (hl4 : l4.length < 2 ^ 60)
    (hw1 : ∀ x ∈ l1, 0 ≤ x ∧ x ≤ 255) (hw4 : ∀ x ∈ l4, 0 ≤ x ∧ x ≤ 255) (hc : 0 ≤ ch ∧ ch ≤ 255) (ha : 0 ≤ ag ∧ ag ≤ 255) (hm : 0 ≤ mo ∧ mo ≤ 255) :
    Calls Tryz.prog 8 #[v1, .bool sw, .int .u8 ch, v4, .int .u8 ag, .int .u8 mo] W (fun e W' => e = .returned (.bool true) ∧ Below W.heap.size W W') := by
  obtain ⟨m, C, e, h5, hC⟩ := g.m
  have h5' : ∃ C e, W.heap[5]? = some (.cells C e (0, 0)) ∧ C.toList = [.int .i64 m] := ⟨C, e, h5, hC⟩
  have run := topPicked_run (h0 := hW W m [(blkOf v1).1, (blkOf v4).1] 2) (sw := sw) (seen_row (j := 0) g h5' i1 (by simp)) hl1 hw1 hc (seen_row (j := 1) g h5' i4 (by simp)) hl4 hw4 ha hm (baseOk _ _ _ _) (by show 11 ≤ max W.heap.size 11 + 2; omega)
  obtain ⟨n, fr, h', hen, hr⟩ := wpc_run (v := .bool true) run (mem8 _)
  have cl := run_calls (run_sound cfg3 n) hen hr (φ := phiW W [blkOf v1, blkOf v4]) (w := W) (xs := #[v1, .bool sw, .int .u8 ch, v4, .int .u8 ag, .int .u8 mo])
    (fun g hg => ⟨nCells W g, by have : g < 11 := hg; simp only [phiW]; rw [if_pos (by omega)]⟩) (hW_sim g h5')
    (fun b hb _ => by
      have : max W.heap.size 11 + 2 ≤ b := hb
      simp only [phiW]
      rw [if_neg (by omega)]
      simp; omega)
    (.cons (seen_VR i1 rfl) (.cons (.bool _) (.cons (.int _ _) (.cons (seen_VR i4 rfl) (.cons (.int _ _) (.cons (.int _ _) .nil))))))
  refine cl.mono fun e W' ⟨φ', v', he, hv, tr, _⟩ => ?_
  cases hv
  exact ⟨he, tr.os, tr.tape, tr.output, tr.size, fun k hk => tr.keep k hk (hW_foot g h5' k)⟩
end K
