/-
  The world of the claim as the engine sees it; TopPicked called in it.
-/
import Derived.Test.YthoiomcchedapaaGreatDoorRows
import Derived.OpenShut
import Derived.LaidMore
import Derived.ProofKit
import Derived.Test.YthoiomcchedapaaGreatDoorM1
set_option autoImplicit true
set_option relaxedAutoImplicit true
set_option linter.unusedVariables false
set_option linter.unusedSimpArgs false
open Go Go.Proofs Go.Fal
namespace K
open Go.Proofs.YthoiomcchedapaaGreatDoor
open Go.ChangeShapes

/-! # What the row says of the world's globals -/
def leafV : DataW Unit → V
  | .lit (.int k n) => .int k n
  | .lit (.string l) => .str (l.map (·.toNat))
  | _ => .nilp
def rowI : DataW Unit → List V
  | .agg ds => ds.map leafV
  | _ => []
def rowS : DataW Unit → List V
  | .agg ds => ds.flatMap fun d => rowI d
  | _ => []

section
variable {P : Program} {w : World} {sp : Nat → Bool} {held : Bool} {base : Nat}

theorem row_ints {t e n : Nat} {k : IntKind} {fuel : Nat} {cs : List Value} {d : DataW Unit} {p : List MemPlace} (ht : P.underlying t = some (.array n e)) (he : P.underlying e = some (.int k)) (hc : P.cellsOf e = 1)
    (h : DataW.trod (fun _ => ()) P w base sp held fuel t cs = some (d, p)) (φ : Phi) : VRs φ (rowI d) (cs.take n) := by
  obtain ⟨xs, m, _, hx, hl, hn, hel⟩ := DataW.trod_array ht h
  cases hx
  have each : ∀ i, i < n → ∃ z, cs[i]? = some (.int k z) ∧ (xs[i]?).map (·.1) = some (.lit (.int k z)) := by
    intro i hi
    have := hel i hi
    rw [hc, Nat.mul_one] at this
    have hlt : i < xs.length := by omega
    rw [List.getElem?_eq_getElem hlt] at this
    obtain ⟨z, h1, h2, _⟩ := DataW.trod_int he this
    refine ⟨z, ?_, by rw [List.getElem?_eq_getElem hlt, h2]; rfl⟩
    have := congrArg (·[0]?) h1
    simpa [List.getElem?_take, List.getElem?_drop] using this
  have hcs : n ≤ cs.length ∨ n = 0 := by
    rcases Nat.eq_zero_or_pos n with h | h
    · exact .inr h
    · left
      obtain ⟨z, h1, _⟩ := each (n - 1) (by omega)
      have := (List.getElem?_eq_some_iff.1 h1).1
      omega
  refine VRs.of_get ?_ ?_
  · simp only [rowI, List.length_map, List.length_take]; omega
  · intro i v x hv hx
    have hi : i < n := by
      have := (List.getElem?_eq_some_iff.1 hx).1
      simp at this; omega
    obtain ⟨z, h1, h2⟩ := each i hi
    rw [List.getElem?_take, if_pos hi, h1] at hx
    cases hx
    simp only [rowI, List.map_map, List.getElem?_map] at hv
    cases hxi : xs[i]? with
    | none => rw [hxi] at h2; cases h2
    | some y =>
      rw [hxi] at h2 hv
      simp only [Option.map_some, Option.some.injEq] at h2 hv
      simp only [Function.comp, h2, leafV] at hv
      subst hv
      exact .int _ _

theorem row_strs {t e n : Nat} {f0 f1 : Field} {fuel : Nat} {cs : List Value} {d : DataW Unit} {p : List MemPlace} (ht : P.underlying t = some (.array n e)) (he : P.underlying e = some (.struct #[f0, f1])) (hc : P.cellsOf e = 2)
    (o0 : f0.offset = 0) (o1 : f1.offset = 1) (c0 : P.cellsOf f0.type = 1) (c1 : P.cellsOf f1.type = 1) (u0 : P.underlying f0.type = some .string) (u1 : P.underlying f1.type = some .string)
    (h : DataW.trod (fun _ => ()) P w base sp held fuel t cs = some (d, p)) (φ : Phi) : ∀ (i : Nat) (v : V), (rowS d)[i]? = some v → ∃ x : Value, cs[i]? = some x ∧ VR φ v x := by
  obtain ⟨xs, m, _, hx, hl, hn, hel⟩ := DataW.trod_array ht h
  cases hx
  have each : ∀ i (hi : i < xs.length), ∃ s0 s1 : ByteArray, cs[2 * i]? = some (.string s0) ∧ cs[2 * i + 1]? = some (.string s1) ∧ rowI xs[i].1 = [.str (bytesOf s0), .str (bytesOf s1)] := by
    intro i hi
    have := hel i (by omega)
    rw [hc, List.getElem?_eq_getElem hi] at this
    obtain ⟨y0, y1, q, e1, e2, e3, e4⟩ := trod_struct2 he this
    rw [o0, c0] at e3
    rw [o1, c1] at e4
    obtain ⟨s0, g1, g2, _⟩ := DataW.trod_string u0 e3
    obtain ⟨s1, g3, g4, _⟩ := DataW.trod_string u1 e4
    refine ⟨s0, s1, ?_, ?_, ?_⟩
    · have := congrArg (·[0]?) g1
      simp [List.getElem?_take, List.getElem?_drop] at this
      rw [Nat.mul_comm]; exact this
    · have := congrArg (·[0]?) g3
      simp [List.getElem?_take, List.getElem?_drop] at this
      rw [Nat.mul_comm]; exact this
    · rw [e1, g2, g4]; rfl
  -- the row of the parts, place by place
  have flat : ∀ (k : Nat) (ys : List (DataW Unit × List MemPlace)), (∀ i (hi : i < ys.length), ∃ s0 s1 : ByteArray, cs[2 * (k + i)]? = some (.string s0) ∧ cs[2 * (k + i) + 1]? = some (.string s1) ∧ rowI ys[i].1 = [.str (bytesOf s0), .str (bytesOf s1)]) →
      ∀ (i : Nat) (v : V), ((ys.map (·.1)).flatMap fun d => rowI d)[i]? = some v → ∃ x : Value, cs[2 * k + i]? = some x ∧ VR φ v x := by
    intro k ys
    induction ys generalizing k with
    | nil => intro _ i v hv; simp at hv
    | cons y ys ih =>
      intro hys i v hv
      obtain ⟨s0, s1, g0, g1, g2⟩ := hys 0 (by simp)
      simp only [List.getElem_cons_zero, Nat.add_zero] at g0 g1 g2
      simp only [List.map_cons, List.flatMap_cons, g2] at hv
      match i, hv with
      | 0, hv => cases hv; exact ⟨_, g0, .str _⟩
      | 1, hv => cases hv; exact ⟨_, g1, .str _⟩
      | i + 2, hv =>
        have := ih (k + 1) (fun j hj => by
          have := hys (j + 1) (by simp; omega)
          simpa [Nat.add_assoc, Nat.add_comm 1 j] using this) i v (by simpa using hv)
        rw [show 2 * k + (i + 2) = 2 * (k + 1) + i by omega]; exact this
  have := flat 0 xs (fun i hi => by simpa using each i hi)
  intro i v hv
  have := this i v hv
  simpa using this
end
end K
open Go Go.Proofs Go.Fal
namespace K
open Go.Proofs.YthoiomcchedapaaGreatDoor
open Go.ChangeShapes

theorem laidVars_mem {P : Program} {w : World} {n : String} {d : DataW Unit} : ∀ {l : List (String × DataW Unit)} {ps : List MemPlace}, DataW.LaidVars P w l ps → (n, d) ∈ l →
    ∃ g t cs fuel p, P.globalNamed n = some g ∧ (P.globals[g]?).map (·.type) = some t ∧ w.var? P n = some cs ∧ DataW.trod (fun _ => ()) P w 0 (fun _ => true) false fuel t cs.toList = some (d, p) ∧ ∀ x ∈ MemPlace.row ⟨g, 0, none⟩ cs.size, x ∈ ps
  | [], _, _, h => by cases h
  | (n', d') :: l, ps, hl, h => by
    obtain ⟨g, t, cs, fuel, p, q, h1, h2, h3, h4, h5, rfl⟩ := hl
    rcases List.mem_cons.1 h with e | h
    · cases e; exact ⟨g, t, cs, fuel, p, h1, h2, h3, h4, fun x hx => by simp [hx]⟩
    · obtain ⟨g', t', cs', fuel', p', k1, k2, k3, k4, k5⟩ := laidVars_mem h5 h
      exact ⟨g', t', cs', fuel', p', k1, k2, k3, k4, fun x hx => by simp [k5 x hx]⟩

theorem laid_mem {P : Program} {w : World} {l : List (String × DataW Unit)} (hl : laidMetH P l w) {n : String} {d : DataW Unit} (h : (n, d) ∈ l) (hd : d.handleName? = none) :
    ∃ g t cs fuel p, P.globalNamed n = some g ∧ (P.globals[g]?).map (·.type) = some t ∧ DataW.trod (fun _ => ()) P w 0 (fun _ => true) false fuel t cs.toList = some (d, p) ∧ (0 < cs.size → ∃ e, w.heap[g]? = some (.cells cs e (0, 0))) := by
  have key : ∀ l', (n, d) ∈ l' → laidMet P l' w → ∃ g t cs fuel p, P.globalNamed n = some g ∧ (P.globals[g]?).map (·.type) = some t ∧ DataW.trod (fun _ => ()) P w 0 (fun _ => true) false fuel t cs.toList = some (d, p) ∧ (0 < cs.size → ∃ e, w.heap[g]? = some (.cells cs e (0, 0))) := by
    rintro l' hm ⟨ps, h1, _, h3⟩
    obtain ⟨g, t, cs, fuel, p, k1, k2, k3, k4, k5⟩ := laidVars_mem h1 hm
    refine ⟨g, t, cs, fuel, p, k1, k2, k4, fun hs => ?_⟩
    have hin : MemPlace.cell g 0 ∈ ps := k5 _ (by simp [MemPlace.row]; exact hs)
    obtain ⟨⟨c, e, he⟩, _⟩ := h3 g 0 hin
    simp only [World.var?, k1, Option.bind_some, he, Option.some.injEq] at k3
    subst k3
    exact ⟨e, he⟩
  unfold laidMetH at hl
  split at hl
  · exact key l h hl
  · exact key _ (List.mem_filter.2 ⟨h, by rw [hd]; rfl⟩) hl.1

/-- the rows that are read, as they lie in the world -/
structure GW (W : World) : Prop where
  a : ∃ C e, W.heap[0]? = some (.cells C e (0, 0)) ∧ ∀ φ, VRs φ rowA C.toList
  b : ∃ C e, W.heap[1]? = some (.cells C e (0, 0)) ∧ ∀ φ, VRs φ rowB C.toList
  c : ∃ C e, W.heap[3]? = some (.cells C e (0, 0)) ∧ ∀ φ, VRs φ rowC C.toList
  d : ∃ C e, W.heap[4]? = some (.cells C e (0, 0)) ∧ ∀ φ, VRs φ rowD C.toList
  m : ∃ m C e, W.heap[5]? = some (.cells C e (0, 0)) ∧ C.toList = [.int .i64 m]

theorem gA : Tryz.prog.globalNamed "math/bits.deBruijn32tab" = some 0 := by kernel_rfl
theorem gB : Tryz.prog.globalNamed "fallow/isa.rows" = some 1 := by kernel_rfl
theorem gC : Tryz.prog.globalNamed "math/bits.deBruijn64tab" = some 3 := by kernel_rfl
theorem gD : Tryz.prog.globalNamed "strings.asciiSpace" = some 4 := by kernel_rfl
theorem tA : (Tryz.prog.globals[0]?).map (·.type) = some 336 := by kernel_rfl
theorem tB : (Tryz.prog.globals[1]?).map (·.type) = some 350 := by kernel_rfl
theorem tC : (Tryz.prog.globals[3]?).map (·.type) = some 517 := by kernel_rfl
theorem tD : (Tryz.prog.globals[4]?).map (·.type) = some 554 := by kernel_rfl
theorem u336 : Tryz.prog.underlying 336 = some (.array 32 5) := by kernel_rfl
theorem u350 : Tryz.prog.underlying 350 = some (.array 54 273) := by kernel_rfl
theorem u517 : Tryz.prog.underlying 517 = some (.array 64 5) := by kernel_rfl
theorem u554 : Tryz.prog.underlying 554 = some (.array 256 5) := by kernel_rfl
theorem u5 : Tryz.prog.underlying 5 = some (.int .u8) := by kernel_rfl
theorem u9 : Tryz.prog.underlying 9 = some .string := by kernel_rfl
theorem ce5 : Tryz.prog.cellsOf 5 = 1 := by kernel_rfl
theorem ce9 : Tryz.prog.cellsOf 9 = 1 := by kernel_rfl
theorem ce273 : Tryz.prog.cellsOf 273 = 2 := by kernel_rfl
theorem ce336 : Tryz.prog.cellsOf 336 = 32 := by kernel_rfl
theorem ce350 : Tryz.prog.cellsOf 350 = 108 := by kernel_rfl
theorem ce517 : Tryz.prog.cellsOf 517 = 64 := by kernel_rfl
theorem ce554 : Tryz.prog.cellsOf 554 = 256 := by kernel_rfl
theorem two273 : (match Tryz.prog.underlying 273 with | some (.struct ⟨[f0, f1]⟩) => f0.offset == 0 && f1.offset == 1 && f0.type == 9 && f1.type == 9 | _ => false) = true := by kernel_rfl
theorem s273 : ∃ f0 f1 : Field, Tryz.prog.underlying 273 = some (.struct #[f0, f1]) ∧ f0.offset = 0 ∧ f1.offset = 1 ∧ f0.type = 9 ∧ f1.type = 9 := by
  have h := two273
  split at h
  · rename_i f0 f1 hu
    simp only [Bool.and_eq_true, beq_iff_eq] at h
    exact ⟨f0, f1, hu, h.1.1.1, h.1.1.2, h.1.2, h.2⟩
  · cases h
theorem rA : rowI (Rows.laid_math_bits_deBruijn32tab) = rowA := by kernel_rfl
theorem rB : rowS (Rows.laid_fallow_isa_rows) = rowB := by kernel_rfl
theorem rC : rowI (Rows.laid_math_bits_deBruijn64tab) = rowC := by kernel_rfl
theorem rD : rowI (Rows.laid_strings_asciiSpace) = rowD := by kernel_rfl
theorem lB : rowB.length = 108 := by kernel_rfl
theorem hA : (Rows.laid_math_bits_deBruijn32tab : DataW Unit).handleName? = none := by kernel_rfl
theorem hB : (Rows.laid_fallow_isa_rows : DataW Unit).handleName? = none := by kernel_rfl
theorem hC : (Rows.laid_math_bits_deBruijn64tab : DataW Unit).handleName? = none := by kernel_rfl
theorem hD : (Rows.laid_strings_asciiSpace : DataW Unit).handleName? = none := by kernel_rfl

theorem row_int_at {W : World} {l : List (String × DataW Unit)} (hl : laidMetH Tryz.prog l W) {nm : String} {d : DataW Unit} (h : (nm, d) ∈ l) (hd : d.handleName? = none) {g t n : Nat} (hg : Tryz.prog.globalNamed nm = some g) (ht : (Tryz.prog.globals[g]?).map (·.type) = some t)
    (hu : Tryz.prog.underlying t = some (.array n 5)) (hc : Tryz.prog.cellsOf t = n) (hn : 0 < n) {row : List V} (hr : rowI d = row) : ∃ C e, W.heap[g]? = some (.cells C e (0, 0)) ∧ ∀ φ, VRs φ row C.toList := by
  obtain ⟨g', t', cs, fuel, p, k1, k2, k3, k4⟩ := laid_mem hl h hd
  obtain rfl := Option.some.inj (hg.symm.trans k1)
  obtain rfl := Option.some.inj (ht.symm.trans k2)
  have hlen : cs.toList.length = n := by
    obtain ⟨_, _, _, _, q, _⟩ := DataW.trod_array hu k3
    rw [q, hc]
  obtain ⟨e, he⟩ := k4 (by have : cs.toList.length = cs.size := by simp
                           omega)
  refine ⟨cs, e, he, fun φ => ?_⟩
  have := row_ints hu u5 ce5 k3 φ
  rw [hr, List.take_of_length_le (by omega)] at this
  exact this

theorem row_str_at {W : World} {l : List (String × DataW Unit)} (hl : laidMetH Tryz.prog l W) (h : ("fallow/isa.rows", Rows.laid_fallow_isa_rows) ∈ l) : ∃ C e, W.heap[1]? = some (.cells C e (0, 0)) ∧ ∀ φ, VRs φ rowB C.toList := by
  obtain ⟨g', t', cs, fuel, p, k1, k2, k3, k4⟩ := laid_mem hl h hB
  obtain rfl := Option.some.inj (gB.symm.trans k1)
  obtain rfl := Option.some.inj (tB.symm.trans k2)
  have hlen : cs.toList.length = 108 := by
    obtain ⟨_, _, _, _, q, _⟩ := DataW.trod_array u350 k3
    rw [q, ce350]
  obtain ⟨e, he⟩ := k4 (by have : cs.toList.length = cs.size := by simp
                           omega)
  obtain ⟨f0, f1, hu, o0, o1, e0, e1⟩ := s273
  refine ⟨cs, e, he, fun φ => VRs.of_get (by rw [lB, hlen]) fun i v x hv hx => ?_⟩
  have := row_strs u350 hu ce273 o0 o1 (by rw [e0]; exact ce9) (by rw [e1]; exact ce9) (by rw [e0]; exact u9) (by rw [e1]; exact u9) k3 φ i v (by rw [rB]; exact hv)
  obtain ⟨x', hx', hv'⟩ := this
  rw [hx] at hx'; cases hx'
  exact hv'

theorem limRow : Option.map (fun x : Array Value × TypeId => decide (x.1.size = 1) && Tryz.prog.buildable x.2 && (Tryz.prog.cellTypes Tryz.prog.depth x.2 == some [3])) (((begin Tryz.prog (fun _ _ => 0) default).world.heap[5]?).bind Obj.row?) = some true := by kernel_rfl
theorem u3' : Tryz.prog.underlying 3 = some (.int .i64) := by kernel_rfl
theorem ng11 : Tryz.prog.globals.size = 11 := by kernel_rfl

set_option maxRecDepth 100000 in
theorem gw {W : World} (hs : W.ShapedOpen Tryz.prog) {l : List (String × DataW Unit)} (hl : laidMetH Tryz.prog l W) (mA : ("math/bits.deBruijn32tab", Rows.laid_math_bits_deBruijn32tab) ∈ l) (mB : ("fallow/isa.rows", Rows.laid_fallow_isa_rows) ∈ l)
    (mC : ("math/bits.deBruijn64tab", Rows.laid_math_bits_deBruijn64tab) ∈ l) (mD : ("strings.asciiSpace", Rows.laid_strings_asciiSpace) ∈ l) : GW W where
  a := row_int_at hl mA hA gA tA u336 ce336 (by omega) rA
  b := row_str_at hl mB
  c := row_int_at hl mC hC gC tC u517 ce517 (by omega) rC
  d := row_int_at hl mD hD gD tD u554 ce554 (by omega) rD
  m := by
    have h := limRow
    cases hr : ((begin Tryz.prog (fun _ _ => 0) default).world.heap[5]?).bind Obj.row? with
    | none => rw [hr] at h; cases h
    | some x =>
      obtain ⟨zero, t⟩ := x
      rw [hr] at h
      simp only [Option.map_some, Option.some.injEq, Bool.and_eq_true, decide_eq_true_eq, beq_iff_eq] at h
      obtain ⟨⟨h1, h2⟩, h3⟩ := h
      obtain ⟨cs, k1, k2, k3⟩ := hs.1 5 zero t (by rw [ng11]; omega) hr
      obtain ⟨ts, q1, _, q3⟩ := k3 h2
      rw [h3] at q1
      cases q1
      have hsz : cs.size = 1 := by omega
      have h0 : cs[0]? = some cs[0] := by simp
      obtain ⟨u, g1, g2⟩ := q3 0 cs[0] h0
      simp at g1
      subst g1
      unfold Cell.ok at g2
      rw [u3'] at g2
      generalize hcs : cs[0] = v at *
      cases v <;> simp at g2
      rename_i k n
      obtain ⟨rfl, _⟩ := g2
      refine ⟨n, cs, t, k1, ?_⟩
      apply List.ext_getElem?
      intro i
      match i with
      | 0 => simpa using h0
      | i + 1 => simp; omega
end K
