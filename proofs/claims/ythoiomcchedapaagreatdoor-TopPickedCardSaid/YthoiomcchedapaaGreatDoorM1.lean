/-
  stands(), and what it asks, reckoned once for all by the kernel over the heap of the listed rows: from there each call of them may be taken as done.
-/
import Derived.Test.YthoiomcchedapaaGreatDoorProg
import Derived.KernelRfl
import Derived.Test.YthoiomcchedapaaGreatDoorE09
set_option autoImplicit true
set_option relaxedAutoImplicit true
set_option linter.unusedVariables false
set_option linter.unusedSimpArgs false
open Go Go.Proofs Go.Fal
namespace K

def rowA : List V := [.int .u8 (.ofNat 0), .int .u8 (.ofNat 1), .int .u8 (.ofNat 28), .int .u8 (.ofNat 2), .int .u8 (.ofNat 29), .int .u8 (.ofNat 14), .int .u8 (.ofNat 24), .int .u8 (.ofNat 3), .int .u8 (.ofNat 30), .int .u8 (.ofNat 22), .int .u8 (.ofNat 20), .int .u8 (.ofNat 15), .int .u8 (.ofNat 25), .int .u8 (.ofNat 17), .int .u8 (.ofNat 4), .int .u8 (.ofNat 8), .int .u8 (.ofNat 31), .int .u8 (.ofNat 27), .int .u8 (.ofNat 13), .int .u8 (.ofNat 23), .int .u8 (.ofNat 21), .int .u8 (.ofNat 19), .int .u8 (.ofNat 16), .int .u8 (.ofNat 7), .int .u8 (.ofNat 26), .int .u8 (.ofNat 12), .int .u8 (.ofNat 18), .int .u8 (.ofNat 6), .int .u8 (.ofNat 11), .int .u8 (.ofNat 5), .int .u8 (.ofNat 10), .int .u8 (.ofNat 9)]
theorem rowA_ok : rowA.all V.clean0 = true := by kernel_rfl
def rowB : List V := [.str [], .str [], .str [108, 105], .str [97, 105], .str [108, 117, 105], .str [97, 106], .str [97, 100, 100], .str [97, 98, 99], .str [115, 117, 98], .str [97, 98, 99], .str [109, 117, 108], .str [97, 98, 99], .str [100, 105, 118], .str [97, 98, 99], .str [114, 101, 109], .str [97, 98, 99], .str [97, 110, 100], .str [97, 98, 99], .str [111, 114], .str [97, 98, 99], .str [120, 111, 114], .str [97, 98, 99], .str [115, 104, 108], .str [97, 98, 99], .str [115, 104, 114], .str [97, 98, 99], .str [108, 116], .str [97, 98, 99], .str [108, 116, 117], .str [97, 98, 99], .str [101, 113], .str [97, 98, 99], .str [97, 100, 100, 105], .str [97, 98, 105], .str [108, 98], .str [97, 98, 105], .str [108, 104], .str [97, 98, 105], .str [108, 119], .str [97, 98, 105], .str [115, 98], .str [97, 98, 105], .str [115, 104], .str [97, 98, 105], .str [115, 119], .str [97, 98, 105], .str [108, 99], .str [97, 98, 105], .str [115, 99], .str [97, 98, 105], .str [98, 101, 113], .str [97, 98, 105], .str [98, 110, 101], .str [97, 98, 105], .str [98, 108, 116], .str [97, 98, 105], .str [98, 103, 101], .str [97, 98, 105], .str [106, 97, 108], .str [97, 106], .str [106, 97, 108, 114], .str [97, 98], .str [109, 111, 118, 101], .str [97, 98], .str [105, 110, 99], .str [97, 98, 99], .str [105, 110, 99, 105], .str [97, 98, 105], .str [97, 100, 100, 114], .str [97, 98, 99], .str [115, 101, 116], .str [97, 98, 99], .str [101, 120, 97, 99, 116], .str [97, 98, 99], .str [97, 110, 100, 115], .str [97, 98, 99], .str [115, 101, 97, 108], .str [97, 98, 99], .str [111, 112, 101, 110], .str [97, 98, 99], .str [98, 117, 105, 108, 100], .str [97, 98, 99], .str [99, 108, 101, 97, 114], .str [97, 98], .str [103, 97, 100, 100, 114], .str [97, 98], .str [103, 98, 97, 115, 101], .str [97, 98], .str [103, 108, 101, 110], .str [97, 98], .str [103, 112, 101, 114, 109], .str [97, 98], .str [103, 116, 121, 112, 101], .str [97, 98], .str [103, 116, 97, 103], .str [97, 98], .str [105, 115, 105, 110, 116], .str [97, 98], .str [112, 99], .str [97, 106], .str [99, 97, 108, 108], .str [97, 98], .str [114, 101, 116], .str [], .str [101, 99, 97, 108, 108], .str [105], .str [116, 114, 97, 112], .str []]
theorem rowB_ok : rowB.all V.clean0 = true := by kernel_rfl
def rowC : List V := [.int .u8 (.ofNat 0), .int .u8 (.ofNat 1), .int .u8 (.ofNat 56), .int .u8 (.ofNat 2), .int .u8 (.ofNat 57), .int .u8 (.ofNat 49), .int .u8 (.ofNat 28), .int .u8 (.ofNat 3), .int .u8 (.ofNat 61), .int .u8 (.ofNat 58), .int .u8 (.ofNat 42), .int .u8 (.ofNat 50), .int .u8 (.ofNat 38), .int .u8 (.ofNat 29), .int .u8 (.ofNat 17), .int .u8 (.ofNat 4), .int .u8 (.ofNat 62), .int .u8 (.ofNat 47), .int .u8 (.ofNat 59), .int .u8 (.ofNat 36), .int .u8 (.ofNat 45), .int .u8 (.ofNat 43), .int .u8 (.ofNat 51), .int .u8 (.ofNat 22), .int .u8 (.ofNat 53), .int .u8 (.ofNat 39), .int .u8 (.ofNat 33), .int .u8 (.ofNat 30), .int .u8 (.ofNat 24), .int .u8 (.ofNat 18), .int .u8 (.ofNat 12), .int .u8 (.ofNat 5), .int .u8 (.ofNat 63), .int .u8 (.ofNat 55), .int .u8 (.ofNat 48), .int .u8 (.ofNat 27), .int .u8 (.ofNat 60), .int .u8 (.ofNat 41), .int .u8 (.ofNat 37), .int .u8 (.ofNat 16), .int .u8 (.ofNat 46), .int .u8 (.ofNat 35), .int .u8 (.ofNat 44), .int .u8 (.ofNat 21), .int .u8 (.ofNat 52), .int .u8 (.ofNat 32), .int .u8 (.ofNat 23), .int .u8 (.ofNat 11), .int .u8 (.ofNat 54), .int .u8 (.ofNat 26), .int .u8 (.ofNat 40), .int .u8 (.ofNat 15), .int .u8 (.ofNat 34), .int .u8 (.ofNat 20), .int .u8 (.ofNat 31), .int .u8 (.ofNat 10), .int .u8 (.ofNat 25), .int .u8 (.ofNat 14), .int .u8 (.ofNat 19), .int .u8 (.ofNat 9), .int .u8 (.ofNat 13), .int .u8 (.ofNat 8), .int .u8 (.ofNat 7), .int .u8 (.ofNat 6)]
theorem rowC_ok : rowC.all V.clean0 = true := by kernel_rfl
def rowD : List V := [.int .u8 (.ofNat 0), .int .u8 (.ofNat 0), .int .u8 (.ofNat 0), .int .u8 (.ofNat 0), .int .u8 (.ofNat 0), .int .u8 (.ofNat 0), .int .u8 (.ofNat 0), .int .u8 (.ofNat 0), .int .u8 (.ofNat 0), .int .u8 (.ofNat 1), .int .u8 (.ofNat 1), .int .u8 (.ofNat 1), .int .u8 (.ofNat 1), .int .u8 (.ofNat 1), .int .u8 (.ofNat 0), .int .u8 (.ofNat 0), .int .u8 (.ofNat 0), .int .u8 (.ofNat 0), .int .u8 (.ofNat 0), .int .u8 (.ofNat 0), .int .u8 (.ofNat 0), .int .u8 (.ofNat 0), .int .u8 (.ofNat 0), .int .u8 (.ofNat 0), .int .u8 (.ofNat 0), .int .u8 (.ofNat 0), .int .u8 (.ofNat 0), .int .u8 (.ofNat 0), .int .u8 (.ofNat 0), .int .u8 (.ofNat 0), .int .u8 (.ofNat 0), .int .u8 (.ofNat 0), .int .u8 (.ofNat 1), .int .u8 (.ofNat 0), .int .u8 (.ofNat 0), .int .u8 (.ofNat 0), .int .u8 (.ofNat 0), .int .u8 (.ofNat 0), .int .u8 (.ofNat 0), .int .u8 (.ofNat 0), .int .u8 (.ofNat 0), .int .u8 (.ofNat 0), .int .u8 (.ofNat 0), .int .u8 (.ofNat 0), .int .u8 (.ofNat 0), .int .u8 (.ofNat 0), .int .u8 (.ofNat 0), .int .u8 (.ofNat 0), .int .u8 (.ofNat 0), .int .u8 (.ofNat 0), .int .u8 (.ofNat 0), .int .u8 (.ofNat 0), .int .u8 (.ofNat 0), .int .u8 (.ofNat 0), .int .u8 (.ofNat 0), .int .u8 (.ofNat 0), .int .u8 (.ofNat 0), .int .u8 (.ofNat 0), .int .u8 (.ofNat 0), .int .u8 (.ofNat 0), .int .u8 (.ofNat 0), .int .u8 (.ofNat 0), .int .u8 (.ofNat 0), .int .u8 (.ofNat 0), .int .u8 (.ofNat 0), .int .u8 (.ofNat 0), .int .u8 (.ofNat 0), .int .u8 (.ofNat 0), .int .u8 (.ofNat 0), .int .u8 (.ofNat 0), .int .u8 (.ofNat 0), .int .u8 (.ofNat 0), .int .u8 (.ofNat 0), .int .u8 (.ofNat 0), .int .u8 (.ofNat 0), .int .u8 (.ofNat 0), .int .u8 (.ofNat 0), .int .u8 (.ofNat 0), .int .u8 (.ofNat 0), .int .u8 (.ofNat 0), .int .u8 (.ofNat 0), .int .u8 (.ofNat 0), .int .u8 (.ofNat 0), .int .u8 (.ofNat 0), .int .u8 (.ofNat 0), .int .u8 (.ofNat 0), .int .u8 (.ofNat 0), .int .u8 (.ofNat 0), .int .u8 (.ofNat 0), .int .u8 (.ofNat 0), .int .u8 (.ofNat 0), .int .u8 (.ofNat 0), .int .u8 (.ofNat 0), .int .u8 (.ofNat 0), .int .u8 (.ofNat 0), .int .u8 (.ofNat 0), .int .u8 (.ofNat 0), .int .u8 (.ofNat 0), .int .u8 (.ofNat 0), .int .u8 (.ofNat 0), .int .u8 (.ofNat 0), .int .u8 (.ofNat 0), .int .u8 (.ofNat 0), .int .u8 (.ofNat 0), .int .u8 (.ofNat 0), .int .u8 (.ofNat 0), .int .u8 (.ofNat 0), .int .u8 (.ofNat 0), .int .u8 (.ofNat 0), .int .u8 (.ofNat 0), .int .u8 (.ofNat 0), .int .u8 (.ofNat 0), .int .u8 (.ofNat 0), .int .u8 (.ofNat 0), .int .u8 (.ofNat 0), .int .u8 (.ofNat 0), .int .u8 (.ofNat 0), .int .u8 (.ofNat 0), .int .u8 (.ofNat 0), .int .u8 (.ofNat 0), .int .u8 (.ofNat 0), .int .u8 (.ofNat 0), .int .u8 (.ofNat 0), .int .u8 (.ofNat 0), .int .u8 (.ofNat 0), .int .u8 (.ofNat 0), .int .u8 (.ofNat 0), .int .u8 (.ofNat 0), .int .u8 (.ofNat 0), .int .u8 (.ofNat 0), .int .u8 (.ofNat 0), .int .u8 (.ofNat 0), .int .u8 (.ofNat 0), .int .u8 (.ofNat 0), .int .u8 (.ofNat 0), .int .u8 (.ofNat 0), .int .u8 (.ofNat 0), .int .u8 (.ofNat 0), .int .u8 (.ofNat 0), .int .u8 (.ofNat 0), .int .u8 (.ofNat 0), .int .u8 (.ofNat 0), .int .u8 (.ofNat 0), .int .u8 (.ofNat 0), .int .u8 (.ofNat 0), .int .u8 (.ofNat 0), .int .u8 (.ofNat 0), .int .u8 (.ofNat 0), .int .u8 (.ofNat 0), .int .u8 (.ofNat 0), .int .u8 (.ofNat 0), .int .u8 (.ofNat 0), .int .u8 (.ofNat 0), .int .u8 (.ofNat 0), .int .u8 (.ofNat 0), .int .u8 (.ofNat 0), .int .u8 (.ofNat 0), .int .u8 (.ofNat 0), .int .u8 (.ofNat 0), .int .u8 (.ofNat 0), .int .u8 (.ofNat 0), .int .u8 (.ofNat 0), .int .u8 (.ofNat 0), .int .u8 (.ofNat 0), .int .u8 (.ofNat 0), .int .u8 (.ofNat 0), .int .u8 (.ofNat 0), .int .u8 (.ofNat 0), .int .u8 (.ofNat 0), .int .u8 (.ofNat 0), .int .u8 (.ofNat 0), .int .u8 (.ofNat 0), .int .u8 (.ofNat 0), .int .u8 (.ofNat 0), .int .u8 (.ofNat 0), .int .u8 (.ofNat 0), .int .u8 (.ofNat 0), .int .u8 (.ofNat 0), .int .u8 (.ofNat 0), .int .u8 (.ofNat 0), .int .u8 (.ofNat 0), .int .u8 (.ofNat 0), .int .u8 (.ofNat 0), .int .u8 (.ofNat 0), .int .u8 (.ofNat 0), .int .u8 (.ofNat 0), .int .u8 (.ofNat 0), .int .u8 (.ofNat 0), .int .u8 (.ofNat 0), .int .u8 (.ofNat 0), .int .u8 (.ofNat 0), .int .u8 (.ofNat 0), .int .u8 (.ofNat 0), .int .u8 (.ofNat 0), .int .u8 (.ofNat 0), .int .u8 (.ofNat 0), .int .u8 (.ofNat 0), .int .u8 (.ofNat 0), .int .u8 (.ofNat 0), .int .u8 (.ofNat 0), .int .u8 (.ofNat 0), .int .u8 (.ofNat 0), .int .u8 (.ofNat 0), .int .u8 (.ofNat 0), .int .u8 (.ofNat 0), .int .u8 (.ofNat 0), .int .u8 (.ofNat 0), .int .u8 (.ofNat 0), .int .u8 (.ofNat 0), .int .u8 (.ofNat 0), .int .u8 (.ofNat 0), .int .u8 (.ofNat 0), .int .u8 (.ofNat 0), .int .u8 (.ofNat 0), .int .u8 (.ofNat 0), .int .u8 (.ofNat 0), .int .u8 (.ofNat 0), .int .u8 (.ofNat 0), .int .u8 (.ofNat 0), .int .u8 (.ofNat 0), .int .u8 (.ofNat 0), .int .u8 (.ofNat 0), .int .u8 (.ofNat 0), .int .u8 (.ofNat 0), .int .u8 (.ofNat 0), .int .u8 (.ofNat 0), .int .u8 (.ofNat 0), .int .u8 (.ofNat 0), .int .u8 (.ofNat 0), .int .u8 (.ofNat 0), .int .u8 (.ofNat 0), .int .u8 (.ofNat 0), .int .u8 (.ofNat 0), .int .u8 (.ofNat 0), .int .u8 (.ofNat 0), .int .u8 (.ofNat 0), .int .u8 (.ofNat 0), .int .u8 (.ofNat 0), .int .u8 (.ofNat 0), .int .u8 (.ofNat 0), .int .u8 (.ofNat 0), .int .u8 (.ofNat 0), .int .u8 (.ofNat 0), .int .u8 (.ofNat 0), .int .u8 (.ofNat 0), .int .u8 (.ofNat 0), .int .u8 (.ofNat 0), .int .u8 (.ofNat 0), .int .u8 (.ofNat 0), .int .u8 (.ofNat 0), .int .u8 (.ofNat 0), .int .u8 (.ofNat 0), .int .u8 (.ofNat 0), .int .u8 (.ofNat 0), .int .u8 (.ofNat 0), .int .u8 (.ofNat 0)]
theorem rowD_ok : rowD.all V.clean0 = true := by kernel_rfl

/-- the rows that are only read, and the limit, whatever it is -/
def hb (m : Int) : H := ⟨11, (.n (.n (.n .e (some (.cells false true 64 rowC .e)) .e) (some (.cells false true 108 rowB .e)) (.n .e (some (.cells false true 1 [.int .i64 m] .e)) .e)) (some (.cells false true 32 rowA .e)) (.n (.n .e (some (.cells false true 256 rowD .e)) .e) none .e))⟩
theorem hb_eq (m : Int) : hb m = ⟨11, (((((T.e.set 0 (.cells false true 32 rowA .e)).set 1 (.cells false true 108 rowB .e)).set 3 (.cells false true 64 rowC .e)).set 4 (.cells false true 256 rowD .e)).set 5 (.cells false true 1 [.int .i64 m] .e))⟩ := rfl

def rowIs (h : H) (g n : Nat) (l : List V) : Bool :=
  match h.get g with
  | some (.cells false true k z .e) => Nat.beq k n && vbeqL z l
  | _ => false
where vbeqL (z l : List V) : Bool := vsbeq z l
def limIs (h : H) (g : Nat) : Bool :=
  match h.get g with
  | some (.cells false true 1 [.int .i64 _] .e) => true
  | _ => false
def baseB (h : H) : Bool := rowIs h 0 32 rowA && rowIs h 1 108 rowB && rowIs h 3 64 rowC && rowIs h 4 256 rowD && limIs h 5

theorem rowIs_spec {h : H} {g n : Nat} {l : List V} (hr : rowIs h g n l = true) : h.get g = some (.cells false true n l .e) := by
  unfold rowIs at hr
  split at hr
  · rename_i k z hg
    simp only [Bool.and_eq_true] at hr
    have h1 := Nat.eq_of_beq_eq_true hr.1
    have h2 := vsbeq_eq _ _ hr.2
    subst h1; subst h2; exact hg
  · cases hr
theorem limIs_spec {h : H} {g : Nat} (hr : limIs h g = true) : ∃ m, h.get g = some (.cells false true 1 [.int .i64 m] .e) := by
  unfold limIs at hr
  split at hr
  · rename_i m hg; exact ⟨m, hg⟩
  · cases hr

theorem hb_get {m : Int} {b : Nat} {o : O} (hh : (hb m).get b = some o) : (b = 0 ∧ o = (.cells false true 32 rowA .e)) ∨ (b = 1 ∧ o = (.cells false true 108 rowB .e)) ∨ (b = 3 ∧ o = (.cells false true 64 rowC .e)) ∨ (b = 4 ∧ o = (.cells false true 256 rowD .e)) ∨ (b = 5 ∧ o = (.cells false true 1 [.int .i64 m] .e)) := by
  rw [hb_eq] at hh
  simp only [H.get, T.get_set, T.get_e] at hh
  




  repeat' split at hh
  all_goals first
    | (cases hh; done)
    | (rename_i e; cases hh; subst e; simp)

theorem hb_ro (m : Int) : ROnly (hb m) := by
  intro b o hh
  have := hb_get hh
  rcases this with ⟨rfl, rfl⟩ | ⟨rfl, rfl⟩ | ⟨rfl, rfl⟩ | ⟨rfl, rfl⟩ | ⟨rfl, rfl⟩
  · exact ⟨by show _ < (11 : Nat); omega, _, _, _, rfl, rowA_ok⟩
  · exact ⟨by show _ < (11 : Nat); omega, _, _, _, rfl, rowB_ok⟩
  · exact ⟨by show _ < (11 : Nat); omega, _, _, _, rfl, rowC_ok⟩
  · exact ⟨by show _ < (11 : Nat); omega, _, _, _, rfl, rowD_ok⟩
  · exact ⟨by show _ < (11 : Nat); omega, _, _, _, rfl, rfl⟩

theorem base_spec {h : H} (hh : baseB h = true) : ∃ m, ∀ b o, (hb m).get b = some o → h.get b = some o := by
  unfold baseB at hh
  simp only [Bool.and_eq_true] at hh
  obtain ⟨⟨⟨⟨h0, h1⟩, h2⟩, h3⟩, hl⟩ := hh
  obtain ⟨m, hm⟩ := limIs_spec hl
  refine ⟨m, fun b o hb => ?_⟩
  have := hb_get hb
  rcases this with ⟨rfl, rfl⟩ | ⟨rfl, rfl⟩ | ⟨rfl, rfl⟩ | ⟨rfl, rfl⟩ | ⟨rfl, rfl⟩
  · exact rowIs_spec h0
  · exact rowIs_spec h1
  · exact rowIs_spec h2
  · exact rowIs_spec h3
  · exact hm

/-! ## The calls that are done once for all -/
noncomputable def P : Program := Tryz.prog
def opsS : List Nat := [32, 124, 124, 32, 38, 38, 32, 61, 61, 32, 33, 61, 32, 60, 32, 60, 61, 32, 62, 32, 62, 61, 32, 43, 32, 45, 32, 124, 32, 94, 32, 42, 32, 47, 32, 37, 32, 38, 32, 60, 60, 32, 62, 62, 32]
def srcS : List Nat := [102, 117, 110, 99, 32, 109, 97, 105, 110, 40, 41, 32, 123, 32, 118, 97, 114, 32, 112, 32, 112, 116, 114, 32, 61, 32, 110, 101, 119, 40, 50, 41, 59, 32, 112, 91, 49, 93, 32, 61, 32, 53, 59, 32, 111, 117, 116, 32, 112, 91, 49, 93, 32, 42, 32, 50, 59, 32, 102, 114, 101, 101, 32, 112, 59, 32, 100, 114, 97, 105, 110, 59, 32, 111, 117, 116, 32, 55, 59, 32, 125]
def imgS : List Nat := [24, 0, 0, 0, 0, 1, 0, 0, 0, 0, 0, 0, 55, 0, 0, 0, 2, 0, 80, 29, 0, 0, 0, 52, 0, 0, 94, 24, 2, 0, 48, 1, 28, 0, 96, 1, 0, 96, 67, 12, 2, 0, 64, 25, 7, 0, 96, 29, 4, 0, 96, 1, 0, 96, 163, 11, 1, 0, 0, 52, 0, 0, 74, 47, 2, 0, 64, 25, 2, 0, 96, 29, 0, 0, 174, 41, 0, 0, 58, 31, 16, 0, 62, 24, 16, 0, 62, 23, 32, 0, 62, 24, 1, 0, 48, 1, 48, 0, 62, 24, 5, 0, 48, 1, 32, 0, 78, 23, 48, 0, 126, 23, 4, 0, 96, 1, 0, 96, 119, 11, 0, 112, 68, 32, 0, 0, 52, 24, 16, 0, 62, 23, 32, 0, 62, 24, 1, 0, 48, 1, 32, 0, 78, 23, 4, 0, 96, 1, 0, 96, 51, 11, 0, 48, 68, 32, 0, 0, 52, 23, 0, 0, 99, 48, 2, 0, 96, 26, 0, 0, 0, 53, 32, 0, 62, 24, 2, 0, 48, 1, 32, 0, 78, 23, 0, 48, 52, 5, 0, 0, 163, 31, 4, 0, 0, 52, 16, 0, 62, 23, 0, 0, 163, 31, 2, 0, 0, 52, 3, 0, 0, 52, 7, 0, 48, 1, 0, 0, 163, 31, 4, 0, 0, 52, 0, 0, 160, 1, 0, 0, 94, 23, 0, 0, 101, 30, 0, 0, 0, 0, 0, 0, 0, 0, 1, 0, 0, 0, 0, 0, 0, 0]
noncomputable def c0 : Cfg := ⟨Tryz.prog, 11, 401, 491, 5, fun _ _ => none, fun _ => false⟩
noncomputable def memo1 (f : Nat) (args : List V) : Option V := cond (Nat.beq f 483) (cond (vsF args [.str opsS, .str [32, 42, 32]]) (some (.int .i64 30)) none) none
noncomputable def memo2 (f : Nat) (args : List V) : Option V := cond (Nat.beq f 169) (cond (vsF args [.str srcS, .int .i64 24]) (some (.tup [.str imgS, .nili])) none) (memo1 f args)
noncomputable def memo3 (f : Nat) (args : List V) : Option V := cond (Nat.beq f 24) (cond (vsF args []) (some (.bool true)) none) (memo2 f args)
noncomputable def c1 : Cfg := ⟨Tryz.prog, 11, 401, 491, 5, memo1, baseB⟩
noncomputable def c2 : Cfg := ⟨Tryz.prog, 11, 401, 491, 5, memo2, baseB⟩
noncomputable def c3 : Cfg := ⟨Tryz.prog, 11, 401, 491, 5, memo3, baseB⟩
end K
