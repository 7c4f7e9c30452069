/-
  One closed fact, or a few, that the tie of the listed variables, or the start that fits, asks for.
-/
import Derived.Test.YthoiomcchedapaaGreatDoorRows
import Derived.LaidByTextLater
import Derived.LaidMore
import Derived.LaidLaws
import Derived.ProofKit
import Derived.Test.YthoiomcchedapaaGreatDoorE01
set_option autoImplicit true
set_option relaxedAutoImplicit true
set_option linter.unusedVariables false
set_option linter.unusedSimpArgs false
namespace Go.Proofs.YthoiomcchedapaaGreatDoor
open Go
noncomputable def laidL : List (String × DataW Unit) := [("strings.asciiSpace", Rows.laid_strings_asciiSpace), ("unicode.White_Space", Rows.laid_unicode_White_Space), ("strconv.ErrSyntax", Rows.laid_strconv_ErrSyntax), ("strconv.ErrRange", Rows.laid_strconv_ErrRange), ("internal/strconv.uint64pow10", Rows.laid_internal_strconv_uint64pow10), ("math/bits.deBruijn32tab", Rows.laid_math_bits_deBruijn32tab), ("math/bits.deBruijn64tab", Rows.laid_math_bits_deBruijn64tab), ("fallow/isa.rows", Rows.laid_fallow_isa_rows), ("errors.errorType", Rows.laid_errors_errorType)]
def pk : MemPlace → Nat
  | .cell b o => (b * 1048576 + o) * 2
  | .map b => b * 2 + 1
def chk : List MemPlace → Go.Fal.T Unit → Bool
  | [], _ => true
  | p :: ps, t => match t.get (pk p) with
    | none => chk ps (t.set (pk p) ())
    | some _ => false
theorem chk_nodup : ∀ {ps : List MemPlace} {t : Go.Fal.T Unit}, chk ps t = true → (∀ p ∈ ps, t.get (pk p) = none) ∧ ps.Nodup
  | [], _, _ => ⟨fun _ h => (by cases h), List.nodup_nil⟩
  | p :: ps, t, h => by
    unfold chk at h
    split at h
    · rename_i hn
      obtain ⟨h1, h2⟩ := chk_nodup h
      refine ⟨fun q hq => ?_, List.nodup_cons.2 ⟨fun hp => ?_, h2⟩⟩
      · rcases List.mem_cons.1 hq with rfl | hq
        · exact hn
        · have := h1 q hq
          rw [Go.Fal.T.get_set] at this
          split at this
          · cases this
          · exact this
      · have := h1 p hp
        rw [Go.Fal.T.get_set_same] at this
        cases this
    · cases h
end Go.Proofs.YthoiomcchedapaaGreatDoor
