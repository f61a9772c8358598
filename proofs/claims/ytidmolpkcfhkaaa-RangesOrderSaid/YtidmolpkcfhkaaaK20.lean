/- The laws' own structs as data. -/
import Derived.Test.YtidmolpkcfhkaaaK19
namespace Go.Proofs.Ytidmolpkcfhkaaa
set_option linter.unusedSectionVars false
set_option linter.unusedVariables false
set_option linter.unusedSimpArgs false
open Go
abbrev i64R (x : Int) : Prop := -9223372036854775808 ≤ x ∧ x ≤ 9223372036854775807
structure Act5 where
  frm : Int
  to : Int
  cut : Bool
  raw : Bool
def EAct5 : Enc Act5 := { sz := 4, f := fun x => [.int .i64 x.frm, .int .i64 x.to, .bool x.cut, .bool x.raw], len := fun _ => rfl, one := fun _ => rfl, ok := fun x => i64R x.frm ∧ i64R x.to }
theorem opens_haulierlaw05_Act {P : Program} (hP : IsP P) {W : World} : Opens P W 82 EAct5 (fun _ _ => True) := by
  obtain ⟨rfl⟩ := hP
  have i : Opens _ W _ _ _ := Opens.i64 Try.underlying3
  have b : Opens _ W _ _ _ := Opens.bool Try.underlying4
  have h : Opens _ W _ _ _ := Opens.struct Try.underlying82 (by kernel_rfl) (OpensF.cons rfl (by kernel_rfl) i (OpensF.cons rfl (by kernel_rfl) i (OpensF.cons rfl (by kernel_rfl) b (OpensF.cons rfl (by kernel_rfl) b OpensF.nil))))
  intro H enc
  exact Opens.map h (F := EAct5) (B := fun _ _ => True) (fun x => ⟨x.1, x.2.1, x.2.2.1, x.2.2.2.1⟩) (fun _ => rfl) (fun x h => ⟨h.1, h.2.1⟩) (fun _ _ _ => trivial)
end Go.Proofs.Ytidmolpkcfhkaaa
