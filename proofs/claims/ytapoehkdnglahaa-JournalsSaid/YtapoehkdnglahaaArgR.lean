/- Records as arguments. -/
import Derived.Test.YtapoehkdnglahaaArgT
namespace Go.Proofs.Ytapoehkdnglahaa
open Go.RowKit Go.ChangeShapes Go.WideShapes
set_option linter.unusedVariables false
theorem dec_record : Dec 28 Rec.cells (fun _ _ => True) := fun {H enc w base spare held n c y} h => by
  obtain ⟨r, hr⟩ := dec_rec n c y h
  exact ⟨r, hr, trivial⟩
end Go.Proofs.Ytapoehkdnglahaa
