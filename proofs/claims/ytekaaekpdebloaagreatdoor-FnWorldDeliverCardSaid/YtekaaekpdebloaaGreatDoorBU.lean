/- Words and walks of the law. -/
import Derived.Test.YtekaaekpdebloaaGreatDoorBP
set_option linter.unusedVariables false
set_option linter.unusedSimpArgs false
namespace Go.Proofs.YtekaaekpdebloaaGreatDoor
open Go.RowKit

section
variable {ops:Array Oper} {rest:List Oper} {o:Oper} {a:Act} {Q:Exit→Act→World→Prop} {w:World} {base:Nat} {v:Value}
end
end Go.Proofs.YtekaaekpdebloaaGreatDoor
