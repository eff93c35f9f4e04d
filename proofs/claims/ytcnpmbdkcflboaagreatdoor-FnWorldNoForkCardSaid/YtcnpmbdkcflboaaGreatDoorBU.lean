/- Plain functions: the peers that the writer reaches; words for rows of zeros. | Walk: WorldReach of the program. -/
import Derived.Test.YtcnpmbdkcflboaaGreatDoorBP
set_option linter.unusedVariables false
set_option linter.unusedSimpArgs false
namespace Go.Proofs.YtcnpmbdkcflboaaGreatDoor
open Go.RowKit

section
variable {ops:Array Oper} {rest:List Oper} {o:Oper} {a:Act} {Q:Exit→Act→World→Prop} {w:World} {base:Nat} {v:Value}
end
end Go.Proofs.YtcnpmbdkcflboaaGreatDoor
