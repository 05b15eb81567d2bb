/- Open19, Open21 -/
import Derived.Test.YthhijgcfbjcgiaaGreatDoorQ08
import Derived.Test.YthhijgcfbjcgiaaGreatDoorQ20
import Derived.Lib.SmallJoins
import Derived.Test.YthhijgcfbjcgiaaGreatDoorQ32
namespace Go.Proofs.YthhijgcfbjcgiaaGreatDoor
section
open Go Go.ChangeShapes Go.WideShapes Go.ChangeAt Go.RowKit Go.Joins
section
variable {H:Type} {enc:TypeId×Value->H}
end
end
open Go Go.ChangeShapes Go.WideShapes Go.ChangeAt Go.RowKit Go.Joins
section
variable {H:Type} {enc:TypeId×Value->H}
end
end Go.Proofs.YthhijgcfbjcgiaaGreatDoor
