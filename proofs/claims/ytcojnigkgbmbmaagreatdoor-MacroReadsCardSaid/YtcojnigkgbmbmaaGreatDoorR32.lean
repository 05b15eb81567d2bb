/- PenC -/
import Derived.Test.YtcojnigkgbmbmaaGreatDoorR25
import Derived.Lib.OthersKept
namespace Go.Proofs.YtcojnigkgbmbmaaGreatDoor
open Go Go.RowKit
attribute [local go_sem] Oper.semAt_some
end Go.Proofs.YtcojnigkgbmbmaaGreatDoor
