/- Whether one log is a beginning of another: the functions above the loops. Conditions as in Log. -/
import Derived.Test.YtmdmcjhodhphgaaGreatDoorBegin
namespace Go.Proofs.YtmdmcjhodhphgaaGreatDoor
open Go.RowKit

end Go.Proofs.YtmdmcjhodhphgaaGreatDoor
