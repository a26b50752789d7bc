/- Whether one log is a beginning of another: the functions above the loops. Conditions as in Log. -/
import Derived.Test.YtcphchmpgnfokaaDoorBegin
namespace Go.Proofs.YtcphchmpgnfokaaDoor
open Go.RowKit

end Go.Proofs.YtcphchmpgnfokaaDoor
