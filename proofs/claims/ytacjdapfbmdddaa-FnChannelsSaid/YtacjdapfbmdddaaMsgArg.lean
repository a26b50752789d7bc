/- Messages that come in as arguments, opened. No conditions. -/
import Derived.Test.YtacjdapfbmdddaaArg
import Derived.Test.YtacjdapfbmdddaaMsg
namespace Go.Proofs.Ytacjdapfbmdddaa
open Go.ChangeShapes Go.WideShapes Go.ChangeAt Go.RowKit Go.Joins Go.Deep

section
variable {H : Type} {enc : TypeId × Value → H} {W : World}
end
end Go.Proofs.Ytacjdapfbmdddaa
