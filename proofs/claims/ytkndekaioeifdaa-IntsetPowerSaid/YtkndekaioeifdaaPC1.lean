/- The sets chapter: no package variables. -/
import Derived.Test.YtkndekaioeifdaaPT1
import Derived.Test.YtkndekaioeifdaaEngV
set_option maxRecDepth 100000
namespace Go.Proofs.Ytkndekaioeifdaa
open Go Go.Eng
@[reducible] def gd0 : Nat → Option (Sigma Sh.den) := fun _ => none
@[reducible] def cx0 : Cx := { ti := tis, gd := gd0 }
end Go.Proofs.Ytkndekaioeifdaa
