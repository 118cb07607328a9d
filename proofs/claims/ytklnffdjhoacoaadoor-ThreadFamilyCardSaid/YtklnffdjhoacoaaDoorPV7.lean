/- The Thread chapter: existence. Conditions: none. -/
import Derived.Test.YtklnffdjhoacoaaDoorPV6
namespace Go.Proofs.YtklnffdjhoacoaaDoor
open Go Go.Eng
theorem ex_of {α : Type 1} {Q : α → Prop} {V : Prop} (a : α) (v : V) (h : V = Q a) : ∃ a, Q a := ⟨a, cast h v⟩
end Go.Proofs.YtklnffdjhoacoaaDoor
