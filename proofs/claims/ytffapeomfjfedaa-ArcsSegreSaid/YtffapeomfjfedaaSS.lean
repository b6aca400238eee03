/- slices.Sort: the kit's contract as one of these. -/
import Derived.Test.YtffapeomfjfedaaSL
import Derived.Test.YtffapeomfjfedaaAU
namespace Go.Arcs
open Go Go.Ab Go.Proofs
theorem ok66 (opn:Bool) : (sortCon 66 opn).Ok Try.prog :=
 sort_ok (by kernel_rfl) (fun blk off cap zs w h1 h2 h3=>Any.slices_Sort_int Try.lays189 blk off cap zs w h1 h2 h3) (fun p cap w=>Any.slices_Sort_int_none Try.lays189 p cap w) opn
end Go.Arcs
