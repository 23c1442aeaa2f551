/- The statement GraphFindsSaid: for every input that can be read the law returns true, and each argument reads as it did. Conditions: none but the statement's own. -/
import Derived.Test.YtdblhdpnllckhaaGreatCGraphFindsN4
namespace Go.Proofs.YtdblhdpnllckhaaGreat
open Go AE
theorem graphFinds_holds : Rows.GraphFindsSaid := AE.graphFinds.proved fun g x l hg _ _ => lim0 (GraphFinds_pure g x l (gd_graph hg))
end Go.Proofs.YtdblhdpnllckhaaGreat
