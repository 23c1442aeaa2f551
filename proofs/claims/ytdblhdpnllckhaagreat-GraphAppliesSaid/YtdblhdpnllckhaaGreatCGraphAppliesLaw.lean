/- The statement GraphAppliesSaid: for every input that can be read the law returns true, and each argument reads as it did. Conditions: none but the statement's own. -/
import Derived.Test.YtdblhdpnllckhaaGreatCGraphAppliesN5
namespace Go.Proofs.YtdblhdpnllckhaaGreat
open Go AE
theorem graphApplies_holds : Rows.GraphAppliesSaid := AE.graphApplies.proved fun g l hg hl => lim0 (GraphApplies_pure g l (gd_graph hg) (gd_ops hl).1 (gd_ops hl).2)
end Go.Proofs.YtdblhdpnllckhaaGreat
