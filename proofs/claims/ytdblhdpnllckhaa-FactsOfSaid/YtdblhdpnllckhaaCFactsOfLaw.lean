/- The statement FactsOfSaid: for every input that can be read the law returns true, and each argument reads as it did. Conditions: none but the statement's own. -/
import Derived.Test.YtdblhdpnllckhaaCFactsOfN4
namespace Go.Proofs.Ytdblhdpnllckhaa
open Go AE
theorem factsOf_holds : Rows.FactsOfSaid := AE.factsOf.proved fun g hg => lim0 (FactsOf_pure g (gd_graph hg))
end Go.Proofs.Ytdblhdpnllckhaa
