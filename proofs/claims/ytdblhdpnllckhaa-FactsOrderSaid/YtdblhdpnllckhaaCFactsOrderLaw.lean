/- The statement FactsOrderSaid: for every input that can be read the law returns true, and each argument reads as it did. Conditions: none but the statement's own. -/
import Derived.Test.YtdblhdpnllckhaaCFactsOrderN3
namespace Go.Proofs.Ytdblhdpnllckhaa
open Go AE
theorem factsOrder_holds : Rows.FactsOrderSaid := AE.factsOrder.proved fun l a b h _ _ => lim0 (FactsOrder_pure l a b (by have := h.1; simp only [Sh.bytes] at this; omega))
end Go.Proofs.Ytdblhdpnllckhaa
