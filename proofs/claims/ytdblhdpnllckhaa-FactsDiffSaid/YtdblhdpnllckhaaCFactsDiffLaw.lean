/- The statement FactsDiffSaid: for every input that can be read the law returns true, and each argument reads as it did. Conditions: none but the statement's own. -/
import Derived.Test.YtdblhdpnllckhaaCFactsDiffN3
namespace Go.Proofs.Ytdblhdpnllckhaa
open Go AE
theorem factsDiff_holds : Rows.FactsDiffSaid := AE.factsDiff.proved fun a b c ha hb _ => lim0 (FactsDiff_pure a b c (by have := ha.1; simp only [Sh.bytes] at this; omega) (by have := hb.1; simp only [Sh.bytes] at this; omega))
end Go.Proofs.Ytdblhdpnllckhaa
