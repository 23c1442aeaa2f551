/- The statement ElemTurnsSaid: for every input that can be read the law returns true, and each argument reads as it did. Conditions: none but the statement's own. -/
import Derived.Test.YtnadmjhidogmcaaCElemTurnsN3
namespace Go.Proofs.Ytnadmjhidogmcaa
open Go AE
theorem elemTurns_holds : Rows.ElemTurnsSaid := AE.elemTurns.proved fun a b c d g0 g1 g2 g3 => lim0 (ElemTurns_pure a b c d (gd_texts g0) (gd_props g1) g2)
end Go.Proofs.Ytnadmjhidogmcaa
