/- The statement ThreeFactsSaid: for every three rows of facts that can be read the law returns true, and they read as they did. Conditions: none but the statement's own. -/
import Derived.Test.YtmenplonaapliaaCThreeFactsN5
namespace Go.Proofs.Ytmenplonaapliaa
open Go AE
theorem threeFacts_holds : Rows.ThreeFactsSaid := AE.threeFacts.proved fun a b c ha hb hc => lim0 (ThreeFacts_pure a b c (by have := ha.1; simp only [Sh.bytes] at this; omega) (by have := hb.1; simp only [Sh.bytes] at this; omega) (by have := hc.1; simp only [Sh.bytes] at this; omega) (fun f hf => okOf (ha.2 f hf)) (fun f hf => okOf (hb.2 f hf)) (fun f hf => okOf (hc.2 f hf)))
end Go.Proofs.Ytmenplonaapliaa
