/- The statement ThreeShowsSaid: for every two conflicts that can be read the law returns true, and they read as they did. Conditions: none but the statement's own. -/
import Derived.Test.YtmenplonaapliaaCThreeShowsN3
namespace Go.Proofs.Ytmenplonaapliaa
open Go AE
theorem threeShows_holds : Rows.ThreeShowsSaid := AE.threeShows.proved fun a b ha hb => lim0 (ThreeShows_pure a b ha hb)
end Go.Proofs.Ytmenplonaapliaa
