/- The statement ValuePutsCardSaid: for every value that can be read the law returns true, and it reads as it did; the listed variables are tied to the program's text. Conditions: none but the statement's own. -/
import Derived.Test.YthnhkaaodghpgaaDoorCValuePutsN3
namespace Go.Proofs.YthnhkaaodghpgaaDoor
open Go AE
theorem valuePuts_holds : Rows.ValuePutsCardSaid := AE.valuePuts.card fun v h => lim0 (ValuePuts_pure v (int_wf h.2.1))
end Go.Proofs.YthnhkaaodghpgaaDoor
