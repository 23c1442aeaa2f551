/- The statement ValueBackCardSaid: for every value and text that can be read the law returns true, and they read as they did; the listed variables are tied to the program's text. Conditions: none but the statement's own. -/
import Derived.Test.YthnhkaaodghpgaaDoorCValueBackN3
namespace Go.Proofs.YthnhkaaodghpgaaDoor
open Go AE
theorem valueBack_holds : Rows.ValueBackCardSaid := AE.valueBack.card fun v s h _ => lim0 (ValueBack_pure v s (int_wf h.2.1))
end Go.Proofs.YthnhkaaodghpgaaDoor
