/- A part of the proof that the last text ends: what functions of the program do, told by plain data. -/
import Derived.Test.YtmajlffglplcnaaDoorNL
set_option linter.unusedVariables false
set_option linter.unusedSimpArgs false
namespace Go.Proofs.YtmajlffglplcnaaDoor
open Go Go.E
theorem tabR_len {l : Lea} : (tabR l.games l.far.length).length = l.far.length := tbN_len _
end Go.Proofs.YtmajlffglplcnaaDoor
