/- The pure law of FnExactBoxOpen: what the printed function of the law answers is true, for every input. Its condition: none but what the row says. -/
import Derived.Test.YthojmgliknacfaaPFnExactBoxOpenx1
namespace Go.Proofs.Ythojmgliknacfaa.Pure
open Go.RowKit Go.Proofs.Ythojmgliknacfaa.PFnExactBoxOpen Go.Proofs.YthojmgliknacfaaW.PrintWords Go.Proofs.YthojmgliknacfaaW.PrintLast Go.Proofs.YthojmgliknacfaaTh
set_option linter.unusedVariables false
set_option linter.unusedSimpArgs false
set_option linter.unusedSectionVars false

theorem FnExactBoxOpen : laws_FnExactBoxOpen.Pure := ⟨20, by decide +kernel⟩

end Go.Proofs.Ythojmgliknacfaa.Pure
