/- The pure law of FnExactAccOwner: what the printed function of the law answers is true, for every input. Its condition: none but what the row says. -/
import Derived.Test.YthojmgliknacfaaPFnExactAccOwnerx1
namespace Go.Proofs.Ythojmgliknacfaa.Pure
open Go.RowKit Go.Proofs.Ythojmgliknacfaa.PFnExactAccOwner Go.Proofs.YthojmgliknacfaaW.PrintWords Go.Proofs.YthojmgliknacfaaW.PrintLast Go.Proofs.YthojmgliknacfaaTh
set_option linter.unusedVariables false
set_option linter.unusedSimpArgs false
set_option linter.unusedSectionVars false

theorem FnExactAccOwner : laws_FnExactAccOwner.Pure := by
  intro a h
  unfold laws_FnExactAccOwner.f spec_AccOwner.f impl_AccOwner.f spec_l6Bal.f impl_in.f
  by_cases h1 : a ≥ 1
  · by_cases h2 : a ≤ 3000 <;> simp [h1, h2]
  · simp [h1]

end Go.Proofs.Ythojmgliknacfaa.Pure
