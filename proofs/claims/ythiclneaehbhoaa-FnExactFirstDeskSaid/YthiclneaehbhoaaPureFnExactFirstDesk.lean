/- The first desks of the program and of the reference are one: the call returns true. No condition. -/
import Derived.Test.YthiclneaehbhoaaPFnExactFirstDeskx1
namespace Go.Proofs.Ythiclneaehbhoaa.Pure
open Go.RowKit Go.Proofs.Ythiclneaehbhoaa.PFnExactFirstDesk Go.Proofs.YthiclneaehbhoaaW.PrintWords Go.Proofs.YthiclneaehbhoaaW.PrintLast

/-- YOURS: laws_FnExactFirstDesk.f  = some true
What it reaches (each with k first where it has rounds; `.mono`: more rounds tell the same; `.l0`, ..: its loops, with `.mono_l`): spec_FirstDesk.f, impl_fair.f, impl_FirstDesk.f, laws_eqChain.f, laws_eqCoin.f, laws_eqHidden.f, laws_eqDesk.f, laws_FnExactFirstDesk.f -/
theorem FnExactFirstDesk : laws_FnExactFirstDesk.Pure := by
  unfold laws_FnExactFirstDesk.Pure; rfl

end Go.Proofs.Ythiclneaehbhoaa.Pure
