/- The law's walk, out of its parts. Conditions: those that each theorem names. -/
import Derived.Test.YtdphjeiccokhnaaGreatDoorQFnChainsGuessedx26p0
import Derived.Test.YtdphjeiccokhnaaGreatDoorQFnChainsGuessedx26p1
import Derived.Test.YtdphjeiccokhnaaGreatDoorQFnChainsGuessedx26p1a
import Derived.Test.YtdphjeiccokhnaaGreatDoorQFnChainsGuessedx26p2
import Derived.Test.YtdphjeiccokhnaaGreatDoorQFnChainsGuessedx26p2a
import Derived.Test.YtdphjeiccokhnaaGreatDoorQFnChainsGuessedx26p2c
import Derived.Test.YtdphjeiccokhnaaGreatDoorQFnChainsGuessedx26p3
import Derived.Test.YtdphjeiccokhnaaGreatDoorQFnChainsGuessedx26p3a
import Derived.Test.YtdphjeiccokhnaaGreatDoorQFnChainsGuessedx26p3b
import Derived.Test.YtdphjeiccokhnaaGreatDoorQFnChainsGuessedx26p4
namespace Go.Proofs.YtdphjeiccokhnaaGreatDoor.QFnChainsGuessed
open Go.RowKit Go.Proofs.YtdphjeiccokhnaaGreatDoorW.PrintWords Go.Proofs.YtdphjeiccokhnaaGreatDoorW.PrintLast Go.Proofs.YtdphjeiccokhnaaGreatDoorW.PrintMore Go.Proofs.YtdphjeiccokhnaaGreatDoor.Mac
attribute [local go_sem] max2_int min2_int max_two min_two max_three min_three max_four min_four
attribute [local go_sem] Go.Proofs.YtdphjeiccokhnaaGreatDoor.Kit.isSome_setCell
set_option linter.unusedVariables false
set_option linter.unusedSimpArgs false
attribute [local go_sem high] eqA34
set_option maxRecDepth 1000000
set_option maxHeartbeats 80000000
theorem laws_FnChainsGuessed.calls (k:Nat) (A0:Option Addr) (c0:Nat) (l0:List Int) (A1:Option Addr) (c1:Nat) (l1:List Int) (r:Bool) (w:World) (hr0:Kd.C (Kd.int .u8) w A0 l0.length l0) (hc0:l0.length≤c0) (hr1:Kd.C (Kd.int .u8) w A1 l1.length l1) (hc1:l1.length≤c1) (htab:LibW.LibOk w) (h:laws_FnChainsGuessed.f k l0 l1=some r) (hrt:r=true) :
    Calls Tryz.prog 3 #[.slice A0 l0.length c0,.slice A1 l1.length c1] w fun e w'=>e=.returned (.bool r)∧Below w.heap.size w w':=
 (laws_FnChainsGuessed.p0.2.2.2.2 ⟨(laws_FnChainsGuessed.p1.2 ⟨laws_FnChainsGuessed.p1a⟩)⟩ ⟨(laws_FnChainsGuessed.p2.2.2 ⟨laws_FnChainsGuessed.p2a⟩ ⟨laws_FnChainsGuessed.p2c⟩)⟩ ⟨(laws_FnChainsGuessed.p3.2.2 ⟨laws_FnChainsGuessed.p3a⟩ ⟨laws_FnChainsGuessed.p3b⟩)⟩ ⟨laws_FnChainsGuessed.p4⟩) k A0 c0 l0 A1 c1 l1 r w hr0 hc0 hr1 hc1 htab h hrt
def laws_FnChainsGuessed.Pure:Prop:=∀(l0:List Int) (l1:List Int),l0.length≤maxLen→l0.length*1≤140737488351232→(∀x∈l0,(Lit.int .u8 x).wf=true)→l1.length≤maxLen→l1.length*1≤140737488351232→(∀x∈l1,(Lit.int .u8 x).wf=true)→∃k,laws_FnChainsGuessed.f k l0 l1=some true
end Go.Proofs.YtdphjeiccokhnaaGreatDoor.QFnChainsGuessed
