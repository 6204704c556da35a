-- Printed by wip/qprint.py of this repository, over the kit's print, out of the translation. Not trusted: Lean checks it.
import Derived.Test.YticjlkommabcjaaPSx0
import Derived.Test.YticjlkommabcjaaPSx8
import Derived.Test.YticjlkommabcjaaPSx9
import Derived.Test.YticjlkommabcjaaPSx16
import Derived.Test.YticjlkommabcjaaPSx24
import Derived.Test.YticjlkommabcjaaPSx30
import Derived.Test.YticjlkommabcjaaPSx31
import Derived.Test.YticjlkommabcjaaPSx32
import Derived.Test.YticjlkommabcjaaPSx34
namespace Go.Proofs.Yticjlkommabcjaa.PS
open Go.RowKit Go.Proofs.YticjlkommabcjaaW.PrintWords Go.Proofs.YticjlkommabcjaaW.PrintLast Go.Proofs.YticjlkommabcjaaW.PrintMore
attribute [local go_sem] max2_int min2_int max_two min_two max_three min_three max_four min_four   -- for this text's walks alone
set_option linter.unusedVariables false
set_option linter.unusedSimpArgs false
set_option maxRecDepth 100000

/-! ### quadratlaw06_SectionTurns: function 9 -/
mutual
def quadratlaw06_SectionTurns.j0 : Nat → Int → Int → Int → Bool → Int → List Int → List Int → Int → List Int → List Int → Int → List Int → List Int → Option (Bool)
  | 0, _, _, _, _, _, _, _, _, _, _, _, _, _ => none
  | k + 1, x1, x6, x10, x62, x518000, x518001, x518002, x527000, x527001, x527002, x545000, x545001, x545002 => if x62 = true then (some false) else (if x6 = 0 then ((section_Transpose.f k x527000 x527001 x527002).bind fun bt556 => (if bt556.2.2.2 = 0 then ((quadratref06_Same.f k bt556.1 bt556.2.1 bt556.2.2.1 x518000 x518001 x518002).bind fun t565 => (if t565 = true then (quadratlaw06_SectionTurns.j1 k x1 x10 x518000 x518001 x518002 x545000 x545001 x545002) else (some false))) else (some false))) else (quadratlaw06_SectionTurns.j1 k x1 x10 x518000 x518001 x518002 x545000 x545001 x545002))
def quadratlaw06_SectionTurns.j1 : Nat → Int → Int → Int → List Int → List Int → Int → List Int → List Int → Option (Bool)
  | 0, _, _, _, _, _, _, _, _ => none
  | k + 1, x1, x10, x518000, x518001, x518002, x545000, x545001, x545002 => if x10 = 0 then ((section_Reverse.f k x545000 x545001 x545002 x1).bind fun bt566 => ((section_Places.f k x518000 x518001 x518002).bind fun bt575 => ((section_Places.f k bt566.1 bt566.2.1 bt566.2.2.1).bind fun bt579 => (if bt566.2.2.2 = 0 then ((quadratref06_Same.f k bt566.1 bt566.2.1 bt566.2.2.1 x518000 x518001 x518002).bind fun t583 => (if t583 = true then (if bt575.2 = 0 then (if bt579.2 = 0 then ((quadratref06_SameInts.f k bt575.1 bt579.1).bind fun t584 => (if t584 = true then ((quadratlaw06_Awake.f k).bind fun t585 => (some t585)) else (some false))) else (some false)) else (some false)) else (some false))) else (some false))))) else ((quadratlaw06_Awake.f k).bind fun t586 => (some t586))
end
def quadratlaw06_SectionTurns.f (k : Nat) (a0_0 : Int) (l0_1 : List Int) (l0_2 : List Int) (a1 : Int) : Option (Bool) := (section_Transpose.f k a0_0 l0_1 l0_2).bind fun bt518 => ((quadratref06_Transpose.f k a0_0 l0_1 l0_2).bind fun bt527 => ((section_Reverse.f k a0_0 l0_1 l0_2 a1).bind fun bt536 => ((quadratref06_Reverse.f k a0_0 l0_1 l0_2 a1).bind fun bt545 => ((quadratref06_Same.f k bt518.1 bt518.2.1 bt518.2.2.1 bt527.1 bt527.2.1 bt527.2.2.1).bind fun t554 => (if t554 = true then (if bt518.2.2.2 = bt527.2.2.2 then ((quadratref06_Same.f k bt536.1 bt536.2.1 bt536.2.2.1 bt545.1 bt545.2.1 bt545.2.2.1).bind fun t555 => (if t555 = true then (quadratlaw06_SectionTurns.j0 k a1 bt518.2.2.2 bt536.2.2.2 (bt536.2.2.2 != bt545.2.2.2) a0_0 l0_1 l0_2 bt518.1 bt518.2.1 bt518.2.2.1 bt536.1 bt536.2.1 bt536.2.2.1) else (quadratlaw06_SectionTurns.j0 k a1 bt518.2.2.2 bt536.2.2.2 true a0_0 l0_1 l0_2 bt518.1 bt518.2.1 bt518.2.2.1 bt536.1 bt536.2.1 bt536.2.2.1))) else (quadratlaw06_SectionTurns.j0 k a1 bt518.2.2.2 bt536.2.2.2 true a0_0 l0_1 l0_2 bt518.1 bt518.2.1 bt518.2.2.1 bt536.1 bt536.2.1 bt536.2.2.1)) else (quadratlaw06_SectionTurns.j0 k a1 bt518.2.2.2 bt536.2.2.2 true a0_0 l0_1 l0_2 bt518.1 bt518.2.1 bt518.2.2.1 bt536.1 bt536.2.1 bt536.2.2.1))))))

end Go.Proofs.Yticjlkommabcjaa.PS
