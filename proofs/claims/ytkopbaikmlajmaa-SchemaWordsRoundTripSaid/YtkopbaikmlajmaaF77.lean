/- trimmed to what these claims' texts use -/
import Derived.Test.YtkopbaikmlajmaaK
import Derived.Test.YtkopbaikmlajmaaF24
import Derived.Test.YtkopbaikmlajmaaFA
-- Laid by this session's own call of the kit's print.py (wip/qprint.py)
namespace Go.Proofs.Ytkopbaikmlajmaa.Q
open Go.RowKit Go.Proofs.YtkopbaikmlajmaaW.PrintWords Go.Proofs.YtkopbaikmlajmaaW.PrintLast Go.Proofs.YtkopbaikmlajmaaW.PrintMore
attribute [local go_sem] max2_int min2_int max_two min_two max_three min_three max_four min_four   -- for this text's walks alone
set_option linter.unusedVariables false
set_option linter.unusedSimpArgs false

mutual
def alumref20_indexes.l0 : Nat → List (S65) → Int → Int → Option (Int)
 | 0, _, _, _ => none
 | k + 1, x0, x1, x5 => if x5 < (x0.length : Int) then (if 0 ≤ x5 then ((alumref20_Name.f k ((rd_T65 x0 x5).f0)).bind fun t137 => (if t137 = true then (alumref20_indexes.l1 k x0 x1 x5 0) else (some 5))) else (none)) else (some 0)
def alumref20_indexes.l1 : Nat → List (S65) → Int → Int → Int → Option (Int)
 | 0, _, _, _, _ => none
 | k + 1, x0, x1, x5, x7 => if x7 < x5 then (if 0 ≤ x7 then (if x7 < (x0.length : Int) then (if 0 ≤ x5 then (if x5 < (x0.length : Int) then (if ((rd_T65 x0 x7).f0).toList = ((rd_T65 x0 x5).f0).toList then (some 6) else (alumref20_indexes.l1 k x0 x1 x5 (wrap64 (x7 + 1)))) else (none)) else (none)) else (none)) else (none)) else (if 0 ≤ x5 then (if x5 < (x0.length : Int) then ((alumref20_places.f k ((rd_T65 x0 x5).f1) x1).bind fun t141 => (if t141 = true then (alumref20_indexes.l0 k x0 x1 (wrap64 (x5 + 1))) else (some 1))) else (none)) else (none))
end
end Go.Proofs.Ytkopbaikmlajmaa.Q
