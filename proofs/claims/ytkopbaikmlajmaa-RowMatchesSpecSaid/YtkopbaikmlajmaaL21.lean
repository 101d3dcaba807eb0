import Derived.Test.YtkopbaikmlajmaaO
import Derived.Test.YtkopbaikmlajmaaG27
import Derived.Test.YtkopbaikmlajmaaF34
import Derived.Test.YtkopbaikmlajmaaK
import Derived.Test.YtkopbaikmlajmaaFA
import Derived.Test.YtkopbaikmlajmaaF45
import Derived.Test.YtkopbaikmlajmaaG32
import Derived.Test.YtkopbaikmlajmaaF33
import Derived.Test.YtkopbaikmlajmaaG36
namespace Go.Proofs.Ytkopbaikmlajmaa.Q
open Go.RowKit Go.Proofs.YtkopbaikmlajmaaW.PrintWords Go.Proofs.YtkopbaikmlajmaaW.PrintLast Go.Proofs.YtkopbaikmlajmaaW.PrintMore
set_option linter.unusedVariables false
set_option linter.unusedSimpArgs false
section
variable (A4 : Option Addr) (c4 : Nat) (r : List S40) (A5 : Option Addr) (c5 : Nat) (o : List S40) (A6 : Option Addr) (c6 : Nat) (cols : List Int) (w : World)
theorem c30same (h6 : (Kd.int .i64).C w A6 cols.length cols) (hc6 : cols.length ≤ c6) (h4 : (Kd.int .i64).C w A4 cols.length cols) (hc4 : cols.length ≤ c4) :
  Calls Try.prog 30 #[.slice A6 cols.length c6, .slice A4 cols.length c4] w fun e w' => e = .returned (.bool true) ∧ Drawn0 w w' := by
 obtain ⟨k, h⟩ := (sameInts_refl cols h6.2.1).get
 exact alumref20_SameInts.calls k A6 c6 cols A4 c4 cols true w h6 hc6 h4 hc4 h
theorem c37same (h6 : Kd.C k40 w A5 r.length r) (hc6 : r.length ≤ c5) (h4 : Kd.C k40 w A4 r.length r) (hc4 : r.length ≤ c4) (hm : r.length ≤ 1000000) :
  Calls Try.prog 37 #[.slice A5 r.length c5, .slice A4 r.length c4] w fun e w' => e = .returned (.bool true) ∧ Below w.heap.size w w' := by
 obtain ⟨k, h⟩ := (same21_refl r hm).get
 exact alumref21_Same.calls k A5 c5 r A4 c4 r true w h6 hc6 h4 hc4 h
end
end Go.Proofs.Ytkopbaikmlajmaa.Q
