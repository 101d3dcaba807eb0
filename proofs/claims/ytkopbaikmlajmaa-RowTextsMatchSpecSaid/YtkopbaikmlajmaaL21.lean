/- trimmed to what these claims' texts use -/
import Derived.Test.YtkopbaikmlajmaaO
import Derived.Test.YtkopbaikmlajmaaG27
import Derived.Test.YtkopbaikmlajmaaF34
import Derived.Test.YtkopbaikmlajmaaK
import Derived.Test.YtkopbaikmlajmaaFA
import Derived.Test.YtkopbaikmlajmaaF31
import Derived.Test.YtkopbaikmlajmaaFB
import Derived.Test.YtkopbaikmlajmaaG32
import Derived.Test.YtkopbaikmlajmaaF33
import Derived.Test.YtkopbaikmlajmaaG36
namespace Go.Proofs.Ytkopbaikmlajmaa.Q
open Go.RowKit Go.Proofs.YtkopbaikmlajmaaW.PrintWords Go.Proofs.YtkopbaikmlajmaaW.PrintLast Go.Proofs.YtkopbaikmlajmaaW.PrintMore
set_option linter.unusedVariables false
set_option linter.unusedSimpArgs false
section
variable (A4 : Option Addr) (c4 : Nat) (r : List S40) (A5 : Option Addr) (c5 : Nat) (o : List S40) (A6 : Option Addr) (c6 : Nat) (cols : List Int) (w : World)
theorem c30same (h6 : (Kd.int .i64).C w A6 cols.length cols) (hc6 : cols.length ≤ c6) (h4 : (Kd.int .i64).C w A4 cols.length cols) (hc4 : cols.length ≤ c4) :
  Calls Try.prog 30 #[.slice A6 cols.length c6, .slice A4 cols.length c4] w fun e w' => e = .returned (.bool true) ∧ Drawn0 w w' := by
 obtain ⟨k, h⟩ := (sameInts_refl cols h6.2.1).get
 exact alumref20_SameInts.calls k A6 c6 cols A4 c4 cols true w h6 hc6 h4 hc4 h
theorem c37same (h6 : Kd.C k40 w A5 r.length r) (hc6 : r.length ≤ c5) (h4 : Kd.C k40 w A4 r.length r) (hc4 : r.length ≤ c4) (hm : r.length ≤ 1000000) :
  Calls Try.prog 37 #[.slice A5 r.length c5, .slice A4 r.length c4] w fun e w' => e = .returned (.bool true) ∧ Below w.heap.size w w' := by
 obtain ⟨k, h⟩ := (same21_refl r hm).get
 exact alumref21_Same.calls k A5 c5 r A4 c4 r true w h6 hc6 h4 hc4 h
end
theorem c32two (nm : ByteArray) (A1 : Option Addr) (c1 : Nat) (cs : List S56) (A2 : Option Addr) (c2 : Nat) (xs : List S65) (A3 : Option Addr) (c3 : Nat) (ks : List S42) (A4 : Option Addr) (c4 : Nat) (r : List S40) (A5 : Option Addr) (c5 : Nat) (o : List S40) (b : Nat) (w : World) (hT : Tab w nm A1 c1 cs A2 c2 xs A3 c3 ks)
  (hb : w.heap[b]? = some (.cells #[.slice A4 r.length c4, .slice A5 o.length c5] 37 (0, 0))) (h4 : Kd.C k40 w A4 r.length r) (hc4 : r.length ≤ c4) (h5 : Kd.C k40 w A5 o.length o) (hc5 : o.length ≤ c5) :
  Calls Try.prog 32 #[.agg #[.string nm, .slice A1 cs.length c1, .slice A2 xs.length c2, .slice A3 ks.length c3], .slice (some ⟨b, 0, none⟩) 2 2] w fun e w' => e = .returned (.bool (valid21 nm cs xs ks [r, o])) ∧ Below w.heap.size w w' := by
 obtain ⟨k, h⟩ := (valid21_eq nm cs xs ks [r, o] hT.r1.2.1 hT.r2.2.1 (len65 hT.r2) hT.r3.2.1 (by simp) (by
  intro q hq
  rcases List.mem_cons.1 hq with rfl | hq
  ·exact h4.2.1
  ·obtain rfl := List.mem_singleton.1 hq
   exact h5.2.1)).get
 exact alumref21_Valid.calls k nm A1 c1 cs A2 c2 xs A3 c3 ks (some ⟨b, 0, none⟩) 2 [r, o] _ w hT.r1 hT.l1 hT.r2 hT.l2 hT.r3 hT.l3 (C_rows hb h4 hc4 h5 hc5) (Nat.le_refl 2) h
end Go.Proofs.Ytkopbaikmlajmaa.Q
