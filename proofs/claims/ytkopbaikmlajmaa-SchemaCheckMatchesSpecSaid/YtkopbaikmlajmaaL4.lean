/- The walk of the statement about Check: true for every table. -/
import Derived.Test.YtkopbaikmlajmaaF4
import Derived.Test.YtkopbaikmlajmaaG27
import Derived.Test.YtkopbaikmlajmaaO
namespace Go.Proofs.Ytkopbaikmlajmaa.Q
open Go.RowKit Go.Proofs.YtkopbaikmlajmaaW.PrintWords Go.Proofs.YtkopbaikmlajmaaW.PrintLast Go.Proofs.YtkopbaikmlajmaaW.PrintMore
set_option linter.unusedVariables false
set_option linter.unusedSimpArgs false
theorem p4 (nm : ByteArray) (cs : List S56) (xs : List S65) (ks : List S42) (h1 : cs.length ≤ 9223372036854775807) (h2 : xs.length ≤ 9223372036854775807) (hm : ∀ i, (rd_T65 xs i).f1.length ≤ 9223372036854775807) (h3 : ks.length ≤ 9223372036854775807) :
    Evs (fun k => alumlaw20_SchemaCheckMatchesSpec.f k nm cs xs ks) true := by
  refine (Evs.const (g := alumlaw20_sanity.f) rfl).bind (f := fun k t153 => (alumref20_Few.f k nm cs xs ks).bind fun t154 => (if t154 = true then (if t153 = true then ((schema_Check.f nm cs xs ks).bind fun t155 => ((alumref20_Check.f k nm cs xs ks).bind fun t156 => (some (t155 == t156)))) else (some false)) else (some t153))) ?_
  refine (Few_ref nm cs xs ks h2).bind (f := fun k t154 => (if t154 = true then (if true = true then ((schema_Check.f nm cs xs ks).bind fun t155 => ((alumref20_Check.f k nm cs xs ks).bind fun t156 => (some (t155 == t156)))) else (some false)) else (some true))) ?_
  cases fewB cs xs ks with
  | false => exact Evs.const rfl
  | true =>
    refine Evs.congr ((Check_ref nm cs xs ks h1 h2 hm h3).bind (f := fun k t156 => some (checkE nm cs xs ks == t156)) (Evs.const (by rw [beq_self_eq_true]))) (fun k => ?_)
    rw [if_pos rfl, if_pos rfl]
    rfl
theorem w4 (nm : ByteArray) (A1 : Option Addr) (c1 : Nat) (cs : List S56) (A2 : Option Addr) (c2 : Nat) (xs : List S65) (A3 : Option Addr) (c3 : Nat) (ks : List S42) (w : World) (hT : Tab w nm A1 c1 cs A2 c2 xs A3 c3 ks) :
    Calls Try.prog 4 #[.agg #[.string nm, .slice A1 cs.length c1, .slice A2 xs.length c2, .slice A3 ks.length c3]] w fun e w' => e = .returned (.bool true) ∧ Below w.heap.size w w' := by
  obtain ⟨k, h⟩ := (p4 nm cs xs ks hT.r1.2.1 hT.r2.2.1 (len65 hT.r2) hT.r3.2.1).get
  exact alumlaw20_SchemaCheckMatchesSpec.calls k nm A1 c1 cs A2 c2 xs A3 c3 ks true w hT.r1 hT.l1 hT.r2 hT.l2 hT.r3 hT.l3 h
end Go.Proofs.Ytkopbaikmlajmaa.Q
