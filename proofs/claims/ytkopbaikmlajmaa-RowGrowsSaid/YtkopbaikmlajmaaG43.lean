/- trimmed to what these claims' texts use -/
import Derived.Test.YtkopbaikmlajmaaG27
import Derived.Test.YtkopbaikmlajmaaFA
import Derived.Test.YtkopbaikmlajmaaK
import Derived.Test.YtkopbaikmlajmaaWY
import Derived.Test.YtkopbaikmlajmaaFC
import Derived.Test.YtkopbaikmlajmaaF43
import Derived.Test.YtkopbaikmlajmaaDA
namespace Go.Proofs.Ytkopbaikmlajmaa.Q
open Go.RowKit Go.Proofs.YtkopbaikmlajmaaW.PrintWords Go.Proofs.YtkopbaikmlajmaaW.PrintLast Go.Proofs.YtkopbaikmlajmaaW.PrintMore
set_option linter.unusedVariables false
set_option linter.unusedSimpArgs false
abbrev TabR := ByteArray × List S56 × List S65 × List S42 × Int
def noTab (e : Int) : TabR := ((⟨#[]⟩ : ByteArray), [], [], [], e)
/-- A table, if it is valid. -/
def checkedE (nm : ByteArray) (cs : List S56) (xs : List S65) (ks : List S42) : TabR := if checkE nm cs xs ks = 0 then (nm, cs, xs, ks, 0) else noTab (checkE nm cs xs ks)
theorem checked_eq (nm : ByteArray) (cs : List S56) (xs : List S65) (ks : List S42) : schema_checked.f nm cs xs ks = some (checkedE nm cs xs ks) := by
 unfold schema_checked.f schema_Check.f checkedE noTab
 rw [Option.bind_some]
 by_cases h : checkE nm cs xs ks = 0
 ·rw [if_pos h, if_pos h]
 ·rw [if_neg h, if_neg h]
def addColE (nm : ByteArray) (cs : List S56) (xs : List S65) (ks : List S42) (c : S56) : TabR :=
 if checkE nm cs xs ks ≠ 0 then noTab (checkE nm cs xs ks) else if c.f2 = false then noTab 200 else checkedE nm (cs ++ [c]) xs ks
theorem copied_eq {nm : ByteArray} {cs : List S56} {xs : List S65} {ks : List S42} (h : checkE nm cs xs ks = 0) : schema_copied.f nm cs xs ks = some (nm, cs, xs, ks) := by
 have T := okT h
 have nc := T.nc
 have nx := T.nx
 have nk := T.nk
 unfold schema_copied.f
 rw [if_pos]
 refine ⟨by omega, by omega, by omega, fun x hx => ?_⟩
 obtain ⟨i, hi, rfl⟩ := List.getElem_of_mem hx
 have := (T.idx i hi).2.2.2.1
 rw [rd65_nat xs i hi] at this
 omega
theorem addCol_eq (nm : ByteArray) (cs : List S56) (xs : List S65) (ks : List S42) (c : S56) : schema_AddColumn.f nm cs xs ks c.f0 c.f1 c.f2 = some (addColE nm cs xs ks c) := by
 unfold schema_AddColumn.f schema_Check.f addColE
 rw [Option.bind_some]
 by_cases h : checkE nm cs xs ks = 0
 ·have nc := (okT h).nc
  have e1 : ¬ (checkE nm cs xs ks ≠ 0) := by rw [h]; simp
  rw [if_pos h, if_neg e1]
  cases hb : c.f2 with
  | true =>
   rw [if_pos rfl, if_neg (by simp), copied_eq h, Option.bind_some]
   dsimp only
   rw [if_pos (by omega), checked_eq, Option.bind_some]
   have : (⟨c.f0, c.f1, true⟩ : S56) = c := by rw [← hb]
   rw [this]
  | false =>
   rw [if_neg (by simp), if_pos rfl]
   rfl
 ·rw [if_neg h, if_pos h]
  rfl
end Go.Proofs.Ytkopbaikmlajmaa.Q
