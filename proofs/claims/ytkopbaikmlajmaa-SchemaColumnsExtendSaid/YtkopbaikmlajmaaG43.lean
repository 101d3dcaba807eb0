/- What AddColumn and AddIndex make, in plain words; rows of the wider table. -/
import Derived.Test.YtkopbaikmlajmaaG48
import Derived.Test.YtkopbaikmlajmaaF43
import Derived.Test.YtkopbaikmlajmaaDA
namespace Go.Proofs.Ytkopbaikmlajmaa.Q
open Go.RowKit Go.Proofs.YtkopbaikmlajmaaW.PrintWords Go.Proofs.YtkopbaikmlajmaaW.PrintLast Go.Proofs.YtkopbaikmlajmaaW.PrintMore
set_option linter.unusedVariables false
set_option linter.unusedSimpArgs false
abbrev TabR := ByteArray × List S56 × List S65 × List S42 × Int
def noTab (e : Int) : TabR := ((⟨#[]⟩ : ByteArray), [], [], [], e)
/-- A table, if it is valid. -/
def checkedE (nm : ByteArray) (cs : List S56) (xs : List S65) (ks : List S42) : TabR := if checkE nm cs xs ks = 0 then (nm, cs, xs, ks, 0) else noTab (checkE nm cs xs ks)
theorem checked_eq (nm : ByteArray) (cs : List S56) (xs : List S65) (ks : List S42) : schema_checked.f nm cs xs ks = some (checkedE nm cs xs ks) := by
  unfold schema_checked.f schema_Check.f checkedE noTab
  rw [Option.bind_some]
  by_cases h : checkE nm cs xs ks = 0
  · rw [if_pos h, if_pos h]
  · rw [if_neg h, if_neg h]
def addColE (nm : ByteArray) (cs : List S56) (xs : List S65) (ks : List S42) (c : S56) : TabR :=
  if checkE nm cs xs ks ≠ 0 then noTab (checkE nm cs xs ks) else if c.f2 = false then noTab 200 else checkedE nm (cs ++ [c]) xs ks
def addIdxE (nm : ByteArray) (cs : List S56) (xs : List S65) (ks : List S42) (x : S65) : TabR :=
  if checkE nm cs xs ks ≠ 0 then noTab (checkE nm cs xs ks) else checkedE nm cs (xs ++ [x]) ks
theorem copied_eq {nm : ByteArray} {cs : List S56} {xs : List S65} {ks : List S42} (h : checkE nm cs xs ks = 0) : schema_copied.f nm cs xs ks = some (nm, cs, xs, ks) := by
  have T := okT h
  have nc := T.nc
  have nx := T.nx
  have nk := T.nk
  unfold schema_copied.f
  rw [if_pos]
  refine ⟨by omega, by omega, by omega, fun x hx => ?_⟩
  obtain ⟨i, hi, rfl⟩ := List.getElem_of_mem hx
  have := (T.idx i hi).2.2.2.1
  rw [rd65_nat xs i hi] at this
  omega
theorem addCol_eq (nm : ByteArray) (cs : List S56) (xs : List S65) (ks : List S42) (c : S56) : schema_AddColumn.f nm cs xs ks c.f0 c.f1 c.f2 = some (addColE nm cs xs ks c) := by
  unfold schema_AddColumn.f schema_Check.f addColE
  rw [Option.bind_some]
  by_cases h : checkE nm cs xs ks = 0
  · have nc := (okT h).nc
    have e1 : ¬ (checkE nm cs xs ks ≠ 0) := by rw [h]; simp
    rw [if_pos h, if_neg e1]
    cases hb : c.f2 with
    | true =>
      rw [if_pos rfl, if_neg (by simp), copied_eq h, Option.bind_some]
      dsimp only
      rw [if_pos (by omega), checked_eq, Option.bind_some]
      have : (⟨c.f0, c.f1, true⟩ : S56) = c := by rw [← hb]
      rw [this]
    | false =>
      rw [if_neg (by simp), if_pos rfl]
      rfl
  · rw [if_neg h, if_pos h]
    rfl
theorem rd40_app (r : List S40) (z : List S40) (i : Int) (h0 : 0 ≤ i) (h : i < r.length) : rd_T40 (r ++ z) i = rd_T40 r i := by
  unfold rd_T40
  rw [List.getD_eq_getElem?_getD, List.getD_eq_getElem?_getD, List.getElem?_append_left (by omega)]
theorem rd56_app (r : List S56) (z : List S56) (i : Int) (h0 : 0 ≤ i) (h : i < r.length) : rd_T56 (r ++ z) i = rd_T56 r i := by
  unfold rd_T56
  rw [List.getD_eq_getElem?_getD, List.getD_eq_getElem?_getD, List.getElem?_append_left (by omega)]
/-- What it is to fit a valid table. -/
theorem fitsE_ok {nm : ByteArray} {cs : List S56} {xs : List S65} {ks : List S42} {r : List S40} (h : checkE nm cs xs ks = 0) : fitsE nm cs xs ks r = 0 ↔ r.length = cs.length ∧ (∀ i, i < r.length → fitE cs r i = 0) ∧ ∀ i, i < ks.length → chkH ks r i = 0 := by
  unfold fitsE
  rw [if_neg (by rw [h]; simp)]
  by_cases h1 : r.length = cs.length
  · rw [if_neg (by simpa using h1)]
    by_cases h2 : firstE (fitE cs r) r.length = 0
    · rw [if_neg (by rw [h2]; simp)]
      exact ⟨fun h3 => ⟨h1, firstE_all h2, firstE_all h3⟩, fun h3 => firstE_none _ _ h3.2.2⟩
    · rw [if_pos h2]
      exact ⟨fun h3 => absurd h3 h2, fun h3 => absurd (firstE_none _ _ h3.2.1) h2⟩
  · rw [if_pos h1]
    exact ⟨fun h3 => absurd h3 (by decide), fun h3 => absurd h3.1 h1⟩
/-- A row that fits fits the wider table, a null behind it. -/
theorem fits_wide {nm : ByteArray} {cs : List S56} {xs : List S65} {ks : List S42} {r : List S40} {c : S56} (hc : c.f2 = true) (h : checkE nm cs xs ks = 0) (hw : checkE nm (cs ++ [c]) xs ks = 0) (hf : fitsE nm cs xs ks r = 0) : fitsE nm (cs ++ [c]) xs ks (r ++ [z40]) = 0 := by
  obtain ⟨h1, h2, h3⟩ := (fitsE_ok h).1 hf
  refine (fitsE_ok hw).2 ⟨by simp [h1], fun i hi => ?_, fun i hi => ?_⟩
  · rw [List.length_append, List.length_singleton] at hi
    by_cases hlt : i < r.length
    · have := h2 i hlt
      unfold fitE at this ⊢
      rw [rd40_app r [z40] i (by omega) (by omega), rd56_app cs [c] i (by omega) (by omega)]
      exact this
    · obtain rfl : i = r.length := by omega
      have e1 : rd_T40 (r ++ [z40]) (r.length : Int) = z40 := by
        unfold rd_T40
        rw [Int.toNat_natCast, List.getD_eq_getElem?_getD, List.getElem?_append_right (Nat.le_refl _), Nat.sub_self]
        rfl
      have e2 : rd_T56 (cs ++ [c]) (r.length : Int) = c := by
        unfold rd_T56
        rw [Int.toNat_natCast, List.getD_eq_getElem?_getD, h1, List.getElem?_append_right (Nat.le_refl _), Nat.sub_self]
        rfl
      unfold fitE
      rw [e1, e2, if_pos (show isNull z40 = true by kernel_rfl), if_pos hc]
  · have := h3 i hi
    have hcol := check_col h i hi
    unfold chkH at this ⊢
    rw [rd40_app r [z40] _ hcol.1 (by omega)]
    exact this
end Go.Proofs.Ytkopbaikmlajmaa.Q
