/- trimmed to what this claim's texts name -/
import Derived.Test.YtkopbaikmlajmaaG27
import Derived.Test.YtkopbaikmlajmaaF34
import Derived.Test.YtkopbaikmlajmaaF35
import Derived.Test.YtkopbaikmlajmaaK
import Derived.Test.YtkopbaikmlajmaaF31
import Derived.Test.YtkopbaikmlajmaaFB
namespace Go.Proofs.Ytkopbaikmlajmaa.Q
open Go.RowKit Go.Proofs.YtkopbaikmlajmaaW.PrintWords Go.Proofs.YtkopbaikmlajmaaW.PrintLast Go.Proofs.YtkopbaikmlajmaaW.PrintMore
set_option linter.unusedVariables false
set_option linter.unusedSimpArgs false
/-- What Project answers, from place i on, d places left. -/
def projT (r : List S40) (cols : List Int) : Nat → Nat → List S40 → List S40 × Int
  | _, 0, out => (out, 0)
  | i, d + 1, out => if noPlace r.length (rd cols (i : Int)) = true then ([], 1) else projT r cols (i + 1) d (out ++ [rd_T40 r (rd cols (i : Int))])
def projE (r : List S40) (cols : List Int) : List S40 × Int := projT r cols 0 cols.length []
theorem noPlace_false {n : Nat} {k : Int} (h : noPlace n k = false) : 0 ≤ k ∧ k < n := by
  unfold noPlace at h
  simp at h
  omega
theorem proj_l0 (r : List S40) (cols : List Int) (hc : cols.length ≤ 1000000) : ∀ (d i : Nat) (out : List S40), i + d = cols.length → out.length ≤ i → Evs (fun k => row_Project.l0 k r out cols (cols.length : Int) (i : Int)) (projT r cols i d out)
  | 0, i, out, h, ho => by
    refine (Evs.const (g := some (out, 0)) rfl).step (fun k => ?_)
    simp only [row_Project.l0]
    rw [if_neg (by omega)]
  | d + 1, i, out, h, ho => by
    have hw : wrap64 ((i : Int) + 1) = ((i + 1 : Nat) : Int) := wrap_succ (show i < 1000000 by omega) (by omega)
    rw [projT]
    cases hp : noPlace r.length (rd cols (i : Int)) with
    | true =>
      rw [if_pos rfl]
      refine (Evs.const (g := some (([] : List S40), (1 : Int))) rfl).step (fun k => ?_)
      simp only [row_Project.l0, place_eq]
      rw [if_pos (by omega), if_pos (by omega), if_pos (by omega), hp, Option.bind_some, if_neg (by decide)]
    | false =>
      rw [if_neg (by decide)]
      have hq := noPlace_false hp
      refine (proj_l0 r cols hc d (i + 1) (out ++ [rd_T40 r (rd cols (i : Int))]) (by omega) (by simp; omega)).step (fun k => ?_)
      simp only [row_Project.l0, place_eq]
      rw [if_pos (by omega), if_pos (by omega), if_pos (by omega), hp, Option.bind_some, if_pos (by decide), if_pos (by omega), if_pos (by omega), if_pos (by omega), hw]
theorem proj_eq (r : List S40) (cols : List Int) (hc : cols.length ≤ 1000000) : Evs (fun k => row_Project.f k r cols) (projE r cols) :=
  (proj_l0 r cols hc cols.length 0 [] (by omega) (Nat.zero_le _)).congr (fun k => rfl)
theorem contains_take {cols : List Int} {i : Nat} (hi : i ≤ cols.length) (x : Int) : (cols.take i).contains x = true ↔ ∃ j, j < i ∧ rd cols (j : Int) = x := by
  rw [List.contains_iff_mem, List.mem_take_iff_getElem]
  constructor
  · rintro ⟨j, hj, e⟩
    refine ⟨j, by omega, ?_⟩
    unfold rd
    rw [Int.toNat_natCast, List.getD_eq_getElem?_getD, List.getElem?_eq_getElem (by omega)]
    exact e
  · rintro ⟨j, hj, e⟩
    refine ⟨j, by omega, ?_⟩
    unfold rd at e
    rw [Int.toNat_natCast, List.getD_eq_getElem?_getD, List.getElem?_eq_getElem (by omega)] at e
    exact e
end Go.Proofs.Ytkopbaikmlajmaa.Q
