/- What schema.Fits computes, in plain words; comparisons of values. -/
import Derived.Test.YtkopbaikmlajmaaS
import Derived.Test.YtkopbaikmlajmaaF86
import Derived.Test.YtkopbaikmlajmaaF85
namespace Go.Proofs.Ytkopbaikmlajmaa.Q
open Go.RowKit Go.Proofs.YtkopbaikmlajmaaW.PrintWords Go.Proofs.YtkopbaikmlajmaaW.PrintLast Go.Proofs.YtkopbaikmlajmaaW.PrintMore
set_option linter.unusedSimpArgs false

/-- Does the comparison op hold of two values that compare as c says? -/
def holdsB (op c : Int) : Bool := if op = 6 then (c == 0) else if op = 7 then (c != 0) else if op = 8 then decide (c < 0) else if op = 9 then decide (c ≤ 0) else if op = 10 then decide (0 < c) else decide (0 ≤ c)
/-- Is a value null? -/
def isNull (v : S40) : Bool := v.f0 == 0 && (v.f1 == 0 && v.f2.toList.isEmpty)
/-- The error of value i of a row. -/
def fitE (cs : List S56) (r : List S40) (i : Nat) : Int := if isNull (rd_T40 r i) = true then (if (rd_T56 cs i).f2 = true then 0 else 200) else if validB (rd_T40 r i) = false ∨ (rd_T40 r i).f0 ≠ (rd_T56 cs i).f1 then 7 else 0
/-- The error of a row by check i. -/
def chkH (ks : List S42) (r : List S40) (i : Nat) : Int := if (rd_T40 r (rd_T42 ks i).f0).f0 ≠ 0 ∧ holdsB (rd_T42 ks i).f1 (cmpV (rd_T40 r (rd_T42 ks i).f0) (rd_T42 ks i).f2) = false then 201 else 0
/-- The first error of a row of a table. -/
def fitsE (nm : ByteArray) (cs : List S56) (xs : List S65) (ks : List S42) (r : List S40) : Int :=
  if checkE nm cs xs ks ≠ 0 then checkE nm cs xs ks else if r.length ≠ cs.length then 1 else if firstE (fitE cs r) r.length ≠ 0 then firstE (fitE cs r) r.length else firstE (chkH ks r) ks.length

theorem firstE_all {f : Nat → Int} {n : Nat} (h : firstE f n = 0) : ∀ j, j < n → f j = 0 := by
  intro j hj
  unfold firstE at h
  cases hf : ((List.range n).map f).find? (fun x => decide (x ≠ 0)) with
  | none =>
    rw [List.find?_eq_none] at hf
    have := hf (f j) (List.mem_map.2 ⟨j, List.mem_range.2 hj, rfl⟩)
    simpa using this
  | some y =>
    rw [hf] at h
    have := List.find?_some hf
    simp only [Option.getD_some] at h
    rw [h] at this
    simp at this
/-- A valid table's checks name columns. -/
theorem check_col {nm : ByteArray} {cs : List S56} {xs : List S65} {ks : List S42} (h : checkE nm cs xs ks = 0) (i : Nat) (hi : i < ks.length) : 0 ≤ (rd_T42 ks i).f0 ∧ (rd_T42 ks i).f0 < cs.length := by
  unfold checkE at h
  split at h; · cases h
  split at h; · cases h
  split at h; · contradiction
  split at h; · cases h
  split at h; · contradiction
  split at h; · cases h
  have := firstE_all h i hi
  unfold chkE at this
  split at this; · cases this
  omega

theorem c85 (op c : Int) (w : World) : Calls Try.prog 85 #[.int .i64 op, .int .i64 c] w fun e w' => e = .returned (.bool (holdsB op c)) ∧ Drawn0 w w' := by
  refine schema_holds.calls op c _ w ?_
  unfold schema_holds.f holdsB
  repeat' split
  all_goals rfl
theorem cmpI_eq (a b : Int) : cmp_Compare_int.f a b = some (if a < b then -1 else if b < a then 1 else 0) := by
  unfold cmp_Compare_int.f cmp_isNaN_int.f
  simp only [Option.bind_some]
  by_cases h1 : a < b
  · simp [h1]
  · by_cases h2 : b < a <;> simp [h1, h2]
theorem or2_eq (x y : Int) : cmp_Or_int.f 3 [x, y] = some (if x = 0 then y else x) := by
  unfold cmp_Or_int.f
  simp only [cmp_Or_int.l0, List.length_cons, List.length_nil]
  rw [if_pos (by omega), if_pos (by omega), if_pos (by omega), show rd [x, y] 0 = x from rfl]
  by_cases h : x = 0
  · rw [if_pos h, if_pos h, show wrap64 (0 + 1) = 1 by unfold wrap64; omega, if_pos (by omega), if_pos (by omega), if_pos (by omega), show rd [x, y] 1 = y from rfl]
    by_cases h2 : y = 0
    · rw [if_pos h2, show wrap64 (1 + 1) = 2 by unfold wrap64; omega, if_neg (by omega), h2]
    · rw [if_neg h2]
  · rw [if_neg h, if_neg h]
theorem c86 (a b : S40) (w : World) : Calls Try.prog 86 #[.agg #[.int .i64 a.f0, .int .i64 a.f1, .string a.f2], .agg #[.int .i64 b.f0, .int .i64 b.f1, .string b.f2]] w fun e w' => e = .returned (.int .i64 (cmpV a b)) ∧ Below w.heap.size w w' := by
  refine schema_compare.calls 3 _ _ _ _ _ _ _ w ?_
  unfold schema_compare.f
  rw [cmpI_eq, Option.bind_some]
  unfold cmp_Compare_string.f
  rw [Option.bind_some, or2_eq, Option.bind_some]
  unfold cmpV
  by_cases h1 : a.f1 < b.f1
  · simp [h1]
  · by_cases h2 : b.f1 < a.f1 <;> simp [h1, h2]
end Go.Proofs.Ytkopbaikmlajmaa.Q
