import Derived.Test.YtkopbaikmlajmaaF23
import Derived.Test.YtkopbaikmlajmaaHA
import Derived.Test.YtkopbaikmlajmaaFA
import Derived.Test.YtkopbaikmlajmaaFB
namespace Go.Proofs.Ytkopbaikmlajmaa.Q
open Go.RowKit Go.Proofs.YtkopbaikmlajmaaW.PrintWords Go.Proofs.YtkopbaikmlajmaaW.PrintLast Go.Proofs.YtkopbaikmlajmaaW.PrintMore
set_option linter.unusedVariables false
set_option linter.unusedSimpArgs false

def firstE (f : Nat → Int) (n : Nat) : Int := (((List.range n).map f).find? (fun x => decide (x ≠ 0))).getD 0
theorem firstE_hit (f : Nat → Int) (n k : Nat) (hk : k < n) (h0 : ∀ j, j < k → f j = 0) (h1 : f k ≠ 0) : firstE f n = f k := by
 unfold firstE
 have : ((List.range n).map f).find? (fun x => decide (x ≠ 0)) = some (f k) := by
  rw [List.find?_eq_some_iff_getElem]
  refine ⟨by simpa using h1, k, by simpa using hk, by simp, fun j hj => by simpa using h0 j hj⟩
 rw [this]; rfl
theorem firstE_none (f : Nat → Int) (n : Nat) (h0 : ∀ j, j < n → f j = 0) : firstE f n = 0 := by
 unfold firstE
 have : ((List.range n).map f).find? (fun x => decide (x ≠ 0)) = none := by
  rw [List.find?_eq_none]
  intro x hx
  obtain ⟨j, hj, rfl⟩ := List.mem_map.1 hx
  simpa using h0 j (List.mem_range.1 hj)
 rw [this]; rfl

def dupC (l : List S56) (i : Nat) : Bool := decide (0 ≤ ixOf (fun x : S56 => x.f0.toList == (rd_T56 l i).f0.toList) (l.take i))
def dupI (l : List S65) (i : Nat) : Bool := decide (0 ≤ ixOf (fun x : S65 => x.f0.toList == (rd_T65 l i).f0.toList) (l.take i))
def colE (l : List S56) (i : Nat) : Int := if nameB (rd_T56 l i).f0 = false then 5 else if dupC l i = true then 6 else if (rd_T56 l i).f1 < 1 ∨ 3 < (rd_T56 l i).f1 then 7 else 0
def badP (xs : List Int) (n : Nat) (k : Nat) : Bool := decide (rd xs k < 0) || decide ((n : Int) ≤ rd xs k) || (xs.take k).contains (rd xs k)
def idxE (l : List S65) (n : Nat) (i : Nat) : Int := if nameB (rd_T65 l i).f0 = false then 5 else if dupI l i = true then 6 else if (rd_T65 l i).f1.length = 0 ∨ n < (rd_T65 l i).f1.length then 1 else if (List.range (rd_T65 l i).f1.length).any (badP (rd_T65 l i).f1 n) = true then 1 else 0
def validB (v : S40) : Bool := if v.f0 = 1 then decide (v.f2.toList = []) && decide (-549755813888 ≤ v.f1) && decide (v.f1 ≤ 549755813887) else if v.f0 = 3 then decide (v.f2.toList = []) && (decide (v.f1 = 0) || decide (v.f1 = 1)) else if v.f0 = 2 then decide (v.f1 = 0) && decide (v.f2.size ≤ 40) else false
def chkE (l : List S42) (cs : List S56) (i : Nat) : Int := if (rd_T42 l i).f0 < 0 ∨ (cs.length : Int) ≤ (rd_T42 l i).f0 ∨ (rd_T42 l i).f1 < 6 ∨ 11 < (rd_T42 l i).f1 then 1 else if validB (rd_T42 l i).f2 = false ∨ (rd_T42 l i).f2.f0 ≠ (rd_T56 cs (rd_T42 l i).f0).f1 then 7 else 0
def checkE (nm : ByteArray) (cs : List S56) (xs : List S65) (ks : List S42) : Int :=
 if nameB nm = false then 5 else if cs.length = 0 ∨ 8 < cs.length then 2 else if firstE (colE cs) cs.length ≠ 0 then firstE (colE cs) cs.length else if 4 < xs.length then 2 else if firstE (idxE xs cs.length) xs.length ≠ 0 then firstE (idxE xs cs.length) xs.length else if 4 < ks.length then 2 else firstE (chkE ks cs) ks.length

theorem valid_eq (v : S40) : schema_valid.f v.f0 v.f1 v.f2 = some (validB v) := by
 unfold schema_valid.f validB
 rw [and1_i64_self]
 by_cases h1 : v.f0 = 1
 ·rw [if_pos h1, if_pos h1]
  by_cases h2 : v.f2.toList = [] <;> by_cases h3 : v.f1 ≥ -549755813888 <;> simp [h2, h3]
  all_goals omega
 rw [if_neg h1, if_neg h1]
 by_cases h3 : v.f0 = 3
 ·rw [if_pos h3, if_pos h3]
  by_cases h2 : v.f2.toList = [] <;> simp [h2]
 rw [if_neg h3, if_neg h3]
 by_cases h4 : v.f0 = 2
 ·rw [if_pos h4, if_pos h4]
  by_cases h2 : v.f1 = 0 <;> simp [h2]
  omega
 rw [if_neg h4, if_neg h4]
theorem c75 (v : S40) (w : World) : Calls Try.prog 75 #[.agg #[.int .i64 v.f0, .int .i64 v.f1, .string v.f2]] w fun e w' => e = .returned (.bool (validB v)) ∧ Below w.heap.size w w' :=
 schema_valid.calls _ _ _ _ w (valid_eq v)

theorem index_l0 (l : List Int) (a : Int) (hn : l.length ≤ 9223372036854775807) (d : Nat) : ∀ (k i : Nat), i ≤ l.length → l.length - i = d → d < k → (∀ j, j < i → (fun x => decide (x = a)) (l.getD j 0) = false) →
  slices_Index_int_int.l0 k l a l.length i = some (ixOf (fun x => decide (x = a)) l) := by
 induction d with
 | zero =>
  intro k i h0 h1 h2 h3
  obtain ⟨k, rfl⟩ : ∃ m, k = m + 1 := ⟨k - 1, by omega⟩
  simp only [slices_Index_int_int.l0]
  rw [if_neg (by omega), ixOf_none _ l 0 (fun j hj => h3 j (by omega))]
 | succ d ih =>
  intro k i h0 h1 h2 h3
  obtain ⟨k, rfl⟩ : ∃ m, k = m + 1 := ⟨k - 1, by omega⟩
  simp only [slices_Index_int_int.l0]
  rw [if_pos (by omega), if_pos (by omega), if_pos (by omega)]
  have hr : rd l i = l.getD i 0 := by unfold rd; rw [Int.toNat_natCast]
  by_cases h : a = rd l i
  ·rw [if_pos h, ixOf_hit _ l i 0 (by omega) h3 (by rw [← hr, ← h]; simp)]
  rw [if_neg h, show wrap64 ((i : Int) + 1) = ((i + 1 : Nat) : Int) by unfold wrap64; omega]
  refine ih k (i + 1) (by omega) (by omega) (by omega) (fun j hj => ?_)
  rcases Nat.lt_succ_iff_lt_or_eq.1 hj with h' | rfl
  ·exact h3 j h'
  rw [← hr]; simpa using fun e => h e.symm
theorem ixOf_nonneg {α : Type} (p : α → Bool) (l : List α) : decide (0 ≤ ixOf p l) = l.any p := by
 unfold ixOf
 cases h : l.findIdx? p with
 | none =>
  rw [List.findIdx?_eq_none_iff] at h
  have : l.any p = false := by rw [List.any_eq_false]; exact fun x hx => by simp [h x hx]
  rw [this]; rfl
 | some k =>
  rw [List.findIdx?_eq_some_iff_getElem] at h
  obtain ⟨hk, h1, _⟩ := h
  have : l.any p = true := by rw [List.any_eq_true]; exact ⟨l[k], List.getElem_mem hk, h1⟩
  rw [this]; simp
theorem c74 (A : Option Addr) (c : Nat) (l : List Int) (a : Int) (w : World) (hr : Kd.C (Kd.int .i64) w A l.length l) (hc : l.length ≤ c) :
  Calls Try.prog 74 #[.slice A l.length c, .int .i64 a] w fun e w' => e = .returned (.bool (l.contains a)) ∧ Drawn0 w w' := by
 refine slices_Contains_int_int.calls (l.length + 1) A c l a _ w hr hc ?_
 unfold slices_Contains_int_int.f slices_Index_int_int.f
 have := index_l0 l a hr.2.1 l.length (l.length + 1) 0 (by omega) (by omega) (by omega) (fun j hj => by omega)
 rw [show ((0 : Nat) : Int) = 0 from rfl] at this
 rw [this]
 simp only [Option.bind_some, ge_iff_le, ixOf_nonneg]
 congr 1
 rw [Bool.eq_iff_iff, List.any_eq_true, List.contains_iff_mem]
 simp
end Go.Proofs.Ytkopbaikmlajmaa.Q
namespace Go.Proofs.Ytkopbaikmlajmaa.Q
open Go.RowKit Go.Proofs.YtkopbaikmlajmaaW.PrintWords Go.Proofs.YtkopbaikmlajmaaW.PrintLast Go.Proofs.YtkopbaikmlajmaaW.PrintMore
set_option linter.unusedVariables false
set_option linter.unusedSimpArgs false

def holdsB (op c : Int) : Bool := if op = 6 then (c == 0) else if op = 7 then (c != 0) else if op = 8 then decide (c < 0) else if op = 9 then decide (c ≤ 0) else if op = 10 then decide (0 < c) else decide (0 ≤ c)
def isNull (v : S40) : Bool := v.f0 == 0 && (v.f1 == 0 && v.f2.toList.isEmpty)
def fitE (cs : List S56) (r : List S40) (i : Nat) : Int := if isNull (rd_T40 r i) = true then (if (rd_T56 cs i).f2 = true then 0 else 200) else if validB (rd_T40 r i) = false ∨ (rd_T40 r i).f0 ≠ (rd_T56 cs i).f1 then 7 else 0
def chkH (ks : List S42) (r : List S40) (i : Nat) : Int := if (rd_T40 r (rd_T42 ks i).f0).f0 ≠ 0 ∧ holdsB (rd_T42 ks i).f1 (cmpV (rd_T40 r (rd_T42 ks i).f0) (rd_T42 ks i).f2) = false then 201 else 0
def fitsE (nm : ByteArray) (cs : List S56) (xs : List S65) (ks : List S42) (r : List S40) : Int :=
 if checkE nm cs xs ks ≠ 0 then checkE nm cs xs ks else if r.length ≠ cs.length then 1 else if firstE (fitE cs r) r.length ≠ 0 then firstE (fitE cs r) r.length else firstE (chkH ks r) ks.length

theorem firstE_all {f : Nat → Int} {n : Nat} (h : firstE f n = 0) : ∀ j, j < n → f j = 0 := by
 intro j hj
 unfold firstE at h
 cases hf : ((List.range n).map f).find? (fun x => decide (x ≠ 0)) with
 | none =>
  rw [List.find?_eq_none] at hf
  have := hf (f j) (List.mem_map.2 ⟨j, List.mem_range.2 hj, rfl⟩)
  simpa using this
 | some y =>
  rw [hf] at h
  have := List.find?_some hf
  simp only [Option.getD_some] at h
  rw [h] at this
  simp at this
theorem check_col {nm : ByteArray} {cs : List S56} {xs : List S65} {ks : List S42} (h : checkE nm cs xs ks = 0) (i : Nat) (hi : i < ks.length) : 0 ≤ (rd_T42 ks i).f0 ∧ (rd_T42 ks i).f0 < cs.length := by
 unfold checkE at h
 split at h; · cases h
 split at h; · cases h
 split at h; · contradiction
 split at h; · cases h
 split at h; · contradiction
 split at h; · cases h
 have := firstE_all h i hi
 unfold chkE at this
 split at this; · cases this
 omega

theorem c85 (op c : Int) (w : World) : Calls Try.prog 85 #[.int .i64 op, .int .i64 c] w fun e w' => e = .returned (.bool (holdsB op c)) ∧ Drawn0 w w' := by
 refine schema_holds.calls op c _ w ?_
 unfold schema_holds.f holdsB
 repeat' split
 all_goals rfl
theorem cmpI_eq (a b : Int) : cmp_Compare_int.f a b = some (if a < b then -1 else if b < a then 1 else 0) := by
 unfold cmp_Compare_int.f cmp_isNaN_int.f
 simp only [Option.bind_some]
 by_cases h1 : a < b
 ·simp [h1]
 by_cases h2 : b < a <;> simp [h1, h2]
theorem or2_eq (x y : Int) : cmp_Or_int.f 3 [x, y] = some (if x = 0 then y else x) := by
 unfold cmp_Or_int.f
 simp only [cmp_Or_int.l0, List.length_cons, List.length_nil]
 rw [if_pos (by omega), if_pos (by omega), if_pos (by omega), show rd [x, y] 0 = x from rfl]
 by_cases h : x = 0
 ·rw [if_pos h, if_pos h, show wrap64 (0 + 1) = 1 by unfold wrap64; omega, if_pos (by omega), if_pos (by omega), if_pos (by omega), show rd [x, y] 1 = y from rfl]
  by_cases h2 : y = 0
  ·rw [if_pos h2, show wrap64 (1 + 1) = 2 by unfold wrap64; omega, if_neg (by omega), h2]
  rw [if_neg h2]
 rw [if_neg h, if_neg h]
theorem c86 (a b : S40) (w : World) : Calls Try.prog 86 #[.agg #[.int .i64 a.f0, .int .i64 a.f1, .string a.f2], .agg #[.int .i64 b.f0, .int .i64 b.f1, .string b.f2]] w fun e w' => e = .returned (.int .i64 (cmpV a b)) ∧ Below w.heap.size w w' := by
 refine schema_compare.calls 3 _ _ _ _ _ _ _ w ?_
 unfold schema_compare.f
 rw [cmpI_eq, Option.bind_some]
 unfold cmp_Compare_string.f
 rw [Option.bind_some, or2_eq, Option.bind_some]
 unfold cmpV
 by_cases h1 : a.f1 < b.f1
 ·simp [h1]
 by_cases h2 : b.f1 < a.f1 <;> simp [h1, h2]
end Go.Proofs.Ytkopbaikmlajmaa.Q
