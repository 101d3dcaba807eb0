import Derived.Test.YtkopbaikmlajmaaF23
import Derived.Test.YtkopbaikmlajmaaPC
namespace Go.Proofs.Ytkopbaikmlajmaa.Q
open Go.RowKit Go.Proofs.YtkopbaikmlajmaaW.PrintWords Go.Proofs.YtkopbaikmlajmaaW.PrintLast Go.Proofs.YtkopbaikmlajmaaW.PrintMore
set_option linter.unusedVariables false
set_option linter.unusedSimpArgs false

def okL (s : ByteArray) (j : Nat) : Bool := decide (97 ≤ bt s j ∧ bt s j ≤ 122) || (decide (48 ≤ bt s j ∧ bt s j ≤ 57) || decide (bt s j = 95)) && decide (j ≠ 0)
theorem reserved_any (rs : List ByteArray) (s : ByteArray) (hl : rs.length ≤ 1000) : ∀ (d k i : Nat), i ≤ rs.length → rs.length - i = d → d < k →
  alumref20_Name.l1 k s rs (i : Int) = some (!(rs.drop i).any (fun x => x.toList == s.toList))
 | 0, k, i, h0, h1, h2 => by
  obtain ⟨k, rfl⟩ : ∃ m, k = m + 1 := ⟨k - 1, by omega⟩
  simp only [alumref20_Name.l1]
  rw [if_neg (by omega), List.drop_eq_nil_of_le (by omega)]
  rfl
 | d + 1, k, i, h0, h1, h2 => by
  obtain ⟨k, rfl⟩ : ∃ m, k = m + 1 := ⟨k - 1, by omega⟩
  simp only [alumref20_Name.l1]
  rw [if_pos (by omega), if_pos (by omega), List.drop_eq_getElem_cons (show i < rs.length by omega), List.any_cons]
  have hr : rdOf ByteArray.empty rs (i : Int) = rs[i] := by
   unfold rdOf
   rw [Int.toNat_natCast, List.getD_eq_getElem?_getD, List.getElem?_eq_getElem (by omega)]
   rfl
  rw [hr]
  by_cases h : (rs[i]).toList = s.toList
  ·rw [if_pos h, h]
   simp
  rw [if_neg h, show wrap64 ((i : Int) + 1) = ((i + 1 : Nat) : Int) by unfold wrap64; omega, reserved_any rs s hl d k (i + 1) (by omega) (by omega) (by omega)]
  have : ((rs[i]).toList == s.toList) = false := beq_eq_false_iff_ne.2 h
  rw [this]
  rfl
theorem name_l0 (s : ByteArray) (hs : s.size ≤ 16) : ∀ (d k i : Nat), i ≤ s.size → s.size - i = d → d + 60 < k →
  alumref20_Name.l0 k s (i : Int) = some ((List.range d).all (fun j => okL s (i + j)) && !resv.contains s.toList)
 | 0, k, i, h0, h1, h2 => by
  obtain ⟨k, rfl⟩ : ∃ m, k = m + 1 := ⟨k - 1, by omega⟩
  simp only [alumref20_Name.l0]
  rw [if_neg (by omega)]
  obtain ⟨rs, hrs, hm⟩ : ∃ rs, alumref20_Reserved.f = some rs ∧ rs.map ByteArray.toList = resv := ⟨_, rfl, by kernel_rfl⟩
  have hl : rs.length = 51 := by have := congrArg List.length hm; rw [List.length_map] at this; exact this
  rw [hrs]
  simp only [Option.bind_some]
  have := reserved_any rs s (by omega) 51 k 0 (by omega) (by omega) (by omega)
  rw [show ((0 : Nat) : Int) = 0 from rfl, List.drop_zero] at this
  rw [this]
  simp only [List.range_zero, List.all_nil, Bool.true_and]
  rw [← hm]
  congr 2
  rw [Bool.eq_iff_iff, List.any_eq_true, List.contains_iff_mem, List.mem_map]
  simp
 | d + 1, k, i, h0, h1, h2 => by
  obtain ⟨k, rfl⟩ : ∃ m, k = m + 1 := ⟨k - 1, by omega⟩
  simp only [alumref20_Name.l0]
  rw [if_pos (by omega), if_pos (by omega)]
  have ih := name_l0 s hs d k (i + 1) (by omega) (by omega) (by omega)
  rw [show wrap64 ((i : Int) + 1) = ((i + 1 : Nat) : Int) by unfold wrap64; omega, ih]
  have hrange : (List.range (d + 1)).all (fun j => okL s (i + j)) = (okL s i && (List.range d).all (fun j => okL s (i + 1 + j))) := by
   rw [List.range_succ_eq_map, List.all_cons, List.all_map]
   simp only [Nat.add_zero]
   congr 2
   funext j
   simp only [Function.comp]
   congr 1
   omega
  rw [hrange]
  generalize (List.range d).all (fun j => okL s (i + 1 + j)) = A
  generalize (!resv.contains s.toList) = C
  unfold okL
  generalize bt s (i : Int) = c
  by_cases hi : i = 0
  ·subst hi
   simp only [show ((0 : Nat) : Int) = 0 from rfl, if_true, ne_eq, not_true_eq_false, decide_false, Bool.and_false, Bool.or_false]
   by_cases h : 97 ≤ c ∧ c ≤ 122
   ·rw [decide_eq_true h, if_pos (show c ≥ 97 by omega), if_pos (show c ≥ 48 by omega), if_neg (show ¬ c ≤ 57 by omega), if_pos h.2]
    rfl
   rw [decide_eq_false h]
   simp only [Bool.false_and]
   repeat' split
   all_goals first | rfl | omega
  have hi' : ¬ ((i : Int) = 0) := by omega
  simp only [if_neg hi', ne_eq, hi, not_false_eq_true, decide_true, Bool.and_true]
  by_cases h : (97 ≤ c ∧ c ≤ 122) ∨ (48 ≤ c ∧ c ≤ 57) ∨ c = 95
  ·have e : (decide (97 ≤ c ∧ c ≤ 122) || (decide (48 ≤ c ∧ c ≤ 57) || decide (c = 95))) = true := by simpa using h
   rw [e]
   simp only [Bool.true_and]
   repeat' split
   all_goals first | rfl | omega
  have e : (decide (97 ≤ c ∧ c ≤ 122) || (decide (48 ≤ c ∧ c ≤ 57) || decide (c = 95))) = false := by
   rw [Bool.eq_false_iff]
   simpa using h
  rw [e]
  simp only [Bool.false_and]
  repeat' split
  all_goals first | rfl | omega
theorem name_ok (s : ByteArray) (h1 : 1 ≤ s.size) : (List.range s.size).all (fun j => okL s (0 + j)) = (decide (97 ≤ bt s 0) && (List.range s.size).all (fun j => okc (bt s j))) := by
 rw [Bool.eq_iff_iff, Bool.and_eq_true, List.all_eq_true, List.all_eq_true, decide_eq_true_eq]
 constructor
 ·intro h
  refine ⟨?_, fun j hj => ?_⟩
  ·have := h 0 (List.mem_range.2 h1)
   simp [okL] at this
   exact this.1
  have := h j hj
  rw [Nat.zero_add] at this
  simp only [okL, okc, Bool.or_eq_true, Bool.and_eq_true, decide_eq_true_eq] at this ⊢
  omega
 rintro ⟨h0, h⟩ j hj
 have := h j hj
 rw [Nat.zero_add]
 simp only [okL, okc, Bool.or_eq_true, Bool.and_eq_true, decide_eq_true_eq] at this ⊢
 by_cases hj0 : j = 0
 ·subst hj0
  rw [show ((0 : Nat) : Int) = 0 from rfl] at this ⊢
  omega
 omega
theorem name_ref (s : ByteArray) : alumref20_Name.f 100 s = some (nameB s) := by
 unfold alumref20_Name.f nameB
 by_cases h1 : 1 ≤ s.size
 ·rw [if_neg (by omega)]
  by_cases h2 : s.size ≤ 16
  ·rw [show decide ((s.size : Int) > 16) = false by simp; omega]
   simp only [alumref20_Name.j0, Bool.false_eq_true, if_false]
   have := name_l0 s h2 s.size 99 0 (by omega) (by omega) (by omega)
   rw [show ((0 : Nat) : Int) = 0 from rfl] at this
   rw [this, name_ok s h1, decide_eq_true h1, decide_eq_true h2]
   congr 1
   generalize (!resv.contains s.toList) = C
   generalize decide (97 ≤ bt s 0) = D
   generalize (List.range s.size).all (fun j => okc (bt s j)) = A
   cases A <;> cases C <;> cases D <;> rfl
  rw [show decide ((s.size : Int) > 16) = true by simp; omega, decide_eq_false h2]
  simp [alumref20_Name.j0]
 rw [if_pos (by omega), decide_eq_false h1]
 simp [alumref20_Name.j0]
end Go.Proofs.Ytkopbaikmlajmaa.Q
