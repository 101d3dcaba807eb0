import Derived.Test.YtkopbaikmlajmaaHA
import Derived.Test.YtkopbaikmlajmaaF23
import Derived.Test.YtkopbaikmlajmaaSA
import Derived.Test.YtkopbaikmlajmaaFA
import Derived.RangeFuncBox
import Derived.RangeFuncNested
import Derived.RangeFuncBound
import Derived.RangeFuncCalls
import Derived.RangeFuncLeaves
import Derived.Shelf.Abstract
import Derived.Shelf.RegionOpen
import Derived.OwnWalkIn
import Derived.TacticsInMore
import Derived.LoopNIn
import Derived.LoopIn
namespace Go.Proofs.Ytkopbaikmlajmaa.Q
open Go.RowKit Go.Proofs.YtkopbaikmlajmaaW.PrintWords Go.Proofs.YtkopbaikmlajmaaW.PrintLast Go.Proofs.YtkopbaikmlajmaaW.PrintMore
set_option linter.unusedVariables false
set_option linter.unusedSimpArgs false

section
open Go.Shelf
attribute [local go_sem] Oper.semAt_some
attribute [local go_sem] max2_int min2_int max_two min_two

def cw (s : ByteArray) (j : Nat) : Nat → Int
 | 0 => 0
 | i + 1 => cw s j i * 256 + bt s ((5 * j + i : Nat) : Int)
def chunkW (s : ByteArray) (j : Nat) : Int := cw s j 5
def textW (s : ByteArray) : List Int := (List.range ((s.size + 4) / 5)).map (chunkW s)
theorem cw_range (s : ByteArray) (j : Nat) : ∀ i, 0 ≤ cw s j i ∧ cw s j i < 256 ^ i
 | 0 => by simp [cw]
 | i + 1 => by
  have h := cw_range s j i
  have hb := bt_range s ((5 * j + i : Nat) : Int)
  simp only [cw, Int.pow_succ]
  omega

end
end Go.Proofs.Ytkopbaikmlajmaa.Q
namespace Go.Proofs.Ytkopbaikmlajmaa.Q
open Go.RowKit Go.Proofs.YtkopbaikmlajmaaW.PrintWords Go.Proofs.YtkopbaikmlajmaaW.PrintLast Go.Proofs.YtkopbaikmlajmaaW.PrintMore
set_option linter.unusedVariables false
set_option linter.unusedSimpArgs false
section
open Go.Shelf
attribute [local go_sem] Oper.semAt_some
end
end Go.Proofs.Ytkopbaikmlajmaa.Q
namespace Go.Proofs.Ytkopbaikmlajmaa.Q
open Go.RowKit Go.Proofs.YtkopbaikmlajmaaW.PrintWords Go.Proofs.YtkopbaikmlajmaaW.PrintLast Go.Proofs.YtkopbaikmlajmaaW.PrintMore
set_option linter.unusedVariables false
set_option linter.unusedSimpArgs false

def valW (v : S40) : List Int := if v.f0 = 1 then [v.f1 + 549755813888] else if v.f0 = 3 then [v.f1] else (v.f2.size : Int) :: textW v.f2
structure OkT (nm : ByteArray) (cs : List S56) (xs : List S65) (ks : List S42) : Prop where
 name : nameB nm = true
 nc : 1 ≤ cs.length ∧ cs.length ≤ 8
 col : ∀ i, i < cs.length → nameB (rd_T56 cs i).f0 = true ∧ dupC cs i = false ∧ 1 ≤ (rd_T56 cs i).f1 ∧ (rd_T56 cs i).f1 ≤ 3
 nx : xs.length ≤ 4
 idx : ∀ i, i < xs.length → nameB (rd_T65 xs i).f0 = true ∧ dupI xs i = false ∧ 1 ≤ (rd_T65 xs i).f1.length ∧ (rd_T65 xs i).f1.length ≤ cs.length ∧ ∀ k, k < (rd_T65 xs i).f1.length → badP (rd_T65 xs i).f1 cs.length k = false
 nk : ks.length ≤ 4
 chk : ∀ i, i < ks.length → 0 ≤ (rd_T42 ks i).f0 ∧ (rd_T42 ks i).f0 < cs.length ∧ 6 ≤ (rd_T42 ks i).f1 ∧ (rd_T42 ks i).f1 ≤ 11 ∧ validB (rd_T42 ks i).f2 = true ∧ (rd_T42 ks i).f2.f0 = (rd_T56 cs (rd_T42 ks i).f0).f1
theorem okT {nm : ByteArray} {cs : List S56} {xs : List S65} {ks : List S42} (h : checkE nm cs xs ks = 0) : OkT nm cs xs ks := by
 unfold checkE at h
 split at h; · cases h
 rename_i h1
 split at h; · cases h
 rename_i h2
 split at h; · contradiction
 rename_i h3
 split at h; · cases h
 rename_i h4
 split at h; · contradiction
 rename_i h5
 split at h; · cases h
 rename_i h6
 have h3' := firstE_all (Decidable.not_not.1 h3)
 have h5' := firstE_all (Decidable.not_not.1 h5)
 have h7' := firstE_all h
 refine ⟨by simpa using h1, by omega, fun i hi => ?_, by omega, fun i hi => ?_, by omega, fun i hi => ?_⟩
 ·have := h3' i hi
  unfold colE at this
  split at this; · cases this
  split at this; · cases this
  split at this; · cases this
  rename_i a b c
  exact ⟨by simpa using a, by simpa using b, by omega, by omega⟩
 ·have := h5' i hi
  unfold idxE at this
  split at this; · cases this
  split at this; · cases this
  split at this; · cases this
  split at this; · cases this
  rename_i a b c d
  refine ⟨by simpa using a, by simpa using b, by omega, by omega, fun k hk => ?_⟩
  rw [Bool.not_eq_true, List.any_eq_false] at d
  simpa using d k (List.mem_range.2 hk)
 have := h7' i hi
 unfold chkE at this
 split at this; · cases this
 split at this; · cases this
 rename_i a b
 rw [not_or] at b
 exact ⟨by omega, by omega, by omega, by omega, by simpa using b.1, by simpa using b.2⟩
theorem textW_length (s : ByteArray) : (textW s).length = (s.size + 4) / 5 := by simp [textW]
theorem validB_text {v : S40} (h : validB v = true) : v.f0 = 1 ∧ -549755813888 ≤ v.f1 ∧ v.f1 ≤ 549755813887 ∧ v.f2.toList = [] ∨ v.f0 = 3 ∧ (v.f1 = 0 ∨ v.f1 = 1) ∧ v.f2.toList = [] ∨ v.f0 = 2 ∧ v.f1 = 0 ∧ v.f2.size ≤ 40 := by
 unfold validB at h
 split at h
 ·rename_i e
  simp only [Bool.and_eq_true, decide_eq_true_eq] at h
  exact .inl ⟨e, h.1.2, h.2, h.1.1⟩
 split at h
 ·rename_i e
  simp only [Bool.and_eq_true, Bool.or_eq_true, decide_eq_true_eq] at h
  exact .inr (.inl ⟨e, h.2, h.1⟩)
 split at h
 ·rename_i e
  simp only [Bool.and_eq_true, decide_eq_true_eq] at h
  exact .inr (.inr ⟨e, h.1, h.2⟩)
 cases h
end Go.Proofs.Ytkopbaikmlajmaa.Q
namespace Go.Proofs.Ytkopbaikmlajmaa.Q
open Go.RowKit Go.Proofs.YtkopbaikmlajmaaW.PrintWords Go.Proofs.YtkopbaikmlajmaaW.PrintLast Go.Proofs.YtkopbaikmlajmaaW.PrintMore
set_option linter.unusedVariables false
set_option linter.unusedSimpArgs false

end Go.Proofs.Ytkopbaikmlajmaa.Q
