/- trimmed to what these claims' texts use -/
import Derived.Test.YtkopbaikmlajmaaG27
import Derived.Test.YtkopbaikmlajmaaDA
import Derived.Test.YtkopbaikmlajmaaK
import Derived.Test.YtkopbaikmlajmaaF27
import Derived.Test.YtkopbaikmlajmaaFA
namespace Go.Proofs.Ytkopbaikmlajmaa.Q
open Go.RowKit Go.Proofs.YtkopbaikmlajmaaW.PrintWords Go.Proofs.YtkopbaikmlajmaaW.PrintLast Go.Proofs.YtkopbaikmlajmaaW.PrintMore
set_option linter.unusedVariables false
set_option linter.unusedSimpArgs false
/-- Are two lists of numbers equal? -/
theorem same_l0 (a b : List Int) (hl : a.length = b.length) (hn : a.length ≤ 9223372036854775807) : ∀ (d i : Nat), i ≤ a.length → a.length - i = d → Evs (fun k => alumref20_SameInts.l0 k a b (i : Int)) (decide (a.drop i = b.drop i))
 | 0, i, h0, h1 => by
  refine (Evs.const (g := some true) (by rw [List.drop_eq_nil_of_le (by omega), List.drop_eq_nil_of_le (by omega)]; rfl)).step (fun k => ?_)
  simp only [alumref20_SameInts.l0]
  rw [if_neg (by omega)]
 | d + 1, i, h0, h1 => by
  have hi : i < a.length := by omega
  have hj : i < b.length := by omega
  rw [List.drop_eq_getElem_cons hi, List.drop_eq_getElem_cons hj]
  by_cases h : rd a (i : Int) = rd b (i : Int)
  ·have h' := h
   rw [rd_nat a i hi, rd_nat b i hj] at h'
   rw [h']
   simp only [List.cons.injEq, true_and]
   refine (same_l0 a b hl hn d (i + 1) (by omega) (by omega)).step (fun k => ?_)
   simp only [alumref20_SameInts.l0]
   rw [if_pos (by omega), if_pos (by omega), if_pos (by omega), if_pos h, wrap_succ hi hn]
  ·have h' := h
   rw [rd_nat a i hi, rd_nat b i hj] at h'
   refine (Evs.const (g := some false) (by rw [decide_eq_false (fun e => h' (List.cons.inj e).1)])).step (fun k => ?_)
   simp only [alumref20_SameInts.l0]
   rw [if_pos (by omega), if_pos (by omega), if_pos (by omega), if_neg h]
theorem Same_ref (a b : List Int) (hn : a.length ≤ 9223372036854775807) : Evs (fun k => alumref20_SameInts.f k a b) (decide (a = b)) := by
 by_cases hl : a.length = b.length
 ·have := same_l0 a b hl hn a.length 0 (by omega) (by omega)
  rw [List.drop_zero, List.drop_zero] at this
  refine this.congr (fun k => ?_)
  unfold alumref20_SameInts.f
  rw [if_pos (by omega)]
  rfl
 ·refine Evs.all (fun k => ?_)
  unfold alumref20_SameInts.f
  rw [if_neg (by omega), decide_eq_false (fun e => hl (by rw [e]))]
end Go.Proofs.Ytkopbaikmlajmaa.Q
