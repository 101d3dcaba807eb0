/- The walk of the statement about Name: true for every string. -/
import Derived.Test.YtkopbaikmlajmaaF22
import Derived.Test.YtkopbaikmlajmaaG24
namespace Go.Proofs.Ytkopbaikmlajmaa.Q
open Go.RowKit Go.Proofs.YtkopbaikmlajmaaW.PrintWords Go.Proofs.YtkopbaikmlajmaaW.PrintLast Go.Proofs.YtkopbaikmlajmaaW.PrintMore
set_option linter.unusedSimpArgs false
set_option maxHeartbeats 1000000 in
set_option maxRecDepth 100000 in
theorem w3 (s : ByteArray) (w : World) (_ : s.size ≤ 140737488351232) : Calls Try.prog 3 #[.string s] w fun e w' => e = .returned (.bool true) ∧ Below w.heap.size w w' := by
  go_enter Try.func3, Try.ntmps3
  go_wp2_with fail
  refine (c22 _).mono ?_
  rintro e w1 ⟨rfl, hb1⟩
  go_wp2_with fail
  refine (c23 _ _).mono ?_
  rintro e w2 ⟨rfl, hb2⟩
  go_wp2_with fail
  refine (c24 _ _).mono ?_
  rintro e w3 ⟨rfl, hb3⟩
  have he : (nameB s == nameB s) = true := beq_self_eq_true _
  go_wp2_with fail
  go_ret
  exact ⟨rfl, below_step hb1 (below_step hb2 hb3)⟩
end Go.Proofs.Ytkopbaikmlajmaa.Q
