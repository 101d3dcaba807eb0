/- trimmed to what these claims' texts use -/
import Derived.Test.YtkopbaikmlajmaaF109
namespace Go.Proofs.Ytkopbaikmlajmaa.Q
open Go.RowKit Go.Proofs.YtkopbaikmlajmaaW.PrintWords Go.Proofs.YtkopbaikmlajmaaW.PrintLast Go.Proofs.YtkopbaikmlajmaaW.PrintMore
set_option linter.unusedVariables false
set_option linter.unusedSimpArgs false
set_option maxHeartbeats 1000000 in
set_option maxRecDepth 100000 in
theorem catch108_idle (p q : Addr) (w : World) :
  CallsD Try.prog 108 #[.pointer (some p), .pointer (some q)] .returning w fun e u' w' => e = .returned (.tuple #[]) ∧ u' = .returning ∧ w' = w := by
 refine callsD_of_wpS Try.func108 rfl fun c₀ cs hu => ?_
 apply wpS_seq
 apply wpS_region
 simp [wpOpsS, go_sem, recoverD, hu, Try.ntmps108, Exit.thenS]
 apply wpS_seq
 apply wpS_region
 simp [wpOpsS, go_sem, Exit.thenS]
 refine wpS_cond (t := false) (by simp [Act.eval, Array.replicate]) ?_
 simp only [Bool.false_eq_true, if_false]
 refine wpS_of_wp (wp_skip ?_)
 cases c₀
 simp_all [bodyPostS, results, Try.results108]
/-- What the closure leaves: the results of a list that was refused. -/
def Caught (a d : Nat) (w w' : World) : Prop := w'.heap[a]? = some (.cells #[.string ⟨#[]⟩, .slice none 0 0, .slice none 0 0, .slice none 0 0] 28 (0, 0)) ∧ w'.heap[d]? = some (.cells #[.int .i64 3] 30 (0, 0)) ∧ ∀ w0 : World, Below w0.heap.size w0 w → w0.heap.size ≤ a → w0.heap.size ≤ d → Below w0.heap.size w0 w'
set_option maxHeartbeats 1000000 in
set_option maxRecDepth 100000 in
theorem catch108_form (a d : Nat) (x0 x1 x2 x3 vd : Value) (w : World) (ha : w.heap[a]? = some (.cells #[x0, x1, x2, x3] 28 (0, 0))) (hd : w.heap[d]? = some (.cells #[vd] 30 (0, 0))) (had : a ≠ d) :
  CallsD Try.prog 108 #[.pointer (some ⟨a, 0, none⟩), .pointer (some ⟨d, 0, none⟩)] (.panicking [{ v := .iface 125 (.agg #[]), recovered := false }]) w fun e u' w' =>
   e = .returned (.tuple #[]) ∧ u' = .panicking [{ v := .iface 125 (.agg #[]), recovered := true }] ∧ Caught a d w w' := by
 have hu28 := Try.underlying28
 have hu125 := Try.underlying125
 refine callsD_of_wpS Try.func108 rfl fun c₀ cs hu => ?_
 apply wpS_seq
 apply wpS_region
 simp [wpOpsS, go_sem, recoverD, hu, Try.ntmps108, Exit.thenS]
 apply wpS_seq
 apply wpS_region
 simp [wpOpsS, go_sem, Exit.thenS]
 refine wpS_cond (t := true) (by simp [Act.eval, Array.replicate]) ?_
 simp only [if_true]
 have hta : ∀ w, (Instr.typeAssert (.iface 125 (.agg #[])) 20 125 true).run Try.prog w = .ok (.tuple #[.agg #[], .bool true]) w := fun _ => by kernel_rfl
 refine wpS_of_wp ?_
 have ha' := blk_alloc ha (.cells #[] 125)
 have hd' := blk_alloc hd (.cells #[] 125)
 have e0 := blk_cell ha' 0
 have e1 := blk_cell ha' 1
 have e2 := blk_cell ha' 2
 have e3 := blk_cell ha' 3
 have e4 := blk_cell hd' 0
 have z0 := blk_frozen ha' 0
 have z1 := blk_frozen ha' 1
 have z2 := blk_frozen ha' 2
 have z3 := blk_frozen ha' 3
 have z4 := blk_frozen hd' 0
 simp only [Array.replicate]
 go_wp2_with fail
 have hP : Caught a d w ((((((w.alloc (.cells #[] 125)).setCell ⟨a, 0, none⟩ (.string ⟨#[]⟩)).setCell ⟨a, 1, none⟩ (.slice none 0 0)).setCell ⟨a, 2, none⟩ (.slice none 0 0)).setCell ⟨a, 3, none⟩ (.slice none 0 0)).setCell ⟨d, 0, none⟩ (.int .i64 3)) := by
  refine ⟨blk_far (blk_put (blk_put (blk_put (blk_put ha' 0 _ rfl) 1 _ rfl) 2 _ rfl) 3 _ rfl) had _, ?_, fun w0 h1 h2 h3 => ?_⟩
  ·exact blk_put (blk_far (blk_far (blk_far (blk_far hd' (Ne.symm had) _) (Ne.symm had) _) (Ne.symm had) _) (Ne.symm had) _) 0 _ rfl
  ·exact below_set (below_set (below_set (below_set (below_set (below_step h1 (below_al w _)) h2) h2) h2) h2) h3
 generalize ((((((w.alloc (Obj.cells #[] 125)).setCell ⟨a, 0, none⟩ (.string ⟨#[]⟩)).setCell ⟨a, 1, none⟩ (.slice none 0 0)).setCell ⟨a, 2, none⟩ (.slice none 0 0)).setCell ⟨a, 3, none⟩ (.slice none 0 0)).setCell ⟨d, 0, none⟩ (.int .i64 3)) = W at hP ⊢
 cases c₀
 simp [bodyPostS, results, Try.results108, hP]
end Go.Proofs.Ytkopbaikmlajmaa.Q
