/- trimmed to what this claim's texts name -/
import Derived.Test.YtkopbaikmlajmaaF102
namespace Go.Proofs.Ytkopbaikmlajmaa.Q
open Go.RowKit Go.Proofs.YtkopbaikmlajmaaW.PrintWords Go.Proofs.YtkopbaikmlajmaaW.PrintLast Go.Proofs.YtkopbaikmlajmaaW.PrintMore
set_option linter.unusedVariables false
set_option linter.unusedSimpArgs false
set_option maxHeartbeats 1000000 in
set_option maxRecDepth 100000 in
theorem catch101_idle (p q s : Addr) (w : World) :
    CallsD Try.prog 101 #[.pointer (some p), .pointer (some q), .pointer (some s)] .returning w fun e u' w' => e = .returned (.tuple #[]) ∧ u' = .returning ∧ w' = w := by
  refine callsD_of_wpS Try.func101 rfl fun c₀ cs hu => ?_
  apply wpS_seq
  apply wpS_region
  simp [wpOpsS, go_sem, recoverD, hu, Try.ntmps101, Exit.thenS]
  apply wpS_seq
  apply wpS_region
  simp [wpOpsS, go_sem, Exit.thenS]
  refine wpS_cond (t := false) (by simp [Act.eval, Array.replicate]) ?_
  simp only [Bool.false_eq_true, if_false]
  refine wpS_of_wp (wp_skip ?_)
  cases c₀
  simp_all [bodyPostS, results, Try.results101]
set_option maxHeartbeats 1000000 in
set_option maxRecDepth 100000 in
theorem catch101_form (a b d : Nat) (va vb vd : Value) (w : World) (ha : w.heap[a]? = some (.cells #[va] 37 (0, 0))) (hb : w.heap[b]? = some (.cells #[vb] 3 (0, 0))) (hd : w.heap[d]? = some (.cells #[vd] 30 (0, 0))) (hab : a ≠ b) (had : a ≠ d) (hbd : b ≠ d) :
    CallsD Try.prog 101 #[.pointer (some ⟨a, 0, none⟩), .pointer (some ⟨b, 0, none⟩), .pointer (some ⟨d, 0, none⟩)] (.panicking [{ v := .iface 30 (.int .i64 3), recovered := false }]) w fun e u' w' =>
      e = .returned (.tuple #[]) ∧ u' = .panicking [{ v := .iface 30 (.int .i64 3), recovered := true }] ∧ w' = (((w.drew).setCell ⟨a, 0, none⟩ (.slice none 0 0)).setCell ⟨b, 0, none⟩ (.int .i64 0)).setCell ⟨d, 0, none⟩ (.int .i64 3) := by
  refine callsD_of_wpS Try.func101 rfl fun c₀ cs hu => ?_
  apply wpS_seq
  apply wpS_region
  simp [wpOpsS, go_sem, recoverD, hu, Try.ntmps101, Exit.thenS]
  apply wpS_seq
  apply wpS_region
  simp [wpOpsS, go_sem, Exit.thenS]
  refine wpS_cond (t := true) (by simp [Act.eval, Array.replicate]) ?_
  simp only [if_true]
  have hta : ∀ w, (Instr.typeAssert (.iface 30 (.int .i64 3)) 20 30 false).run Try.prog w = .ok (.int .i64 3) w := fun _ => by kernel_rfl
  refine wpS_of_wp ?_
  rw [show (#[Value.pointer (some ⟨a, 0, none⟩), .pointer (some ⟨b, 0, none⟩), .pointer (some ⟨d, 0, none⟩)] ++ ((((Array.replicate 6 undef).setIfInBounds 1 (Value.iface 30 (.int .i64 3))).setIfInBounds 0 (Value.iface 30 (.int .i64 3))).setIfInBounds 2 (Value.iface 30 (.int .i64 3))).setIfInBounds 3 (Value.bool true) : Array Value) = #[.pointer (some ⟨a, 0, none⟩), .pointer (some ⟨b, 0, none⟩), .pointer (some ⟨d, 0, none⟩), .iface 30 (.int .i64 3), .iface 30 (.int .i64 3), .iface 30 (.int .i64 3), .bool true, undef, undef] from rfl]
  refine start_ (n := 5) (S := fun _ => True) (ds := [2, 3, 4]) #[false, false, false, false, false] (by kernel_rfl) rfl rfl trivial (fun hHeld => ?_)
  refine pure_ (i := 0) (N := some 7) (v := ?_) (a' := ?_) #[true, false, false, false, false] rfl rfl (by kernel_rfl) (fun _ _ _ h => h) (Or.inl ⟨by rfl, ?_⟩) ?_ ?_
  rotate_left
  · intro w'
    go_simp
    with_reducible rfl
  rotate_left
  · simp only [Act.put, List.setIfInBounds_toArray, List.set_cons_zero, List.set_cons_succ, i64_w, i32_w]
    rfl
  refine pure_ (i := 1) (N := some 8) (v := ?_) (a' := ?_) #[true, true, false, false, false] rfl rfl (by kernel_rfl) (fun _ _ _ h => h) (Or.inl ⟨by rfl, ?_⟩) ?_ ?_
  rotate_left
  · intro w'
    go_simp
    with_reducible rfl
  rotate_left
  · simp only [Act.put, List.setIfInBounds_toArray, List.set_cons_zero, List.set_cons_succ, i64_w, i32_w]
    rfl
  have e0 := show w.cell? ⟨a, 0, none⟩ = some va from blk_cell ha 0
  have z0 := blk_frozen ha 0
  have e1 := show w.cell? ⟨b, 0, none⟩ = some vb from blk_cell hb 0
  have z1 := blk_frozen hb 0
  have e2 := show w.cell? ⟨d, 0, none⟩ = some vd from blk_cell hd 0
  have z2 := blk_frozen hd 0
  refine last_ (i := 2) (N := none) #[true, true, true, false, false] rfl rfl (by kernel_rfl) (by decide) (fun K hK => ?_)
  refine skip_ (w1 := ?_) (by rfl) rfl ?_ ?_
  rotate_left
  · go_simp
    rfl
  refine hK.out _ _ ?_
  clear hK K
  refine last_ (i := 3) (N := none) #[true, true, true, true, false] rfl rfl (by kernel_rfl) (by decide) (fun K hK => ?_)
  refine skip_ (w1 := ?_) (by rfl) rfl ?_ ?_
  rotate_left
  · go_simp
    rfl
  refine hK.out _ _ ?_
  clear hK K
  refine last_ (i := 4) (N := none) #[true, true, true, true, true] rfl rfl (by kernel_rfl) (by decide) (fun K hK => ?_)
  refine skip_ (w1 := ?_) (by rfl) rfl ?_ ?_
  rotate_left
  · go_simp
    rfl
  refine hK.out _ _ ?_
  clear hK K
  refine done_ (by kernel_rfl) ?_
  cases c₀
  simp_all [bodyPostS, results, Try.results101]
end Go.Proofs.Ytkopbaikmlajmaa.Q
