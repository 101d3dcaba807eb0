/- trimmed to what this claim's texts name -/
import Derived.Test.YtkopbaikmlajmaaK
-- Laid by this session's own call of the kit's print.py (wip/qprint.py)
namespace Go.Proofs.Ytkopbaikmlajmaa.Q
open Go.RowKit Go.Proofs.YtkopbaikmlajmaaW.PrintWords Go.Proofs.YtkopbaikmlajmaaW.PrintLast Go.Proofs.YtkopbaikmlajmaaW.PrintMore
attribute [local go_sem] max2_int min2_int max_two min_two max_three min_three max_four min_four   -- for this text's walks alone
set_option linter.unusedVariables false
set_option linter.unusedSimpArgs false

def alumref21_Project.l0 : Nat → List (S40) → List Int → List (S40) → Int → Option ((List (S40)) × Int)
  | 0, _, _, _, _ => none
  | k + 1, x0, x1, x6, x7 => if x7 < (x1.length : Int) then (if 0 ≤ x7 then (if (rd x1 x7) < 0 then (some (([] : List (S40)), 1)) else (if (rd x1 x7) ≥ (x0.length : Int) then (some (([] : List (S40)), 1)) else (if 0 ≤ (rd x1 x7) then (if (rd x1 x7) < (x0.length : Int) then (if x6.length < 4398046511104 then (alumref21_Project.l0 k x0 x1 (x6 ++ [(⟨(rd_T40 x0 (rd x1 x7)).f0, (rd_T40 x0 (rd x1 x7)).f1, (rd_T40 x0 (rd x1 x7)).f2⟩ : S40)]) (wrap64 (x7 + 1))) else (none)) else (none)) else (none)))) else (none)) else (some (x6, 0))
def alumref21_Project.f (k : Nat) (l0 : List (S40)) (l1 : List Int) : Option ((List (S40)) × Int) := alumref21_Project.l0 k l0 l1 ([] : List (S40)) 0
set_option maxHeartbeats 8000000 in
set_option maxRecDepth 100000 in
theorem alumref21_Project.calls (k : Nat) (A0 : Option Addr) (c0 : Nat) (l0 : List (S40)) (A1 : Option Addr) (c1 : Nat) (l1 : List Int) (r1 : List (S40)) (r2 : Int) (w : World) (hr0 : Kd.C k40 w A0 l0.length l0) (hc0 : l0.length ≤ c0) (hr1 : Kd.C (Kd.int .i64) w A1 l1.length l1) (hc1 : l1.length ≤ c1) (h : alumref21_Project.f k l0 l1 = some (r1, r2)) :
    Calls Try.prog 65 #[.slice A0 l0.length c0, .slice A1 l1.length c1] w fun e w' => ∃ v0_ : Value, e = .returned (.tuple #[v0_, .int .i64 r2]) ∧ Kd.R k40 40 w' w.heap.size (fun _ => True) v0_ r1 ∧ Below w.heap.size w w' := by
  have hu40 := Try.underlying40
  have HR0 := Aside0.mk hr0
  have HC0 := Aside0.mk hc0
  clear hr0 hc0
  have HR1 := Aside0.mk hr1
  have HC1 := Aside0.mk hc1
  clear hr1 hc1
  have HB := Aside0.mk (Below.refl w.heap.size w)
  have H : (alumref21_Project.l0 k l0 l1 ([] : List (S40)) 0) = some (r1, r2) := h
  clear h
  have H' := Aside0.mk H
  clear H
  go_enter Try.func65, Try.ntmps65
  go_wp2
  go_loopg [6, 7] k (fun kq v6 v7 w' => ∃ (x6_1 : List (S40)) (x7_1 : Int), v7 = .int .i64 x7_1 ∧ Aside0 (alumref21_Project.l0 kq l0 l1 x6_1 x7_1 = some (r1, r2)) ∧ Aside0 (kq ≤ k) ∧ Aside0 (Kd.R k40 40 w' w.heap.size (fun _ => True) v6 x6_1) ∧ Aside0 (Below w.heap.size w w'))
  case atStart => exact ⟨(([] : List (S40))), (0), (by first | rfl | (simp; done) | (simp [*]; done)), H', ⟨Nat.le_refl _⟩, ⟨by first | exact Kd.R_nil _ _ _ _ _ | exact Kd.N_nil _ _ _ _ _ | exact Kd.V_nil _ _ _ _ _ | exact Kd.Q_nil _ _ _ _ _ | exact Kd.S_nil _ _ _ _ _⟩, ⟨by repeat (first | (with_reducible first | exact HB.out | apply below_alloc | apply pw_below_drewN | apply below_drew1) | exact HB.out)⟩⟩
  case round =>
    clear H'
    try clear c1
    try clear p2
    obtain ⟨x6_1, x7_1, rfl, HA, HK1, HO_6, HB⟩ := hrel
    cases gk with
    | zero => exact absurd HA.out (by simp [alumref21_Project.l0])
    | succ k1 =>
      have H := HA.out
      clear HA
      simp only [alumref21_Project.l0] at H
      by_cases c3 : x7_1 < (l1.length : Int)
      · rw [if_pos c3] at H
        have c3b0 : decide (x7_1 < (l1.length : Int)) = true := decide_eq_true c3
        clear c3
        by_cases c4 : 0 ≤ x7_1
        · rw [if_pos c4] at H
          have c4b0 : decide (0 ≤ x7_1) = true := decide_eq_true c4
          clear c4
          by_cases c5 : (rd l1 x7_1) < 0
          · rw [if_pos c5] at H
            have c5b0 : decide ((rd l1 x7_1) < 0) = true := decide_eq_true c5
            clear c5
            simp only [Option.some.injEq, Prod.mk.injEq] at H
            obtain ⟨rfl, rfl⟩ := H
            have p741 : 0 ≤ (x7_1 : Int) := of_decide_eq_true (by first | (with_reducible assumption) | assumption)
            have q741 : x7_1 < (l1.length : Int) := of_decide_eq_true (by first | (with_reducible assumption) | assumption)
            obtain ⟨ad741, e741, hx741_0⟩ := Kd.at_int HR1.out x7_1 p741 q741
            cases e741
            replace hx741_0 := (HB.out.cell (World.block_lt_of_cell? w _ hx741_0)).trans hx741_0
            replace p741 := eq_true p741
            replace q741 := eq_true q741
            go_wp2
            go_ret2
            exact ⟨_, by first | rfl | (simp [errW_none, errW_some] <;> rfl) | (simp [*, errW_none, errW_some] <;> rfl), by first | exact Kd.R_nil _ _ _ _ _ | exact Kd.N_nil _ _ _ _ _ | exact Kd.V_nil _ _ _ _ _ | exact Kd.Q_nil _ _ _ _ _ | exact Kd.S_nil _ _ _ _ _, by repeat (first | (with_reducible first | exact HB.out | apply below_alloc | apply pw_below_drewN | apply below_drew1) | exact HB.out)⟩
          · rw [if_neg c5] at H
            have c5b0 : decide ((rd l1 x7_1) < 0) = false := decide_eq_false c5
            clear c5
            by_cases c6 : (rd l1 x7_1) ≥ (l0.length : Int)
            · rw [if_pos c6] at H
              have c6b0 : decide ((l0.length : Int) ≤ (rd l1 x7_1)) = true := decide_eq_true c6
              clear c6
              simp only [Option.some.injEq, Prod.mk.injEq] at H
              obtain ⟨rfl, rfl⟩ := H
              have p741 : 0 ≤ (x7_1 : Int) := of_decide_eq_true (by first | (with_reducible assumption) | assumption)
              have q741 : x7_1 < (l1.length : Int) := of_decide_eq_true (by first | (with_reducible assumption) | assumption)
              obtain ⟨ad741, e741, hx741_0⟩ := Kd.at_int HR1.out x7_1 p741 q741
              cases e741
              replace hx741_0 := (HB.out.cell (World.block_lt_of_cell? w _ hx741_0)).trans hx741_0
              replace p741 := eq_true p741
              replace q741 := eq_true q741
              have p742 : 0 ≤ (x7_1 : Int) := of_decide_eq_true (by first | (with_reducible assumption) | assumption)
              have q742 : x7_1 < (l1.length : Int) := of_decide_eq_true (by first | (with_reducible assumption) | assumption)
              obtain ⟨ad742, e742, hx742_0⟩ := Kd.at_int HR1.out x7_1 p742 q742
              obtain rfl : ad741 = ad742 := (by injection e742)
              replace hx742_0 := (HB.out.cell (World.block_lt_of_cell? w _ hx742_0)).trans hx742_0
              replace p742 := eq_true p742
              replace q742 := eq_true q742
              go_wp2
              go_ret2
              exact ⟨_, by first | rfl | (simp [errW_none, errW_some] <;> rfl) | (simp [*, errW_none, errW_some] <;> rfl), by first | exact Kd.R_nil _ _ _ _ _ | exact Kd.N_nil _ _ _ _ _ | exact Kd.V_nil _ _ _ _ _ | exact Kd.Q_nil _ _ _ _ _ | exact Kd.S_nil _ _ _ _ _, by repeat (first | (with_reducible first | exact HB.out | apply below_alloc | apply pw_below_drewN | apply below_drew1) | exact HB.out)⟩
            · rw [if_neg c6] at H
              have c6b0 : decide ((l0.length : Int) ≤ (rd l1 x7_1)) = false := decide_eq_false c6
              clear c6
              by_cases c7 : 0 ≤ (rd l1 x7_1)
              · rw [if_pos c7] at H
                have c7b0 : decide (0 ≤ (rd l1 x7_1)) = true := decide_eq_true c7
                clear c7
                by_cases c8 : (rd l1 x7_1) < (l0.length : Int)
                · rw [if_pos c8] at H
                  have c8b0 : decide ((rd l1 x7_1) < (l0.length : Int)) = true := decide_eq_true c8
                  clear c8
                  by_cases c9 : x6_1.length < 4398046511104
                  · rw [if_pos c9] at H
                    have LMc9 := Aside0.mk c9
                    clear c9
                    obtain ⟨y745, hy745⟩ : ∃ y_ : List (S40), y_ = (x6_1 ++ [(⟨(rd_T40 l0 (rd l1 x7_1)).f0, (rd_T40 l0 (rd l1 x7_1)).f1, (rd_T40 l0 (rd l1 x7_1)).f2⟩ : S40)]) := ⟨_, rfl⟩
                    replace H : (alumref21_Project.l0 k1 l0 l1 y745 (wrap64 (x7_1 + 1))) = some (r1, r2) := by first | (rw [hy745]; with_reducible exact H) | (have H2_ := (Option.bind_some _ _).symm.trans H; rw [hy745]; with_reducible exact H2_) | (have H2_ := (Option.bind_some _ _).symm.trans H; with_reducible exact H2_) | with_reducible exact H | (rw [hy745]; exact H) | exact H
                    have Ny745 := Aside0.mk hy745
                    clear hy745
                    have H' := Aside0.mk H
                    clear H
                    have p741 : 0 ≤ (x7_1 : Int) := of_decide_eq_true (by first | (with_reducible assumption) | assumption)
                    have q741 : x7_1 < (l1.length : Int) := of_decide_eq_true (by first | (with_reducible assumption) | assumption)
                    obtain ⟨ad741, e741, hx741_0⟩ := Kd.at_int HR1.out x7_1 p741 q741
                    cases e741
                    replace hx741_0 := (HB.out.cell (World.block_lt_of_cell? w _ hx741_0)).trans hx741_0
                    replace p741 := eq_true p741
                    replace q741 := eq_true q741
                    have p742 : 0 ≤ (x7_1 : Int) := of_decide_eq_true (by first | (with_reducible assumption) | assumption)
                    have q742 : x7_1 < (l1.length : Int) := of_decide_eq_true (by first | (with_reducible assumption) | assumption)
                    obtain ⟨ad742, e742, hx742_0⟩ := Kd.at_int HR1.out x7_1 p742 q742
                    obtain rfl : ad741 = ad742 := (by injection e742)
                    replace hx742_0 := (HB.out.cell (World.block_lt_of_cell? w _ hx742_0)).trans hx742_0
                    replace p742 := eq_true p742
                    replace q742 := eq_true q742
                    have p743 : 0 ≤ (x7_1 : Int) := of_decide_eq_true (by first | (with_reducible assumption) | assumption)
                    have q743 : x7_1 < (l1.length : Int) := of_decide_eq_true (by first | (with_reducible assumption) | assumption)
                    obtain ⟨ad743, e743, hx743_0⟩ := Kd.at_int HR1.out x7_1 p743 q743
                    obtain rfl : ad741 = ad743 := (by injection e743)
                    replace hx743_0 := (HB.out.cell (World.block_lt_of_cell? w _ hx743_0)).trans hx743_0
                    replace p743 := eq_true p743
                    replace q743 := eq_true q743
                    have p744 : 0 ≤ ((rd l1 x7_1) : Int) := of_decide_eq_true (by first | (with_reducible assumption) | assumption)
                    have q744 : (rd l1 x7_1) < (l0.length : Int) := of_decide_eq_true (by first | (with_reducible assumption) | assumption)
                    obtain ⟨ad744, e744, hx744_0, hx744_1, hx744_2⟩ := at_T40 HR0.out (rd l1 x7_1) p744 q744
                    cases e744
                    replace hx744_0 := (HB.out.cell (World.block_lt_of_cell? w _ hx744_0)).trans hx744_0
                    replace hx744_1 := (HB.out.cell (World.block_lt_of_cell? w _ hx744_1)).trans hx744_1
                    replace hx744_2 := (HB.out.cell (World.block_lt_of_cell? w _ hx744_2)).trans hx744_2
                    replace p744 := eq_true p744
                    replace q744 := eq_true q744
                    go_wp2_with (first | ((with_reducible refine gate_builtin (b := .append) (xs := #[.tmp 28, .tmp 36]) rfl ?_); (try (refine gate_guard (by rfl) ?_; dsimp only)); at_builtin; refine Kd.R_append k40 (w0 := w) w.heap.size rfl (.tmp 28) (.tmp 36) 37 40 (.agg #[(.int .i64 0), (.int .i64 0), (.string ⟨#[]⟩)]) 32 rfl Try.underlying37 info40 rfl (by decide) (by omega) u6 x6_1 (⟨(rd_T40 l0 (rd l1 x7_1)).f0, (rd_T40 l0 (rd l1 x7_1)).f1, (rd_T40 l0 (rd l1 x7_1)).f2⟩ : S40) [.int .i64 ((rd_T40 l0 (rd l1 x7_1)).f0), .int .i64 ((rd_T40 l0 (rd l1 x7_1)).f1), .string ((rd_T40 l0 (rd l1 x7_1)).f2)] (fun _ => True) (fun _ => False) rfl rfl ?aP (fun _ hk => hk.elim) ?aF ?aO ?aB ?aS ?aL ?_; (case aP => exact k40_mkM _ _ _ (⟨(rd_T40 l0 (rd l1 x7_1)).f0, (rd_T40 l0 (rd l1 x7_1)).f1, (rd_T40 l0 (rd l1 x7_1)).f2⟩ : S40)); (case aB => exact (by repeat (first | (with_reducible first | exact HB.out | apply below_alloc | apply pw_below_drewN | apply below_drew1) | exact HB.out))); (case aF => exact (fun _ _ => trivial)); (case aO => exact (by (with_reducible repeat (first | apply Kd.R_alloc | apply Kd.R_drewN | apply Kd.R_drew)); exact HO_6.out)); (case aS => exact (below_size (by repeat (first | (with_reducible first | exact HB.out | apply below_alloc | apply pw_below_drewN | apply below_drew1) | exact HB.out)))); (case aL => have := LMc9.out; omega); intro v746 w10 ho hb hg hat; rw [← Ny745.out] at ho; have n0_ := Aside0.mk (hb); have n1_ := Aside0.mk (ho); clear HB; clear HO_6; have HB := n0_; have HO747 := n1_; clear n0_ n1_; clear ho hb hg hat))
                    go_roundg k1
                    case measure => have := HK1.out; omega
                    case rel => exact ⟨(y745), (wrap64 (x7_1 + 1)), (by first | rfl | (simp; done) | (simp [*]; done)), H', ⟨by have := HK1.out; omega⟩, ⟨by (with_reducible repeat (first | apply Kd.R_alloc | apply Kd.R_drewN | apply Kd.R_drew)); exact HO747.out⟩, ⟨by repeat (first | (with_reducible first | exact HB.out | apply below_alloc | apply pw_below_drewN | apply below_drew1) | exact HB.out)⟩⟩
                  · rw [if_neg c9] at H
                    exact absurd H (by simp)
                · rw [if_neg c8] at H
                  exact absurd H (by simp)
              · rw [if_neg c7] at H
                exact absurd H (by simp)
        · rw [if_neg c4] at H
          exact absurd H (by simp)
      · rw [if_neg c3] at H
        have c3b0 : decide (x7_1 < (l1.length : Int)) = false := decide_eq_false c3
        clear c3
        simp only [Option.some.injEq, Prod.mk.injEq] at H
        obtain ⟨rfl, rfl⟩ := H
        go_wp2
        go_ret2
        exact ⟨_, by first | rfl | (simp [errW_none, errW_some] <;> rfl) | (simp [*, errW_none, errW_some] <;> rfl), by (with_reducible repeat (first | apply Kd.R_alloc | apply Kd.R_drewN | apply Kd.R_drew)); exact HO_6.out, by repeat (first | (with_reducible first | exact HB.out | apply below_alloc | apply pw_below_drewN | apply below_drew1) | exact HB.out)⟩

end Go.Proofs.Ytkopbaikmlajmaa.Q
