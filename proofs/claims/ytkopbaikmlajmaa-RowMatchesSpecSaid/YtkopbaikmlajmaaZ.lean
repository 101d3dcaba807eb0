/- Short names of proofs that the printed texts repeat. -/
set_option linter.unusedVariables false
namespace Go.Proofs.Ytkopbaikmlajmaa.Q
theorem Z136 {P : Prop} (h : P := by rw [h1]; simp) : P := h
theorem Z133 {P : Prop} (h : P := by have := HN.out; omega) : P := h
theorem Z134 {P : Prop} (h : P := by have := HK1.out; omega) : P := h
theorem Z128 {P : Prop} (h : P := by first | omega | exact Nat.le_refl _) : P := h
theorem Z124 {P : Prop} (h : P := by have := HK1.out; have := HK2.out; omega) : P := h
theorem Z126 {P : Prop} (h : P := by have := HJ1.out; have := HK2.out; omega) : P := h
theorem Z122 {P : Prop} (h : P := by first | rfl | (simp; done) | (simp [*]; done)) : P := h
theorem Z123 {P : Prop} (h : P := by first | rfl | (simp; done) | (simp [*]; done)) : P := h
theorem Z121 {P : Prop} (h : P := by first | (with_reducible assumption) | assumption) : P := h
theorem Z118 {P : Prop} (h : P := by have := HK1.out; first | omega | exact Nat.le_refl _) : P := h
theorem Z115 {P : Prop} (h : P := by repeat (first | exact Drawn0.refl _ | apply Drawn0.step)) : P := h
theorem Z114 {P : Prop} (h : P := by (try simp only [List.map_toArray, List.map_cons, List.map_nil]); first | done | rfl) : P := h
theorem Z112 {P : Prop} (h : P := by first | rfl | (simp [errW_none, errW_some] <;> rfl) | (simp [*, errW_none, errW_some] <;> rfl)) : P := h
theorem Z110 {P : Prop} (h : P := by (with_reducible repeat (first | apply Kd.R_alloc | apply Kd.R_drewN | apply Kd.R_drew)); exact HO_6.out) : P := h
theorem Z94 {P : Prop} (h : P := by simp only [Act.put, List.setIfInBounds_toArray, List.set_cons_zero, List.set_cons_succ, i64_w, i32_w]; rfl) : P := h
theorem Z88 {P : Prop} (h : P := by rw [fitsE_vals HC.out HL.out (by rw [firstE_hit _ _ k hlt HA.out (by rw [hE.out]; decide), hE.out]) (by decide)]; rfl) : P := h
theorem Z67 {P : Prop} (h : P := by repeat (first | (with_reducible first | exact HB.out | apply below_alloc | apply pw_below_drewN | apply below_drew1) | exact HB.out)) : P := h
theorem Z70 {P : Prop} (h : P := by repeat (first | (with_reducible first | exact HB.out | apply below_alloc | apply pw_below_drewN | apply below_drew1) | exact HB.out)) : P := h
theorem Z65 {P : Prop} (h : P := by (try simp only [List.map_toArray, List.map_cons, List.map_nil]); first | done | rfl | (simp only [List.length_drop, List.length_take]; rfl)) : P := h
theorem Z66 {P : Prop} (h : P := by first | exact Kd.R_nil _ _ _ _ _ | exact Kd.N_nil _ _ _ _ _ | exact Kd.V_nil _ _ _ _ _ | exact Kd.Q_nil _ _ _ _ _ | exact Kd.S_nil _ _ _ _ _) : P := h
end Go.Proofs.Ytkopbaikmlajmaa.Q
