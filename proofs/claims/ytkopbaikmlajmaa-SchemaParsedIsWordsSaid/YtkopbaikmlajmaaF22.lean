/- trimmed to what these claims' texts use -/
import Derived.Test.YtkopbaikmlajmaaDA
import Derived.Test.YtkopbaikmlajmaaF28
import Derived.Test.YtkopbaikmlajmaaF31
import Derived.Test.YtkopbaikmlajmaaFA
namespace Go.Proofs.Ytkopbaikmlajmaa.Q
open Go.RowKit Go.Proofs.YtkopbaikmlajmaaW.PrintWords Go.Proofs.YtkopbaikmlajmaaW.PrintLast Go.Proofs.YtkopbaikmlajmaaW.PrintMore
set_option linter.unusedVariables false
set_option linter.unusedSimpArgs false
theorem same_w : alumref20_SameInts.f 6 [4097, 498216206336, 13, 416611827712] [4097, 498216206336, 13, 416611827712] = some true := by kernel_rfl

set_option maxHeartbeats 2000000 in
set_option maxRecDepth 100000 in
theorem c22 (w : World) : Calls Try.prog 22 #[] w fun e w' => e = .returned (.bool true) ∧ Below w.heap.size w w' := by
 have hu28 := Try.underlying28
 have hu56 := Try.underlying56
 have hu42 := Try.underlying42
 have hu40 := Try.underlying40
 go_enter Try.func22, Try.ntmps22
 go_wp2_with fail
 obtain ⟨v1, hv1⟩ : ∃ v1, v1 = (w.alloc (.cells #[.string ⟨#[97]⟩, .int .i64 1, .bool true] 56)).alloc (.cells #[.string ⟨#[116]⟩, .slice (some ⟨w.heap.size, 0, none⟩) 1 1, .slice none 0 0, .slice none 0 0] 28) := ⟨_, rfl⟩
 have HBv : Aside0 (Below w.heap.size w v1) := ⟨hv1 ▸ below_step (below_al w _) (below_al _ _)⟩
 have hT : v1.heap[w.heap.size + 1]? = some (.cells #[.string ⟨#[116]⟩, .slice (some ⟨w.heap.size, 0, none⟩) 1 1, .slice none 0 0, .slice none 0 0] 28 (0, 0)) := by
  rw [hv1, show w.heap.size + 1 = (w.alloc (.cells #[.string ⟨#[97]⟩, .int .i64 1, .bool true] 56)).heap.size by simp]
  exact blk_new _ _
 have HC : Aside0 (k56.C v1 (some ⟨w.heap.size, 0, none⟩) tc.length tc) := ⟨by
  rw [hv1]
  exact Kd.C_below (C_56 w ⟨⟨#[97]⟩, 1, true⟩) (below_al _ _)⟩
 have HT := Aside0.mk hT
 rw [← hv1]
 clear hv1 hT
 obtain ⟨b, hb⟩ : ∃ b, b = w.heap.size := ⟨_, rfl⟩
 rw [← hb] at HT HC ⊢
 have HBB := Aside0.mk hb
 clear hb
 refine (c23' n_a _).mono ?_
 rintro e w1 ⟨rfl, hb⟩
 have HB := Aside0.mk hb
 clear hb
 go_wp2_with fail
 refine (c23' n_a1 _).mono ?_
 rintro e w2 ⟨rfl, hb⟩
 replace HB := Aside0.mk (below_step HB.out hb)
 clear hb w1
 go_wp2_with fail
 refine (c23' n_A _).mono ?_
 rintro e w3 ⟨rfl, hb⟩
 replace HB := Aside0.mk (below_step HB.out hb)
 clear hb w2
 go_wp2_with fail
 refine (c23' n_1a _).mono ?_
 rintro e w4 ⟨rfl, hb⟩
 replace HB := Aside0.mk (below_step HB.out hb)
 clear hb w3
 go_wp2_with fail
 refine (c23' n_sel _).mono ?_
 rintro e w5 ⟨rfl, hb⟩
 replace HB := Aside0.mk (below_step HB.out hb)
 clear hb w4
 go_wp2_with fail
 refine (c23' n_nil _).mono ?_
 rintro e w6 ⟨rfl, hb⟩
 replace HB := Aside0.mk (below_step HB.out hb)
 clear hb w5
 have hT := (HB.out.block _ (Array.getElem?_eq_some_iff.1 HT.out).1).trans HT.out
 have t0 := show w6.cell? ⟨b + 1, 0, none⟩ = some (.string ⟨#[116]⟩) from blk_cell hT 0
 have t1 := show w6.cell? ⟨b + 1, 1, none⟩ = some (.slice (some ⟨b, 0, none⟩) 1 1) from blk_cell hT 1
 have t2 := show w6.cell? ⟨b + 1, 2, none⟩ = some (.slice none 0 0) from blk_cell hT 2
 have t3 := show w6.cell? ⟨b + 1, 3, none⟩ = some (.slice none 0 0) from blk_cell hT 3
 clear hT
 go_wp2_with fail
 clear t0 t1 t2 t3
 refine (c28 tn (some ⟨b, 0, none⟩) 1 tc none 0 [] none 0 [] w6 (Kd.C_below HC.out HB.out) (Nat.le_refl _) (Kd.C_nil _ _) (Nat.le_refl _) (Kd.C_nil _ _) (Nat.le_refl _)).mono ?_
 rintro e w7 ⟨v, rfl, hR, hb⟩
 rw [k_t]
 rw [w_t] at hR
 obtain ⟨AW, cW, rfl, hcw, hrw⟩ := Kd.R_reads hR
 have HRW := Aside0.mk hrw
 have HCW := Aside0.mk hcw
 replace HB := Aside0.mk (below_step HB.out hb)
 clear hb w6 hR hrw hcw
 have hT := (HB.out.block _ (Array.getElem?_eq_some_iff.1 HT.out).1).trans HT.out
 have t0 := show w7.cell? ⟨b + 1, 0, none⟩ = some (.string ⟨#[116]⟩) from blk_cell hT 0
 have t1 := show w7.cell? ⟨b + 1, 1, none⟩ = some (.slice (some ⟨b, 0, none⟩) 1 1) from blk_cell hT 1
 have t2 := show w7.cell? ⟨b + 1, 2, none⟩ = some (.slice none 0 0) from blk_cell hT 2
 have t3 := show w7.cell? ⟨b + 1, 3, none⟩ = some (.slice none 0 0) from blk_cell hT 3
 clear hT
 go_wp2_with fail
 clear t0 t1 t2 t3
 have HA := Aside0.mk (C_40 w7 ⟨0, 0, ⟨#[]⟩⟩)
 have HBA := Aside0.mk (below_al w7 (.cells #[.int .i64 0, .int .i64 0, .string ⟨#[]⟩] 40))
 replace HB := Aside0.mk (below_step HB.out HBA.out)
 refine (c31 tn (some ⟨b, 0, none⟩) 1 tc none 0 [] none 0 [] (some ⟨w7.heap.size, 0, none⟩) 1 [⟨0, 0, ⟨#[]⟩⟩] _ (Kd.C_below HC.out HB.out) (Nat.le_refl _) (Kd.C_nil _ _) (Nat.le_refl _) (Kd.C_nil _ _) (Nat.le_refl _) HA.out (Nat.le_refl _)).mono ?_
 rw [f_null]
 rintro e w8 ⟨rfl, hb⟩
 replace HB := Aside0.mk (below_step HB.out hb)
 have HW := Aside0.mk (below_step HBA.out hb)
 clear hb HA HBA
 have hT := (HB.out.block _ (Array.getElem?_eq_some_iff.1 HT.out).1).trans HT.out
 have t0 := show w8.cell? ⟨b + 1, 0, none⟩ = some (.string ⟨#[116]⟩) from blk_cell hT 0
 have t1 := show w8.cell? ⟨b + 1, 1, none⟩ = some (.slice (some ⟨b, 0, none⟩) 1 1) from blk_cell hT 1
 have t2 := show w8.cell? ⟨b + 1, 2, none⟩ = some (.slice none 0 0) from blk_cell hT 2
 have t3 := show w8.cell? ⟨b + 1, 3, none⟩ = some (.slice none 0 0) from blk_cell hT 3
 clear hT
 go_wp2_with fail
 clear t0 t1 t2 t3
 have HA := Aside0.mk (C_40 w8 ⟨2, 0, ⟨#[]⟩⟩)
 have HBA := Aside0.mk (below_al w8 (.cells #[.int .i64 2, .int .i64 0, .string ⟨#[]⟩] 40))
 replace HB := Aside0.mk (below_step HB.out HBA.out)
 refine (c31 tn (some ⟨b, 0, none⟩) 1 tc none 0 [] none 0 [] (some ⟨w8.heap.size, 0, none⟩) 1 [⟨2, 0, ⟨#[]⟩⟩] _ (Kd.C_below HC.out HB.out) (Nat.le_refl _) (Kd.C_nil _ _) (Nat.le_refl _) (Kd.C_nil _ _) (Nat.le_refl _) HA.out (Nat.le_refl _)).mono ?_
 rw [f_text]
 rintro e w9 ⟨rfl, hb⟩
 replace HB := Aside0.mk (below_step HB.out hb)
 replace HW := Aside0.mk (below_step HW.out (below_step HBA.out hb))
 clear hb HA HBA
 have hT := (HB.out.block _ (Array.getElem?_eq_some_iff.1 HT.out).1).trans HT.out
 have t0 := show w9.cell? ⟨b + 1, 0, none⟩ = some (.string ⟨#[116]⟩) from blk_cell hT 0
 have t1 := show w9.cell? ⟨b + 1, 1, none⟩ = some (.slice (some ⟨b, 0, none⟩) 1 1) from blk_cell hT 1
 have t2 := show w9.cell? ⟨b + 1, 2, none⟩ = some (.slice none 0 0) from blk_cell hT 2
 have t3 := show w9.cell? ⟨b + 1, 3, none⟩ = some (.slice none 0 0) from blk_cell hT 3
 clear hT
 go_wp2_with fail
 clear t0 t1 t2 t3
 refine (c31 tn (some ⟨b, 0, none⟩) 1 tc none 0 [] none 0 [] none 0 [] _ (Kd.C_below HC.out HB.out) (Nat.le_refl _) (Kd.C_nil _ _) (Nat.le_refl _) (Kd.C_nil _ _) (Nat.le_refl _) (Kd.C_nil _ _) (Nat.le_refl _)).mono ?_
 rw [f_none]
 rintro e w10 ⟨rfl, hb⟩
 replace HB := Aside0.mk (below_step HB.out hb)
 replace HW := Aside0.mk (below_step HW.out hb)
 clear hb
 have hT := (HB.out.block _ (Array.getElem?_eq_some_iff.1 HT.out).1).trans HT.out
 have t0 := show w10.cell? ⟨b + 1, 0, none⟩ = some (.string ⟨#[116]⟩) from blk_cell hT 0
 have t1 := show w10.cell? ⟨b + 1, 1, none⟩ = some (.slice (some ⟨b, 0, none⟩) 1 1) from blk_cell hT 1
 have t2 := show w10.cell? ⟨b + 1, 2, none⟩ = some (.slice none 0 0) from blk_cell hT 2
 have t3 := show w10.cell? ⟨b + 1, 3, none⟩ = some (.slice none 0 0) from blk_cell hT 3
 clear hT
 go_wp2_with fail
 clear t0 t1 t2 t3
 obtain ⟨w11, hw11⟩ : ∃ w11, w11 = (w10.alloc (.cells #[.string ⟨#[116]⟩, .slice (some ⟨b, 0, none⟩) 1 1, .slice none 0 0, .slice (some ⟨w10.heap.size + 1, 0, none⟩) 1 1] 28)).alloc (.cells #[.int .i64 0, .int .i64 10, .int .i64 1, .int .i64 3, .string ⟨#[]⟩] 42) := ⟨_, rfl⟩
 have hsz : w10.heap.size + 1 + 1 = w11.heap.size := by rw [hw11]; simp
 have HB11 : Aside0 (Below w10.heap.size w10 w11) := ⟨hw11 ▸ below_step (below_al w10 _) (below_al _ _)⟩
 have hT8 : w11.heap[w10.heap.size]? = some (.cells #[.string ⟨#[116]⟩, .slice (some ⟨b, 0, none⟩) 1 1, .slice none 0 0, .slice (some ⟨w10.heap.size + 1, 0, none⟩) 1 1] 28 (0, 0)) := by
  rw [hw11]
  exact (Below.heap_alloc _ _ _ (by simp)).trans (blk_new w10 _)
 have HT8 := Aside0.mk hT8
 have HK : Aside0 (k42.C w11 (some ⟨w10.heap.size + 1, 0, none⟩) tk.length tk) := ⟨by
  have := C_42 (w10.alloc (.cells #[.string ⟨#[116]⟩, .slice (some ⟨b, 0, none⟩) 1 1, .slice none 0 0, .slice (some ⟨w10.heap.size + 1, 0, none⟩) 1 1] 28)) ⟨0, 10, ⟨1, 3, ⟨#[]⟩⟩⟩
  rw [World.size_alloc] at this
  rw [hw11]
  exact this⟩
 rw [← hw11, hsz]
 clear hw11 hsz hT8
 replace HB := Aside0.mk (below_step HB.out HB11.out)
 replace HW := Aside0.mk (below_step HW.out HB11.out)
 have HB8 := Aside0.mk (Below.refl w11.heap.size w11)
 have HA := Aside0.mk (C_40 w11 ⟨1, 3, ⟨#[]⟩⟩)
 have HBA := Aside0.mk (below_al w11 (.cells #[.int .i64 1, .int .i64 3, .string ⟨#[]⟩] 40))
 replace HB8 := Aside0.mk (below_step HB8.out HBA.out)
 refine (c31 tn (some ⟨b, 0, none⟩) 1 tc none 0 [] (some ⟨w10.heap.size + 1, 0, none⟩) 1 tk (some ⟨w11.heap.size, 0, none⟩) 1 [⟨1, 3, ⟨#[]⟩⟩] _ (Kd.C_below HC.out (below_step HB.out HB8.out)) (Nat.le_refl _) (Kd.C_nil _ _) (Nat.le_refl _) (Kd.C_below HK.out HB8.out) (Nat.le_refl _) HA.out (Nat.le_refl _)).mono ?_
 rw [f_three]
 rintro e w12 ⟨rfl, hb⟩
 replace HB8 := Aside0.mk (below_step HB8.out hb)
 clear hb HA HBA
 have hT := (HB8.out.block _ (Array.getElem?_eq_some_iff.1 HT8.out).1).trans HT8.out
 have t0 := show w12.cell? ⟨w10.heap.size, 0, none⟩ = some (.string ⟨#[116]⟩) from blk_cell hT 0
 have t1 := show w12.cell? ⟨w10.heap.size, 1, none⟩ = some (.slice (some ⟨b, 0, none⟩) 1 1) from blk_cell hT 1
 have t2 := show w12.cell? ⟨w10.heap.size, 2, none⟩ = some (.slice none 0 0) from blk_cell hT 2
 have t3 := show w12.cell? ⟨w10.heap.size, 3, none⟩ = some (.slice (some ⟨w10.heap.size + 1, 0, none⟩) 1 1) from blk_cell hT 3
 clear hT
 go_wp2_with fail
 clear t0 t1 t2 t3
 have HA := Aside0.mk (C_40 w12 ⟨1, 4, ⟨#[]⟩⟩)
 have HBA := Aside0.mk (below_al w12 (.cells #[.int .i64 1, .int .i64 4, .string ⟨#[]⟩] 40))
 replace HB8 := Aside0.mk (below_step HB8.out HBA.out)
 refine (c31 tn (some ⟨b, 0, none⟩) 1 tc none 0 [] (some ⟨w10.heap.size + 1, 0, none⟩) 1 tk (some ⟨w12.heap.size, 0, none⟩) 1 [⟨1, 4, ⟨#[]⟩⟩] _ (Kd.C_below HC.out (below_step HB.out HB8.out)) (Nat.le_refl _) (Kd.C_nil _ _) (Nat.le_refl _) (Kd.C_below HK.out HB8.out) (Nat.le_refl _) HA.out (Nat.le_refl _)).mono ?_
 rw [f_four]
 rintro e w13 ⟨rfl, hb⟩
 replace HB8 := Aside0.mk (below_step HB8.out hb)
 clear hb HA HBA
 have hT := (HB8.out.block _ (Array.getElem?_eq_some_iff.1 HT8.out).1).trans HT8.out
 have t0 := show w13.cell? ⟨w10.heap.size, 0, none⟩ = some (.string ⟨#[116]⟩) from blk_cell hT 0
 have t1 := show w13.cell? ⟨w10.heap.size, 1, none⟩ = some (.slice (some ⟨b, 0, none⟩) 1 1) from blk_cell hT 1
 have t2 := show w13.cell? ⟨w10.heap.size, 2, none⟩ = some (.slice none 0 0) from blk_cell hT 2
 have t3 := show w13.cell? ⟨w10.heap.size, 3, none⟩ = some (.slice (some ⟨w10.heap.size + 1, 0, none⟩) 1 1) from blk_cell hT 3
 clear hT
 go_wp2_with fail
 clear t0 t1 t2 t3
 have HA := Aside0.mk (C_40 w13 ⟨0, 0, ⟨#[]⟩⟩)
 have HBA := Aside0.mk (below_al w13 (.cells #[.int .i64 0, .int .i64 0, .string ⟨#[]⟩] 40))
 replace HB8 := Aside0.mk (below_step HB8.out HBA.out)
 refine (c31 tn (some ⟨b, 0, none⟩) 1 tc none 0 [] (some ⟨w10.heap.size + 1, 0, none⟩) 1 tk (some ⟨w13.heap.size, 0, none⟩) 1 [⟨0, 0, ⟨#[]⟩⟩] _ (Kd.C_below HC.out (below_step HB.out HB8.out)) (Nat.le_refl _) (Kd.C_nil _ _) (Nat.le_refl _) (Kd.C_below HK.out HB8.out) (Nat.le_refl _) HA.out (Nat.le_refl _)).mono ?_
 rw [f_free]
 rintro e w14 ⟨rfl, hb⟩
 replace HB8 := Aside0.mk (below_step HB8.out hb)
 clear hb HA HBA
 go_wp2_with fail
 have HBA := Aside0.mk (below_al w14 (.cells #[.int .i64 4097, .int .i64 498216206336, .int .i64 13, .int .i64 416611827712] 3))
 have HL := Aside0.mk (C_lits w14 [4097, 498216206336, 13, 416611827712] (by simp))
 replace HB8 := Aside0.mk (below_step HB8.out HBA.out)
 refine (alumref20_SameInts.calls 6 AW cW [4097, 498216206336, 13, 416611827712] (some ⟨w14.heap.size, 0, none⟩) 4 [4097, 498216206336, 13, 416611827712] true _ (Kd.C_below HRW.out (below_step HW.out HB8.out)) HCW.out HL.out (Nat.le_refl _) same_w).mono ?_
 rintro e w15 ⟨rfl, nd, rfl⟩
 replace HB8 := Aside0.mk (pw_below_drewN HB8.out nd)
 have hT := (HB8.out.block _ (Array.getElem?_eq_some_iff.1 HT8.out).1).trans HT8.out
 have t0 := show World.cell? (World.drewN (w14.alloc (.cells #[.int .i64 4097, .int .i64 498216206336, .int .i64 13, .int .i64 416611827712] 3)) nd) ⟨w10.heap.size, 0, none⟩ = some (.string ⟨#[116]⟩) from blk_cell hT 0
 have t1 := show World.cell? (World.drewN (w14.alloc (.cells #[.int .i64 4097, .int .i64 498216206336, .int .i64 13, .int .i64 416611827712] 3)) nd) ⟨w10.heap.size, 1, none⟩ = some (.slice (some ⟨b, 0, none⟩) 1 1) from blk_cell hT 1
 have t2 := show World.cell? (World.drewN (w14.alloc (.cells #[.int .i64 4097, .int .i64 498216206336, .int .i64 13, .int .i64 416611827712] 3)) nd) ⟨w10.heap.size, 2, none⟩ = some (.slice none 0 0) from blk_cell hT 2
 have t3 := show World.cell? (World.drewN (w14.alloc (.cells #[.int .i64 4097, .int .i64 498216206336, .int .i64 13, .int .i64 416611827712] 3)) nd) ⟨w10.heap.size, 3, none⟩ = some (.slice (some ⟨w10.heap.size + 1, 0, none⟩) 1 1) from blk_cell hT 3
 clear hT
 go_wp2_with fail
 clear t0 t1 t2 t3
 refine (c26 tn (some ⟨b, 0, none⟩) 1 tc none 0 [] (some ⟨w10.heap.size + 1, 0, none⟩) 1 tk _ (Kd.C_below HC.out (below_step HB.out HB8.out)) (Nat.le_refl _) (Kd.C_nil _ _) (Nat.le_refl _) (Kd.C_below HK.out HB8.out) (Nat.le_refl _)).mono ?_
 rw [k_c]
 rintro e w16 ⟨rfl, hb⟩
 replace HB8 := Aside0.mk (below_step HB8.out hb)
 go_wp2_with fail
 go_ret
 exact ⟨rfl, below_step HBv.out (below_step HB.out HB8.out)⟩
end Go.Proofs.Ytkopbaikmlajmaa.Q
