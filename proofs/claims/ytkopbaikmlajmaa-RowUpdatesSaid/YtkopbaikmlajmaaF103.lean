/- trimmed to what this claim's texts name -/
import Derived.Test.YtkopbaikmlajmaaF136
import Derived.Deep.RegionHeld3
import Derived.Deep.DrawnRows
namespace Go.Proofs.Ytkopbaikmlajmaa.Q
open Go.RowKit Go.Proofs.YtkopbaikmlajmaaW.PrintWords Go.Proofs.YtkopbaikmlajmaaW.PrintLast Go.Proofs.YtkopbaikmlajmaaW.PrintMore
set_option linter.unusedVariables false
set_option linter.unusedSimpArgs false
attribute [local go_sem ↓] Go.wp_at_zero Go.wp_at_succ
theorem unpE_cases (l : List Int) (n : Int) : unpE l n = 0 ∨ unpE l n = 3 := by
  unfold unpE
  split
  · exact .inr rfl
  · split
    · exact .inr rfl
    · split
      · exact .inr rfl
      · exact .inl rfl
theorem atMost_some {l : List Int} {i : Nat} {m v : Int} (h : atMost l i m = some v) : i < l.length ∧ 0 ≤ v ∧ v ≤ m := by
  unfold atMost at h
  cases hr : rdW l i with
  | none => rw [hr] at h; cases h
  | some u =>
    rw [hr] at h
    have := rdW_some hr
    simp only [Option.bind_some] at h
    split at h
    · cases h
    · cases h
      omega
set_option maxHeartbeats 1000000 in
set_option maxRecDepth 100000 in
theorem c103_text (rb : Nat) (A : Option Addr) (c : Nat) (l : List Int) (i : Nat) (k : Int) (w0 w : World) (hB : Below w0.heap.size w0 w) (hrb : w0.heap.size ≤ rb) (hs : RS rb A l.length c i w) (hC : (Kd.int .i64).C w0 A l.length l) (hc : l.length ≤ c) (hm : l.length ≤ 1000000000) (hk1 : k ≠ 1) (hk3 : k ≠ 3) :
    Calls Try.prog 103 #[.pointer (some ⟨rb, 0, none⟩), .int .i64 k] w (RPost rb A l.length c w0 w ((valD k l i).map fun p => (toV p.1, p.2))) := by
  have hu40 := Try.underlying40
  have hu118 := Try.underlying118
  have hrs : rb < w.heap.size := (Array.getElem?_eq_some_iff.1 hs).1
  have HW := Aside0.mk (below_al w (.cells #[.int .i64 0, .int .i64 0, .string ⟨#[]⟩] 40))
  have hs1 := blk_below hs HW.out
  have hB1 := below_step hB HW.out
  have k1 : decide (k = 1) = false := decide_eq_false hk1
  have k3 : decide (k = 3) = false := decide_eq_false hk3
  have k1' : (k == 1) = false := beq_eq_false_iff_ne.2 hk1
  have k3' : (k == 3) = false := beq_eq_false_iff_ne.2 hk3
  have HV := Aside0.mk (show valD k l i = (atMost l i 40).bind fun n => if unpE (l.drop (i + 1)) n = 0 then some (⟨k, 0, unpS (l.drop (i + 1)) n⟩, i + 1 + (n.toNat + 4) / 5) else none by unfold valD; rw [if_neg hk1, if_neg hk3])
  clear hk1 hk3
  cases h : atMost l i 40 with
  | none =>
    have HE := Aside0.mk (show valD k l i = none by rw [HV.out, h]; rfl)
    clear HV
    go_enter Try.func103, Try.ntmps103
    go_wp2_with (go_at_call 136; refine (c136 rb A c l i 40 w0 _ hB1 hrb hs1 hC).mono ?_; rw [h]; rintro e w' ⟨he, hb, hk⟩; unfold badForm at he; subst he)
    rw [HE.out]
    exact ⟨rfl, rfl, hb, (Kept.of_below HW.out _).then_ hk (fun _ h => .inl h)⟩
  | some v =>
    obtain ⟨hi, hv0, hv1⟩ := atMost_some h
    obtain ⟨m, rfl⟩ := Int.eq_ofNat_of_zero_le hv0
    obtain ⟨j, hj⟩ : ∃ j, j = i + 1 := ⟨_, rfl⟩
    have HE := Aside0.mk (show valD k l i = if unpE (l.drop j) (m : Int) = 0 then some (⟨k, 0, unpS (l.drop j) (m : Int)⟩, j + (m + 4) / 5) else none by rw [hj, HV.out, h]; rfl)
    clear HV
    obtain ⟨i0, hi0, _, hsz0, _⟩ := info_parts info3
    have hcut := cut_from (P := Try.prog) 32 3 .i64 Try.underlying32 hi0 1 hsz0 A l.length c (j : Int) (by omega) (by omega)
    rw [Int.toNat_natCast] at hcut
    obtain ⟨A1, hA1⟩ : ∃ A1, A1 = (if c = j then A else (A : Option Addr).map (·.add (j * 1))) := ⟨_, rfl⟩
    obtain ⟨c1, hc1⟩ : ∃ c1, c1 = c - j := ⟨_, rfl⟩
    obtain ⟨ld, hld⟩ : ∃ ld, ld = l.drop j := ⟨_, rfl⟩
    have hy : l.length - j = ld.length := by rw [hld]; exact List.length_drop.symm
    rw [hy, ← hA1, ← hc1] at hcut
    have HRD := Aside0.mk (show (Kd.int .i64).C w0 A1 ld.length ld by rw [hA1, hld]; exact Kd.C_drop (m := j) (c := c) hC (by omega) hc)
    have HLC := Aside0.mk (show ld.length ≤ c1 by rw [hc1, ← hy]; omega)
    have HLM := Aside0.mk (show ld.length ≤ 1000000000 by rw [← hy]; omega)
    rw [← hld] at HE
    clear hy hA1 hc1 hld hsz0 hi0
    have HM := Aside0.mk hv1
    have hz2 : IntKind.i64.wrap ((j : Int) + ((m : Int) + 4) / 5) = ((j + (m + 4) / 5 : Nat) : Int) := by
      rw [wrap_i64_small _ (by omega) (by omega)]; omega
    have HI := Aside0.mk hi
    have HJ := Aside0.mk hj
    clear hi hv0 hv1 hj
    go_enter Try.func103, Try.ntmps103
    go_wp2_with (go_at_call 136; refine (c136 rb A c l i 40 w0 _ hB1 hrb hs1 hC).mono ?_; rw [h]; rintro e w1 ⟨rfl, hs', hb, hk⟩; rw [← HJ.out] at hs')
    have HS := Aside0.mk hs'
    have HB := Aside0.mk hb
    have HK := Aside0.mk ((Kept.of_below HW.out _).then_ hk (fun _ h => .inl h))
    have HR := Aside0.mk ((hk.2 w.heap.size (by simp) (by omega)).trans (blk_new w _))
    clear hs' hb hk hs1 hB1 HW h
    have s0 := show w1.cell? ⟨rb, 0, none⟩ = some (.slice A l.length c) from blk_cell HS.out 0
    have s1 := show w1.cell? ⟨rb, 1, none⟩ = some (.int .i64 (j : Int)) from blk_cell HS.out 1
    go_region_held3 (fun w' => w'.cell? ⟨rb, 0, none⟩ = some (.slice A l.length c) ∧ w'.cell? ⟨rb, 1, none⟩ = some (.int .i64 (j : Int))) (first | (refine ⟨?_, ?_⟩ <;> assumption) | go_keep) ((go_at_call 62; refine (c62 A1 c1 ld (m : Int) _ (Kd.C_below (Kd.C_below HRD.out HB.out) (below_dr _)) HLC.out HLM.out (by have := HM.out; omega)).mono ?_; rintro e w2 ⟨rfl, hb⟩; have t0 := keep hb s0; have t1 := keep hb s1))
    have HB2 := Aside0.mk (below_step HB.out (below_step (below_dr w1) hb))
    have HS2 := Aside0.mk (blk_below HS.out (below_step (below_dr w1) hb))
    have HK2 := Aside0.mk (HK.out.below (below_step (below_dr w1) hb))
    have HR2 := Aside0.mk (blk_below HR.out (below_step (below_dr w1) hb))
    clear hb s0 s1 t0 t1 hcut HS HB HK HR
    rcases unpE_cases ld (m : Int) with h0 | h3
    · have HE2 := Aside0.mk (show valD k l i = some (⟨k, 0, unpS ld (m : Int)⟩, j + (m + 4) / 5) by rw [HE.out, if_pos h0])
      clear HE
      rw [h0]
      go_wp2_with fail
      have s0 := show w2.cell? ⟨rb, 1, none⟩ = some (.int .i64 (j : Int)) from blk_cell HS2.out 1
      have z0 := show w2.frozen? ⟨rb, 1, none⟩ = false from blk_frozen HS2.out 1
      refine start_ (n := 10) (S := fun w' => w'.cell? ⟨rb, 1, none⟩ = some (.int .i64 (j : Int))) (ds := [9]) #[false, false, false, false, false, false, false, false, false, false] (by kernel_rfl) rfl rfl s0 (fun hHeld => ?_)
      refine pure_ (i := 0) (N := some 42) (v := ?_) (a' := ?_) #[true, false, false, false, false, false, false, false, false, false] rfl rfl (by kernel_rfl) (fun _ _ _ h => h) (Or.inl ⟨by rfl, ?_⟩) ?_ ?_
      rotate_left
      · intro w'
        go_simp
        with_reducible rfl
      rotate_left
      · simp only [Act.put, List.setIfInBounds_toArray, List.set_cons_zero, List.set_cons_succ, i64_w, i32_w]
        rfl
      refine pure_ (i := 1) (N := some 43) (v := ?_) (a' := ?_) #[true, true, false, false, false, false, false, false, false, false] rfl rfl (by kernel_rfl) (fun _ _ _ h => h) (Or.inl ⟨by rfl, ?_⟩) ?_ ?_
      rotate_left
      · intro w'
        go_simp
        with_reducible rfl
      rotate_left
      · simp only [Act.put, List.setIfInBounds_toArray, List.set_cons_zero, List.set_cons_succ, i64_w, i32_w]
        rfl
      refine pure_ (i := 2) (N := some 44) (v := ?_) (a' := ?_) #[true, true, true, false, false, false, false, false, false, false] rfl rfl (by kernel_rfl) (fun _ _ _ h => h) (Or.inl ⟨by rfl, ?_⟩) ?_ ?_
      rotate_left
      · intro w'
        go_simp
        with_reducible rfl
      rotate_left
      · simp only [Act.put, List.setIfInBounds_toArray, List.set_cons_zero, List.set_cons_succ, i64_w, i32_w]
        rfl
      refine take_ (i := 3) (N := some 45) (v := ?_) (a' := ?_) #[true, true, true, true, false, false, false, false, false, false] rfl rfl (by kernel_rfl) (fun _ _ _ h => h) (Or.inl ⟨by rfl, ?_⟩) hHeld ?_ ?_
      rotate_left
      · rintro w' s0'
        go_simp
        with_reducible rfl
      rotate_left
      · simp only [Act.put, List.setIfInBounds_toArray, List.set_cons_zero, List.set_cons_succ, i64_w, i32_w]
        rfl
      refine pure_ (i := 4) (N := some 46) (v := ?_) (a' := ?_) #[true, true, true, true, true, false, false, false, false, false] rfl rfl (by kernel_rfl) (fun _ _ _ h => h) (Or.inl ⟨by rfl, ?_⟩) ?_ ?_
      rotate_left
      · intro w'
        go_simp
        with_reducible rfl
      rotate_left
      · simp only [Act.put, List.setIfInBounds_toArray, List.set_cons_zero, List.set_cons_succ, i64_w, i32_w]
        rfl
      refine one_ (i := 5) (N := some 47) #[true, true, true, true, true, true, false, false, false, false] rfl rfl (by kernel_rfl) (by decide) (fun K hK => ?_)
      refine goes_ Try.func117 (by kernel_rfl) rfl #[.int .i64 (m : Int)] (by rfl) rfl rfl (by (try simp only [List.map_toArray, List.map_cons, List.map_nil]); first | done | rfl) ?_
      with_reducible refine (c117 (m : Int) w2.drew (by omega) (by have := HM.out; omega)).mono ?_
      rintro e w' ⟨rfl, ⟨nd, rfl⟩⟩
      refine ⟨_, rfl, ?_⟩
      clear hHeld
      refine hK.out _ _ s0 (fun hHeld => ?_)
      clear hK K
      refine norm_ (a' := ?_) ?_ ?_
      rotate_left
      · show Act.put _ (some 47) _ = _
        simp only [Act.put, List.setIfInBounds_toArray, List.set_cons_zero, List.set_cons_succ, i64_w, i32_w]
        rfl
      refine pure_ (i := 6) (N := some 48) (v := ?_) (a' := ?_) #[true, true, true, true, true, true, true, false, false, false] rfl rfl (by kernel_rfl) (fun _ _ _ h => h) (Or.inl ⟨by rfl, ?_⟩) ?_ ?_
      rotate_left
      · intro w'
        go_simp
        with_reducible rfl
      rotate_left
      · simp only [Act.put, List.setIfInBounds_toArray, List.set_cons_zero, List.set_cons_succ, i64_w, i32_w]
        rfl
      refine pure_ (i := 7) (N := some 49) (v := ?_) (a' := ?_) #[true, true, true, true, true, true, true, true, false, false] rfl rfl (by kernel_rfl) (fun _ _ _ h => h) (Or.inl ⟨by rfl, ?_⟩) ?_ ?_
      rotate_left
      · intro w'
        go_simp
        with_reducible rfl
      rotate_left
      · simp only [Act.put, List.setIfInBounds_toArray, List.set_cons_zero, List.set_cons_succ, i64_w, i32_w]
        rfl
      refine pure_ (i := 8) (N := some 50) (v := ?_) (a' := ?_) #[true, true, true, true, true, true, true, true, true, false] rfl rfl (by kernel_rfl) (fun _ _ _ h => h) (Or.inl ⟨by rfl, ?_⟩) ?_ ?_
      rotate_left
      · intro w'
        go_simp
        with_reducible rfl
      rotate_left
      · simp only [Act.put, List.setIfInBounds_toArray, List.set_cons_zero, List.set_cons_succ, i64_w, i32_w]
        rfl
      have s0' := show (w2.drewN (1 + nd)).cell? ⟨rb, 1, none⟩ = some (.int .i64 (j : Int)) from hHeld
      have z0' := show (w2.drewN (1 + nd)).frozen? ⟨rb, 1, none⟩ = false from z0
      refine last_ (i := 9) (N := none) #[true, true, true, true, true, true, true, true, true, true] rfl rfl (by kernel_rfl) (by decide) (fun K hK => ?_)
      refine skip_ (w1 := ?_) (by rfl) rfl ?_ ?_
      rotate_left
      · go_simp
        rfl
      refine hK.out _ _ ?_
      clear hK K s0 z0 s0' z0' hHeld
      refine done_ (by kernel_rfl) ?_
      obtain ⟨w3, hw3⟩ : ∃ w3, w3 = (w2.drewN (1 + nd)).setCell ⟨rb, 1, none⟩ (.int .i64 ((j : Int) + ((m : Int) + 4) / 5)) := ⟨_, rfl⟩
      rw [← hw3]
      have hz3 : ((j : Int) + ((m : Int) + 4) / 5) = ((j + (m + 4) / 5 : Nat) : Int) := by omega
      have HS3 := Aside0.mk (show RS rb A l.length c (j + (m + 4) / 5) w3 from hw3 ▸ blk_put (blk_drewN HS2.out (1 + nd)) 1 _ (by rw [hz3]; rfl))
      have HB3 := Aside0.mk (show Below w0.heap.size w0 w3 from hw3 ▸ below_set (pw_below_drewN HB2.out _) hrb)
      have HK3 := Aside0.mk (show Kept w w3 (fun k => k = rb) from hw3 ▸ (HK2.out.drewN (1 + nd)).setCell (.inl rfl) _)
      have HR3 := Aside0.mk (show w3.heap[w.heap.size]? = some (.cells #[.int .i64 0, .int .i64 0, .string ⟨#[]⟩] 40 (0, 0)) from hw3 ▸ blk_far (blk_drewN HR2.out (1 + nd)) (by show w.heap.size ≠ rb; omega) _)
      have e0 := show w3.cell? ⟨w.heap.size, 0, none⟩ = some (.int .i64 0) from blk_cell HR3.out 0
      have e1 := show w3.cell? ⟨w.heap.size, 1, none⟩ = some (.int .i64 0) from blk_cell HR3.out 1
      have e2 := show w3.cell? ⟨w.heap.size, 2, none⟩ = some (.string ⟨#[]⟩) from blk_cell HR3.out 2
      have f0 := show w3.frozen? ⟨w.heap.size, 0, none⟩ = false from blk_frozen HR3.out 0
      have f1 := show w3.frozen? ⟨w.heap.size, 1, none⟩ = false from blk_frozen HR3.out 1
      have f2 := show w3.frozen? ⟨w.heap.size, 2, none⟩ = false from blk_frozen HR3.out 2
      clear hw3 hz3
      go_wp2_with fail
      have hP := put3 (.int .i64 k) (.int .i64 0) (.string (unpS ld (m : Int))) (w := w) hB.size rfl (by omega) HS3.out HB3.out HK3.out HR3.out
      refine bodyPost_ret (results_cell_row rfl _ _ w.heap.size 40 _ (0, 0) _ rfl hP.1 hu40 rfl (by kernel_rfl)) rfl ?_
      rw [HE2.out]
      exact ⟨rfl, hP.2⟩
    · have HE2 := Aside0.mk (show valD k l i = none by rw [HE.out, if_neg (by rw [h3]; decide)])
      rw [h3]
      go_wp2_with fail
      rw [HE2.out]
      exact ⟨rfl, rfl, HB2.out, HK2.out⟩
theorem c103 (rb : Nat) (A : Option Addr) (c : Nat) (l : List Int) (i : Nat) (k : Int) (w0 w : World) (hB : Below w0.heap.size w0 w) (hrb : w0.heap.size ≤ rb) (hs : RS rb A l.length c i w) (hC : (Kd.int .i64).C w0 A l.length l) (hc : l.length ≤ c) (hm : l.length ≤ 1000000000) :
    Calls Try.prog 103 #[.pointer (some ⟨rb, 0, none⟩), .int .i64 k] w (RPost rb A l.length c w0 w ((valD k l i).map fun p => (toV p.1, p.2))) := by
  by_cases h1 : k = 1
  · subst h1; exact c103_int rb A c l i w0 w hB hrb hs hC
  · by_cases h3 : k = 3
    · subst h3; exact c103_bool rb A c l i w0 w hB hrb hs hC
    · exact c103_text rb A c l i k w0 w hB hrb hs hC hc hm h1 h3
end Go.Proofs.Ytkopbaikmlajmaa.Q
