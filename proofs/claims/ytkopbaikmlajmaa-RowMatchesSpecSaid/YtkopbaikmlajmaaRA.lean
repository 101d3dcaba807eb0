import Derived.Test.YtkopbaikmlajmaaZ
import Derived.Test.YtkopbaikmlajmaaWY
import Derived.Test.YtkopbaikmlajmaaSA
import Derived.Test.YtkopbaikmlajmaaF62
import Derived.WalkLawsBesides
import Derived.Defers
import Derived.Recover
import Derived.Deep.RegionHeld3
import Derived.Deep.DrawnRows
namespace Go.Proofs.Ytkopbaikmlajmaa.Q
open Go.RowKit Go.Proofs.YtkopbaikmlajmaaW.PrintWords Go.Proofs.YtkopbaikmlajmaaW.PrintLast Go.Proofs.YtkopbaikmlajmaaW.PrintMore
set_option linter.unusedVariables false
set_option linter.unusedSimpArgs false
def rdW (l : List Int) (i : Nat) : Option Int := if i < l.length ∧ 0 ≤ rd l i ∧ rd l i ≤ 1099511627775 then some (rd l i) else none
def badForm : Ending := .panicked [{ v := .iface 30 (.int .i64 3), recovered := false }]
def RS (rb : Nat) (A : Option Addr) (n c : Nat) (i : Nat) (w : World) : Prop := w.heap[rb]? = some (.cells #[.slice A n c, .int .i64 i] 118 (0, 0))
theorem rdW_some {l : List Int} {i : Nat} {v : Int} (h : rdW l i = some v) : i < l.length ∧ 0 ≤ v ∧ v ≤ 1099511627775 ∧ rd l i = v := by
 unfold rdW at h
 split at h
 ·rename_i hc
  obtain rfl := Option.some.inj h
  exact ⟨hc.1, hc.2.1, hc.2.2, rfl⟩
 cases h
set_option maxHeartbeats 2000000 in
set_option maxRecDepth 100000 in
theorem c102_ok (rb : Nat) (A : Option Addr) (c : Nat) (l : List Int) (i : Nat) (v : Int) (w0 w : World) (hB : Below w0.heap.size w0 w) (hrb : w0.heap.size ≤ rb) (hs : RS rb A l.length c i w) (hC : (Kd.int .i64).C w0 A l.length l) (h : rdW l i = some v) :
  Calls Try.prog 102 #[.pointer (some ⟨rb, 0, none⟩)] w fun e w' => e = .returned (.int .i64 v) ∧ RS rb A l.length c (i + 1) w' ∧ Below w0.heap.size w0 w' ∧ Kept w w' (fun k => k = rb) := by
 have hu118 := Try.underlying118
 obtain ⟨hi, hv0, hv1, rfl⟩ := rdW_some h
 have hm : l.length ≤ 9223372036854775807 := hC.2.1
 obtain ⟨ad, rfl, hx0⟩ := Kd.at_int hC (i : Int) (by omega) (by omega)
 simp only [Int.toNat_natCast] at hx0
 have HB := Aside0.mk hB
 have HE := Aside0.mk hrb
 have HS := Aside0.mk hs
 have HX := Aside0.mk hx0
 have HL := Aside0.mk hi
 have h1 : decide ((l.length : Int) ≤ (i : Int)) = false := decide_eq_false (by omega)
 have h1' : decide (l.length ≤ i) = false := decide_eq_false (by omega)
 have h2 : decide (rd l (i : Int) < 0) = false := decide_eq_false (by omega)
 have h3 : decide (1099511627775 < rd l (i : Int)) = false := decide_eq_false (by omega)
 clear hB hrb hs hC h hx0
 go_enter Try.func102, Try.ntmps102
 go_wp2_with fail
 refine region_reads (by kernel_rfl) (by kernel_rfl) ?_
 rintro w1 hw1
 have HB1 := Aside0.mk (show Below w0.heap.size w0 w1 from below_step HB.out (hw1 ▸ below_dr w))
 have HS1 := Aside0.mk (show RS rb (some ad) l.length c i w1 from hw1 ▸ HS.out)
 have HK1 := Aside0.mk (show Kept w w1 (fun k => k = rb) from hw1 ▸ Kept.drew (Kept.refl w _))
 have s0 := show w1.cell? ⟨rb, 0, none⟩ = some (.slice (some ad) l.length c) from blk_cell HS1.out 0
 have s1 := show w1.cell? ⟨rb, 1, none⟩ = some (.int .i64 i) from blk_cell HS1.out 1
 have x0 := keep HB1.out HX.out
 clear hw1
 iterate 36 (with_reducible refine wpStill_step (fun K hK => ?_); go_simp; (first | with_reducible refine hK _ ?_ | (rw [if_neg (by simp [undef])]; with_reducible refine hK _ ?_)); clear hK K)
 with_reducible refine wpStill_nil ?_
 clear s0 x0 h1 h1' h2 h3
 go_wp2_with ((with_reducible refine gate_store (t := 3) (p := 46) rfl ?_); have f1 := blk_cell HS1.out 1; have fz := blk_frozen HS1.out 1; refine store_event (t := 3) (p := 46) (v := ?vo1) (w1 := w1.setCell ⟨rb, 1, none⟩ (.int .i64 ((i + 1 : Nat) : Int))) ?hg ?ho ?hn ?hr ?_; (case ho => rfl); (case hg => rfl); (case hn => rfl); (case hr => first | (go_simp; done) | (go_simp; rfl)); intro w2 hw; clear f1 fz s1; have HS2 := Aside0.mk (show RS rb (some ad) l.length c (i + 1) w2 from hw ▸ blk_put HS1.out 1 _ rfl); have HB2 := Aside0.mk (show Below w0.heap.size w0 w2 from hw ▸ below_set HB1.out HE.out); have HK2 := Aside0.mk (show Kept w w2 (fun k => k = rb) from hw ▸ Kept.setCell HK1.out (.inl rfl) _); clear hw)
 refine region_reads (by kernel_rfl) (by kernel_rfl) ?_
 rintro w3 hw3
 have HB3 := Aside0.mk (show Below w0.heap.size w0 w3 from below_step HB2.out (hw3 ▸ below_dr w2))
 have HS3 := Aside0.mk (show RS rb (some ad) l.length c (i + 1) w3 from hw3 ▸ HS2.out)
 have HK3 := Aside0.mk (show Kept w w3 (fun k => k = rb) from hw3 ▸ Kept.drew HK2.out)
 have s0 := show w3.cell? ⟨rb, 0, none⟩ = some (.slice (some ad) l.length c) from blk_cell HS3.out 0
 have s1 := show w3.cell? ⟨rb, 1, none⟩ = some (.int .i64 ((i + 1 : Nat) : Int)) from blk_cell HS3.out 1
 have x0 := keep HB3.out HX.out
 have hz : IntKind.i64.wrap (i : Int) = (i : Int) := wrap_i64_small _ (by omega) (by omega)
 clear hw3
 iterate 12 (with_reducible refine wpStill_step (fun K hK => ?_); go_simp; (first | with_reducible refine hK _ ?_ | (rw [if_neg (by simp [undef])]; with_reducible refine hK _ ?_)); clear hK K)
 with_reducible refine wpStill_nil ?_
 go_wp2_with fail
 go_ret
 exact ⟨rfl, HS3.out, HB3.out, HK3.out⟩
theorem rdW_none {l : List Int} {i : Nat} (h : rdW l i = none) : l.length ≤ i ∨ i < l.length ∧ (rd l i < 0 ∨ 1099511627775 < rd l i) := by
 unfold rdW at h
 split at h
 ·cases h
 omega
set_option maxHeartbeats 4000000 in
set_option maxRecDepth 100000 in
theorem c102_no (rb : Nat) (A : Option Addr) (c : Nat) (l : List Int) (i : Nat) (w0 w : World) (hB : Below w0.heap.size w0 w) (hrb : w0.heap.size ≤ rb) (hs : RS rb A l.length c i w) (hC : (Kd.int .i64).C w0 A l.length l) (h : rdW l i = none) :
  Calls Try.prog 102 #[.pointer (some ⟨rb, 0, none⟩)] w fun e w' => e = badForm ∧ Below w0.heap.size w0 w' ∧ Kept w w' (fun k => k = rb) := by
 have hu118 := Try.underlying118
 have hm : l.length ≤ 9223372036854775807 := hC.2.1
 have HB := Aside0.mk hB
 have HE := Aside0.mk hrb
 have HS := Aside0.mk hs
 rcases rdW_none h with hi | ⟨hi, hv⟩
 ·have h1 : decide ((l.length : Int) ≤ (i : Int)) = true := decide_eq_true (by omega)
  have h1' : decide (l.length ≤ i) = true := decide_eq_true (by omega)
  clear hB hrb hs hC h hi
  go_enter Try.func102, Try.ntmps102
  go_wp2_with fail
  refine region_reads (by kernel_rfl) (by kernel_rfl) ?_
  rintro w1 hw1
  have HB1 := Aside0.mk (show Below w0.heap.size w0 w1 from below_step HB.out (hw1 ▸ below_dr w))
  have HS1 := Aside0.mk (show RS rb A l.length c i w1 from hw1 ▸ HS.out)
  have HK1 := Aside0.mk (show Kept w w1 (fun k => k = rb) from hw1 ▸ Kept.drew (Kept.refl w _))
  have s0 := show w1.cell? ⟨rb, 0, none⟩ = some (.slice A l.length c) from blk_cell HS1.out 0
  have s1 := show w1.cell? ⟨rb, 1, none⟩ = some (.int .i64 i) from blk_cell HS1.out 1
  clear hw1
  iterate 36 (with_reducible refine wpStill_step (fun K hK => ?_); go_simp; (first | with_reducible refine hK _ ?_ | (rw [if_neg (by simp [undef])]; with_reducible refine hK _ ?_)); clear hK K)
  with_reducible refine wpStill_nil ?_
  go_wp2_with fail
  exact ⟨rfl, rfl, HB1.out, HK1.out⟩
 obtain ⟨ad, rfl, hx0⟩ := Kd.at_int hC (i : Int) (by omega) (by omega)
 simp only [Int.toNat_natCast] at hx0
 have HX := Aside0.mk hx0
 have h1 : decide ((l.length : Int) ≤ (i : Int)) = false := decide_eq_false (by omega)
 have h1' : decide (l.length ≤ i) = false := decide_eq_false (by omega)
 by_cases hv1 : rd l (i : Int) < 0
 ·have h2 : decide (rd l (i : Int) < 0) = true := decide_eq_true hv1
  clear hB hrb hs hC h hx0 hv1 hv
  go_enter Try.func102, Try.ntmps102
  go_wp2_with fail
  refine region_reads (by kernel_rfl) (by kernel_rfl) ?_
  rintro w1 hw1
  have HB1 := Aside0.mk (show Below w0.heap.size w0 w1 from below_step HB.out (hw1 ▸ below_dr w))
  have HS1 := Aside0.mk (show RS rb (some ad) l.length c i w1 from hw1 ▸ HS.out)
  have HK1 := Aside0.mk (show Kept w w1 (fun k => k = rb) from hw1 ▸ Kept.drew (Kept.refl w _))
  have s0 := show w1.cell? ⟨rb, 0, none⟩ = some (.slice (some ad) l.length c) from blk_cell HS1.out 0
  have s1 := show w1.cell? ⟨rb, 1, none⟩ = some (.int .i64 i) from blk_cell HS1.out 1
  have x0 := keep HB1.out HX.out
  clear hw1
  iterate 36 (with_reducible refine wpStill_step (fun K hK => ?_); go_simp; (first | with_reducible refine hK _ ?_ | (rw [if_neg (by simp [undef])]; with_reducible refine hK _ ?_)); clear hK K)
  with_reducible refine wpStill_nil ?_
  go_wp2_with fail
  exact ⟨rfl, rfl, HB1.out, HK1.out⟩
 have h2 : decide (rd l (i : Int) < 0) = false := decide_eq_false hv1
 have h3 : decide (1099511627775 < rd l (i : Int)) = true := decide_eq_true (by omega)
 clear hB hrb hs hC h hx0 hv1 hv
 go_enter Try.func102, Try.ntmps102
 go_wp2_with fail
 refine region_reads (by kernel_rfl) (by kernel_rfl) ?_
 rintro w1 hw1
 have HB1 := Aside0.mk (show Below w0.heap.size w0 w1 from below_step HB.out (hw1 ▸ below_dr w))
 have HS1 := Aside0.mk (show RS rb (some ad) l.length c i w1 from hw1 ▸ HS.out)
 have HK1 := Aside0.mk (show Kept w w1 (fun k => k = rb) from hw1 ▸ Kept.drew (Kept.refl w _))
 have s0 := show w1.cell? ⟨rb, 0, none⟩ = some (.slice (some ad) l.length c) from blk_cell HS1.out 0
 have s1 := show w1.cell? ⟨rb, 1, none⟩ = some (.int .i64 i) from blk_cell HS1.out 1
 have x0 := keep HB1.out HX.out
 clear hw1
 iterate 36 (with_reducible refine wpStill_step (fun K hK => ?_); go_simp; (first | with_reducible refine hK _ ?_ | (rw [if_neg (by simp [undef])]; with_reducible refine hK _ ?_)); clear hK K)
 with_reducible refine wpStill_nil ?_
 go_wp2_with fail
 exact ⟨rfl, rfl, HB1.out, HK1.out⟩
end Go.Proofs.Ytkopbaikmlajmaa.Q
namespace Go.Proofs.Ytkopbaikmlajmaa.Q
open Go.RowKit Go.Proofs.YtkopbaikmlajmaaW.PrintWords Go.Proofs.YtkopbaikmlajmaaW.PrintLast Go.Proofs.YtkopbaikmlajmaaW.PrintMore
set_option linter.unusedVariables false
set_option linter.unusedSimpArgs false
attribute [local go_sem ↓] Go.wp_at_zero Go.wp_at_succ
def RPost (rb : Nat) (A : Option Addr) (n c : Nat) (w0 w : World) (r : Option (Value × Nat)) (e : Ending) (w' : World) : Prop :=
 match r with
 | some (v, j) => e = .returned v ∧ RS rb A n c j w' ∧ Below w0.heap.size w0 w' ∧ Kept w w' (fun k => k = rb)
 | none => e = badForm ∧ Below w0.heap.size w0 w' ∧ Kept w w' (fun k => k = rb)
def atMost (l : List Int) (i : Nat) (m : Int) : Option Int := (rdW l i).bind fun v => if m < v then none else some v
set_option maxHeartbeats 2000000 in
set_option maxRecDepth 100000 in
theorem c136 (rb : Nat) (A : Option Addr) (c : Nat) (l : List Int) (i : Nat) (m : Int) (w0 w : World) (hB : Below w0.heap.size w0 w) (hrb : w0.heap.size ≤ rb) (hs : RS rb A l.length c i w) (hC : (Kd.int .i64).C w0 A l.length l) :
  Calls Try.prog 136 #[.pointer (some ⟨rb, 0, none⟩), .int .i64 m] w (RPost rb A l.length c w0 w ((atMost l i m).map fun v => (.int .i64 v, i + 1))) := by
 cases h : rdW l i with
 | none =>
  have HE := Aside0.mk (show atMost l i m = none by unfold atMost; rw [h]; rfl)
  go_enter Try.func136, Try.ntmps136
  go_wp2_with (go_at_call 102; refine (c102_no rb A c l i w0 _ hB hrb hs hC h).mono ?_; rintro e w' ⟨he, hb, hk⟩; unfold badForm at he; subst he)
  rw [HE.out]
  exact ⟨rfl, rfl, hb, hk⟩
 | some v =>
  by_cases hv : m < v
  ·have HE := Aside0.mk (show atMost l i m = none by unfold atMost; rw [h]; exact if_pos hv)
   have h1 : decide (m < v) = true := decide_eq_true hv
   clear hv
   go_enter Try.func136, Try.ntmps136
   go_wp2_with (go_at_call 102; refine (c102_ok rb A c l i v w0 _ hB hrb hs hC h).mono ?_; rintro e w' ⟨rfl, hs', hb, hk⟩)
   rw [HE.out]
   exact ⟨rfl, rfl, hb, hk⟩
  have HE := Aside0.mk (show atMost l i m = some v by unfold atMost; rw [h]; exact if_neg hv)
  have h1 : decide (m < v) = false := decide_eq_false hv
  clear hv
  go_enter Try.func136, Try.ntmps136
  go_wp2_with (go_at_call 102; refine (c102_ok rb A c l i v w0 _ hB hrb hs hC h).mono ?_; rintro e w' ⟨rfl, hs', hb, hk⟩)
  go_ret
  rw [HE.out]
  exact ⟨rfl, hs', hb, hk⟩
def valD (kind : Int) (l : List Int) (i : Nat) : Option (S40 × Nat) :=
 if kind = 1 then (rdW l i).map fun v => (⟨1, v - 549755813888, ⟨#[]⟩⟩, i + 1)
 else if kind = 3 then (atMost l i 1).map fun v => (⟨3, v, ⟨#[]⟩⟩, i + 1)
 else (atMost l i 40).bind fun n => if unpE (l.drop (i + 1)) n = 0 then some (⟨kind, 0, unpS (l.drop (i + 1)) n⟩, i + 1 + (n.toNat + 4) / 5) else none
def toV (v : S40) : Value := .agg #[.int .i64 v.f0, .int .i64 v.f1, .string v.f2]
theorem put3 {rb : Nat} {A : Option Addr} {n c j g : Nat} {w0 w w' : World} (x y z : Value) (hw : w0.heap.size ≤ w.heap.size) (hg : g = w.heap.size) (hne : rb ≠ g) (hs' : RS rb A n c j w') (hb : Below w0.heap.size w0 w') (hk : Kept w w' (fun k => k = rb)) {x' y' z' : Value} (hr : w'.heap[g]? = some (.cells #[x', y', z'] 40 (0, 0))) :
  (((w'.setCell ⟨g, 0, none⟩ x).setCell ⟨g, 1, none⟩ y).setCell ⟨g, 2, none⟩ z).heap[g]? = some (.cells #[x, y, z] 40 (0, 0)) ∧ RS rb A n c j (((w'.setCell ⟨g, 0, none⟩ x).setCell ⟨g, 1, none⟩ y).setCell ⟨g, 2, none⟩ z) ∧ Below w0.heap.size w0 (((w'.setCell ⟨g, 0, none⟩ x).setCell ⟨g, 1, none⟩ y).setCell ⟨g, 2, none⟩ z) ∧ Kept w (((w'.setCell ⟨g, 0, none⟩ x).setCell ⟨g, 1, none⟩ y).setCell ⟨g, 2, none⟩ z) (fun k => k = rb) := by
 subst hg
 exact ⟨blk_put (blk_put (blk_put hr 0 x rfl) 1 y rfl) 2 z rfl, blk_far (blk_far (blk_far hs' hne _) hne _) hne _, below_set (below_set (below_set hb hw) hw) hw, ((hk.setCell (.inr (Nat.le_refl _)) _).setCell (.inr (Nat.le_refl _)) _).setCell (.inr (Nat.le_refl _)) _⟩
set_option maxHeartbeats 4000000 in
set_option maxRecDepth 100000 in
theorem c103_int (rb : Nat) (A : Option Addr) (c : Nat) (l : List Int) (i : Nat) (w0 w : World) (hB : Below w0.heap.size w0 w) (hrb : w0.heap.size ≤ rb) (hs : RS rb A l.length c i w) (hC : (Kd.int .i64).C w0 A l.length l) :
  Calls Try.prog 103 #[.pointer (some ⟨rb, 0, none⟩), .int .i64 1] w (RPost rb A l.length c w0 w ((valD 1 l i).map fun p => (toV p.1, p.2))) := by
 have hu40 := Try.underlying40
 have hrs : rb < w.heap.size := (Array.getElem?_eq_some_iff.1 hs).1
 have HW := Aside0.mk (below_al w (.cells #[.int .i64 0, .int .i64 0, .string ⟨#[]⟩] 40))
 have hs1 := blk_below hs HW.out
 have hB1 := below_step hB HW.out
 cases h : rdW l i with
 | none =>
  have HE := Aside0.mk (show valD 1 l i = none by unfold valD; rw [if_pos rfl, h]; rfl)
  go_enter Try.func103, Try.ntmps103
  go_wp2_with (go_at_call 102; refine (c102_no rb A c l i w0 _ hB1 hrb hs1 hC h).mono ?_; rintro e w' ⟨he, hb, hk⟩; unfold badForm at he; subst he)
  rw [HE.out]
  exact ⟨rfl, rfl, hb, (Kept.of_below HW.out _).then_ hk (fun _ h => .inl h)⟩
 | some v =>
  have HE := Aside0.mk (show valD 1 l i = some (⟨1, v - 549755813888, ⟨#[]⟩⟩, i + 1) by unfold valD; rw [if_pos rfl, h]; rfl)
  have hv := rdW_some h
  have hz : IntKind.i64.wrap (v - 549755813888) = v - 549755813888 := wrap_i64_small _ (by omega) (by omega)
  clear hv
  go_enter Try.func103, Try.ntmps103
  go_wp2_with (go_at_call 102; refine (c102_ok rb A c l i v w0 _ hB1 hrb hs1 hC h).mono ?_; rintro e w' ⟨rfl, hs', hb, hk⟩; have hr' := (hk.2 w.heap.size (by simp) (by omega)).trans (blk_new w _); have e0 := blk_cell hr' 0; have e1 := blk_cell hr' 1; have e2 := blk_cell hr' 2; have z0 := blk_frozen hr' 0; have z1 := blk_frozen hr' 1; have z2 := blk_frozen hr' 2)
  have hP := put3 (.int .i64 1) (.int .i64 (v - 549755813888)) (.string ⟨#[]⟩) (w := w) hB.size rfl (by omega) hs' hb ((Kept.of_below HW.out _).then_ hk (fun _ h => .inl h)) hr'
  refine bodyPost_ret (results_cell_row rfl _ _ w.heap.size 40 _ (0, 0) _ rfl hP.1 hu40 rfl (by kernel_rfl)) rfl ?_
  rw [HE.out]
  exact ⟨rfl, hP.2⟩
set_option maxHeartbeats 4000000 in
set_option maxRecDepth 100000 in
theorem c103_bool (rb : Nat) (A : Option Addr) (c : Nat) (l : List Int) (i : Nat) (w0 w : World) (hB : Below w0.heap.size w0 w) (hrb : w0.heap.size ≤ rb) (hs : RS rb A l.length c i w) (hC : (Kd.int .i64).C w0 A l.length l) :
  Calls Try.prog 103 #[.pointer (some ⟨rb, 0, none⟩), .int .i64 3] w (RPost rb A l.length c w0 w ((valD 3 l i).map fun p => (toV p.1, p.2))) := by
 have hu40 := Try.underlying40
 have hrs : rb < w.heap.size := (Array.getElem?_eq_some_iff.1 hs).1
 have HW := Aside0.mk (below_al w (.cells #[.int .i64 0, .int .i64 0, .string ⟨#[]⟩] 40))
 have hs1 := blk_below hs HW.out
 have hB1 := below_step hB HW.out
 cases h : atMost l i 1 with
 | none =>
  have HE := Aside0.mk (show valD 3 l i = none by unfold valD; rw [if_neg (by decide), if_pos rfl, h]; rfl)
  go_enter Try.func103, Try.ntmps103
  go_wp2_with (go_at_call 136; refine (c136 rb A c l i 1 w0 _ hB1 hrb hs1 hC).mono ?_; rw [h]; rintro e w' ⟨he, hb, hk⟩; unfold badForm at he; subst he)
  rw [HE.out]
  exact ⟨rfl, rfl, hb, (Kept.of_below HW.out _).then_ hk (fun _ h => .inl h)⟩
 | some v =>
  have HE := Aside0.mk (show valD 3 l i = some (⟨3, v, ⟨#[]⟩⟩, i + 1) by unfold valD; rw [if_neg (by decide), if_pos rfl, h]; rfl)
  go_enter Try.func103, Try.ntmps103
  go_wp2_with (go_at_call 136; refine (c136 rb A c l i 1 w0 _ hB1 hrb hs1 hC).mono ?_; rw [h]; rintro e w' ⟨rfl, hs', hb, hk⟩; have hr' := (hk.2 w.heap.size (by simp) (by omega)).trans (blk_new w _); have e0 := blk_cell hr' 0; have e1 := blk_cell hr' 1; have e2 := blk_cell hr' 2; have z0 := blk_frozen hr' 0; have z1 := blk_frozen hr' 1; have z2 := blk_frozen hr' 2)
  have hP := put3 (.int .i64 3) (.int .i64 v) (.string ⟨#[]⟩) (w := w) hB.size rfl (by omega) hs' hb ((Kept.of_below HW.out _).then_ hk (fun _ h => .inl h)) hr'
  refine bodyPost_ret (results_cell_row rfl _ _ w.heap.size 40 _ (0, 0) _ rfl hP.1 hu40 rfl (by kernel_rfl)) rfl ?_
  rw [HE.out]
  exact ⟨rfl, hP.2⟩
end Go.Proofs.Ytkopbaikmlajmaa.Q
namespace Go.Proofs.Ytkopbaikmlajmaa.Q
open Go.RowKit Go.Proofs.YtkopbaikmlajmaaW.PrintWords Go.Proofs.YtkopbaikmlajmaaW.PrintLast Go.Proofs.YtkopbaikmlajmaaW.PrintMore
set_option linter.unusedVariables false
set_option linter.unusedSimpArgs false
set_option maxHeartbeats 1000000 in
set_option maxRecDepth 100000 in
theorem catch101_idle (p q s : Addr) (w : World) :
  CallsD Try.prog 101 #[.pointer (some p), .pointer (some q), .pointer (some s)] .returning w fun e u' w' => e = .returned (.tuple #[]) ∧ u' = .returning ∧ w' = w := by
 refine callsD_of_wpS Try.func101 rfl fun c₀ cs hu => ?_
 apply wpS_seq
 apply wpS_region
 simp [wpOpsS, go_sem, recoverD, hu, Try.ntmps101, Exit.thenS]
 apply wpS_seq
 apply wpS_region
 simp [wpOpsS, go_sem, Exit.thenS]
 refine wpS_cond (t := false) (by simp [Act.eval, Array.replicate]) ?_
 simp only [Bool.false_eq_true, if_false]
 refine wpS_of_wp (wp_skip ?_)
 cases c₀
 simp_all [bodyPostS, results, Try.results101]
set_option maxHeartbeats 1000000 in
set_option maxRecDepth 100000 in
theorem catch101_form (a b d : Nat) (va vb vd : Value) (w : World) (ha : w.heap[a]? = some (.cells #[va] 37 (0, 0))) (hb : w.heap[b]? = some (.cells #[vb] 3 (0, 0))) (hd : w.heap[d]? = some (.cells #[vd] 30 (0, 0))) (hab : a ≠ b) (had : a ≠ d) (hbd : b ≠ d) :
  CallsD Try.prog 101 #[.pointer (some ⟨a, 0, none⟩), .pointer (some ⟨b, 0, none⟩), .pointer (some ⟨d, 0, none⟩)] (.panicking [{ v := .iface 30 (.int .i64 3), recovered := false }]) w fun e u' w' =>
   e = .returned (.tuple #[]) ∧ u' = .panicking [{ v := .iface 30 (.int .i64 3), recovered := true }] ∧ w' = (((w.drew).setCell ⟨a, 0, none⟩ (.slice none 0 0)).setCell ⟨b, 0, none⟩ (.int .i64 0)).setCell ⟨d, 0, none⟩ (.int .i64 3) := by
 refine callsD_of_wpS Try.func101 rfl fun c₀ cs hu => ?_
 apply wpS_seq
 apply wpS_region
 simp [wpOpsS, go_sem, recoverD, hu, Try.ntmps101, Exit.thenS]
 apply wpS_seq
 apply wpS_region
 simp [wpOpsS, go_sem, Exit.thenS]
 refine wpS_cond (t := true) (by simp [Act.eval, Array.replicate]) ?_
 simp only [if_true]
 have hta : ∀ w, (Instr.typeAssert (.iface 30 (.int .i64 3)) 20 30 false).run Try.prog w = .ok (.int .i64 3) w := fun _ => by kernel_rfl
 refine wpS_of_wp ?_
 rw [show (#[Value.pointer (some ⟨a, 0, none⟩), .pointer (some ⟨b, 0, none⟩), .pointer (some ⟨d, 0, none⟩)] ++ ((((Array.replicate 6 undef).setIfInBounds 1 (Value.iface 30 (.int .i64 3))).setIfInBounds 0 (Value.iface 30 (.int .i64 3))).setIfInBounds 2 (Value.iface 30 (.int .i64 3))).setIfInBounds 3 (Value.bool true) : Array Value) = #[.pointer (some ⟨a, 0, none⟩), .pointer (some ⟨b, 0, none⟩), .pointer (some ⟨d, 0, none⟩), .iface 30 (.int .i64 3), .iface 30 (.int .i64 3), .iface 30 (.int .i64 3), .bool true, undef, undef] from rfl]
 refine start_ (n := 5) (S := fun _ => True) (ds := [2, 3, 4]) #[false, false, false, false, false] (by kernel_rfl) rfl rfl trivial (fun hHeld => ?_)
 refine pure_ (i := 0) (N := some 7) (v := ?_) (a' := ?_) #[true, false, false, false, false] rfl rfl (by kernel_rfl) (fun _ _ _ h => h) (Or.inl ⟨by rfl, ?_⟩) ?_ ?_
 rotate_left
 ·intro w'
  go_simp
  with_reducible rfl
 rotate_left
 ·exact Z94
 refine pure_ (i := 1) (N := some 8) (v := ?_) (a' := ?_) #[true, true, false, false, false] rfl rfl (by kernel_rfl) (fun _ _ _ h => h) (Or.inl ⟨by rfl, ?_⟩) ?_ ?_
 rotate_left
 ·intro w'
  go_simp
  with_reducible rfl
 rotate_left
 ·exact Z94
 have e0 := show w.cell? ⟨a, 0, none⟩ = some va from blk_cell ha 0
 have z0 := blk_frozen ha 0
 have e1 := show w.cell? ⟨b, 0, none⟩ = some vb from blk_cell hb 0
 have z1 := blk_frozen hb 0
 have e2 := show w.cell? ⟨d, 0, none⟩ = some vd from blk_cell hd 0
 have z2 := blk_frozen hd 0
 refine last_ (i := 2) (N := none) #[true, true, true, false, false] rfl rfl (by kernel_rfl) (by decide) (fun K hK => ?_)
 refine skip_ (w1 := ?_) (by rfl) rfl ?_ ?_
 rotate_left
 ·go_simp
  rfl
 refine hK.out _ _ ?_
 clear hK K
 refine last_ (i := 3) (N := none) #[true, true, true, true, false] rfl rfl (by kernel_rfl) (by decide) (fun K hK => ?_)
 refine skip_ (w1 := ?_) (by rfl) rfl ?_ ?_
 rotate_left
 ·go_simp
  rfl
 refine hK.out _ _ ?_
 clear hK K
 refine last_ (i := 4) (N := none) #[true, true, true, true, true] rfl rfl (by kernel_rfl) (by decide) (fun K hK => ?_)
 refine skip_ (w1 := ?_) (by rfl) rfl ?_ ?_
 rotate_left
 ·go_simp
  rfl
 refine hK.out _ _ ?_
 clear hK K
 refine done_ (by kernel_rfl) ?_
 cases c₀
 simp_all [bodyPostS, results, Try.results101]
end Go.Proofs.Ytkopbaikmlajmaa.Q
namespace Go.Proofs.Ytkopbaikmlajmaa.Q
open Go.RowKit Go.Proofs.YtkopbaikmlajmaaW.PrintWords Go.Proofs.YtkopbaikmlajmaaW.PrintLast Go.Proofs.YtkopbaikmlajmaaW.PrintMore
set_option linter.unusedVariables false
set_option linter.unusedSimpArgs false
attribute [local go_sem ↓] Go.wp_at_zero Go.wp_at_succ
theorem unpE_cases (l : List Int) (n : Int) : unpE l n = 0 ∨ unpE l n = 3 := by
 unfold unpE
 split
 ·exact .inr rfl
 split
 ·exact .inr rfl
 split
 ·exact .inr rfl
 exact .inl rfl
theorem atMost_some {l : List Int} {i : Nat} {m v : Int} (h : atMost l i m = some v) : i < l.length ∧ 0 ≤ v ∧ v ≤ m := by
 unfold atMost at h
 cases hr : rdW l i with
 | none => rw [hr] at h; cases h
 | some u =>
  rw [hr] at h
  have := rdW_some hr
  simp only [Option.bind_some] at h
  split at h
  ·cases h
  cases h
  omega
set_option maxHeartbeats 1000000 in
set_option maxRecDepth 100000 in
theorem c103_text (rb : Nat) (A : Option Addr) (c : Nat) (l : List Int) (i : Nat) (k : Int) (w0 w : World) (hB : Below w0.heap.size w0 w) (hrb : w0.heap.size ≤ rb) (hs : RS rb A l.length c i w) (hC : (Kd.int .i64).C w0 A l.length l) (hc : l.length ≤ c) (hm : l.length ≤ 1000000000) (hk1 : k ≠ 1) (hk3 : k ≠ 3) :
  Calls Try.prog 103 #[.pointer (some ⟨rb, 0, none⟩), .int .i64 k] w (RPost rb A l.length c w0 w ((valD k l i).map fun p => (toV p.1, p.2))) := by
 have hu40 := Try.underlying40
 have hu118 := Try.underlying118
 have hrs : rb < w.heap.size := (Array.getElem?_eq_some_iff.1 hs).1
 have HW := Aside0.mk (below_al w (.cells #[.int .i64 0, .int .i64 0, .string ⟨#[]⟩] 40))
 have hs1 := blk_below hs HW.out
 have hB1 := below_step hB HW.out
 have k1 : decide (k = 1) = false := decide_eq_false hk1
 have k3 : decide (k = 3) = false := decide_eq_false hk3
 have k1' : (k == 1) = false := beq_eq_false_iff_ne.2 hk1
 have k3' : (k == 3) = false := beq_eq_false_iff_ne.2 hk3
 have HV := Aside0.mk (show valD k l i = (atMost l i 40).bind fun n => if unpE (l.drop (i + 1)) n = 0 then some (⟨k, 0, unpS (l.drop (i + 1)) n⟩, i + 1 + (n.toNat + 4) / 5) else none by unfold valD; rw [if_neg hk1, if_neg hk3])
 clear hk1 hk3
 cases h : atMost l i 40 with
 | none =>
  have HE := Aside0.mk (show valD k l i = none by rw [HV.out, h]; rfl)
  clear HV
  go_enter Try.func103, Try.ntmps103
  go_wp2_with (go_at_call 136; refine (c136 rb A c l i 40 w0 _ hB1 hrb hs1 hC).mono ?_; rw [h]; rintro e w' ⟨he, hb, hk⟩; unfold badForm at he; subst he)
  rw [HE.out]
  exact ⟨rfl, rfl, hb, (Kept.of_below HW.out _).then_ hk (fun _ h => .inl h)⟩
 | some v =>
  obtain ⟨hi, hv0, hv1⟩ := atMost_some h
  obtain ⟨m, rfl⟩ := Int.eq_ofNat_of_zero_le hv0
  obtain ⟨j, hj⟩ : ∃ j, j = i + 1 := ⟨_, rfl⟩
  have HE := Aside0.mk (show valD k l i = if unpE (l.drop j) (m : Int) = 0 then some (⟨k, 0, unpS (l.drop j) (m : Int)⟩, j + (m + 4) / 5) else none by rw [hj, HV.out, h]; rfl)
  clear HV
  obtain ⟨i0, hi0, _, hsz0, _⟩ := info_parts info3
  have hcut := cut_from (P := Try.prog) 32 3 .i64 Try.underlying32 hi0 1 hsz0 A l.length c (j : Int) (by omega) (by omega)
  rw [Int.toNat_natCast] at hcut
  obtain ⟨A1, hA1⟩ : ∃ A1, A1 = (if c = j then A else (A : Option Addr).map (·.add (j * 1))) := ⟨_, rfl⟩
  obtain ⟨c1, hc1⟩ : ∃ c1, c1 = c - j := ⟨_, rfl⟩
  obtain ⟨ld, hld⟩ : ∃ ld, ld = l.drop j := ⟨_, rfl⟩
  have hy : l.length - j = ld.length := by rw [hld]; exact List.length_drop.symm
  rw [hy, ← hA1, ← hc1] at hcut
  have HRD := Aside0.mk (show (Kd.int .i64).C w0 A1 ld.length ld by rw [hA1, hld]; exact Kd.C_drop (m := j) (c := c) hC (by omega) hc)
  have HLC := Aside0.mk (show ld.length ≤ c1 by rw [hc1, ← hy]; omega)
  have HLM := Aside0.mk (show ld.length ≤ 1000000000 by rw [← hy]; omega)
  rw [← hld] at HE
  clear hy hA1 hc1 hld hsz0 hi0
  have HM := Aside0.mk hv1
  have hz2 : IntKind.i64.wrap ((j : Int) + ((m : Int) + 4) / 5) = ((j + (m + 4) / 5 : Nat) : Int) := by
   rw [wrap_i64_small _ (by omega) (by omega)]; omega
  have HI := Aside0.mk hi
  have HJ := Aside0.mk hj
  clear hi hv0 hv1 hj
  go_enter Try.func103, Try.ntmps103
  go_wp2_with (go_at_call 136; refine (c136 rb A c l i 40 w0 _ hB1 hrb hs1 hC).mono ?_; rw [h]; rintro e w1 ⟨rfl, hs', hb, hk⟩; rw [← HJ.out] at hs')
  have HS := Aside0.mk hs'
  have HB := Aside0.mk hb
  have HK := Aside0.mk ((Kept.of_below HW.out _).then_ hk (fun _ h => .inl h))
  have HR := Aside0.mk ((hk.2 w.heap.size (by simp) (by omega)).trans (blk_new w _))
  clear hs' hb hk hs1 hB1 HW h
  have s0 := show w1.cell? ⟨rb, 0, none⟩ = some (.slice A l.length c) from blk_cell HS.out 0
  have s1 := show w1.cell? ⟨rb, 1, none⟩ = some (.int .i64 (j : Int)) from blk_cell HS.out 1
  go_region_held3 (fun w' => w'.cell? ⟨rb, 0, none⟩ = some (.slice A l.length c) ∧ w'.cell? ⟨rb, 1, none⟩ = some (.int .i64 (j : Int))) (first | (refine ⟨?_, ?_⟩ <;> assumption) | go_keep) ((go_at_call 62; refine (c62 A1 c1 ld (m : Int) _ (Kd.C_below (Kd.C_below HRD.out HB.out) (below_dr _)) HLC.out HLM.out (by have := HM.out; omega)).mono ?_; rintro e w2 ⟨rfl, hb⟩; have t0 := keep hb s0; have t1 := keep hb s1))
  have HB2 := Aside0.mk (below_step HB.out (below_step (below_dr w1) hb))
  have HS2 := Aside0.mk (blk_below HS.out (below_step (below_dr w1) hb))
  have HK2 := Aside0.mk (HK.out.below (below_step (below_dr w1) hb))
  have HR2 := Aside0.mk (blk_below HR.out (below_step (below_dr w1) hb))
  clear hb s0 s1 t0 t1 hcut HS HB HK HR
  rcases unpE_cases ld (m : Int) with h0 | h3
  ·have HE2 := Aside0.mk (show valD k l i = some (⟨k, 0, unpS ld (m : Int)⟩, j + (m + 4) / 5) by rw [HE.out, if_pos h0])
   clear HE
   rw [h0]
   go_wp2_with fail
   have s0 := show w2.cell? ⟨rb, 1, none⟩ = some (.int .i64 (j : Int)) from blk_cell HS2.out 1
   have z0 := show w2.frozen? ⟨rb, 1, none⟩ = false from blk_frozen HS2.out 1
   refine start_ (n := 10) (S := fun w' => w'.cell? ⟨rb, 1, none⟩ = some (.int .i64 (j : Int))) (ds := [9]) #[false, false, false, false, false, false, false, false, false, false] (by kernel_rfl) rfl rfl s0 (fun hHeld => ?_)
   refine pure_ (i := 0) (N := some 42) (v := ?_) (a' := ?_) #[true, false, false, false, false, false, false, false, false, false] rfl rfl (by kernel_rfl) (fun _ _ _ h => h) (Or.inl ⟨by rfl, ?_⟩) ?_ ?_
   rotate_left
   ·intro w'
    go_simp
    with_reducible rfl
   rotate_left
   ·exact Z94
   refine pure_ (i := 1) (N := some 43) (v := ?_) (a' := ?_) #[true, true, false, false, false, false, false, false, false, false] rfl rfl (by kernel_rfl) (fun _ _ _ h => h) (Or.inl ⟨by rfl, ?_⟩) ?_ ?_
   rotate_left
   ·intro w'
    go_simp
    with_reducible rfl
   rotate_left
   ·exact Z94
   refine pure_ (i := 2) (N := some 44) (v := ?_) (a' := ?_) #[true, true, true, false, false, false, false, false, false, false] rfl rfl (by kernel_rfl) (fun _ _ _ h => h) (Or.inl ⟨by rfl, ?_⟩) ?_ ?_
   rotate_left
   ·intro w'
    go_simp
    with_reducible rfl
   rotate_left
   ·exact Z94
   refine take_ (i := 3) (N := some 45) (v := ?_) (a' := ?_) #[true, true, true, true, false, false, false, false, false, false] rfl rfl (by kernel_rfl) (fun _ _ _ h => h) (Or.inl ⟨by rfl, ?_⟩) hHeld ?_ ?_
   rotate_left
   ·rintro w' s0'
    go_simp
    with_reducible rfl
   rotate_left
   ·exact Z94
   refine pure_ (i := 4) (N := some 46) (v := ?_) (a' := ?_) #[true, true, true, true, true, false, false, false, false, false] rfl rfl (by kernel_rfl) (fun _ _ _ h => h) (Or.inl ⟨by rfl, ?_⟩) ?_ ?_
   rotate_left
   ·intro w'
    go_simp
    with_reducible rfl
   rotate_left
   ·exact Z94
   refine one_ (i := 5) (N := some 47) #[true, true, true, true, true, true, false, false, false, false] rfl rfl (by kernel_rfl) (by decide) (fun K hK => ?_)
   refine goes_ Try.func117 (by kernel_rfl) rfl #[.int .i64 (m : Int)] (by rfl) rfl rfl Z114 ?_
   with_reducible refine (c117 (m : Int) w2.drew (by omega) (by have := HM.out; omega)).mono ?_
   rintro e w' ⟨rfl, ⟨nd, rfl⟩⟩
   refine ⟨_, rfl, ?_⟩
   clear hHeld
   refine hK.out _ _ s0 (fun hHeld => ?_)
   clear hK K
   refine norm_ (a' := ?_) ?_ ?_
   rotate_left
   ·show Act.put _ (some 47) _ = _
    simp only [Act.put, List.setIfInBounds_toArray, List.set_cons_zero, List.set_cons_succ, i64_w, i32_w]
    rfl
   refine pure_ (i := 6) (N := some 48) (v := ?_) (a' := ?_) #[true, true, true, true, true, true, true, false, false, false] rfl rfl (by kernel_rfl) (fun _ _ _ h => h) (Or.inl ⟨by rfl, ?_⟩) ?_ ?_
   rotate_left
   ·intro w'
    go_simp
    with_reducible rfl
   rotate_left
   ·exact Z94
   refine pure_ (i := 7) (N := some 49) (v := ?_) (a' := ?_) #[true, true, true, true, true, true, true, true, false, false] rfl rfl (by kernel_rfl) (fun _ _ _ h => h) (Or.inl ⟨by rfl, ?_⟩) ?_ ?_
   rotate_left
   ·intro w'
    go_simp
    with_reducible rfl
   rotate_left
   ·exact Z94
   refine pure_ (i := 8) (N := some 50) (v := ?_) (a' := ?_) #[true, true, true, true, true, true, true, true, true, false] rfl rfl (by kernel_rfl) (fun _ _ _ h => h) (Or.inl ⟨by rfl, ?_⟩) ?_ ?_
   rotate_left
   ·intro w'
    go_simp
    with_reducible rfl
   rotate_left
   ·exact Z94
   have s0' := show (w2.drewN (1 + nd)).cell? ⟨rb, 1, none⟩ = some (.int .i64 (j : Int)) from hHeld
   have z0' := show (w2.drewN (1 + nd)).frozen? ⟨rb, 1, none⟩ = false from z0
   refine last_ (i := 9) (N := none) #[true, true, true, true, true, true, true, true, true, true] rfl rfl (by kernel_rfl) (by decide) (fun K hK => ?_)
   refine skip_ (w1 := ?_) (by rfl) rfl ?_ ?_
   rotate_left
   ·go_simp
    rfl
   refine hK.out _ _ ?_
   clear hK K s0 z0 s0' z0' hHeld
   refine done_ (by kernel_rfl) ?_
   obtain ⟨w3, hw3⟩ : ∃ w3, w3 = (w2.drewN (1 + nd)).setCell ⟨rb, 1, none⟩ (.int .i64 ((j : Int) + ((m : Int) + 4) / 5)) := ⟨_, rfl⟩
   rw [← hw3]
   have hz3 : ((j : Int) + ((m : Int) + 4) / 5) = ((j + (m + 4) / 5 : Nat) : Int) := by omega
   have HS3 := Aside0.mk (show RS rb A l.length c (j + (m + 4) / 5) w3 from hw3 ▸ blk_put (blk_drewN HS2.out (1 + nd)) 1 _ (by rw [hz3]; rfl))
   have HB3 := Aside0.mk (show Below w0.heap.size w0 w3 from hw3 ▸ below_set (pw_below_drewN HB2.out _) hrb)
   have HK3 := Aside0.mk (show Kept w w3 (fun k => k = rb) from hw3 ▸ (HK2.out.drewN (1 + nd)).setCell (.inl rfl) _)
   have HR3 := Aside0.mk (show w3.heap[w.heap.size]? = some (.cells #[.int .i64 0, .int .i64 0, .string ⟨#[]⟩] 40 (0, 0)) from hw3 ▸ blk_far (blk_drewN HR2.out (1 + nd)) (by show w.heap.size ≠ rb; omega) _)
   have e0 := show w3.cell? ⟨w.heap.size, 0, none⟩ = some (.int .i64 0) from blk_cell HR3.out 0
   have e1 := show w3.cell? ⟨w.heap.size, 1, none⟩ = some (.int .i64 0) from blk_cell HR3.out 1
   have e2 := show w3.cell? ⟨w.heap.size, 2, none⟩ = some (.string ⟨#[]⟩) from blk_cell HR3.out 2
   have f0 := show w3.frozen? ⟨w.heap.size, 0, none⟩ = false from blk_frozen HR3.out 0
   have f1 := show w3.frozen? ⟨w.heap.size, 1, none⟩ = false from blk_frozen HR3.out 1
   have f2 := show w3.frozen? ⟨w.heap.size, 2, none⟩ = false from blk_frozen HR3.out 2
   clear hw3 hz3
   go_wp2_with fail
   have hP := put3 (.int .i64 k) (.int .i64 0) (.string (unpS ld (m : Int))) (w := w) hB.size rfl (by omega) HS3.out HB3.out HK3.out HR3.out
   refine bodyPost_ret (results_cell_row rfl _ _ w.heap.size 40 _ (0, 0) _ rfl hP.1 hu40 rfl (by kernel_rfl)) rfl ?_
   rw [HE2.out]
   exact ⟨rfl, hP.2⟩
  have HE2 := Aside0.mk (show valD k l i = none by rw [HE.out, if_neg (by rw [h3]; decide)])
  rw [h3]
  go_wp2_with fail
  rw [HE2.out]
  exact ⟨rfl, rfl, HB2.out, HK2.out⟩
theorem c103 (rb : Nat) (A : Option Addr) (c : Nat) (l : List Int) (i : Nat) (k : Int) (w0 w : World) (hB : Below w0.heap.size w0 w) (hrb : w0.heap.size ≤ rb) (hs : RS rb A l.length c i w) (hC : (Kd.int .i64).C w0 A l.length l) (hc : l.length ≤ c) (hm : l.length ≤ 1000000000) :
  Calls Try.prog 103 #[.pointer (some ⟨rb, 0, none⟩), .int .i64 k] w (RPost rb A l.length c w0 w ((valD k l i).map fun p => (toV p.1, p.2))) := by
 by_cases h1 : k = 1
 ·subst h1; exact c103_int rb A c l i w0 w hB hrb hs hC
 by_cases h3 : k = 3
 ·subst h3; exact c103_bool rb A c l i w0 w hB hrb hs hC
 exact c103_text rb A c l i k w0 w hB hrb hs hC hc hm h1 h3
end Go.Proofs.Ytkopbaikmlajmaa.Q
