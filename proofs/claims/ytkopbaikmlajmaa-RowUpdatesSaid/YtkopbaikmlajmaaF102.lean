/- trimmed to what this claim's texts name -/
import Derived.Test.YtkopbaikmlajmaaWY
import Derived.Test.YtkopbaikmlajmaaSA
import Derived.Test.YtkopbaikmlajmaaF62
import Derived.WalkLawsBesides
import Derived.Defers
import Derived.Recover
namespace Go.Proofs.Ytkopbaikmlajmaa.Q
open Go.RowKit Go.Proofs.YtkopbaikmlajmaaW.PrintWords Go.Proofs.YtkopbaikmlajmaaW.PrintLast Go.Proofs.YtkopbaikmlajmaaW.PrintMore
set_option linter.unusedVariables false
set_option linter.unusedSimpArgs false
/-- The word at a place, if there is one and it is a word. -/
def rdW (l : List Int) (i : Nat) : Option Int := if i < l.length ∧ 0 ≤ rd l i ∧ rd l i ≤ 1099511627775 then some (rd l i) else none
/-- What the reader panics with. -/
def badForm : Ending := .panicked [{ v := .iface 30 (.int .i64 3), recovered := false }]
/-- The reader at block rb: its words, and its place. -/
def RS (rb : Nat) (A : Option Addr) (n c : Nat) (i : Nat) (w : World) : Prop := w.heap[rb]? = some (.cells #[.slice A n c, .int .i64 i] 118 (0, 0))
theorem rdW_some {l : List Int} {i : Nat} {v : Int} (h : rdW l i = some v) : i < l.length ∧ 0 ≤ v ∧ v ≤ 1099511627775 ∧ rd l i = v := by
  unfold rdW at h
  split at h
  · rename_i hc
    obtain rfl := Option.some.inj h
    exact ⟨hc.1, hc.2.1, hc.2.2, rfl⟩
  · cases h
set_option maxHeartbeats 2000000 in
set_option maxRecDepth 100000 in
theorem c102_ok (rb : Nat) (A : Option Addr) (c : Nat) (l : List Int) (i : Nat) (v : Int) (w0 w : World) (hB : Below w0.heap.size w0 w) (hrb : w0.heap.size ≤ rb) (hs : RS rb A l.length c i w) (hC : (Kd.int .i64).C w0 A l.length l) (h : rdW l i = some v) :
    Calls Try.prog 102 #[.pointer (some ⟨rb, 0, none⟩)] w fun e w' => e = .returned (.int .i64 v) ∧ RS rb A l.length c (i + 1) w' ∧ Below w0.heap.size w0 w' ∧ Kept w w' (fun k => k = rb) := by
  have hu118 := Try.underlying118
  obtain ⟨hi, hv0, hv1, rfl⟩ := rdW_some h
  have hm : l.length ≤ 9223372036854775807 := hC.2.1
  obtain ⟨ad, rfl, hx0⟩ := Kd.at_int hC (i : Int) (by omega) (by omega)
  simp only [Int.toNat_natCast] at hx0
  have HB := Aside0.mk hB
  have HE := Aside0.mk hrb
  have HS := Aside0.mk hs
  have HX := Aside0.mk hx0
  have HL := Aside0.mk hi
  have h1 : decide ((l.length : Int) ≤ (i : Int)) = false := decide_eq_false (by omega)
  have h1' : decide (l.length ≤ i) = false := decide_eq_false (by omega)
  have h2 : decide (rd l (i : Int) < 0) = false := decide_eq_false (by omega)
  have h3 : decide (1099511627775 < rd l (i : Int)) = false := decide_eq_false (by omega)
  clear hB hrb hs hC h hx0
  go_enter Try.func102, Try.ntmps102
  go_wp2_with fail
  refine region_reads (by kernel_rfl) (by kernel_rfl) ?_
  rintro w1 hw1
  have HB1 := Aside0.mk (show Below w0.heap.size w0 w1 from below_step HB.out (hw1 ▸ below_dr w))
  have HS1 := Aside0.mk (show RS rb (some ad) l.length c i w1 from hw1 ▸ HS.out)
  have HK1 := Aside0.mk (show Kept w w1 (fun k => k = rb) from hw1 ▸ Kept.drew (Kept.refl w _))
  have s0 := show w1.cell? ⟨rb, 0, none⟩ = some (.slice (some ad) l.length c) from blk_cell HS1.out 0
  have s1 := show w1.cell? ⟨rb, 1, none⟩ = some (.int .i64 i) from blk_cell HS1.out 1
  have x0 := keep HB1.out HX.out
  clear hw1
  iterate 36 (with_reducible refine wpStill_step (fun K hK => ?_); go_simp; (first | with_reducible refine hK _ ?_ | (rw [if_neg (by simp [undef])]; with_reducible refine hK _ ?_)); clear hK K)
  with_reducible refine wpStill_nil ?_
  clear s0 x0 h1 h1' h2 h3
  go_wp2_with ((with_reducible refine gate_store (t := 3) (p := 46) rfl ?_); have f1 := blk_cell HS1.out 1; have fz := blk_frozen HS1.out 1; refine store_event (t := 3) (p := 46) (v := ?vo1) (w1 := w1.setCell ⟨rb, 1, none⟩ (.int .i64 ((i + 1 : Nat) : Int))) ?hg ?ho ?hn ?hr ?_; (case ho => rfl); (case hg => rfl); (case hn => rfl); (case hr => first | (go_simp; done) | (go_simp; rfl)); intro w2 hw; clear f1 fz s1; have HS2 := Aside0.mk (show RS rb (some ad) l.length c (i + 1) w2 from hw ▸ blk_put HS1.out 1 _ rfl); have HB2 := Aside0.mk (show Below w0.heap.size w0 w2 from hw ▸ below_set HB1.out HE.out); have HK2 := Aside0.mk (show Kept w w2 (fun k => k = rb) from hw ▸ Kept.setCell HK1.out (.inl rfl) _); clear hw)
  refine region_reads (by kernel_rfl) (by kernel_rfl) ?_
  rintro w3 hw3
  have HB3 := Aside0.mk (show Below w0.heap.size w0 w3 from below_step HB2.out (hw3 ▸ below_dr w2))
  have HS3 := Aside0.mk (show RS rb (some ad) l.length c (i + 1) w3 from hw3 ▸ HS2.out)
  have HK3 := Aside0.mk (show Kept w w3 (fun k => k = rb) from hw3 ▸ Kept.drew HK2.out)
  have s0 := show w3.cell? ⟨rb, 0, none⟩ = some (.slice (some ad) l.length c) from blk_cell HS3.out 0
  have s1 := show w3.cell? ⟨rb, 1, none⟩ = some (.int .i64 ((i + 1 : Nat) : Int)) from blk_cell HS3.out 1
  have x0 := keep HB3.out HX.out
  have hz : IntKind.i64.wrap (i : Int) = (i : Int) := wrap_i64_small _ (by omega) (by omega)
  clear hw3
  iterate 12 (with_reducible refine wpStill_step (fun K hK => ?_); go_simp; (first | with_reducible refine hK _ ?_ | (rw [if_neg (by simp [undef])]; with_reducible refine hK _ ?_)); clear hK K)
  with_reducible refine wpStill_nil ?_
  go_wp2_with fail
  go_ret
  exact ⟨rfl, HS3.out, HB3.out, HK3.out⟩
theorem rdW_none {l : List Int} {i : Nat} (h : rdW l i = none) : l.length ≤ i ∨ i < l.length ∧ (rd l i < 0 ∨ 1099511627775 < rd l i) := by
  unfold rdW at h
  split at h
  · cases h
  · omega
set_option maxHeartbeats 4000000 in
set_option maxRecDepth 100000 in
theorem c102_no (rb : Nat) (A : Option Addr) (c : Nat) (l : List Int) (i : Nat) (w0 w : World) (hB : Below w0.heap.size w0 w) (hrb : w0.heap.size ≤ rb) (hs : RS rb A l.length c i w) (hC : (Kd.int .i64).C w0 A l.length l) (h : rdW l i = none) :
    Calls Try.prog 102 #[.pointer (some ⟨rb, 0, none⟩)] w fun e w' => e = badForm ∧ Below w0.heap.size w0 w' ∧ Kept w w' (fun k => k = rb) := by
  have hu118 := Try.underlying118
  have hm : l.length ≤ 9223372036854775807 := hC.2.1
  have HB := Aside0.mk hB
  have HE := Aside0.mk hrb
  have HS := Aside0.mk hs
  rcases rdW_none h with hi | ⟨hi, hv⟩
  · have h1 : decide ((l.length : Int) ≤ (i : Int)) = true := decide_eq_true (by omega)
    have h1' : decide (l.length ≤ i) = true := decide_eq_true (by omega)
    clear hB hrb hs hC h hi
    go_enter Try.func102, Try.ntmps102
    go_wp2_with fail
    refine region_reads (by kernel_rfl) (by kernel_rfl) ?_
    rintro w1 hw1
    have HB1 := Aside0.mk (show Below w0.heap.size w0 w1 from below_step HB.out (hw1 ▸ below_dr w))
    have HS1 := Aside0.mk (show RS rb A l.length c i w1 from hw1 ▸ HS.out)
    have HK1 := Aside0.mk (show Kept w w1 (fun k => k = rb) from hw1 ▸ Kept.drew (Kept.refl w _))
    have s0 := show w1.cell? ⟨rb, 0, none⟩ = some (.slice A l.length c) from blk_cell HS1.out 0
    have s1 := show w1.cell? ⟨rb, 1, none⟩ = some (.int .i64 i) from blk_cell HS1.out 1
    clear hw1
    iterate 36 (with_reducible refine wpStill_step (fun K hK => ?_); go_simp; (first | with_reducible refine hK _ ?_ | (rw [if_neg (by simp [undef])]; with_reducible refine hK _ ?_)); clear hK K)
    with_reducible refine wpStill_nil ?_
    go_wp2_with fail
    exact ⟨rfl, rfl, HB1.out, HK1.out⟩
  · obtain ⟨ad, rfl, hx0⟩ := Kd.at_int hC (i : Int) (by omega) (by omega)
    simp only [Int.toNat_natCast] at hx0
    have HX := Aside0.mk hx0
    have h1 : decide ((l.length : Int) ≤ (i : Int)) = false := decide_eq_false (by omega)
    have h1' : decide (l.length ≤ i) = false := decide_eq_false (by omega)
    by_cases hv1 : rd l (i : Int) < 0
    · have h2 : decide (rd l (i : Int) < 0) = true := decide_eq_true hv1
      clear hB hrb hs hC h hx0 hv1 hv
      go_enter Try.func102, Try.ntmps102
      go_wp2_with fail
      refine region_reads (by kernel_rfl) (by kernel_rfl) ?_
      rintro w1 hw1
      have HB1 := Aside0.mk (show Below w0.heap.size w0 w1 from below_step HB.out (hw1 ▸ below_dr w))
      have HS1 := Aside0.mk (show RS rb (some ad) l.length c i w1 from hw1 ▸ HS.out)
      have HK1 := Aside0.mk (show Kept w w1 (fun k => k = rb) from hw1 ▸ Kept.drew (Kept.refl w _))
      have s0 := show w1.cell? ⟨rb, 0, none⟩ = some (.slice (some ad) l.length c) from blk_cell HS1.out 0
      have s1 := show w1.cell? ⟨rb, 1, none⟩ = some (.int .i64 i) from blk_cell HS1.out 1
      have x0 := keep HB1.out HX.out
      clear hw1
      iterate 36 (with_reducible refine wpStill_step (fun K hK => ?_); go_simp; (first | with_reducible refine hK _ ?_ | (rw [if_neg (by simp [undef])]; with_reducible refine hK _ ?_)); clear hK K)
      with_reducible refine wpStill_nil ?_
      go_wp2_with fail
      exact ⟨rfl, rfl, HB1.out, HK1.out⟩
    · have h2 : decide (rd l (i : Int) < 0) = false := decide_eq_false hv1
      have h3 : decide (1099511627775 < rd l (i : Int)) = true := decide_eq_true (by omega)
      clear hB hrb hs hC h hx0 hv1 hv
      go_enter Try.func102, Try.ntmps102
      go_wp2_with fail
      refine region_reads (by kernel_rfl) (by kernel_rfl) ?_
      rintro w1 hw1
      have HB1 := Aside0.mk (show Below w0.heap.size w0 w1 from below_step HB.out (hw1 ▸ below_dr w))
      have HS1 := Aside0.mk (show RS rb (some ad) l.length c i w1 from hw1 ▸ HS.out)
      have HK1 := Aside0.mk (show Kept w w1 (fun k => k = rb) from hw1 ▸ Kept.drew (Kept.refl w _))
      have s0 := show w1.cell? ⟨rb, 0, none⟩ = some (.slice (some ad) l.length c) from blk_cell HS1.out 0
      have s1 := show w1.cell? ⟨rb, 1, none⟩ = some (.int .i64 i) from blk_cell HS1.out 1
      have x0 := keep HB1.out HX.out
      clear hw1
      iterate 36 (with_reducible refine wpStill_step (fun K hK => ?_); go_simp; (first | with_reducible refine hK _ ?_ | (rw [if_neg (by simp [undef])]; with_reducible refine hK _ ?_)); clear hK K)
      with_reducible refine wpStill_nil ?_
      go_wp2_with fail
      exact ⟨rfl, rfl, HB1.out, HK1.out⟩
end Go.Proofs.Ytkopbaikmlajmaa.Q
