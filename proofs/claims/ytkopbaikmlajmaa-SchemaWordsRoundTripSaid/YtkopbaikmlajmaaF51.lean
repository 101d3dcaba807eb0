/- trimmed to what these claims' texts use -/
import Derived.Test.YtkopbaikmlajmaaK
import Derived.Test.YtkopbaikmlajmaaFA
-- Laid by this session's own call of the kit's print.py (wip/qprint.py)
namespace Go.Proofs.Ytkopbaikmlajmaa.Q
open Go.RowKit Go.Proofs.YtkopbaikmlajmaaW.PrintWords Go.Proofs.YtkopbaikmlajmaaW.PrintLast Go.Proofs.YtkopbaikmlajmaaW.PrintMore
attribute [local go_sem] max2_int min2_int max_two min_two max_three min_three max_four min_four   -- for this text's walks alone
set_option linter.unusedVariables false
set_option linter.unusedSimpArgs false

attribute [local go_sem high] eqA42 eqA56
mutual
def alumref20_Same.j0 : Nat → Bool → ByteArray → List (S56) → List (S65) → List (S42) → ByteArray → List (S56) → List (S65) → List (S42) → Option (Bool)
 | 0, _, _, _, _, _, _, _, _, _ => none
 | k + 1, x40, x398000, x398001, x398002, x398003, x399000, x399001, x399002, x399003 => if x40 = true then (some false) else (alumref20_Same.l0 k 0 x398000 x398001 x398002 x398003 x399000 x399001 x399002 x399003)
def alumref20_Same.l0 : Nat → Int → ByteArray → List (S56) → List (S65) → List (S42) → ByteArray → List (S56) → List (S65) → List (S42) → Option (Bool)
 | 0, _, _, _, _, _, _, _, _, _ => none
 | k + 1, x5, x398000, x398001, x398002, x398003, x399000, x399001, x399002, x399003 => if x5 < (x398001.length : Int) then (if 0 ≤ x5 then (if x5 < (x399001.length : Int) then (if (!((((rd_T56 x398001 x5).f0).toList) == (((rd_T56 x399001 x5).f0).toList)) || (!(((rd_T56 x398001 x5).f1) == ((rd_T56 x399001 x5).f1)) || (!(((rd_T56 x398001 x5).f2) == ((rd_T56 x399001 x5).f2))))) = true then (some false) else (alumref20_Same.l0 k (wrap64 (x5 + 1)) x398000 x398001 x398002 x398003 x399000 x399001 x399002 x399003)) else (none)) else (none)) else (alumref20_Same.l1 k 0 x398000 x398001 x398002 x398003 x399000 x399001 x399002 x399003)
def alumref20_Same.l1 : Nat → Int → ByteArray → List (S56) → List (S65) → List (S42) → ByteArray → List (S56) → List (S65) → List (S42) → Option (Bool)
 | 0, _, _, _, _, _, _, _, _, _ => none
 | k + 1, x6, x398000, x398001, x398002, x398003, x399000, x399001, x399002, x399003 => if x6 < (x398002.length : Int) then (if 0 ≤ x6 then (if x6 < (x399002.length : Int) then ((alumref20_SameInts.f k ((rd_T65 x398002 x6).f1) ((rd_T65 x399002 x6).f1)).bind fun t403 => (if t403 = true then (if ((rd_T65 x398002 x6).f0).toList = ((rd_T65 x399002 x6).f0).toList then (if (((rd_T65 x398002 x6).f2) != ((rd_T65 x399002 x6).f2)) = true then (some false) else (alumref20_Same.l1 k (wrap64 (x6 + 1)) x398000 x398001 x398002 x398003 x399000 x399001 x399002 x399003)) else (some false)) else (some false))) else (none)) else (none)) else (alumref20_Same.l2 k 0 x398000 x398001 x398002 x398003 x399000 x399001 x399002 x399003)
def alumref20_Same.l2 : Nat → Int → ByteArray → List (S56) → List (S65) → List (S42) → ByteArray → List (S56) → List (S65) → List (S42) → Option (Bool)
 | 0, _, _, _, _, _, _, _, _, _ => none
 | k + 1, x8, x398000, x398001, x398002, x398003, x399000, x399001, x399002, x399003 => if x8 < (x398003.length : Int) then (if 0 ≤ x8 then (if x8 < (x399003.length : Int) then (if (!(((rd_T42 x398003 x8).f0) == ((rd_T42 x399003 x8).f0)) || (!(((rd_T42 x398003 x8).f1) == ((rd_T42 x399003 x8).f1)) || ((!(((rd_T42 x398003 x8).f2.f0) == ((rd_T42 x399003 x8).f2.f0)) || (!(((rd_T42 x398003 x8).f2.f1) == ((rd_T42 x399003 x8).f2.f1)) || (!((((rd_T42 x398003 x8).f2.f2).toList) == (((rd_T42 x399003 x8).f2.f2).toList)))))))) = true then (some false) else (alumref20_Same.l2 k (wrap64 (x8 + 1)) x398000 x398001 x398002 x398003 x399000 x399001 x399002 x399003)) else (none)) else (none)) else (some true)
end
def alumref20_Same.f (k : Nat) (a0_0 : ByteArray) (l0_1 : List (S56)) (l0_2 : List (S65)) (l0_3 : List (S42)) (a1_0 : ByteArray) (l1_1 : List (S56)) (l1_2 : List (S65)) (l1_3 : List (S42)) : Option (Bool) := if a0_0.toList = a1_0.toList then (if (l0_1.length : Int) = (l1_1.length : Int) then (if (l0_2.length : Int) = (l1_2.length : Int) then (alumref20_Same.j0 k ((l0_3.length : Int) != (l1_3.length : Int)) a0_0 l0_1 l0_2 l0_3 a1_0 l1_1 l1_2 l1_3) else (alumref20_Same.j0 k true a0_0 l0_1 l0_2 l0_3 a1_0 l1_1 l1_2 l1_3)) else (alumref20_Same.j0 k true a0_0 l0_1 l0_2 l0_3 a1_0 l1_1 l1_2 l1_3)) else (alumref20_Same.j0 k true a0_0 l0_1 l0_2 l0_3 a1_0 l1_1 l1_2 l1_3)
set_option maxHeartbeats 8000000 in
set_option maxRecDepth 100000 in
theorem alumref20_Same.calls (k : Nat) (a0_0 : ByteArray) (A0_1 : Option Addr) (c0_1 : Nat) (l0_1 : List (S56)) (A0_2 : Option Addr) (c0_2 : Nat) (l0_2 : List (S65)) (A0_3 : Option Addr) (c0_3 : Nat) (l0_3 : List (S42)) (a1_0 : ByteArray) (A1_1 : Option Addr) (c1_1 : Nat) (l1_1 : List (S56)) (A1_2 : Option Addr) (c1_2 : Nat) (l1_2 : List (S65)) (A1_3 : Option Addr) (c1_3 : Nat) (l1_3 : List (S42)) (r : Bool) (w : World) (hr0_1 : Kd.C k56 w A0_1 l0_1.length l0_1) (hc0_1 : l0_1.length ≤ c0_1) (hr0_2 : Kd.C k65 w A0_2 l0_2.length l0_2) (hc0_2 : l0_2.length ≤ c0_2) (hr0_3 : Kd.C k42 w A0_3 l0_3.length l0_3) (hc0_3 : l0_3.length ≤ c0_3) (hr1_1 : Kd.C k56 w A1_1 l1_1.length l1_1) (hc1_1 : l1_1.length ≤ c1_1) (hr1_2 : Kd.C k65 w A1_2 l1_2.length l1_2) (hc1_2 : l1_2.length ≤ c1_2) (hr1_3 : Kd.C k42 w A1_3 l1_3.length l1_3) (hc1_3 : l1_3.length ≤ c1_3) (h : alumref20_Same.f k a0_0 l0_1 l0_2 l0_3 a1_0 l1_1 l1_2 l1_3 = some r) :
  Calls Try.prog 51 #[.agg #[.string a0_0, .slice A0_1 l0_1.length c0_1, .slice A0_2 l0_2.length c0_2, .slice A0_3 l0_3.length c0_3], .agg #[.string a1_0, .slice A1_1 l1_1.length c1_1, .slice A1_2 l1_2.length c1_2, .slice A1_3 l1_3.length c1_3]] w fun e w' => e = .returned (.bool r) ∧ Below w.heap.size w w' := by
 have hu28 := Try.underlying28
 have hu56 := Try.underlying56
 have hu42 := Try.underlying42
 have HR0_1 := Aside0.mk hr0_1
 have HC0_1 := Aside0.mk hc0_1
 clear hr0_1 hc0_1
 have HR0_2 := Aside0.mk hr0_2
 have HC0_2 := Aside0.mk hc0_2
 clear hr0_2 hc0_2
 have HR0_3 := Aside0.mk hr0_3
 have HC0_3 := Aside0.mk hc0_3
 clear hr0_3 hc0_3
 have HR1_1 := Aside0.mk hr1_1
 have HC1_1 := Aside0.mk hc1_1
 clear hr1_1 hc1_1
 have HR1_2 := Aside0.mk hr1_2
 have HC1_2 := Aside0.mk hc1_2
 clear hr1_2 hc1_2
 have HR1_3 := Aside0.mk hr1_3
 have HC1_3 := Aside0.mk hc1_3
 clear hr1_3 hc1_3
 have HB := Aside0.mk (Below.refl w.heap.size w)
 have H : (if a0_0.toList = a1_0.toList then (if (l0_1.length : Int) = (l1_1.length : Int) then (if (l0_2.length : Int) = (l1_2.length : Int) then (alumref20_Same.j0 k ((l0_3.length : Int) != (l1_3.length : Int)) a0_0 l0_1 l0_2 l0_3 a1_0 l1_1 l1_2 l1_3) else (alumref20_Same.j0 k true a0_0 l0_1 l0_2 l0_3 a1_0 l1_1 l1_2 l1_3)) else (alumref20_Same.j0 k true a0_0 l0_1 l0_2 l0_3 a1_0 l1_1 l1_2 l1_3)) else (alumref20_Same.j0 k true a0_0 l0_1 l0_2 l0_3 a1_0 l1_1 l1_2 l1_3)) = some r := h
 clear h
 have HC3 := Aside0.mk H
 clear H
 go_enter Try.func51, Try.ntmps51
 go_upto_region 1 with (first | ((with_reducible refine gate_dst (N := 2) rfl ?_); (try (refine gate_guard (by rfl) ?_; dsimp only)); refine box_event ?hg (N := 2) ?hd (cs := #[.string a0_0, .slice A0_1 l0_1.length c0_1, .slice A0_2 l0_2.length c0_2, .slice A0_3 l0_3.length c0_3]) (t := 28) ?hr ?_; (case hd => rfl); (case hg => rfl); (case hr => first | (go_simp; done) | (go_simp; rfl)); intro gb397 hg w4 hbox hb; have n0_ := Aside0.mk (below_step (by repeat (first | (with_reducible first | exact HB.out | apply below_alloc | apply pw_below_drewN | apply below_drew1) | exact HB.out)) hb); have n1_ := Aside0.mk (hbox); have n2_ := Aside0.mk ((by rw [hg]; exact (below_size (by repeat (first | (with_reducible first | exact HB.out | apply below_alloc | apply pw_below_drewN | apply below_drew1) | exact HB.out))) : w.heap.size ≤ gb397)); have n3_ := Aside0.mk ((by rw [hg]; exact (below_size (by repeat (first | (with_reducible first | exact HB.out | apply below_alloc | apply pw_below_drewN | apply below_drew1) | exact HB.out))) : w.heap.size ≤ gb397)); clear HB; have HB := n0_; have BK397 := n1_; have GW397 := n2_; have GE397 := n3_; clear n0_ n1_ n2_ n3_; clear hb hbox hg) | ((with_reducible refine gate_dst (N := 3) rfl ?_); (try (refine gate_guard (by rfl) ?_; dsimp only)); refine box_event ?hg (N := 3) ?hd (cs := #[.string a1_0, .slice A1_1 l1_1.length c1_1, .slice A1_2 l1_2.length c1_2, .slice A1_3 l1_3.length c1_3]) (t := 28) ?hr ?_; (case hd => rfl); (case hg => rfl); (case hr => first | (go_simp; done) | (go_simp; rfl)); intro gb398 hg w5 hbox hb; have n0_ := Aside0.mk (blk_below (g := gb397) (o := .cells #[.string a0_0, .slice A0_1 l0_1.length c0_1, .slice A0_2 l0_2.length c0_2, .slice A0_3 l0_3.length c0_3] 28 (0, 0)) (by (with_reducible repeat (first | refine blk_drewN ?_ _ | refine blk_drew ?_ | refine blk_alloc ?_ _)); exact BK397.out) hb); have n1_ := Aside0.mk (below_step (by repeat (first | (with_reducible first | exact HB.out | apply below_alloc | apply pw_below_drewN | apply below_drew1 | refine below_set ?_ GE397.out) | exact HB.out)) hb); have n2_ := Aside0.mk (hbox); have n3_ := Aside0.mk ((by rw [hg]; exact (below_size (by repeat (first | (with_reducible first | exact HB.out | apply below_alloc | apply pw_below_drewN | apply below_drew1 | refine below_set ?_ GE397.out) | exact HB.out))) : w.heap.size ≤ gb398)); have n4_ := Aside0.mk ((by rw [hg]; exact (below_size (by repeat (first | (with_reducible first | exact HB.out | apply below_alloc | apply pw_below_drewN | apply below_drew1 | refine below_set ?_ GE397.out) | exact HB.out))) : w.heap.size ≤ gb398)); have n5_ := Aside0.mk ((by rw [hg]; exact Nat.ne_of_lt (blk_lt (g := gb397) (o := .cells #[.string a0_0, .slice A0_1 l0_1.length c0_1, .slice A0_2 l0_2.length c0_2, .slice A0_3 l0_3.length c0_3] 28 (0, 0)) (by (with_reducible repeat (first | refine blk_drewN ?_ _ | refine blk_drew ?_ | refine blk_alloc ?_ _)); exact BK397.out)) : gb397 ≠ gb398)); have n6_ := Aside0.mk ((by rw [hg]; exact Nat.ne_of_gt (blk_lt (g := gb397) (o := .cells #[.string a0_0, .slice A0_1 l0_1.length c0_1, .slice A0_2 l0_2.length c0_2, .slice A0_3 l0_3.length c0_3] 28 (0, 0)) (by (with_reducible repeat (first | refine blk_drewN ?_ _ | refine blk_drew ?_ | refine blk_alloc ?_ _)); exact BK397.out)) : gb398 ≠ gb397)); clear BK397; clear HB; have BK397 := n0_; have HB := n1_; have BK398 := n2_; have GW398 := n3_; have GE398 := n4_; have NB397_398 := n5_; have NB398_397 := n6_; clear n0_ n1_ n2_ n3_ n4_ n5_ n6_; clear hb hbox hg))
 repeat (go_quiet (first | ((with_reducible refine gate_dst (N := 2) rfl ?_); (try (refine gate_guard (by rfl) ?_; dsimp only)); refine box_event ?hg (N := 2) ?hd (cs := #[.string a0_0, .slice A0_1 l0_1.length c0_1, .slice A0_2 l0_2.length c0_2, .slice A0_3 l0_3.length c0_3]) (t := 28) ?hr ?_; (case hd => rfl); (case hg => rfl); (case hr => first | (go_simp; done) | (go_simp; rfl)); intro gb397 hg w4 hbox hb; have n0_ := Aside0.mk (below_step (by repeat (first | (with_reducible first | exact HB.out | apply below_alloc | apply pw_below_drewN | apply below_drew1) | exact HB.out)) hb); have n1_ := Aside0.mk (hbox); have n2_ := Aside0.mk ((by rw [hg]; exact (below_size (by repeat (first | (with_reducible first | exact HB.out | apply below_alloc | apply pw_below_drewN | apply below_drew1) | exact HB.out))) : w.heap.size ≤ gb397)); have n3_ := Aside0.mk ((by rw [hg]; exact (below_size (by repeat (first | (with_reducible first | exact HB.out | apply below_alloc | apply pw_below_drewN | apply below_drew1) | exact HB.out))) : w.heap.size ≤ gb397)); clear HB; have HB := n0_; have BK397 := n1_; have GW397 := n2_; have GE397 := n3_; clear n0_ n1_ n2_ n3_; clear hb hbox hg) | ((with_reducible refine gate_dst (N := 3) rfl ?_); (try (refine gate_guard (by rfl) ?_; dsimp only)); refine box_event ?hg (N := 3) ?hd (cs := #[.string a1_0, .slice A1_1 l1_1.length c1_1, .slice A1_2 l1_2.length c1_2, .slice A1_3 l1_3.length c1_3]) (t := 28) ?hr ?_; (case hd => rfl); (case hg => rfl); (case hr => first | (go_simp; done) | (go_simp; rfl)); intro gb398 hg w5 hbox hb; have n0_ := Aside0.mk (blk_below (g := gb397) (o := .cells #[.string a0_0, .slice A0_1 l0_1.length c0_1, .slice A0_2 l0_2.length c0_2, .slice A0_3 l0_3.length c0_3] 28 (0, 0)) (by (with_reducible repeat (first | refine blk_drewN ?_ _ | refine blk_drew ?_ | refine blk_alloc ?_ _)); exact BK397.out) hb); have n1_ := Aside0.mk (below_step (by repeat (first | (with_reducible first | exact HB.out | apply below_alloc | apply pw_below_drewN | apply below_drew1 | refine below_set ?_ GE397.out) | exact HB.out)) hb); have n2_ := Aside0.mk (hbox); have n3_ := Aside0.mk ((by rw [hg]; exact (below_size (by repeat (first | (with_reducible first | exact HB.out | apply below_alloc | apply pw_below_drewN | apply below_drew1 | refine below_set ?_ GE397.out) | exact HB.out))) : w.heap.size ≤ gb398)); have n4_ := Aside0.mk ((by rw [hg]; exact (below_size (by repeat (first | (with_reducible first | exact HB.out | apply below_alloc | apply pw_below_drewN | apply below_drew1 | refine below_set ?_ GE397.out) | exact HB.out))) : w.heap.size ≤ gb398)); have n5_ := Aside0.mk ((by rw [hg]; exact Nat.ne_of_lt (blk_lt (g := gb397) (o := .cells #[.string a0_0, .slice A0_1 l0_1.length c0_1, .slice A0_2 l0_2.length c0_2, .slice A0_3 l0_3.length c0_3] 28 (0, 0)) (by (with_reducible repeat (first | refine blk_drewN ?_ _ | refine blk_drew ?_ | refine blk_alloc ?_ _)); exact BK397.out)) : gb397 ≠ gb398)); have n6_ := Aside0.mk ((by rw [hg]; exact Nat.ne_of_gt (blk_lt (g := gb397) (o := .cells #[.string a0_0, .slice A0_1 l0_1.length c0_1, .slice A0_2 l0_2.length c0_2, .slice A0_3 l0_3.length c0_3] 28 (0, 0)) (by (with_reducible repeat (first | refine blk_drewN ?_ _ | refine blk_drew ?_ | refine blk_alloc ?_ _)); exact BK397.out)) : gb398 ≠ gb397)); clear BK397; clear HB; have BK397 := n0_; have HB := n1_; have BK398 := n2_; have GW398 := n3_; have GE398 := n4_; have NB397_398 := n5_; have NB398_397 := n6_; clear n0_ n1_ n2_ n3_ n4_ n5_ n6_; clear hb hbox hg)); go_upto_region 1 with (first | ((with_reducible refine gate_dst (N := 2) rfl ?_); (try (refine gate_guard (by rfl) ?_; dsimp only)); refine box_event ?hg (N := 2) ?hd (cs := #[.string a0_0, .slice A0_1 l0_1.length c0_1, .slice A0_2 l0_2.length c0_2, .slice A0_3 l0_3.length c0_3]) (t := 28) ?hr ?_; (case hd => rfl); (case hg => rfl); (case hr => first | (go_simp; done) | (go_simp; rfl)); intro gb397 hg w4 hbox hb; have n0_ := Aside0.mk (below_step (by repeat (first | (with_reducible first | exact HB.out | apply below_alloc | apply pw_below_drewN | apply below_drew1) | exact HB.out)) hb); have n1_ := Aside0.mk (hbox); have n2_ := Aside0.mk ((by rw [hg]; exact (below_size (by repeat (first | (with_reducible first | exact HB.out | apply below_alloc | apply pw_below_drewN | apply below_drew1) | exact HB.out))) : w.heap.size ≤ gb397)); have n3_ := Aside0.mk ((by rw [hg]; exact (below_size (by repeat (first | (with_reducible first | exact HB.out | apply below_alloc | apply pw_below_drewN | apply below_drew1) | exact HB.out))) : w.heap.size ≤ gb397)); clear HB; have HB := n0_; have BK397 := n1_; have GW397 := n2_; have GE397 := n3_; clear n0_ n1_ n2_ n3_; clear hb hbox hg) | ((with_reducible refine gate_dst (N := 3) rfl ?_); (try (refine gate_guard (by rfl) ?_; dsimp only)); refine box_event ?hg (N := 3) ?hd (cs := #[.string a1_0, .slice A1_1 l1_1.length c1_1, .slice A1_2 l1_2.length c1_2, .slice A1_3 l1_3.length c1_3]) (t := 28) ?hr ?_; (case hd => rfl); (case hg => rfl); (case hr => first | (go_simp; done) | (go_simp; rfl)); intro gb398 hg w5 hbox hb; have n0_ := Aside0.mk (blk_below (g := gb397) (o := .cells #[.string a0_0, .slice A0_1 l0_1.length c0_1, .slice A0_2 l0_2.length c0_2, .slice A0_3 l0_3.length c0_3] 28 (0, 0)) (by (with_reducible repeat (first | refine blk_drewN ?_ _ | refine blk_drew ?_ | refine blk_alloc ?_ _)); exact BK397.out) hb); have n1_ := Aside0.mk (below_step (by repeat (first | (with_reducible first | exact HB.out | apply below_alloc | apply pw_below_drewN | apply below_drew1 | refine below_set ?_ GE397.out) | exact HB.out)) hb); have n2_ := Aside0.mk (hbox); have n3_ := Aside0.mk ((by rw [hg]; exact (below_size (by repeat (first | (with_reducible first | exact HB.out | apply below_alloc | apply pw_below_drewN | apply below_drew1 | refine below_set ?_ GE397.out) | exact HB.out))) : w.heap.size ≤ gb398)); have n4_ := Aside0.mk ((by rw [hg]; exact (below_size (by repeat (first | (with_reducible first | exact HB.out | apply below_alloc | apply pw_below_drewN | apply below_drew1 | refine below_set ?_ GE397.out) | exact HB.out))) : w.heap.size ≤ gb398)); have n5_ := Aside0.mk ((by rw [hg]; exact Nat.ne_of_lt (blk_lt (g := gb397) (o := .cells #[.string a0_0, .slice A0_1 l0_1.length c0_1, .slice A0_2 l0_2.length c0_2, .slice A0_3 l0_3.length c0_3] 28 (0, 0)) (by (with_reducible repeat (first | refine blk_drewN ?_ _ | refine blk_drew ?_ | refine blk_alloc ?_ _)); exact BK397.out)) : gb397 ≠ gb398)); have n6_ := Aside0.mk ((by rw [hg]; exact Nat.ne_of_gt (blk_lt (g := gb397) (o := .cells #[.string a0_0, .slice A0_1 l0_1.length c0_1, .slice A0_2 l0_2.length c0_2, .slice A0_3 l0_3.length c0_3] 28 (0, 0)) (by (with_reducible repeat (first | refine blk_drewN ?_ _ | refine blk_drew ?_ | refine blk_alloc ?_ _)); exact BK397.out)) : gb398 ≠ gb397)); clear BK397; clear HB; have BK397 := n0_; have HB := n1_; have BK398 := n2_; have GW398 := n3_; have GE398 := n4_; have NB397_398 := n5_; have NB398_397 := n6_; clear n0_ n1_ n2_ n3_ n4_ n5_ n6_; clear hb hbox hg)))
 (try simp only [Act.put, List.setIfInBounds_toArray, List.set_cons_zero, List.set_cons_succ])
 go_cut [40] (fun v40 wc => ∃ (kq : Nat) (x40_2 : Bool), v40 = .bool x40_2 ∧ Aside0 (alumref20_Same.j0 kq x40_2 a0_0 l0_1 l0_2 l0_3 a1_0 l1_1 l1_2 l1_3 = some r) ∧ Aside0 (kq ≤ k) ∧ Aside0 (wc.heap[gb397]? = some (.cells #[.string a0_0, (.slice A0_1 l0_1.length c0_1), (.slice A0_2 l0_2.length c0_2), (.slice A0_3 l0_3.length c0_3)] 28 (0, 0))) ∧ Aside0 (wc.heap[gb398]? = some (.cells #[.string a1_0, (.slice A1_1 l1_1.length c1_1), (.slice A1_2 l1_2.length c1_2), (.slice A1_3 l1_3.length c1_3)] 28 (0, 0))) ∧ Aside0 (Below w.heap.size w wc))
 case first =>
  have H := HC3.out
  clear HC3
  by_cases c6 : a0_0.toList = a1_0.toList
  ·rw [if_pos c6] at H
   have c6b0 : (a0_0.toList == a1_0.toList) = true := beq_iff_eq.mpr c6
   have c6b1 : (a0_0.toList != a1_0.toList) = false := bne_eq_false_iff_eq.mpr c6
   clear c6
   (first | rw [c6b0] | (simp only [i64_w, i32_w]; rw [c6b0]) | skip)
   by_cases c7 : (l0_1.length : Int) = (l1_1.length : Int)
   ·rw [if_pos c7] at H
    have c7b0 : ((l0_1.length : Int) == (l1_1.length : Int)) = true := beq_iff_eq.mpr c7
    have c7b1 : ((l0_1.length : Int) != (l1_1.length : Int)) = false := bne_eq_false_iff_eq.mpr c7
    have c7b2 : (l0_1.length == l1_1.length) = true := by first | simpa using c7 | (simp at c7 ⊢; omega)
    clear c7
    by_cases c8 : (l0_2.length : Int) = (l1_2.length : Int)
    ·rw [if_pos c8] at H
     have c8b0 : ((l0_2.length : Int) == (l1_2.length : Int)) = true := beq_iff_eq.mpr c8
     have c8b1 : ((l0_2.length : Int) != (l1_2.length : Int)) = false := bne_eq_false_iff_eq.mpr c8
     have c8b2 : (l0_2.length == l1_2.length) = true := by first | simpa using c8 | (simp at c8 ⊢; omega)
     clear c8
     have H' := Aside0.mk H
     clear H
     have hnb9 := NB397_398.out
     have hnc9 := NB398_397.out
     have hcz10_0 : w5.cell? ⟨gb397, 0, none⟩ = some (.string a0_0) := (blk_cell BK397.out 0).trans rfl
     have hcz10_1 : w5.cell? ⟨gb397, 1, none⟩ = some (.slice A0_1 l0_1.length c0_1) := (blk_cell BK397.out 1).trans rfl
     have hcz10_2 : w5.cell? ⟨gb397, 2, none⟩ = some (.slice A0_2 l0_2.length c0_2) := (blk_cell BK397.out 2).trans rfl
     have hcz10_3 : w5.cell? ⟨gb397, 3, none⟩ = some (.slice A0_3 l0_3.length c0_3) := (blk_cell BK397.out 3).trans rfl
     have hfz10_0 := blk_frozen BK397.out 0
     have hfz10_1 := blk_frozen BK397.out 1
     have hfz10_2 := blk_frozen BK397.out 2
     have hfz10_3 := blk_frozen BK397.out 3
     have hcz11_0 : w5.cell? ⟨gb398, 0, none⟩ = some (.string a1_0) := (blk_cell BK398.out 0).trans rfl
     have hcz11_1 : w5.cell? ⟨gb398, 1, none⟩ = some (.slice A1_1 l1_1.length c1_1) := (blk_cell BK398.out 1).trans rfl
     have hcz11_2 : w5.cell? ⟨gb398, 2, none⟩ = some (.slice A1_2 l1_2.length c1_2) := (blk_cell BK398.out 2).trans rfl
     have hcz11_3 : w5.cell? ⟨gb398, 3, none⟩ = some (.slice A1_3 l1_3.length c1_3) := (blk_cell BK398.out 3).trans rfl
     have hfz11_0 := blk_frozen BK398.out 0
     have hfz11_1 := blk_frozen BK398.out 1
     have hfz11_2 := blk_frozen BK398.out 2
     have hfz11_3 := blk_frozen BK398.out 3
     go_wp2
     repeat (go_quiet (fail); try go_wp2)
     go_meet
     case rel => exact ⟨_, (((l0_3.length : Int) != (l1_3.length : Int))), (by first | rfl | (simp; done) | (simp [*]; done)), H', ⟨by first | omega | exact Nat.le_refl _⟩, ⟨by (with_reducible repeat (first | refine blk_drewN ?_ _ | refine blk_drew ?_ | refine blk_alloc ?_ _)); exact BK397.out⟩, ⟨by (with_reducible repeat (first | refine blk_drewN ?_ _ | refine blk_drew ?_ | refine blk_alloc ?_ _)); exact BK398.out⟩, ⟨by repeat (first | (with_reducible first | exact HB.out | apply below_alloc | apply pw_below_drewN | apply below_drew1 | refine below_set ?_ GE397.out | refine below_set ?_ GE398.out) | exact HB.out)⟩⟩
    ·rw [if_neg c8] at H
     have c8b0 : ((l0_2.length : Int) == (l1_2.length : Int)) = false := beq_eq_false_iff_ne.mpr c8
     have c8b1 : ((l0_2.length : Int) != (l1_2.length : Int)) = true := bne_iff_ne.mpr c8
     have c8b2 : (l0_2.length == l1_2.length) = false := by first | simpa using c8 | (simp at c8 ⊢; omega)
     have H' := Aside0.mk H
     clear H
     have hnb12 := NB397_398.out
     have hnc12 := NB398_397.out
     have hcz13_0 : w5.cell? ⟨gb397, 0, none⟩ = some (.string a0_0) := (blk_cell BK397.out 0).trans rfl
     have hcz13_1 : w5.cell? ⟨gb397, 1, none⟩ = some (.slice A0_1 l0_1.length c0_1) := (blk_cell BK397.out 1).trans rfl
     have hcz13_2 : w5.cell? ⟨gb397, 2, none⟩ = some (.slice A0_2 l0_2.length c0_2) := (blk_cell BK397.out 2).trans rfl
     have hcz13_3 : w5.cell? ⟨gb397, 3, none⟩ = some (.slice A0_3 l0_3.length c0_3) := (blk_cell BK397.out 3).trans rfl
     have hfz13_0 := blk_frozen BK397.out 0
     have hfz13_1 := blk_frozen BK397.out 1
     have hfz13_2 := blk_frozen BK397.out 2
     have hfz13_3 := blk_frozen BK397.out 3
     have hcz14_0 : w5.cell? ⟨gb398, 0, none⟩ = some (.string a1_0) := (blk_cell BK398.out 0).trans rfl
     have hcz14_1 : w5.cell? ⟨gb398, 1, none⟩ = some (.slice A1_1 l1_1.length c1_1) := (blk_cell BK398.out 1).trans rfl
     have hcz14_2 : w5.cell? ⟨gb398, 2, none⟩ = some (.slice A1_2 l1_2.length c1_2) := (blk_cell BK398.out 2).trans rfl
     have hcz14_3 : w5.cell? ⟨gb398, 3, none⟩ = some (.slice A1_3 l1_3.length c1_3) := (blk_cell BK398.out 3).trans rfl
     have hfz14_0 := blk_frozen BK398.out 0
     have hfz14_1 := blk_frozen BK398.out 1
     have hfz14_2 := blk_frozen BK398.out 2
     have hfz14_3 := blk_frozen BK398.out 3
     go_wp2
     repeat (go_quiet (fail); try go_wp2)
     go_meet
     case rel => exact ⟨_, (true), (by first | rfl | (simp; done) | (simp [*]; done)), H', ⟨by first | omega | exact Nat.le_refl _⟩, ⟨by (with_reducible repeat (first | refine blk_drewN ?_ _ | refine blk_drew ?_ | refine blk_alloc ?_ _)); exact BK397.out⟩, ⟨by (with_reducible repeat (first | refine blk_drewN ?_ _ | refine blk_drew ?_ | refine blk_alloc ?_ _)); exact BK398.out⟩, ⟨by repeat (first | (with_reducible first | exact HB.out | apply below_alloc | apply pw_below_drewN | apply below_drew1 | refine below_set ?_ GE397.out | refine below_set ?_ GE398.out) | exact HB.out)⟩⟩
   ·rw [if_neg c7] at H
    have c7b0 : ((l0_1.length : Int) == (l1_1.length : Int)) = false := beq_eq_false_iff_ne.mpr c7
    have c7b1 : ((l0_1.length : Int) != (l1_1.length : Int)) = true := bne_iff_ne.mpr c7
    have c7b2 : (l0_1.length == l1_1.length) = false := by first | simpa using c7 | (simp at c7 ⊢; omega)
    have H' := Aside0.mk H
    clear H
    have hnb15 := NB397_398.out
    have hnc15 := NB398_397.out
    have hcz16_0 : w5.cell? ⟨gb397, 0, none⟩ = some (.string a0_0) := (blk_cell BK397.out 0).trans rfl
    have hcz16_1 : w5.cell? ⟨gb397, 1, none⟩ = some (.slice A0_1 l0_1.length c0_1) := (blk_cell BK397.out 1).trans rfl
    have hcz16_2 : w5.cell? ⟨gb397, 2, none⟩ = some (.slice A0_2 l0_2.length c0_2) := (blk_cell BK397.out 2).trans rfl
    have hcz16_3 : w5.cell? ⟨gb397, 3, none⟩ = some (.slice A0_3 l0_3.length c0_3) := (blk_cell BK397.out 3).trans rfl
    have hfz16_0 := blk_frozen BK397.out 0
    have hfz16_1 := blk_frozen BK397.out 1
    have hfz16_2 := blk_frozen BK397.out 2
    have hfz16_3 := blk_frozen BK397.out 3
    have hcz17_0 : w5.cell? ⟨gb398, 0, none⟩ = some (.string a1_0) := (blk_cell BK398.out 0).trans rfl
    have hcz17_1 : w5.cell? ⟨gb398, 1, none⟩ = some (.slice A1_1 l1_1.length c1_1) := (blk_cell BK398.out 1).trans rfl
    have hcz17_2 : w5.cell? ⟨gb398, 2, none⟩ = some (.slice A1_2 l1_2.length c1_2) := (blk_cell BK398.out 2).trans rfl
    have hcz17_3 : w5.cell? ⟨gb398, 3, none⟩ = some (.slice A1_3 l1_3.length c1_3) := (blk_cell BK398.out 3).trans rfl
    have hfz17_0 := blk_frozen BK398.out 0
    have hfz17_1 := blk_frozen BK398.out 1
    have hfz17_2 := blk_frozen BK398.out 2
    have hfz17_3 := blk_frozen BK398.out 3
    go_wp2
    repeat (go_quiet (fail); try go_wp2)
    go_meet
    case rel => exact ⟨_, (true), (by first | rfl | (simp; done) | (simp [*]; done)), H', ⟨by first | omega | exact Nat.le_refl _⟩, ⟨by (with_reducible repeat (first | refine blk_drewN ?_ _ | refine blk_drew ?_ | refine blk_alloc ?_ _)); exact BK397.out⟩, ⟨by (with_reducible repeat (first | refine blk_drewN ?_ _ | refine blk_drew ?_ | refine blk_alloc ?_ _)); exact BK398.out⟩, ⟨by repeat (first | (with_reducible first | exact HB.out | apply below_alloc | apply pw_below_drewN | apply below_drew1 | refine below_set ?_ GE397.out | refine below_set ?_ GE398.out) | exact HB.out)⟩⟩
  ·rw [if_neg c6] at H
   have c6b0 : (a0_0.toList == a1_0.toList) = false := beq_eq_false_iff_ne.mpr c6
   have c6b1 : (a0_0.toList != a1_0.toList) = true := bne_iff_ne.mpr c6
   (first | rw [c6b0] | (simp only [i64_w, i32_w]; rw [c6b0]) | skip)
   have H' := Aside0.mk H
   clear H
   have hnb18 := NB397_398.out
   have hnc18 := NB398_397.out
   have hcz19_0 : w5.cell? ⟨gb397, 0, none⟩ = some (.string a0_0) := (blk_cell BK397.out 0).trans rfl
   have hcz19_1 : w5.cell? ⟨gb397, 1, none⟩ = some (.slice A0_1 l0_1.length c0_1) := (blk_cell BK397.out 1).trans rfl
   have hcz19_2 : w5.cell? ⟨gb397, 2, none⟩ = some (.slice A0_2 l0_2.length c0_2) := (blk_cell BK397.out 2).trans rfl
   have hcz19_3 : w5.cell? ⟨gb397, 3, none⟩ = some (.slice A0_3 l0_3.length c0_3) := (blk_cell BK397.out 3).trans rfl
   have hfz19_0 := blk_frozen BK397.out 0
   have hfz19_1 := blk_frozen BK397.out 1
   have hfz19_2 := blk_frozen BK397.out 2
   have hfz19_3 := blk_frozen BK397.out 3
   have hcz20_0 : w5.cell? ⟨gb398, 0, none⟩ = some (.string a1_0) := (blk_cell BK398.out 0).trans rfl
   have hcz20_1 : w5.cell? ⟨gb398, 1, none⟩ = some (.slice A1_1 l1_1.length c1_1) := (blk_cell BK398.out 1).trans rfl
   have hcz20_2 : w5.cell? ⟨gb398, 2, none⟩ = some (.slice A1_2 l1_2.length c1_2) := (blk_cell BK398.out 2).trans rfl
   have hcz20_3 : w5.cell? ⟨gb398, 3, none⟩ = some (.slice A1_3 l1_3.length c1_3) := (blk_cell BK398.out 3).trans rfl
   have hfz20_0 := blk_frozen BK398.out 0
   have hfz20_1 := blk_frozen BK398.out 1
   have hfz20_2 := blk_frozen BK398.out 2
   have hfz20_3 := blk_frozen BK398.out 3
   go_wp2
   repeat (go_quiet (fail); try go_wp2)
   go_meet
   case rel => exact ⟨_, (true), (by first | rfl | (simp; done) | (simp [*]; done)), H', ⟨by first | omega | exact Nat.le_refl _⟩, ⟨by (with_reducible repeat (first | refine blk_drewN ?_ _ | refine blk_drew ?_ | refine blk_alloc ?_ _)); exact BK397.out⟩, ⟨by (with_reducible repeat (first | refine blk_drewN ?_ _ | refine blk_drew ?_ | refine blk_alloc ?_ _)); exact BK398.out⟩, ⟨by repeat (first | (with_reducible first | exact HB.out | apply below_alloc | apply pw_below_drewN | apply below_drew1 | refine below_set ?_ GE397.out | refine below_set ?_ GE398.out) | exact HB.out)⟩⟩
 case rest =>
  clear HC3
  try clear c1
  try clear p2
  try clear c5
  try clear c6
  try clear c6b0
  try clear c6b1
  try clear c7
  try clear c7b0
  try clear c7b1
  try clear c7b2
  try clear c8
  try clear c8b0
  try clear c8b1
  try clear c8b2
  try clear c9
  try clear c12
  try clear c15
  try clear c18
  try clear hcz10_0
  try clear hcz10_1
  try clear hcz10_2
  try clear hcz10_3
  try clear hcz11_0
  try clear hcz11_1
  try clear hcz11_2
  try clear hcz11_3
  try clear hcz13_0
  try clear hcz13_1
  try clear hcz13_2
  try clear hcz13_3
  try clear hcz14_0
  try clear hcz14_1
  try clear hcz14_2
  try clear hcz14_3
  try clear hcz16_0
  try clear hcz16_1
  try clear hcz16_2
  try clear hcz16_3
  try clear hcz17_0
  try clear hcz17_1
  try clear hcz17_2
  try clear hcz17_3
  try clear hcz19_0
  try clear hcz19_1
  try clear hcz19_2
  try clear hcz19_3
  try clear hcz20_0
  try clear hcz20_1
  try clear hcz20_2
  try clear hcz20_3
  try clear hfz10_0
  try clear hfz10_1
  try clear hfz10_2
  try clear hfz10_3
  try clear hfz11_0
  try clear hfz11_1
  try clear hfz11_2
  try clear hfz11_3
  try clear hfz13_0
  try clear hfz13_1
  try clear hfz13_2
  try clear hfz13_3
  try clear hfz14_0
  try clear hfz14_1
  try clear hfz14_2
  try clear hfz14_3
  try clear hfz16_0
  try clear hfz16_1
  try clear hfz16_2
  try clear hfz16_3
  try clear hfz17_0
  try clear hfz17_1
  try clear hfz17_2
  try clear hfz17_3
  try clear hfz19_0
  try clear hfz19_1
  try clear hfz19_2
  try clear hfz19_3
  try clear hfz20_0
  try clear hfz20_1
  try clear hfz20_2
  try clear hfz20_3
  obtain ⟨kq, x40_2, rfl, HA, HJ2, BK397, BK398, HB⟩ := hcut
  cases kq with
  | zero => exact absurd HA.out (by simp [alumref20_Same.j0])
  | succ kj2 =>
   have H := HA.out
   clear HA
   simp only [alumref20_Same.j0] at H
   by_cases c21 : x40_2 = true
   ·subst c21
    have H1 : (some false) = some r := by rw [if_pos rfl] at H; exact H
    clear H
    have H := H1
    clear H1
    obtain rfl := Option.some.inj H
    go_wp2
    repeat (go_quiet (fail); try go_wp2)
    go_ret
    exact ⟨by first | rfl | (simp [errW_none, errW_some] <;> rfl) | (simp [*, errW_none, errW_some] <;> rfl), by repeat (first | (with_reducible first | exact HB.out | apply below_alloc | apply pw_below_drewN | apply below_drew1 | refine below_set ?_ GE397.out | refine below_set ?_ GE398.out) | exact HB.out)⟩
   ·replace c21 := Bool.eq_false_iff.mpr c21
    subst c21
    have H1 : (alumref20_Same.l0 kj2 0 a0_0 l0_1 l0_2 l0_3 a1_0 l1_1 l1_2 l1_3) = some r := by rw [if_neg (show ¬ (false = true) by decide)] at H; exact H
    clear H
    have H := H1
    clear H1
    have H' := Aside0.mk H
    clear H
    go_wp2
    repeat (go_quiet (fail); try go_wp2)
    go_loopg [5] kj2 (fun kq v5 w' => ∃ (x5_2 : Int), v5 = .int .i64 x5_2 ∧ Aside0 (alumref20_Same.l0 kq x5_2 a0_0 l0_1 l0_2 l0_3 a1_0 l1_1 l1_2 l1_3 = some r) ∧ Aside0 (kq ≤ kj2) ∧ Aside0 (w'.heap[gb397]? = some (.cells #[.string a0_0, (.slice A0_1 l0_1.length c0_1), (.slice A0_2 l0_2.length c0_2), (.slice A0_3 l0_3.length c0_3)] 28 (0, 0))) ∧ Aside0 (w'.heap[gb398]? = some (.cells #[.string a1_0, (.slice A1_1 l1_1.length c1_1), (.slice A1_2 l1_2.length c1_2), (.slice A1_3 l1_3.length c1_3)] 28 (0, 0))) ∧ Aside0 (Below w.heap.size w w'))
    case atStart => exact ⟨(0), (by first | rfl | (simp; done) | (simp [*]; done)), H', ⟨Nat.le_refl _⟩, ⟨by (with_reducible repeat (first | refine blk_drewN ?_ _ | refine blk_drew ?_ | refine blk_alloc ?_ _)); exact BK397.out⟩, ⟨by (with_reducible repeat (first | refine blk_drewN ?_ _ | refine blk_drew ?_ | refine blk_alloc ?_ _)); exact BK398.out⟩, ⟨by repeat (first | (with_reducible first | exact HB.out | apply below_alloc | apply pw_below_drewN | apply below_drew1 | refine below_set ?_ GE397.out | refine below_set ?_ GE398.out) | exact HB.out)⟩⟩
    case round =>
     clear H'
     try clear c1
     try clear c2
     try clear p2
     try clear c5
     try clear c6
     try clear c6b0
     try clear c6b1
     try clear c7
     try clear c7b0
     try clear c7b1
     try clear c7b2
     try clear c8
     try clear c8b0
     try clear c8b1
     try clear c8b2
     try clear c9
     try clear c12
     try clear c15
     try clear c18
     try clear c21
     try clear hcz10_0
     try clear hcz10_1
     try clear hcz10_2
     try clear hcz10_3
     try clear hcz11_0
     try clear hcz11_1
     try clear hcz11_2
     try clear hcz11_3
     try clear hcz13_0
     try clear hcz13_1
     try clear hcz13_2
     try clear hcz13_3
     try clear hcz14_0
     try clear hcz14_1
     try clear hcz14_2
     try clear hcz14_3
     try clear hcz16_0
     try clear hcz16_1
     try clear hcz16_2
     try clear hcz16_3
     try clear hcz17_0
     try clear hcz17_1
     try clear hcz17_2
     try clear hcz17_3
     try clear hcz19_0
     try clear hcz19_1
     try clear hcz19_2
     try clear hcz19_3
     try clear hcz20_0
     try clear hcz20_1
     try clear hcz20_2
     try clear hcz20_3
     try clear hfz10_0
     try clear hfz10_1
     try clear hfz10_2
     try clear hfz10_3
     try clear hfz11_0
     try clear hfz11_1
     try clear hfz11_2
     try clear hfz11_3
     try clear hfz13_0
     try clear hfz13_1
     try clear hfz13_2
     try clear hfz13_3
     try clear hfz14_0
     try clear hfz14_1
     try clear hfz14_2
     try clear hfz14_3
     try clear hfz16_0
     try clear hfz16_1
     try clear hfz16_2
     try clear hfz16_3
     try clear hfz17_0
     try clear hfz17_1
     try clear hfz17_2
     try clear hfz17_3
     try clear hfz19_0
     try clear hfz19_1
     try clear hfz19_2
     try clear hfz19_3
     try clear hfz20_0
     try clear hfz20_1
     try clear hfz20_2
     try clear hfz20_3
     try clear p2
     obtain ⟨x5_2, rfl, HA, HK2, BK397, BK398, HB⟩ := hrel
     cases gk with
     | zero => exact absurd HA.out (by simp [alumref20_Same.l0])
     | succ k2 =>
      have H := HA.out
      clear HA
      simp only [alumref20_Same.l0] at H
      by_cases c22 : x5_2 < (l0_1.length : Int)
      ·rw [if_pos c22] at H
       have c22b0 : decide (x5_2 < (l0_1.length : Int)) = true := decide_eq_true c22
       clear c22
       by_cases c23 : 0 ≤ x5_2
       ·rw [if_pos c23] at H
        have c23b0 : decide (0 ≤ x5_2) = true := decide_eq_true c23
        clear c23
        by_cases c24 : x5_2 < (l1_1.length : Int)
        ·rw [if_pos c24] at H
         have c24b0 : decide (x5_2 < (l1_1.length : Int)) = true := decide_eq_true c24
         clear c24
         by_cases c25 : (!((((rd_T56 l0_1 x5_2).f0).toList) == (((rd_T56 l1_1 x5_2).f0).toList)) || (!(((rd_T56 l0_1 x5_2).f1) == ((rd_T56 l1_1 x5_2).f1)) || (!(((rd_T56 l0_1 x5_2).f2) == ((rd_T56 l1_1 x5_2).f2))))) = true
         ·rw [if_pos c25] at H
          have c25b0 : (!((((rd_T56 l0_1 x5_2).f0).toList) == (((rd_T56 l1_1 x5_2).f0).toList)) || (!(((rd_T56 l0_1 x5_2).f1) == ((rd_T56 l1_1 x5_2).f1)) || (!(((rd_T56 l0_1 x5_2).f2) == ((rd_T56 l1_1 x5_2).f2))))) = true := c25
          clear c25
          obtain rfl := Option.some.inj H
          have hnb26 := NB397_398.out
          have hnc26 := NB398_397.out
          have hcz27_0 : wr.cell? ⟨gb397, 0, none⟩ = some (.string a0_0) := (blk_cell BK397.out 0).trans rfl
          have hcz27_1 : wr.cell? ⟨gb397, 1, none⟩ = some (.slice A0_1 l0_1.length c0_1) := (blk_cell BK397.out 1).trans rfl
          have hcz27_2 : wr.cell? ⟨gb397, 2, none⟩ = some (.slice A0_2 l0_2.length c0_2) := (blk_cell BK397.out 2).trans rfl
          have hcz27_3 : wr.cell? ⟨gb397, 3, none⟩ = some (.slice A0_3 l0_3.length c0_3) := (blk_cell BK397.out 3).trans rfl
          have hfz27_0 := blk_frozen BK397.out 0
          have hfz27_1 := blk_frozen BK397.out 1
          have hfz27_2 := blk_frozen BK397.out 2
          have hfz27_3 := blk_frozen BK397.out 3
          have p399 : 0 ≤ (x5_2 : Int) := of_decide_eq_true (by first | (with_reducible assumption) | assumption)
          have q399 : x5_2 < (l0_1.length : Int) := of_decide_eq_true (by first | (with_reducible assumption) | assumption)
          obtain ⟨ad399, e399, hx399_0, hx399_1, hx399_2⟩ := at_T56 HR0_1.out x5_2 p399 q399
          cases e399
          replace hx399_0 := (HB.out.cell (World.block_lt_of_cell? w _ hx399_0)).trans hx399_0
          replace hx399_1 := (HB.out.cell (World.block_lt_of_cell? w _ hx399_1)).trans hx399_1
          replace hx399_2 := (HB.out.cell (World.block_lt_of_cell? w _ hx399_2)).trans hx399_2
          replace p399 := eq_true p399
          replace q399 := eq_true q399
          have hcz28_0 : wr.cell? ⟨gb398, 0, none⟩ = some (.string a1_0) := (blk_cell BK398.out 0).trans rfl
          have hcz28_1 : wr.cell? ⟨gb398, 1, none⟩ = some (.slice A1_1 l1_1.length c1_1) := (blk_cell BK398.out 1).trans rfl
          have hcz28_2 : wr.cell? ⟨gb398, 2, none⟩ = some (.slice A1_2 l1_2.length c1_2) := (blk_cell BK398.out 2).trans rfl
          have hcz28_3 : wr.cell? ⟨gb398, 3, none⟩ = some (.slice A1_3 l1_3.length c1_3) := (blk_cell BK398.out 3).trans rfl
          have hfz28_0 := blk_frozen BK398.out 0
          have hfz28_1 := blk_frozen BK398.out 1
          have hfz28_2 := blk_frozen BK398.out 2
          have hfz28_3 := blk_frozen BK398.out 3
          have p400 : 0 ≤ (x5_2 : Int) := of_decide_eq_true (by first | (with_reducible assumption) | assumption)
          have q400 : x5_2 < (l1_1.length : Int) := of_decide_eq_true (by first | (with_reducible assumption) | assumption)
          obtain ⟨ad400, e400, hx400_0, hx400_1, hx400_2⟩ := at_T56 HR1_1.out x5_2 p400 q400
          cases e400
          replace hx400_0 := (HB.out.cell (World.block_lt_of_cell? w _ hx400_0)).trans hx400_0
          replace hx400_1 := (HB.out.cell (World.block_lt_of_cell? w _ hx400_1)).trans hx400_1
          replace hx400_2 := (HB.out.cell (World.block_lt_of_cell? w _ hx400_2)).trans hx400_2
          replace p400 := eq_true p400
          replace q400 := eq_true q400
          go_wp2
          repeat (go_quiet (fail); try go_wp2)
          go_ret
          exact ⟨by first | rfl | (simp [errW_none, errW_some] <;> rfl) | (simp [*, errW_none, errW_some] <;> rfl), by repeat (first | (with_reducible first | exact HB.out | apply below_alloc | apply pw_below_drewN | apply below_drew1 | refine below_set ?_ GE397.out | refine below_set ?_ GE398.out) | exact HB.out)⟩
         ·rw [if_neg c25] at H
          have c25b0 : (!((((rd_T56 l0_1 x5_2).f0).toList) == (((rd_T56 l1_1 x5_2).f0).toList)) || (!(((rd_T56 l0_1 x5_2).f1) == ((rd_T56 l1_1 x5_2).f1)) || (!(((rd_T56 l0_1 x5_2).f2) == ((rd_T56 l1_1 x5_2).f2))))) = false := by simpa using c25
          clear c25
          have H' := Aside0.mk H
          clear H
          have hnb29 := NB397_398.out
          have hnc29 := NB398_397.out
          have hcz30_0 : wr.cell? ⟨gb397, 0, none⟩ = some (.string a0_0) := (blk_cell BK397.out 0).trans rfl
          have hcz30_1 : wr.cell? ⟨gb397, 1, none⟩ = some (.slice A0_1 l0_1.length c0_1) := (blk_cell BK397.out 1).trans rfl
          have hcz30_2 : wr.cell? ⟨gb397, 2, none⟩ = some (.slice A0_2 l0_2.length c0_2) := (blk_cell BK397.out 2).trans rfl
          have hcz30_3 : wr.cell? ⟨gb397, 3, none⟩ = some (.slice A0_3 l0_3.length c0_3) := (blk_cell BK397.out 3).trans rfl
          have hfz30_0 := blk_frozen BK397.out 0
          have hfz30_1 := blk_frozen BK397.out 1
          have hfz30_2 := blk_frozen BK397.out 2
          have hfz30_3 := blk_frozen BK397.out 3
          have p399 : 0 ≤ (x5_2 : Int) := of_decide_eq_true (by first | (with_reducible assumption) | assumption)
          have q399 : x5_2 < (l0_1.length : Int) := of_decide_eq_true (by first | (with_reducible assumption) | assumption)
          obtain ⟨ad399, e399, hx399_0, hx399_1, hx399_2⟩ := at_T56 HR0_1.out x5_2 p399 q399
          cases e399
          replace hx399_0 := (HB.out.cell (World.block_lt_of_cell? w _ hx399_0)).trans hx399_0
          replace hx399_1 := (HB.out.cell (World.block_lt_of_cell? w _ hx399_1)).trans hx399_1
          replace hx399_2 := (HB.out.cell (World.block_lt_of_cell? w _ hx399_2)).trans hx399_2
          replace p399 := eq_true p399
          replace q399 := eq_true q399
          have hcz31_0 : wr.cell? ⟨gb398, 0, none⟩ = some (.string a1_0) := (blk_cell BK398.out 0).trans rfl
          have hcz31_1 : wr.cell? ⟨gb398, 1, none⟩ = some (.slice A1_1 l1_1.length c1_1) := (blk_cell BK398.out 1).trans rfl
          have hcz31_2 : wr.cell? ⟨gb398, 2, none⟩ = some (.slice A1_2 l1_2.length c1_2) := (blk_cell BK398.out 2).trans rfl
          have hcz31_3 : wr.cell? ⟨gb398, 3, none⟩ = some (.slice A1_3 l1_3.length c1_3) := (blk_cell BK398.out 3).trans rfl
          have hfz31_0 := blk_frozen BK398.out 0
          have hfz31_1 := blk_frozen BK398.out 1
          have hfz31_2 := blk_frozen BK398.out 2
          have hfz31_3 := blk_frozen BK398.out 3
          have p400 : 0 ≤ (x5_2 : Int) := of_decide_eq_true (by first | (with_reducible assumption) | assumption)
          have q400 : x5_2 < (l1_1.length : Int) := of_decide_eq_true (by first | (with_reducible assumption) | assumption)
          obtain ⟨ad400, e400, hx400_0, hx400_1, hx400_2⟩ := at_T56 HR1_1.out x5_2 p400 q400
          cases e400
          replace hx400_0 := (HB.out.cell (World.block_lt_of_cell? w _ hx400_0)).trans hx400_0
          replace hx400_1 := (HB.out.cell (World.block_lt_of_cell? w _ hx400_1)).trans hx400_1
          replace hx400_2 := (HB.out.cell (World.block_lt_of_cell? w _ hx400_2)).trans hx400_2
          replace p400 := eq_true p400
          replace q400 := eq_true q400
          go_wp2
          repeat (go_quiet (fail); try go_wp2)
          go_roundg k2
          case measure => have := HJ2.out; have := HK2.out; omega
          case rel => exact ⟨(wrap64 (x5_2 + 1)), (by first | rfl | (simp; done) | (simp [*]; done)), H', ⟨by have := HJ2.out; have := HK2.out; omega⟩, ⟨by (with_reducible repeat (first | refine blk_drewN ?_ _ | refine blk_drew ?_ | refine blk_alloc ?_ _)); exact BK397.out⟩, ⟨by (with_reducible repeat (first | refine blk_drewN ?_ _ | refine blk_drew ?_ | refine blk_alloc ?_ _)); exact BK398.out⟩, ⟨by repeat (first | (with_reducible first | exact HB.out | apply below_alloc | apply pw_below_drewN | apply below_drew1 | refine below_set ?_ GE397.out | refine below_set ?_ GE398.out) | exact HB.out)⟩⟩
        ·rw [if_neg c24] at H
         exact absurd H (by simp)
       ·rw [if_neg c23] at H
        exact absurd H (by simp)
      ·rw [if_neg c22] at H
       have c22b0 : decide (x5_2 < (l0_1.length : Int)) = false := decide_eq_false c22
       clear c22
       have H' := Aside0.mk H
       clear H
       have hnb32 := NB397_398.out
       have hnc32 := NB398_397.out
       have hcz33_0 : wr.cell? ⟨gb397, 0, none⟩ = some (.string a0_0) := (blk_cell BK397.out 0).trans rfl
       have hcz33_1 : wr.cell? ⟨gb397, 1, none⟩ = some (.slice A0_1 l0_1.length c0_1) := (blk_cell BK397.out 1).trans rfl
       have hcz33_2 : wr.cell? ⟨gb397, 2, none⟩ = some (.slice A0_2 l0_2.length c0_2) := (blk_cell BK397.out 2).trans rfl
       have hcz33_3 : wr.cell? ⟨gb397, 3, none⟩ = some (.slice A0_3 l0_3.length c0_3) := (blk_cell BK397.out 3).trans rfl
       have hfz33_0 := blk_frozen BK397.out 0
       have hfz33_1 := blk_frozen BK397.out 1
       have hfz33_2 := blk_frozen BK397.out 2
       have hfz33_3 := blk_frozen BK397.out 3
       go_wp2
       repeat (go_quiet (fail); try go_wp2)
       go_loopg [6] k2 (fun kq v6 w' => ∃ (x6_3 : Int), v6 = .int .i64 x6_3 ∧ Aside0 (alumref20_Same.l1 kq x6_3 a0_0 l0_1 l0_2 l0_3 a1_0 l1_1 l1_2 l1_3 = some r) ∧ Aside0 (kq ≤ k2) ∧ Aside0 (w'.heap[gb397]? = some (.cells #[.string a0_0, (.slice A0_1 l0_1.length c0_1), (.slice A0_2 l0_2.length c0_2), (.slice A0_3 l0_3.length c0_3)] 28 (0, 0))) ∧ Aside0 (w'.heap[gb398]? = some (.cells #[.string a1_0, (.slice A1_1 l1_1.length c1_1), (.slice A1_2 l1_2.length c1_2), (.slice A1_3 l1_3.length c1_3)] 28 (0, 0))) ∧ Aside0 (Below w.heap.size w w'))
       case atStart => exact ⟨(0), (by first | rfl | (simp; done) | (simp [*]; done)), H', ⟨Nat.le_refl _⟩, ⟨by (with_reducible repeat (first | refine blk_drewN ?_ _ | refine blk_drew ?_ | refine blk_alloc ?_ _)); exact BK397.out⟩, ⟨by (with_reducible repeat (first | refine blk_drewN ?_ _ | refine blk_drew ?_ | refine blk_alloc ?_ _)); exact BK398.out⟩, ⟨by repeat (first | (with_reducible first | exact HB.out | apply below_alloc | apply pw_below_drewN | apply below_drew1 | refine below_set ?_ GE397.out | refine below_set ?_ GE398.out) | exact HB.out)⟩⟩
       case round =>
        clear H'
        try clear c1
        try clear c2
        try clear p2
        try clear c3
        try clear p3
        try clear q3
        try clear hx3
        try clear p4
        try clear q4
        try clear hx4
        try clear c5
        try clear c6
        try clear c6b0
        try clear c6b1
        try clear p6
        try clear c7
        try clear c7b0
        try clear c7b1
        try clear c7b2
        try clear c8
        try clear c8b0
        try clear c8b1
        try clear c8b2
        try clear c9
        try clear c12
        try clear c15
        try clear c18
        try clear c21
        try clear c22
        try clear c22b0
        try clear c23
        try clear c23b0
        try clear c24
        try clear c24b0
        try clear c25
        try clear c25b0
        try clear c26
        try clear c29
        try clear c32
        try clear hcz10_0
        try clear hcz10_1
        try clear hcz10_2
        try clear hcz10_3
        try clear hcz11_0
        try clear hcz11_1
        try clear hcz11_2
        try clear hcz11_3
        try clear hcz13_0
        try clear hcz13_1
        try clear hcz13_2
        try clear hcz13_3
        try clear hcz14_0
        try clear hcz14_1
        try clear hcz14_2
        try clear hcz14_3
        try clear hcz16_0
        try clear hcz16_1
        try clear hcz16_2
        try clear hcz16_3
        try clear hcz17_0
        try clear hcz17_1
        try clear hcz17_2
        try clear hcz17_3
        try clear hcz19_0
        try clear hcz19_1
        try clear hcz19_2
        try clear hcz19_3
        try clear hcz20_0
        try clear hcz20_1
        try clear hcz20_2
        try clear hcz20_3
        try clear hcz27_0
        try clear hcz27_1
        try clear hcz27_2
        try clear hcz27_3
        try clear hcz28_0
        try clear hcz28_1
        try clear hcz28_2
        try clear hcz28_3
        try clear hcz30_0
        try clear hcz30_1
        try clear hcz30_2
        try clear hcz30_3
        try clear hcz31_0
        try clear hcz31_1
        try clear hcz31_2
        try clear hcz31_3
        try clear hcz33_0
        try clear hcz33_1
        try clear hcz33_2
        try clear hcz33_3
        try clear hfz10_0
        try clear hfz10_1
        try clear hfz10_2
        try clear hfz10_3
        try clear hfz11_0
        try clear hfz11_1
        try clear hfz11_2
        try clear hfz11_3
        try clear hfz13_0
        try clear hfz13_1
        try clear hfz13_2
        try clear hfz13_3
        try clear hfz14_0
        try clear hfz14_1
        try clear hfz14_2
        try clear hfz14_3
        try clear hfz16_0
        try clear hfz16_1
        try clear hfz16_2
        try clear hfz16_3
        try clear hfz17_0
        try clear hfz17_1
        try clear hfz17_2
        try clear hfz17_3
        try clear hfz19_0
        try clear hfz19_1
        try clear hfz19_2
        try clear hfz19_3
        try clear hfz20_0
        try clear hfz20_1
        try clear hfz20_2
        try clear hfz20_3
        try clear hfz27_0
        try clear hfz27_1
        try clear hfz27_2
        try clear hfz27_3
        try clear hfz28_0
        try clear hfz28_1
        try clear hfz28_2
        try clear hfz28_3
        try clear hfz30_0
        try clear hfz30_1
        try clear hfz30_2
        try clear hfz30_3
        try clear hfz31_0
        try clear hfz31_1
        try clear hfz31_2
        try clear hfz31_3
        try clear hfz33_0
        try clear hfz33_1
        try clear hfz33_2
        try clear hfz33_3
        try clear hx399_0
        try clear hx399_1
        try clear hx399_2
        try clear hx400_0
        try clear hx400_1
        try clear hx400_2
        try clear p2
        try clear p399
        try clear p400
        try clear q399
        try clear q400
        obtain ⟨x6_3, rfl, HA, HK3, BK397, BK398, HB⟩ := hrel
        cases gk with
        | zero => exact absurd HA.out (by simp [alumref20_Same.l1])
        | succ k3 =>
         have H := HA.out
         clear HA
         simp only [alumref20_Same.l1] at H
         by_cases c34 : x6_3 < (l0_2.length : Int)
         ·rw [if_pos c34] at H
          have c34b0 : decide (x6_3 < (l0_2.length : Int)) = true := decide_eq_true c34
          clear c34
          by_cases c35 : 0 ≤ x6_3
          ·rw [if_pos c35] at H
           have c35b0 : decide (0 ≤ x6_3) = true := decide_eq_true c35
           clear c35
           by_cases c36 : x6_3 < (l1_2.length : Int)
           ·rw [if_pos c36] at H
            have c36b0 : decide (x6_3 < (l1_2.length : Int)) = true := decide_eq_true c36
            clear c36
            replace H := Option.bind_eq_some_iff.mp H
            obtain ⟨t403, A370, H⟩ := H
            replace H : (if t403 = true then (if ((rd_T65 l0_2 x6_3).f0).toList = ((rd_T65 l1_2 x6_3).f0).toList then (if (((rd_T65 l0_2 x6_3).f2) != ((rd_T65 l1_2 x6_3).f2)) = true then (some false) else (alumref20_Same.l1 k3 (wrap64 (x6_3 + 1)) a0_0 l0_1 l0_2 l0_3 a1_0 l1_1 l1_2 l1_3)) else (some false)) else (some false)) = some r := H
            have A37 := Aside0.mk A370
            clear A370
            by_cases c38 : t403 = true
            ·subst c38
             have H1 : (if ((rd_T65 l0_2 x6_3).f0).toList = ((rd_T65 l1_2 x6_3).f0).toList then (if (((rd_T65 l0_2 x6_3).f2) != ((rd_T65 l1_2 x6_3).f2)) = true then (some false) else (alumref20_Same.l1 k3 (wrap64 (x6_3 + 1)) a0_0 l0_1 l0_2 l0_3 a1_0 l1_1 l1_2 l1_3)) else (some false)) = some r := by rw [if_pos rfl] at H; exact H
             clear H
             have H := H1
             clear H1
             by_cases c39 : ((rd_T65 l0_2 x6_3).f0).toList = ((rd_T65 l1_2 x6_3).f0).toList
             ·rw [if_pos c39] at H
              have c39b0 : (((rd_T65 l0_2 x6_3).f0).toList == ((rd_T65 l1_2 x6_3).f0).toList) = true := beq_iff_eq.mpr c39
              have c39b1 : (((rd_T65 l0_2 x6_3).f0).toList != ((rd_T65 l1_2 x6_3).f0).toList) = false := bne_eq_false_iff_eq.mpr c39
              clear c39
              by_cases c40 : (((rd_T65 l0_2 x6_3).f2) != ((rd_T65 l1_2 x6_3).f2)) = true
              ·rw [if_pos c40] at H
               have c40b0 : (((rd_T65 l0_2 x6_3).f2) != ((rd_T65 l1_2 x6_3).f2)) = true := c40
               (try (have c40b1 : decide (((rd_T65 l0_2 x6_3).f2) = ((rd_T65 l1_2 x6_3).f2)) = false := by simpa using c40))
               (try (have c40b2 : (((rd_T65 l0_2 x6_3).f2) == ((rd_T65 l1_2 x6_3).f2)) = false := by simpa using c40))
               (try (have c40b3 : ¬ (((rd_T65 l0_2 x6_3).f2) = ((rd_T65 l1_2 x6_3).f2)) := by simpa using c40))
               clear c40
               obtain rfl := Option.some.inj H
               have hnb41 := NB397_398.out
               have hnc41 := NB398_397.out
               have hcz42_0 : wr.cell? ⟨gb397, 0, none⟩ = some (.string a0_0) := (blk_cell BK397.out 0).trans rfl
               have hcz42_1 : wr.cell? ⟨gb397, 1, none⟩ = some (.slice A0_1 l0_1.length c0_1) := (blk_cell BK397.out 1).trans rfl
               have hcz42_2 : wr.cell? ⟨gb397, 2, none⟩ = some (.slice A0_2 l0_2.length c0_2) := (blk_cell BK397.out 2).trans rfl
               have hcz42_3 : wr.cell? ⟨gb397, 3, none⟩ = some (.slice A0_3 l0_3.length c0_3) := (blk_cell BK397.out 3).trans rfl
               have hfz42_0 := blk_frozen BK397.out 0
               have hfz42_1 := blk_frozen BK397.out 1
               have hfz42_2 := blk_frozen BK397.out 2
               have hfz42_3 := blk_frozen BK397.out 3
               have p401 : 0 ≤ (x6_3 : Int) := of_decide_eq_true (by first | (with_reducible assumption) | assumption)
               have q401 : x6_3 < (l0_2.length : Int) := of_decide_eq_true (by first | (with_reducible assumption) | assumption)
               obtain ⟨ad401, A401_1, c401_1, e401, hx401_0, hx401_1, hx401_2, hl401_1, hi401_1⟩ := at_T65 HR0_2.out x6_3 p401 q401
               cases e401
               replace hx401_0 := (HB.out.cell (World.block_lt_of_cell? w _ hx401_0)).trans hx401_0
               replace hx401_1 := (HB.out.cell (World.block_lt_of_cell? w _ hx401_1)).trans hx401_1
               replace hx401_2 := (HB.out.cell (World.block_lt_of_cell? w _ hx401_2)).trans hx401_2
               have HR401_1 := Aside0.mk hi401_1
               have HC401_1 := Aside0.mk hl401_1
               clear hi401_1 hl401_1
               replace p401 := eq_true p401
               replace q401 := eq_true q401
               have hcz43_0 : wr.cell? ⟨gb398, 0, none⟩ = some (.string a1_0) := (blk_cell BK398.out 0).trans rfl
               have hcz43_1 : wr.cell? ⟨gb398, 1, none⟩ = some (.slice A1_1 l1_1.length c1_1) := (blk_cell BK398.out 1).trans rfl
               have hcz43_2 : wr.cell? ⟨gb398, 2, none⟩ = some (.slice A1_2 l1_2.length c1_2) := (blk_cell BK398.out 2).trans rfl
               have hcz43_3 : wr.cell? ⟨gb398, 3, none⟩ = some (.slice A1_3 l1_3.length c1_3) := (blk_cell BK398.out 3).trans rfl
               have hfz43_0 := blk_frozen BK398.out 0
               have hfz43_1 := blk_frozen BK398.out 1
               have hfz43_2 := blk_frozen BK398.out 2
               have hfz43_3 := blk_frozen BK398.out 3
               have p402 : 0 ≤ (x6_3 : Int) := of_decide_eq_true (by first | (with_reducible assumption) | assumption)
               have q402 : x6_3 < (l1_2.length : Int) := of_decide_eq_true (by first | (with_reducible assumption) | assumption)
               obtain ⟨ad402, A402_1, c402_1, e402, hx402_0, hx402_1, hx402_2, hl402_1, hi402_1⟩ := at_T65 HR1_2.out x6_3 p402 q402
               cases e402
               replace hx402_0 := (HB.out.cell (World.block_lt_of_cell? w _ hx402_0)).trans hx402_0
               replace hx402_1 := (HB.out.cell (World.block_lt_of_cell? w _ hx402_1)).trans hx402_1
               replace hx402_2 := (HB.out.cell (World.block_lt_of_cell? w _ hx402_2)).trans hx402_2
               have HR402_1 := Aside0.mk hi402_1
               have HC402_1 := Aside0.mk hl402_1
               clear hi402_1 hl402_1
               replace p402 := eq_true p402
               replace q402 := eq_true q402
               go_wp2_with (first | (go_at_call 30; (with_reducible refine (alumref20_SameInts.calls k3 _ _ ((rd_T65 l0_2 x6_3).f1) _ _ ((rd_T65 l1_2 x6_3).f1) true _ ?side1 ?side2 ?side3 ?side4 A37.out).mono ?_); (case side1 => repeat (first | exact (Kd.C_below HR401_1.out HB.out) | (with_reducible refine Kd.C_alloc ?_ _) | (with_reducible refine Kd.C_drewN ?_ _) | (with_reducible refine Kd.C_drew ?_))); (case side2 => exact HC401_1.out); (case side3 => repeat (first | exact (Kd.C_below HR402_1.out HB.out) | (with_reducible refine Kd.C_alloc ?_ _) | (with_reducible refine Kd.C_drewN ?_ _) | (with_reducible refine Kd.C_drew ?_))); (case side4 => exact HC402_1.out); rintro e w' ⟨rfl, ⟨nd, rfl⟩⟩; (try first | exact ⟨rfl, _, World.drewN_drewN _ _ _⟩ | exact ⟨rfl, _, Eq.trans (World.drewN_drewN _ _ _) (congrArg (World.drewN _) (Nat.add_assoc _ _ _))⟩); have p404 : 0 ≤ (x6_3 : Int) := of_decide_eq_true (by first | (with_reducible assumption) | assumption); have q404 : x6_3 < (l0_2.length : Int) := of_decide_eq_true (by first | (with_reducible assumption) | assumption); obtain ⟨ad404, A404_1, c404_1, e404, hx404_0, hx404_1, hx404_2, hl404_1, hi404_1⟩ := at_T65 HR0_2.out x6_3 p404 q404; obtain rfl : ad401 = ad404 := (by injection e404); replace hx404_0 := (HB.out.cell (World.block_lt_of_cell? w _ hx404_0)).trans hx404_0; replace hx404_1 := (HB.out.cell (World.block_lt_of_cell? w _ hx404_1)).trans hx404_1; replace hx404_2 := (HB.out.cell (World.block_lt_of_cell? w _ hx404_2)).trans hx404_2; have HR404_1 := Aside0.mk hi404_1; have HC404_1 := Aside0.mk hl404_1; clear hi404_1 hl404_1; replace p404 := eq_true p404; replace q404 := eq_true q404; have ea_ := Option.some.inj (hx401_1.symm.trans hx404_1); injection ea_ with ea_ en_ ec_; subst ea_; subst ec_; clear en_; have p405 : 0 ≤ (x6_3 : Int) := of_decide_eq_true (by first | (with_reducible assumption) | assumption); have q405 : x6_3 < (l1_2.length : Int) := of_decide_eq_true (by first | (with_reducible assumption) | assumption); obtain ⟨ad405, A405_1, c405_1, e405, hx405_0, hx405_1, hx405_2, hl405_1, hi405_1⟩ := at_T65 HR1_2.out x6_3 p405 q405; obtain rfl : ad402 = ad405 := (by injection e405); replace hx405_0 := (HB.out.cell (World.block_lt_of_cell? w _ hx405_0)).trans hx405_0; replace hx405_1 := (HB.out.cell (World.block_lt_of_cell? w _ hx405_1)).trans hx405_1; replace hx405_2 := (HB.out.cell (World.block_lt_of_cell? w _ hx405_2)).trans hx405_2; have HR405_1 := Aside0.mk hi405_1; have HC405_1 := Aside0.mk hl405_1; clear hi405_1 hl405_1; replace p405 := eq_true p405; replace q405 := eq_true q405; have ea_ := Option.some.inj (hx402_1.symm.trans hx405_1); injection ea_ with ea_ en_ ec_; subst ea_; subst ec_; clear en_; have p406 : 0 ≤ (x6_3 : Int) := of_decide_eq_true (by first | (with_reducible assumption) | assumption); have q406 : x6_3 < (l0_2.length : Int) := of_decide_eq_true (by first | (with_reducible assumption) | assumption); obtain ⟨ad406, A406_1, c406_1, e406, hx406_0, hx406_1, hx406_2, hl406_1, hi406_1⟩ := at_T65 HR0_2.out x6_3 p406 q406; obtain rfl : ad401 = ad406 := (by injection e406); replace hx406_0 := (HB.out.cell (World.block_lt_of_cell? w _ hx406_0)).trans hx406_0; replace hx406_1 := (HB.out.cell (World.block_lt_of_cell? w _ hx406_1)).trans hx406_1; replace hx406_2 := (HB.out.cell (World.block_lt_of_cell? w _ hx406_2)).trans hx406_2; have HR406_1 := Aside0.mk hi406_1; have HC406_1 := Aside0.mk hl406_1; clear hi406_1 hl406_1; replace p406 := eq_true p406; replace q406 := eq_true q406; have ea_ := Option.some.inj (hx401_1.symm.trans hx406_1); injection ea_ with ea_ en_ ec_; subst ea_; subst ec_; clear en_; have p407 : 0 ≤ (x6_3 : Int) := of_decide_eq_true (by first | (with_reducible assumption) | assumption); have q407 : x6_3 < (l1_2.length : Int) := of_decide_eq_true (by first | (with_reducible assumption) | assumption); obtain ⟨ad407, A407_1, c407_1, e407, hx407_0, hx407_1, hx407_2, hl407_1, hi407_1⟩ := at_T65 HR1_2.out x6_3 p407 q407; obtain rfl : ad402 = ad407 := (by injection e407); replace hx407_0 := (HB.out.cell (World.block_lt_of_cell? w _ hx407_0)).trans hx407_0; replace hx407_1 := (HB.out.cell (World.block_lt_of_cell? w _ hx407_1)).trans hx407_1; replace hx407_2 := (HB.out.cell (World.block_lt_of_cell? w _ hx407_2)).trans hx407_2; have HR407_1 := Aside0.mk hi407_1; have HC407_1 := Aside0.mk hl407_1; clear hi407_1 hl407_1; replace p407 := eq_true p407; replace q407 := eq_true q407; have ea_ := Option.some.inj (hx402_1.symm.trans hx407_1); injection ea_ with ea_ en_ ec_; subst ea_; subst ec_; clear en_))
               repeat (go_quiet (first | (go_at_call 30; (with_reducible refine (alumref20_SameInts.calls k3 _ _ ((rd_T65 l0_2 x6_3).f1) _ _ ((rd_T65 l1_2 x6_3).f1) true _ ?side1 ?side2 ?side3 ?side4 A37.out).mono ?_); (case side1 => repeat (first | exact (Kd.C_below HR401_1.out HB.out) | (with_reducible refine Kd.C_alloc ?_ _) | (with_reducible refine Kd.C_drewN ?_ _) | (with_reducible refine Kd.C_drew ?_))); (case side2 => exact HC401_1.out); (case side3 => repeat (first | exact (Kd.C_below HR402_1.out HB.out) | (with_reducible refine Kd.C_alloc ?_ _) | (with_reducible refine Kd.C_drewN ?_ _) | (with_reducible refine Kd.C_drew ?_))); (case side4 => exact HC402_1.out); rintro e w' ⟨rfl, ⟨nd, rfl⟩⟩; (try first | exact ⟨rfl, _, World.drewN_drewN _ _ _⟩ | exact ⟨rfl, _, Eq.trans (World.drewN_drewN _ _ _) (congrArg (World.drewN _) (Nat.add_assoc _ _ _))⟩); have p404 : 0 ≤ (x6_3 : Int) := of_decide_eq_true (by first | (with_reducible assumption) | assumption); have q404 : x6_3 < (l0_2.length : Int) := of_decide_eq_true (by first | (with_reducible assumption) | assumption); obtain ⟨ad404, A404_1, c404_1, e404, hx404_0, hx404_1, hx404_2, hl404_1, hi404_1⟩ := at_T65 HR0_2.out x6_3 p404 q404; obtain rfl : ad401 = ad404 := (by injection e404); replace hx404_0 := (HB.out.cell (World.block_lt_of_cell? w _ hx404_0)).trans hx404_0; replace hx404_1 := (HB.out.cell (World.block_lt_of_cell? w _ hx404_1)).trans hx404_1; replace hx404_2 := (HB.out.cell (World.block_lt_of_cell? w _ hx404_2)).trans hx404_2; have HR404_1 := Aside0.mk hi404_1; have HC404_1 := Aside0.mk hl404_1; clear hi404_1 hl404_1; replace p404 := eq_true p404; replace q404 := eq_true q404; have ea_ := Option.some.inj (hx401_1.symm.trans hx404_1); injection ea_ with ea_ en_ ec_; subst ea_; subst ec_; clear en_; have p405 : 0 ≤ (x6_3 : Int) := of_decide_eq_true (by first | (with_reducible assumption) | assumption); have q405 : x6_3 < (l1_2.length : Int) := of_decide_eq_true (by first | (with_reducible assumption) | assumption); obtain ⟨ad405, A405_1, c405_1, e405, hx405_0, hx405_1, hx405_2, hl405_1, hi405_1⟩ := at_T65 HR1_2.out x6_3 p405 q405; obtain rfl : ad402 = ad405 := (by injection e405); replace hx405_0 := (HB.out.cell (World.block_lt_of_cell? w _ hx405_0)).trans hx405_0; replace hx405_1 := (HB.out.cell (World.block_lt_of_cell? w _ hx405_1)).trans hx405_1; replace hx405_2 := (HB.out.cell (World.block_lt_of_cell? w _ hx405_2)).trans hx405_2; have HR405_1 := Aside0.mk hi405_1; have HC405_1 := Aside0.mk hl405_1; clear hi405_1 hl405_1; replace p405 := eq_true p405; replace q405 := eq_true q405; have ea_ := Option.some.inj (hx402_1.symm.trans hx405_1); injection ea_ with ea_ en_ ec_; subst ea_; subst ec_; clear en_; have p406 : 0 ≤ (x6_3 : Int) := of_decide_eq_true (by first | (with_reducible assumption) | assumption); have q406 : x6_3 < (l0_2.length : Int) := of_decide_eq_true (by first | (with_reducible assumption) | assumption); obtain ⟨ad406, A406_1, c406_1, e406, hx406_0, hx406_1, hx406_2, hl406_1, hi406_1⟩ := at_T65 HR0_2.out x6_3 p406 q406; obtain rfl : ad401 = ad406 := (by injection e406); replace hx406_0 := (HB.out.cell (World.block_lt_of_cell? w _ hx406_0)).trans hx406_0; replace hx406_1 := (HB.out.cell (World.block_lt_of_cell? w _ hx406_1)).trans hx406_1; replace hx406_2 := (HB.out.cell (World.block_lt_of_cell? w _ hx406_2)).trans hx406_2; have HR406_1 := Aside0.mk hi406_1; have HC406_1 := Aside0.mk hl406_1; clear hi406_1 hl406_1; replace p406 := eq_true p406; replace q406 := eq_true q406; have ea_ := Option.some.inj (hx401_1.symm.trans hx406_1); injection ea_ with ea_ en_ ec_; subst ea_; subst ec_; clear en_; have p407 : 0 ≤ (x6_3 : Int) := of_decide_eq_true (by first | (with_reducible assumption) | assumption); have q407 : x6_3 < (l1_2.length : Int) := of_decide_eq_true (by first | (with_reducible assumption) | assumption); obtain ⟨ad407, A407_1, c407_1, e407, hx407_0, hx407_1, hx407_2, hl407_1, hi407_1⟩ := at_T65 HR1_2.out x6_3 p407 q407; obtain rfl : ad402 = ad407 := (by injection e407); replace hx407_0 := (HB.out.cell (World.block_lt_of_cell? w _ hx407_0)).trans hx407_0; replace hx407_1 := (HB.out.cell (World.block_lt_of_cell? w _ hx407_1)).trans hx407_1; replace hx407_2 := (HB.out.cell (World.block_lt_of_cell? w _ hx407_2)).trans hx407_2; have HR407_1 := Aside0.mk hi407_1; have HC407_1 := Aside0.mk hl407_1; clear hi407_1 hl407_1; replace p407 := eq_true p407; replace q407 := eq_true q407; have ea_ := Option.some.inj (hx402_1.symm.trans hx407_1); injection ea_ with ea_ en_ ec_; subst ea_; subst ec_; clear en_)); try go_wp2_with (first | (go_at_call 30; (with_reducible refine (alumref20_SameInts.calls k3 _ _ ((rd_T65 l0_2 x6_3).f1) _ _ ((rd_T65 l1_2 x6_3).f1) true _ ?side1 ?side2 ?side3 ?side4 A37.out).mono ?_); (case side1 => repeat (first | exact (Kd.C_below HR401_1.out HB.out) | (with_reducible refine Kd.C_alloc ?_ _) | (with_reducible refine Kd.C_drewN ?_ _) | (with_reducible refine Kd.C_drew ?_))); (case side2 => exact HC401_1.out); (case side3 => repeat (first | exact (Kd.C_below HR402_1.out HB.out) | (with_reducible refine Kd.C_alloc ?_ _) | (with_reducible refine Kd.C_drewN ?_ _) | (with_reducible refine Kd.C_drew ?_))); (case side4 => exact HC402_1.out); rintro e w' ⟨rfl, ⟨nd, rfl⟩⟩; (try first | exact ⟨rfl, _, World.drewN_drewN _ _ _⟩ | exact ⟨rfl, _, Eq.trans (World.drewN_drewN _ _ _) (congrArg (World.drewN _) (Nat.add_assoc _ _ _))⟩); have p404 : 0 ≤ (x6_3 : Int) := of_decide_eq_true (by first | (with_reducible assumption) | assumption); have q404 : x6_3 < (l0_2.length : Int) := of_decide_eq_true (by first | (with_reducible assumption) | assumption); obtain ⟨ad404, A404_1, c404_1, e404, hx404_0, hx404_1, hx404_2, hl404_1, hi404_1⟩ := at_T65 HR0_2.out x6_3 p404 q404; obtain rfl : ad401 = ad404 := (by injection e404); replace hx404_0 := (HB.out.cell (World.block_lt_of_cell? w _ hx404_0)).trans hx404_0; replace hx404_1 := (HB.out.cell (World.block_lt_of_cell? w _ hx404_1)).trans hx404_1; replace hx404_2 := (HB.out.cell (World.block_lt_of_cell? w _ hx404_2)).trans hx404_2; have HR404_1 := Aside0.mk hi404_1; have HC404_1 := Aside0.mk hl404_1; clear hi404_1 hl404_1; replace p404 := eq_true p404; replace q404 := eq_true q404; have ea_ := Option.some.inj (hx401_1.symm.trans hx404_1); injection ea_ with ea_ en_ ec_; subst ea_; subst ec_; clear en_; have p405 : 0 ≤ (x6_3 : Int) := of_decide_eq_true (by first | (with_reducible assumption) | assumption); have q405 : x6_3 < (l1_2.length : Int) := of_decide_eq_true (by first | (with_reducible assumption) | assumption); obtain ⟨ad405, A405_1, c405_1, e405, hx405_0, hx405_1, hx405_2, hl405_1, hi405_1⟩ := at_T65 HR1_2.out x6_3 p405 q405; obtain rfl : ad402 = ad405 := (by injection e405); replace hx405_0 := (HB.out.cell (World.block_lt_of_cell? w _ hx405_0)).trans hx405_0; replace hx405_1 := (HB.out.cell (World.block_lt_of_cell? w _ hx405_1)).trans hx405_1; replace hx405_2 := (HB.out.cell (World.block_lt_of_cell? w _ hx405_2)).trans hx405_2; have HR405_1 := Aside0.mk hi405_1; have HC405_1 := Aside0.mk hl405_1; clear hi405_1 hl405_1; replace p405 := eq_true p405; replace q405 := eq_true q405; have ea_ := Option.some.inj (hx402_1.symm.trans hx405_1); injection ea_ with ea_ en_ ec_; subst ea_; subst ec_; clear en_; have p406 : 0 ≤ (x6_3 : Int) := of_decide_eq_true (by first | (with_reducible assumption) | assumption); have q406 : x6_3 < (l0_2.length : Int) := of_decide_eq_true (by first | (with_reducible assumption) | assumption); obtain ⟨ad406, A406_1, c406_1, e406, hx406_0, hx406_1, hx406_2, hl406_1, hi406_1⟩ := at_T65 HR0_2.out x6_3 p406 q406; obtain rfl : ad401 = ad406 := (by injection e406); replace hx406_0 := (HB.out.cell (World.block_lt_of_cell? w _ hx406_0)).trans hx406_0; replace hx406_1 := (HB.out.cell (World.block_lt_of_cell? w _ hx406_1)).trans hx406_1; replace hx406_2 := (HB.out.cell (World.block_lt_of_cell? w _ hx406_2)).trans hx406_2; have HR406_1 := Aside0.mk hi406_1; have HC406_1 := Aside0.mk hl406_1; clear hi406_1 hl406_1; replace p406 := eq_true p406; replace q406 := eq_true q406; have ea_ := Option.some.inj (hx401_1.symm.trans hx406_1); injection ea_ with ea_ en_ ec_; subst ea_; subst ec_; clear en_; have p407 : 0 ≤ (x6_3 : Int) := of_decide_eq_true (by first | (with_reducible assumption) | assumption); have q407 : x6_3 < (l1_2.length : Int) := of_decide_eq_true (by first | (with_reducible assumption) | assumption); obtain ⟨ad407, A407_1, c407_1, e407, hx407_0, hx407_1, hx407_2, hl407_1, hi407_1⟩ := at_T65 HR1_2.out x6_3 p407 q407; obtain rfl : ad402 = ad407 := (by injection e407); replace hx407_0 := (HB.out.cell (World.block_lt_of_cell? w _ hx407_0)).trans hx407_0; replace hx407_1 := (HB.out.cell (World.block_lt_of_cell? w _ hx407_1)).trans hx407_1; replace hx407_2 := (HB.out.cell (World.block_lt_of_cell? w _ hx407_2)).trans hx407_2; have HR407_1 := Aside0.mk hi407_1; have HC407_1 := Aside0.mk hl407_1; clear hi407_1 hl407_1; replace p407 := eq_true p407; replace q407 := eq_true q407; have ea_ := Option.some.inj (hx402_1.symm.trans hx407_1); injection ea_ with ea_ en_ ec_; subst ea_; subst ec_; clear en_)))
               go_ret
               exact ⟨by first | rfl | (simp [errW_none, errW_some] <;> rfl) | (simp [*, errW_none, errW_some] <;> rfl), by repeat (first | (with_reducible first | exact HB.out | apply below_alloc | apply pw_below_drewN | apply below_drew1 | refine below_set ?_ GE397.out | refine below_set ?_ GE398.out) | exact HB.out)⟩
              ·rw [if_neg c40] at H
               have c40b0 : (((rd_T65 l0_2 x6_3).f2) != ((rd_T65 l1_2 x6_3).f2)) = false := by simpa using c40
               (try (have c40b1 : decide (((rd_T65 l0_2 x6_3).f2) = ((rd_T65 l1_2 x6_3).f2)) = true := by simpa using c40))
               (try (have c40b2 : (((rd_T65 l0_2 x6_3).f2) == ((rd_T65 l1_2 x6_3).f2)) = true := by simpa using c40))
               clear c40
               have H' := Aside0.mk H
               clear H
               have hnb44 := NB397_398.out
               have hnc44 := NB398_397.out
               have hcz45_0 : wr.cell? ⟨gb397, 0, none⟩ = some (.string a0_0) := (blk_cell BK397.out 0).trans rfl
               have hcz45_1 : wr.cell? ⟨gb397, 1, none⟩ = some (.slice A0_1 l0_1.length c0_1) := (blk_cell BK397.out 1).trans rfl
               have hcz45_2 : wr.cell? ⟨gb397, 2, none⟩ = some (.slice A0_2 l0_2.length c0_2) := (blk_cell BK397.out 2).trans rfl
               have hcz45_3 : wr.cell? ⟨gb397, 3, none⟩ = some (.slice A0_3 l0_3.length c0_3) := (blk_cell BK397.out 3).trans rfl
               have hfz45_0 := blk_frozen BK397.out 0
               have hfz45_1 := blk_frozen BK397.out 1
               have hfz45_2 := blk_frozen BK397.out 2
               have hfz45_3 := blk_frozen BK397.out 3
               have p401 : 0 ≤ (x6_3 : Int) := of_decide_eq_true (by first | (with_reducible assumption) | assumption)
               have q401 : x6_3 < (l0_2.length : Int) := of_decide_eq_true (by first | (with_reducible assumption) | assumption)
               obtain ⟨ad401, A401_1, c401_1, e401, hx401_0, hx401_1, hx401_2, hl401_1, hi401_1⟩ := at_T65 HR0_2.out x6_3 p401 q401
               cases e401
               replace hx401_0 := (HB.out.cell (World.block_lt_of_cell? w _ hx401_0)).trans hx401_0
               replace hx401_1 := (HB.out.cell (World.block_lt_of_cell? w _ hx401_1)).trans hx401_1
               replace hx401_2 := (HB.out.cell (World.block_lt_of_cell? w _ hx401_2)).trans hx401_2
               have HR401_1 := Aside0.mk hi401_1
               have HC401_1 := Aside0.mk hl401_1
               clear hi401_1 hl401_1
               replace p401 := eq_true p401
               replace q401 := eq_true q401
               have hcz46_0 : wr.cell? ⟨gb398, 0, none⟩ = some (.string a1_0) := (blk_cell BK398.out 0).trans rfl
               have hcz46_1 : wr.cell? ⟨gb398, 1, none⟩ = some (.slice A1_1 l1_1.length c1_1) := (blk_cell BK398.out 1).trans rfl
               have hcz46_2 : wr.cell? ⟨gb398, 2, none⟩ = some (.slice A1_2 l1_2.length c1_2) := (blk_cell BK398.out 2).trans rfl
               have hcz46_3 : wr.cell? ⟨gb398, 3, none⟩ = some (.slice A1_3 l1_3.length c1_3) := (blk_cell BK398.out 3).trans rfl
               have hfz46_0 := blk_frozen BK398.out 0
               have hfz46_1 := blk_frozen BK398.out 1
               have hfz46_2 := blk_frozen BK398.out 2
               have hfz46_3 := blk_frozen BK398.out 3
               have p402 : 0 ≤ (x6_3 : Int) := of_decide_eq_true (by first | (with_reducible assumption) | assumption)
               have q402 : x6_3 < (l1_2.length : Int) := of_decide_eq_true (by first | (with_reducible assumption) | assumption)
               obtain ⟨ad402, A402_1, c402_1, e402, hx402_0, hx402_1, hx402_2, hl402_1, hi402_1⟩ := at_T65 HR1_2.out x6_3 p402 q402
               cases e402
               replace hx402_0 := (HB.out.cell (World.block_lt_of_cell? w _ hx402_0)).trans hx402_0
               replace hx402_1 := (HB.out.cell (World.block_lt_of_cell? w _ hx402_1)).trans hx402_1
               replace hx402_2 := (HB.out.cell (World.block_lt_of_cell? w _ hx402_2)).trans hx402_2
               have HR402_1 := Aside0.mk hi402_1
               have HC402_1 := Aside0.mk hl402_1
               clear hi402_1 hl402_1
               replace p402 := eq_true p402
               replace q402 := eq_true q402
               go_wp2_with (first | (go_at_call 30; (with_reducible refine (alumref20_SameInts.calls k3 _ _ ((rd_T65 l0_2 x6_3).f1) _ _ ((rd_T65 l1_2 x6_3).f1) true _ ?side1 ?side2 ?side3 ?side4 A37.out).mono ?_); (case side1 => repeat (first | exact (Kd.C_below HR401_1.out HB.out) | (with_reducible refine Kd.C_alloc ?_ _) | (with_reducible refine Kd.C_drewN ?_ _) | (with_reducible refine Kd.C_drew ?_))); (case side2 => exact HC401_1.out); (case side3 => repeat (first | exact (Kd.C_below HR402_1.out HB.out) | (with_reducible refine Kd.C_alloc ?_ _) | (with_reducible refine Kd.C_drewN ?_ _) | (with_reducible refine Kd.C_drew ?_))); (case side4 => exact HC402_1.out); rintro e w' ⟨rfl, ⟨nd, rfl⟩⟩; (try first | exact ⟨rfl, _, World.drewN_drewN _ _ _⟩ | exact ⟨rfl, _, Eq.trans (World.drewN_drewN _ _ _) (congrArg (World.drewN _) (Nat.add_assoc _ _ _))⟩); have p404 : 0 ≤ (x6_3 : Int) := of_decide_eq_true (by first | (with_reducible assumption) | assumption); have q404 : x6_3 < (l0_2.length : Int) := of_decide_eq_true (by first | (with_reducible assumption) | assumption); obtain ⟨ad404, A404_1, c404_1, e404, hx404_0, hx404_1, hx404_2, hl404_1, hi404_1⟩ := at_T65 HR0_2.out x6_3 p404 q404; obtain rfl : ad401 = ad404 := (by injection e404); replace hx404_0 := (HB.out.cell (World.block_lt_of_cell? w _ hx404_0)).trans hx404_0; replace hx404_1 := (HB.out.cell (World.block_lt_of_cell? w _ hx404_1)).trans hx404_1; replace hx404_2 := (HB.out.cell (World.block_lt_of_cell? w _ hx404_2)).trans hx404_2; have HR404_1 := Aside0.mk hi404_1; have HC404_1 := Aside0.mk hl404_1; clear hi404_1 hl404_1; replace p404 := eq_true p404; replace q404 := eq_true q404; have ea_ := Option.some.inj (hx401_1.symm.trans hx404_1); injection ea_ with ea_ en_ ec_; subst ea_; subst ec_; clear en_; have p405 : 0 ≤ (x6_3 : Int) := of_decide_eq_true (by first | (with_reducible assumption) | assumption); have q405 : x6_3 < (l1_2.length : Int) := of_decide_eq_true (by first | (with_reducible assumption) | assumption); obtain ⟨ad405, A405_1, c405_1, e405, hx405_0, hx405_1, hx405_2, hl405_1, hi405_1⟩ := at_T65 HR1_2.out x6_3 p405 q405; obtain rfl : ad402 = ad405 := (by injection e405); replace hx405_0 := (HB.out.cell (World.block_lt_of_cell? w _ hx405_0)).trans hx405_0; replace hx405_1 := (HB.out.cell (World.block_lt_of_cell? w _ hx405_1)).trans hx405_1; replace hx405_2 := (HB.out.cell (World.block_lt_of_cell? w _ hx405_2)).trans hx405_2; have HR405_1 := Aside0.mk hi405_1; have HC405_1 := Aside0.mk hl405_1; clear hi405_1 hl405_1; replace p405 := eq_true p405; replace q405 := eq_true q405; have ea_ := Option.some.inj (hx402_1.symm.trans hx405_1); injection ea_ with ea_ en_ ec_; subst ea_; subst ec_; clear en_; have p406 : 0 ≤ (x6_3 : Int) := of_decide_eq_true (by first | (with_reducible assumption) | assumption); have q406 : x6_3 < (l0_2.length : Int) := of_decide_eq_true (by first | (with_reducible assumption) | assumption); obtain ⟨ad406, A406_1, c406_1, e406, hx406_0, hx406_1, hx406_2, hl406_1, hi406_1⟩ := at_T65 HR0_2.out x6_3 p406 q406; obtain rfl : ad401 = ad406 := (by injection e406); replace hx406_0 := (HB.out.cell (World.block_lt_of_cell? w _ hx406_0)).trans hx406_0; replace hx406_1 := (HB.out.cell (World.block_lt_of_cell? w _ hx406_1)).trans hx406_1; replace hx406_2 := (HB.out.cell (World.block_lt_of_cell? w _ hx406_2)).trans hx406_2; have HR406_1 := Aside0.mk hi406_1; have HC406_1 := Aside0.mk hl406_1; clear hi406_1 hl406_1; replace p406 := eq_true p406; replace q406 := eq_true q406; have ea_ := Option.some.inj (hx401_1.symm.trans hx406_1); injection ea_ with ea_ en_ ec_; subst ea_; subst ec_; clear en_; have p407 : 0 ≤ (x6_3 : Int) := of_decide_eq_true (by first | (with_reducible assumption) | assumption); have q407 : x6_3 < (l1_2.length : Int) := of_decide_eq_true (by first | (with_reducible assumption) | assumption); obtain ⟨ad407, A407_1, c407_1, e407, hx407_0, hx407_1, hx407_2, hl407_1, hi407_1⟩ := at_T65 HR1_2.out x6_3 p407 q407; obtain rfl : ad402 = ad407 := (by injection e407); replace hx407_0 := (HB.out.cell (World.block_lt_of_cell? w _ hx407_0)).trans hx407_0; replace hx407_1 := (HB.out.cell (World.block_lt_of_cell? w _ hx407_1)).trans hx407_1; replace hx407_2 := (HB.out.cell (World.block_lt_of_cell? w _ hx407_2)).trans hx407_2; have HR407_1 := Aside0.mk hi407_1; have HC407_1 := Aside0.mk hl407_1; clear hi407_1 hl407_1; replace p407 := eq_true p407; replace q407 := eq_true q407; have ea_ := Option.some.inj (hx402_1.symm.trans hx407_1); injection ea_ with ea_ en_ ec_; subst ea_; subst ec_; clear en_))
               repeat (go_quiet (first | (go_at_call 30; (with_reducible refine (alumref20_SameInts.calls k3 _ _ ((rd_T65 l0_2 x6_3).f1) _ _ ((rd_T65 l1_2 x6_3).f1) true _ ?side1 ?side2 ?side3 ?side4 A37.out).mono ?_); (case side1 => repeat (first | exact (Kd.C_below HR401_1.out HB.out) | (with_reducible refine Kd.C_alloc ?_ _) | (with_reducible refine Kd.C_drewN ?_ _) | (with_reducible refine Kd.C_drew ?_))); (case side2 => exact HC401_1.out); (case side3 => repeat (first | exact (Kd.C_below HR402_1.out HB.out) | (with_reducible refine Kd.C_alloc ?_ _) | (with_reducible refine Kd.C_drewN ?_ _) | (with_reducible refine Kd.C_drew ?_))); (case side4 => exact HC402_1.out); rintro e w' ⟨rfl, ⟨nd, rfl⟩⟩; (try first | exact ⟨rfl, _, World.drewN_drewN _ _ _⟩ | exact ⟨rfl, _, Eq.trans (World.drewN_drewN _ _ _) (congrArg (World.drewN _) (Nat.add_assoc _ _ _))⟩); have p404 : 0 ≤ (x6_3 : Int) := of_decide_eq_true (by first | (with_reducible assumption) | assumption); have q404 : x6_3 < (l0_2.length : Int) := of_decide_eq_true (by first | (with_reducible assumption) | assumption); obtain ⟨ad404, A404_1, c404_1, e404, hx404_0, hx404_1, hx404_2, hl404_1, hi404_1⟩ := at_T65 HR0_2.out x6_3 p404 q404; obtain rfl : ad401 = ad404 := (by injection e404); replace hx404_0 := (HB.out.cell (World.block_lt_of_cell? w _ hx404_0)).trans hx404_0; replace hx404_1 := (HB.out.cell (World.block_lt_of_cell? w _ hx404_1)).trans hx404_1; replace hx404_2 := (HB.out.cell (World.block_lt_of_cell? w _ hx404_2)).trans hx404_2; have HR404_1 := Aside0.mk hi404_1; have HC404_1 := Aside0.mk hl404_1; clear hi404_1 hl404_1; replace p404 := eq_true p404; replace q404 := eq_true q404; have ea_ := Option.some.inj (hx401_1.symm.trans hx404_1); injection ea_ with ea_ en_ ec_; subst ea_; subst ec_; clear en_; have p405 : 0 ≤ (x6_3 : Int) := of_decide_eq_true (by first | (with_reducible assumption) | assumption); have q405 : x6_3 < (l1_2.length : Int) := of_decide_eq_true (by first | (with_reducible assumption) | assumption); obtain ⟨ad405, A405_1, c405_1, e405, hx405_0, hx405_1, hx405_2, hl405_1, hi405_1⟩ := at_T65 HR1_2.out x6_3 p405 q405; obtain rfl : ad402 = ad405 := (by injection e405); replace hx405_0 := (HB.out.cell (World.block_lt_of_cell? w _ hx405_0)).trans hx405_0; replace hx405_1 := (HB.out.cell (World.block_lt_of_cell? w _ hx405_1)).trans hx405_1; replace hx405_2 := (HB.out.cell (World.block_lt_of_cell? w _ hx405_2)).trans hx405_2; have HR405_1 := Aside0.mk hi405_1; have HC405_1 := Aside0.mk hl405_1; clear hi405_1 hl405_1; replace p405 := eq_true p405; replace q405 := eq_true q405; have ea_ := Option.some.inj (hx402_1.symm.trans hx405_1); injection ea_ with ea_ en_ ec_; subst ea_; subst ec_; clear en_; have p406 : 0 ≤ (x6_3 : Int) := of_decide_eq_true (by first | (with_reducible assumption) | assumption); have q406 : x6_3 < (l0_2.length : Int) := of_decide_eq_true (by first | (with_reducible assumption) | assumption); obtain ⟨ad406, A406_1, c406_1, e406, hx406_0, hx406_1, hx406_2, hl406_1, hi406_1⟩ := at_T65 HR0_2.out x6_3 p406 q406; obtain rfl : ad401 = ad406 := (by injection e406); replace hx406_0 := (HB.out.cell (World.block_lt_of_cell? w _ hx406_0)).trans hx406_0; replace hx406_1 := (HB.out.cell (World.block_lt_of_cell? w _ hx406_1)).trans hx406_1; replace hx406_2 := (HB.out.cell (World.block_lt_of_cell? w _ hx406_2)).trans hx406_2; have HR406_1 := Aside0.mk hi406_1; have HC406_1 := Aside0.mk hl406_1; clear hi406_1 hl406_1; replace p406 := eq_true p406; replace q406 := eq_true q406; have ea_ := Option.some.inj (hx401_1.symm.trans hx406_1); injection ea_ with ea_ en_ ec_; subst ea_; subst ec_; clear en_; have p407 : 0 ≤ (x6_3 : Int) := of_decide_eq_true (by first | (with_reducible assumption) | assumption); have q407 : x6_3 < (l1_2.length : Int) := of_decide_eq_true (by first | (with_reducible assumption) | assumption); obtain ⟨ad407, A407_1, c407_1, e407, hx407_0, hx407_1, hx407_2, hl407_1, hi407_1⟩ := at_T65 HR1_2.out x6_3 p407 q407; obtain rfl : ad402 = ad407 := (by injection e407); replace hx407_0 := (HB.out.cell (World.block_lt_of_cell? w _ hx407_0)).trans hx407_0; replace hx407_1 := (HB.out.cell (World.block_lt_of_cell? w _ hx407_1)).trans hx407_1; replace hx407_2 := (HB.out.cell (World.block_lt_of_cell? w _ hx407_2)).trans hx407_2; have HR407_1 := Aside0.mk hi407_1; have HC407_1 := Aside0.mk hl407_1; clear hi407_1 hl407_1; replace p407 := eq_true p407; replace q407 := eq_true q407; have ea_ := Option.some.inj (hx402_1.symm.trans hx407_1); injection ea_ with ea_ en_ ec_; subst ea_; subst ec_; clear en_)); try go_wp2_with (first | (go_at_call 30; (with_reducible refine (alumref20_SameInts.calls k3 _ _ ((rd_T65 l0_2 x6_3).f1) _ _ ((rd_T65 l1_2 x6_3).f1) true _ ?side1 ?side2 ?side3 ?side4 A37.out).mono ?_); (case side1 => repeat (first | exact (Kd.C_below HR401_1.out HB.out) | (with_reducible refine Kd.C_alloc ?_ _) | (with_reducible refine Kd.C_drewN ?_ _) | (with_reducible refine Kd.C_drew ?_))); (case side2 => exact HC401_1.out); (case side3 => repeat (first | exact (Kd.C_below HR402_1.out HB.out) | (with_reducible refine Kd.C_alloc ?_ _) | (with_reducible refine Kd.C_drewN ?_ _) | (with_reducible refine Kd.C_drew ?_))); (case side4 => exact HC402_1.out); rintro e w' ⟨rfl, ⟨nd, rfl⟩⟩; (try first | exact ⟨rfl, _, World.drewN_drewN _ _ _⟩ | exact ⟨rfl, _, Eq.trans (World.drewN_drewN _ _ _) (congrArg (World.drewN _) (Nat.add_assoc _ _ _))⟩); have p404 : 0 ≤ (x6_3 : Int) := of_decide_eq_true (by first | (with_reducible assumption) | assumption); have q404 : x6_3 < (l0_2.length : Int) := of_decide_eq_true (by first | (with_reducible assumption) | assumption); obtain ⟨ad404, A404_1, c404_1, e404, hx404_0, hx404_1, hx404_2, hl404_1, hi404_1⟩ := at_T65 HR0_2.out x6_3 p404 q404; obtain rfl : ad401 = ad404 := (by injection e404); replace hx404_0 := (HB.out.cell (World.block_lt_of_cell? w _ hx404_0)).trans hx404_0; replace hx404_1 := (HB.out.cell (World.block_lt_of_cell? w _ hx404_1)).trans hx404_1; replace hx404_2 := (HB.out.cell (World.block_lt_of_cell? w _ hx404_2)).trans hx404_2; have HR404_1 := Aside0.mk hi404_1; have HC404_1 := Aside0.mk hl404_1; clear hi404_1 hl404_1; replace p404 := eq_true p404; replace q404 := eq_true q404; have ea_ := Option.some.inj (hx401_1.symm.trans hx404_1); injection ea_ with ea_ en_ ec_; subst ea_; subst ec_; clear en_; have p405 : 0 ≤ (x6_3 : Int) := of_decide_eq_true (by first | (with_reducible assumption) | assumption); have q405 : x6_3 < (l1_2.length : Int) := of_decide_eq_true (by first | (with_reducible assumption) | assumption); obtain ⟨ad405, A405_1, c405_1, e405, hx405_0, hx405_1, hx405_2, hl405_1, hi405_1⟩ := at_T65 HR1_2.out x6_3 p405 q405; obtain rfl : ad402 = ad405 := (by injection e405); replace hx405_0 := (HB.out.cell (World.block_lt_of_cell? w _ hx405_0)).trans hx405_0; replace hx405_1 := (HB.out.cell (World.block_lt_of_cell? w _ hx405_1)).trans hx405_1; replace hx405_2 := (HB.out.cell (World.block_lt_of_cell? w _ hx405_2)).trans hx405_2; have HR405_1 := Aside0.mk hi405_1; have HC405_1 := Aside0.mk hl405_1; clear hi405_1 hl405_1; replace p405 := eq_true p405; replace q405 := eq_true q405; have ea_ := Option.some.inj (hx402_1.symm.trans hx405_1); injection ea_ with ea_ en_ ec_; subst ea_; subst ec_; clear en_; have p406 : 0 ≤ (x6_3 : Int) := of_decide_eq_true (by first | (with_reducible assumption) | assumption); have q406 : x6_3 < (l0_2.length : Int) := of_decide_eq_true (by first | (with_reducible assumption) | assumption); obtain ⟨ad406, A406_1, c406_1, e406, hx406_0, hx406_1, hx406_2, hl406_1, hi406_1⟩ := at_T65 HR0_2.out x6_3 p406 q406; obtain rfl : ad401 = ad406 := (by injection e406); replace hx406_0 := (HB.out.cell (World.block_lt_of_cell? w _ hx406_0)).trans hx406_0; replace hx406_1 := (HB.out.cell (World.block_lt_of_cell? w _ hx406_1)).trans hx406_1; replace hx406_2 := (HB.out.cell (World.block_lt_of_cell? w _ hx406_2)).trans hx406_2; have HR406_1 := Aside0.mk hi406_1; have HC406_1 := Aside0.mk hl406_1; clear hi406_1 hl406_1; replace p406 := eq_true p406; replace q406 := eq_true q406; have ea_ := Option.some.inj (hx401_1.symm.trans hx406_1); injection ea_ with ea_ en_ ec_; subst ea_; subst ec_; clear en_; have p407 : 0 ≤ (x6_3 : Int) := of_decide_eq_true (by first | (with_reducible assumption) | assumption); have q407 : x6_3 < (l1_2.length : Int) := of_decide_eq_true (by first | (with_reducible assumption) | assumption); obtain ⟨ad407, A407_1, c407_1, e407, hx407_0, hx407_1, hx407_2, hl407_1, hi407_1⟩ := at_T65 HR1_2.out x6_3 p407 q407; obtain rfl : ad402 = ad407 := (by injection e407); replace hx407_0 := (HB.out.cell (World.block_lt_of_cell? w _ hx407_0)).trans hx407_0; replace hx407_1 := (HB.out.cell (World.block_lt_of_cell? w _ hx407_1)).trans hx407_1; replace hx407_2 := (HB.out.cell (World.block_lt_of_cell? w _ hx407_2)).trans hx407_2; have HR407_1 := Aside0.mk hi407_1; have HC407_1 := Aside0.mk hl407_1; clear hi407_1 hl407_1; replace p407 := eq_true p407; replace q407 := eq_true q407; have ea_ := Option.some.inj (hx402_1.symm.trans hx407_1); injection ea_ with ea_ en_ ec_; subst ea_; subst ec_; clear en_)))
               go_roundg k3
               case measure => have := HJ2.out; have := HK2.out; have := HK3.out; omega
               case rel => exact ⟨(wrap64 (x6_3 + 1)), (by first | rfl | (simp; done) | (simp [*]; done)), H', ⟨by have := HJ2.out; have := HK2.out; have := HK3.out; omega⟩, ⟨by (with_reducible repeat (first | refine blk_drewN ?_ _ | refine blk_drew ?_ | refine blk_alloc ?_ _)); exact BK397.out⟩, ⟨by (with_reducible repeat (first | refine blk_drewN ?_ _ | refine blk_drew ?_ | refine blk_alloc ?_ _)); exact BK398.out⟩, ⟨by repeat (first | (with_reducible first | exact HB.out | apply below_alloc | apply pw_below_drewN | apply below_drew1 | refine below_set ?_ GE397.out | refine below_set ?_ GE398.out) | exact HB.out)⟩⟩
             ·rw [if_neg c39] at H
              have c39b0 : (((rd_T65 l0_2 x6_3).f0).toList == ((rd_T65 l1_2 x6_3).f0).toList) = false := beq_eq_false_iff_ne.mpr c39
              have c39b1 : (((rd_T65 l0_2 x6_3).f0).toList != ((rd_T65 l1_2 x6_3).f0).toList) = true := bne_iff_ne.mpr c39
              obtain rfl := Option.some.inj H
              have hnb47 := NB397_398.out
              have hnc47 := NB398_397.out
              have hcz48_0 : wr.cell? ⟨gb397, 0, none⟩ = some (.string a0_0) := (blk_cell BK397.out 0).trans rfl
              have hcz48_1 : wr.cell? ⟨gb397, 1, none⟩ = some (.slice A0_1 l0_1.length c0_1) := (blk_cell BK397.out 1).trans rfl
              have hcz48_2 : wr.cell? ⟨gb397, 2, none⟩ = some (.slice A0_2 l0_2.length c0_2) := (blk_cell BK397.out 2).trans rfl
              have hcz48_3 : wr.cell? ⟨gb397, 3, none⟩ = some (.slice A0_3 l0_3.length c0_3) := (blk_cell BK397.out 3).trans rfl
              have hfz48_0 := blk_frozen BK397.out 0
              have hfz48_1 := blk_frozen BK397.out 1
              have hfz48_2 := blk_frozen BK397.out 2
              have hfz48_3 := blk_frozen BK397.out 3
              have p401 : 0 ≤ (x6_3 : Int) := of_decide_eq_true (by first | (with_reducible assumption) | assumption)
              have q401 : x6_3 < (l0_2.length : Int) := of_decide_eq_true (by first | (with_reducible assumption) | assumption)
              obtain ⟨ad401, A401_1, c401_1, e401, hx401_0, hx401_1, hx401_2, hl401_1, hi401_1⟩ := at_T65 HR0_2.out x6_3 p401 q401
              cases e401
              replace hx401_0 := (HB.out.cell (World.block_lt_of_cell? w _ hx401_0)).trans hx401_0
              replace hx401_1 := (HB.out.cell (World.block_lt_of_cell? w _ hx401_1)).trans hx401_1
              replace hx401_2 := (HB.out.cell (World.block_lt_of_cell? w _ hx401_2)).trans hx401_2
              have HR401_1 := Aside0.mk hi401_1
              have HC401_1 := Aside0.mk hl401_1
              clear hi401_1 hl401_1
              replace p401 := eq_true p401
              replace q401 := eq_true q401
              have hcz49_0 : wr.cell? ⟨gb398, 0, none⟩ = some (.string a1_0) := (blk_cell BK398.out 0).trans rfl
              have hcz49_1 : wr.cell? ⟨gb398, 1, none⟩ = some (.slice A1_1 l1_1.length c1_1) := (blk_cell BK398.out 1).trans rfl
              have hcz49_2 : wr.cell? ⟨gb398, 2, none⟩ = some (.slice A1_2 l1_2.length c1_2) := (blk_cell BK398.out 2).trans rfl
              have hcz49_3 : wr.cell? ⟨gb398, 3, none⟩ = some (.slice A1_3 l1_3.length c1_3) := (blk_cell BK398.out 3).trans rfl
              have hfz49_0 := blk_frozen BK398.out 0
              have hfz49_1 := blk_frozen BK398.out 1
              have hfz49_2 := blk_frozen BK398.out 2
              have hfz49_3 := blk_frozen BK398.out 3
              have p402 : 0 ≤ (x6_3 : Int) := of_decide_eq_true (by first | (with_reducible assumption) | assumption)
              have q402 : x6_3 < (l1_2.length : Int) := of_decide_eq_true (by first | (with_reducible assumption) | assumption)
              obtain ⟨ad402, A402_1, c402_1, e402, hx402_0, hx402_1, hx402_2, hl402_1, hi402_1⟩ := at_T65 HR1_2.out x6_3 p402 q402
              cases e402
              replace hx402_0 := (HB.out.cell (World.block_lt_of_cell? w _ hx402_0)).trans hx402_0
              replace hx402_1 := (HB.out.cell (World.block_lt_of_cell? w _ hx402_1)).trans hx402_1
              replace hx402_2 := (HB.out.cell (World.block_lt_of_cell? w _ hx402_2)).trans hx402_2
              have HR402_1 := Aside0.mk hi402_1
              have HC402_1 := Aside0.mk hl402_1
              clear hi402_1 hl402_1
              replace p402 := eq_true p402
              replace q402 := eq_true q402
              go_wp2_with (first | (go_at_call 30; (with_reducible refine (alumref20_SameInts.calls k3 _ _ ((rd_T65 l0_2 x6_3).f1) _ _ ((rd_T65 l1_2 x6_3).f1) true _ ?side1 ?side2 ?side3 ?side4 A37.out).mono ?_); (case side1 => repeat (first | exact (Kd.C_below HR401_1.out HB.out) | (with_reducible refine Kd.C_alloc ?_ _) | (with_reducible refine Kd.C_drewN ?_ _) | (with_reducible refine Kd.C_drew ?_))); (case side2 => exact HC401_1.out); (case side3 => repeat (first | exact (Kd.C_below HR402_1.out HB.out) | (with_reducible refine Kd.C_alloc ?_ _) | (with_reducible refine Kd.C_drewN ?_ _) | (with_reducible refine Kd.C_drew ?_))); (case side4 => exact HC402_1.out); rintro e w' ⟨rfl, ⟨nd, rfl⟩⟩; (try first | exact ⟨rfl, _, World.drewN_drewN _ _ _⟩ | exact ⟨rfl, _, Eq.trans (World.drewN_drewN _ _ _) (congrArg (World.drewN _) (Nat.add_assoc _ _ _))⟩); have p404 : 0 ≤ (x6_3 : Int) := of_decide_eq_true (by first | (with_reducible assumption) | assumption); have q404 : x6_3 < (l0_2.length : Int) := of_decide_eq_true (by first | (with_reducible assumption) | assumption); obtain ⟨ad404, A404_1, c404_1, e404, hx404_0, hx404_1, hx404_2, hl404_1, hi404_1⟩ := at_T65 HR0_2.out x6_3 p404 q404; obtain rfl : ad401 = ad404 := (by injection e404); replace hx404_0 := (HB.out.cell (World.block_lt_of_cell? w _ hx404_0)).trans hx404_0; replace hx404_1 := (HB.out.cell (World.block_lt_of_cell? w _ hx404_1)).trans hx404_1; replace hx404_2 := (HB.out.cell (World.block_lt_of_cell? w _ hx404_2)).trans hx404_2; have HR404_1 := Aside0.mk hi404_1; have HC404_1 := Aside0.mk hl404_1; clear hi404_1 hl404_1; replace p404 := eq_true p404; replace q404 := eq_true q404; have ea_ := Option.some.inj (hx401_1.symm.trans hx404_1); injection ea_ with ea_ en_ ec_; subst ea_; subst ec_; clear en_; have p405 : 0 ≤ (x6_3 : Int) := of_decide_eq_true (by first | (with_reducible assumption) | assumption); have q405 : x6_3 < (l1_2.length : Int) := of_decide_eq_true (by first | (with_reducible assumption) | assumption); obtain ⟨ad405, A405_1, c405_1, e405, hx405_0, hx405_1, hx405_2, hl405_1, hi405_1⟩ := at_T65 HR1_2.out x6_3 p405 q405; obtain rfl : ad402 = ad405 := (by injection e405); replace hx405_0 := (HB.out.cell (World.block_lt_of_cell? w _ hx405_0)).trans hx405_0; replace hx405_1 := (HB.out.cell (World.block_lt_of_cell? w _ hx405_1)).trans hx405_1; replace hx405_2 := (HB.out.cell (World.block_lt_of_cell? w _ hx405_2)).trans hx405_2; have HR405_1 := Aside0.mk hi405_1; have HC405_1 := Aside0.mk hl405_1; clear hi405_1 hl405_1; replace p405 := eq_true p405; replace q405 := eq_true q405; have ea_ := Option.some.inj (hx402_1.symm.trans hx405_1); injection ea_ with ea_ en_ ec_; subst ea_; subst ec_; clear en_))
              repeat (go_quiet (first | (go_at_call 30; (with_reducible refine (alumref20_SameInts.calls k3 _ _ ((rd_T65 l0_2 x6_3).f1) _ _ ((rd_T65 l1_2 x6_3).f1) true _ ?side1 ?side2 ?side3 ?side4 A37.out).mono ?_); (case side1 => repeat (first | exact (Kd.C_below HR401_1.out HB.out) | (with_reducible refine Kd.C_alloc ?_ _) | (with_reducible refine Kd.C_drewN ?_ _) | (with_reducible refine Kd.C_drew ?_))); (case side2 => exact HC401_1.out); (case side3 => repeat (first | exact (Kd.C_below HR402_1.out HB.out) | (with_reducible refine Kd.C_alloc ?_ _) | (with_reducible refine Kd.C_drewN ?_ _) | (with_reducible refine Kd.C_drew ?_))); (case side4 => exact HC402_1.out); rintro e w' ⟨rfl, ⟨nd, rfl⟩⟩; (try first | exact ⟨rfl, _, World.drewN_drewN _ _ _⟩ | exact ⟨rfl, _, Eq.trans (World.drewN_drewN _ _ _) (congrArg (World.drewN _) (Nat.add_assoc _ _ _))⟩); have p404 : 0 ≤ (x6_3 : Int) := of_decide_eq_true (by first | (with_reducible assumption) | assumption); have q404 : x6_3 < (l0_2.length : Int) := of_decide_eq_true (by first | (with_reducible assumption) | assumption); obtain ⟨ad404, A404_1, c404_1, e404, hx404_0, hx404_1, hx404_2, hl404_1, hi404_1⟩ := at_T65 HR0_2.out x6_3 p404 q404; obtain rfl : ad401 = ad404 := (by injection e404); replace hx404_0 := (HB.out.cell (World.block_lt_of_cell? w _ hx404_0)).trans hx404_0; replace hx404_1 := (HB.out.cell (World.block_lt_of_cell? w _ hx404_1)).trans hx404_1; replace hx404_2 := (HB.out.cell (World.block_lt_of_cell? w _ hx404_2)).trans hx404_2; have HR404_1 := Aside0.mk hi404_1; have HC404_1 := Aside0.mk hl404_1; clear hi404_1 hl404_1; replace p404 := eq_true p404; replace q404 := eq_true q404; have ea_ := Option.some.inj (hx401_1.symm.trans hx404_1); injection ea_ with ea_ en_ ec_; subst ea_; subst ec_; clear en_; have p405 : 0 ≤ (x6_3 : Int) := of_decide_eq_true (by first | (with_reducible assumption) | assumption); have q405 : x6_3 < (l1_2.length : Int) := of_decide_eq_true (by first | (with_reducible assumption) | assumption); obtain ⟨ad405, A405_1, c405_1, e405, hx405_0, hx405_1, hx405_2, hl405_1, hi405_1⟩ := at_T65 HR1_2.out x6_3 p405 q405; obtain rfl : ad402 = ad405 := (by injection e405); replace hx405_0 := (HB.out.cell (World.block_lt_of_cell? w _ hx405_0)).trans hx405_0; replace hx405_1 := (HB.out.cell (World.block_lt_of_cell? w _ hx405_1)).trans hx405_1; replace hx405_2 := (HB.out.cell (World.block_lt_of_cell? w _ hx405_2)).trans hx405_2; have HR405_1 := Aside0.mk hi405_1; have HC405_1 := Aside0.mk hl405_1; clear hi405_1 hl405_1; replace p405 := eq_true p405; replace q405 := eq_true q405; have ea_ := Option.some.inj (hx402_1.symm.trans hx405_1); injection ea_ with ea_ en_ ec_; subst ea_; subst ec_; clear en_)); try go_wp2_with (first | (go_at_call 30; (with_reducible refine (alumref20_SameInts.calls k3 _ _ ((rd_T65 l0_2 x6_3).f1) _ _ ((rd_T65 l1_2 x6_3).f1) true _ ?side1 ?side2 ?side3 ?side4 A37.out).mono ?_); (case side1 => repeat (first | exact (Kd.C_below HR401_1.out HB.out) | (with_reducible refine Kd.C_alloc ?_ _) | (with_reducible refine Kd.C_drewN ?_ _) | (with_reducible refine Kd.C_drew ?_))); (case side2 => exact HC401_1.out); (case side3 => repeat (first | exact (Kd.C_below HR402_1.out HB.out) | (with_reducible refine Kd.C_alloc ?_ _) | (with_reducible refine Kd.C_drewN ?_ _) | (with_reducible refine Kd.C_drew ?_))); (case side4 => exact HC402_1.out); rintro e w' ⟨rfl, ⟨nd, rfl⟩⟩; (try first | exact ⟨rfl, _, World.drewN_drewN _ _ _⟩ | exact ⟨rfl, _, Eq.trans (World.drewN_drewN _ _ _) (congrArg (World.drewN _) (Nat.add_assoc _ _ _))⟩); have p404 : 0 ≤ (x6_3 : Int) := of_decide_eq_true (by first | (with_reducible assumption) | assumption); have q404 : x6_3 < (l0_2.length : Int) := of_decide_eq_true (by first | (with_reducible assumption) | assumption); obtain ⟨ad404, A404_1, c404_1, e404, hx404_0, hx404_1, hx404_2, hl404_1, hi404_1⟩ := at_T65 HR0_2.out x6_3 p404 q404; obtain rfl : ad401 = ad404 := (by injection e404); replace hx404_0 := (HB.out.cell (World.block_lt_of_cell? w _ hx404_0)).trans hx404_0; replace hx404_1 := (HB.out.cell (World.block_lt_of_cell? w _ hx404_1)).trans hx404_1; replace hx404_2 := (HB.out.cell (World.block_lt_of_cell? w _ hx404_2)).trans hx404_2; have HR404_1 := Aside0.mk hi404_1; have HC404_1 := Aside0.mk hl404_1; clear hi404_1 hl404_1; replace p404 := eq_true p404; replace q404 := eq_true q404; have ea_ := Option.some.inj (hx401_1.symm.trans hx404_1); injection ea_ with ea_ en_ ec_; subst ea_; subst ec_; clear en_; have p405 : 0 ≤ (x6_3 : Int) := of_decide_eq_true (by first | (with_reducible assumption) | assumption); have q405 : x6_3 < (l1_2.length : Int) := of_decide_eq_true (by first | (with_reducible assumption) | assumption); obtain ⟨ad405, A405_1, c405_1, e405, hx405_0, hx405_1, hx405_2, hl405_1, hi405_1⟩ := at_T65 HR1_2.out x6_3 p405 q405; obtain rfl : ad402 = ad405 := (by injection e405); replace hx405_0 := (HB.out.cell (World.block_lt_of_cell? w _ hx405_0)).trans hx405_0; replace hx405_1 := (HB.out.cell (World.block_lt_of_cell? w _ hx405_1)).trans hx405_1; replace hx405_2 := (HB.out.cell (World.block_lt_of_cell? w _ hx405_2)).trans hx405_2; have HR405_1 := Aside0.mk hi405_1; have HC405_1 := Aside0.mk hl405_1; clear hi405_1 hl405_1; replace p405 := eq_true p405; replace q405 := eq_true q405; have ea_ := Option.some.inj (hx402_1.symm.trans hx405_1); injection ea_ with ea_ en_ ec_; subst ea_; subst ec_; clear en_)))
              go_ret
              exact ⟨by first | rfl | (simp [errW_none, errW_some] <;> rfl) | (simp [*, errW_none, errW_some] <;> rfl), by repeat (first | (with_reducible first | exact HB.out | apply below_alloc | apply pw_below_drewN | apply below_drew1 | refine below_set ?_ GE397.out | refine below_set ?_ GE398.out) | exact HB.out)⟩
            ·replace c38 := Bool.eq_false_iff.mpr c38
             subst c38
             have H1 : (some false) = some r := by rw [if_neg (show ¬ (false = true) by decide)] at H; exact H
             clear H
             have H := H1
             clear H1
             obtain rfl := Option.some.inj H
             have hnb50 := NB397_398.out
             have hnc50 := NB398_397.out
             have hcz51_0 : wr.cell? ⟨gb397, 0, none⟩ = some (.string a0_0) := (blk_cell BK397.out 0).trans rfl
             have hcz51_1 : wr.cell? ⟨gb397, 1, none⟩ = some (.slice A0_1 l0_1.length c0_1) := (blk_cell BK397.out 1).trans rfl
             have hcz51_2 : wr.cell? ⟨gb397, 2, none⟩ = some (.slice A0_2 l0_2.length c0_2) := (blk_cell BK397.out 2).trans rfl
             have hcz51_3 : wr.cell? ⟨gb397, 3, none⟩ = some (.slice A0_3 l0_3.length c0_3) := (blk_cell BK397.out 3).trans rfl
             have hfz51_0 := blk_frozen BK397.out 0
             have hfz51_1 := blk_frozen BK397.out 1
             have hfz51_2 := blk_frozen BK397.out 2
             have hfz51_3 := blk_frozen BK397.out 3
             have p401 : 0 ≤ (x6_3 : Int) := of_decide_eq_true (by first | (with_reducible assumption) | assumption)
             have q401 : x6_3 < (l0_2.length : Int) := of_decide_eq_true (by first | (with_reducible assumption) | assumption)
             obtain ⟨ad401, A401_1, c401_1, e401, hx401_0, hx401_1, hx401_2, hl401_1, hi401_1⟩ := at_T65 HR0_2.out x6_3 p401 q401
             cases e401
             replace hx401_0 := (HB.out.cell (World.block_lt_of_cell? w _ hx401_0)).trans hx401_0
             replace hx401_1 := (HB.out.cell (World.block_lt_of_cell? w _ hx401_1)).trans hx401_1
             replace hx401_2 := (HB.out.cell (World.block_lt_of_cell? w _ hx401_2)).trans hx401_2
             have HR401_1 := Aside0.mk hi401_1
             have HC401_1 := Aside0.mk hl401_1
             clear hi401_1 hl401_1
             replace p401 := eq_true p401
             replace q401 := eq_true q401
             have hcz52_0 : wr.cell? ⟨gb398, 0, none⟩ = some (.string a1_0) := (blk_cell BK398.out 0).trans rfl
             have hcz52_1 : wr.cell? ⟨gb398, 1, none⟩ = some (.slice A1_1 l1_1.length c1_1) := (blk_cell BK398.out 1).trans rfl
             have hcz52_2 : wr.cell? ⟨gb398, 2, none⟩ = some (.slice A1_2 l1_2.length c1_2) := (blk_cell BK398.out 2).trans rfl
             have hcz52_3 : wr.cell? ⟨gb398, 3, none⟩ = some (.slice A1_3 l1_3.length c1_3) := (blk_cell BK398.out 3).trans rfl
             have hfz52_0 := blk_frozen BK398.out 0
             have hfz52_1 := blk_frozen BK398.out 1
             have hfz52_2 := blk_frozen BK398.out 2
             have hfz52_3 := blk_frozen BK398.out 3
             have p402 : 0 ≤ (x6_3 : Int) := of_decide_eq_true (by first | (with_reducible assumption) | assumption)
             have q402 : x6_3 < (l1_2.length : Int) := of_decide_eq_true (by first | (with_reducible assumption) | assumption)
             obtain ⟨ad402, A402_1, c402_1, e402, hx402_0, hx402_1, hx402_2, hl402_1, hi402_1⟩ := at_T65 HR1_2.out x6_3 p402 q402
             cases e402
             replace hx402_0 := (HB.out.cell (World.block_lt_of_cell? w _ hx402_0)).trans hx402_0
             replace hx402_1 := (HB.out.cell (World.block_lt_of_cell? w _ hx402_1)).trans hx402_1
             replace hx402_2 := (HB.out.cell (World.block_lt_of_cell? w _ hx402_2)).trans hx402_2
             have HR402_1 := Aside0.mk hi402_1
             have HC402_1 := Aside0.mk hl402_1
             clear hi402_1 hl402_1
             replace p402 := eq_true p402
             replace q402 := eq_true q402
             go_wp2_with (first | (go_at_call 30; (with_reducible refine (alumref20_SameInts.calls k3 _ _ ((rd_T65 l0_2 x6_3).f1) _ _ ((rd_T65 l1_2 x6_3).f1) false _ ?side1 ?side2 ?side3 ?side4 A37.out).mono ?_); (case side1 => repeat (first | exact (Kd.C_below HR401_1.out HB.out) | (with_reducible refine Kd.C_alloc ?_ _) | (with_reducible refine Kd.C_drewN ?_ _) | (with_reducible refine Kd.C_drew ?_))); (case side2 => exact HC401_1.out); (case side3 => repeat (first | exact (Kd.C_below HR402_1.out HB.out) | (with_reducible refine Kd.C_alloc ?_ _) | (with_reducible refine Kd.C_drewN ?_ _) | (with_reducible refine Kd.C_drew ?_))); (case side4 => exact HC402_1.out); rintro e w' ⟨rfl, ⟨nd, rfl⟩⟩; (try first | exact ⟨rfl, _, World.drewN_drewN _ _ _⟩ | exact ⟨rfl, _, Eq.trans (World.drewN_drewN _ _ _) (congrArg (World.drewN _) (Nat.add_assoc _ _ _))⟩)))
             repeat (go_quiet (first | (go_at_call 30; (with_reducible refine (alumref20_SameInts.calls k3 _ _ ((rd_T65 l0_2 x6_3).f1) _ _ ((rd_T65 l1_2 x6_3).f1) false _ ?side1 ?side2 ?side3 ?side4 A37.out).mono ?_); (case side1 => repeat (first | exact (Kd.C_below HR401_1.out HB.out) | (with_reducible refine Kd.C_alloc ?_ _) | (with_reducible refine Kd.C_drewN ?_ _) | (with_reducible refine Kd.C_drew ?_))); (case side2 => exact HC401_1.out); (case side3 => repeat (first | exact (Kd.C_below HR402_1.out HB.out) | (with_reducible refine Kd.C_alloc ?_ _) | (with_reducible refine Kd.C_drewN ?_ _) | (with_reducible refine Kd.C_drew ?_))); (case side4 => exact HC402_1.out); rintro e w' ⟨rfl, ⟨nd, rfl⟩⟩; (try first | exact ⟨rfl, _, World.drewN_drewN _ _ _⟩ | exact ⟨rfl, _, Eq.trans (World.drewN_drewN _ _ _) (congrArg (World.drewN _) (Nat.add_assoc _ _ _))⟩))); try go_wp2_with (first | (go_at_call 30; (with_reducible refine (alumref20_SameInts.calls k3 _ _ ((rd_T65 l0_2 x6_3).f1) _ _ ((rd_T65 l1_2 x6_3).f1) false _ ?side1 ?side2 ?side3 ?side4 A37.out).mono ?_); (case side1 => repeat (first | exact (Kd.C_below HR401_1.out HB.out) | (with_reducible refine Kd.C_alloc ?_ _) | (with_reducible refine Kd.C_drewN ?_ _) | (with_reducible refine Kd.C_drew ?_))); (case side2 => exact HC401_1.out); (case side3 => repeat (first | exact (Kd.C_below HR402_1.out HB.out) | (with_reducible refine Kd.C_alloc ?_ _) | (with_reducible refine Kd.C_drewN ?_ _) | (with_reducible refine Kd.C_drew ?_))); (case side4 => exact HC402_1.out); rintro e w' ⟨rfl, ⟨nd, rfl⟩⟩; (try first | exact ⟨rfl, _, World.drewN_drewN _ _ _⟩ | exact ⟨rfl, _, Eq.trans (World.drewN_drewN _ _ _) (congrArg (World.drewN _) (Nat.add_assoc _ _ _))⟩))))
             go_ret
             exact ⟨by first | rfl | (simp [errW_none, errW_some] <;> rfl) | (simp [*, errW_none, errW_some] <;> rfl), by repeat (first | (with_reducible first | exact HB.out | apply below_alloc | apply pw_below_drewN | apply below_drew1 | refine below_set ?_ GE397.out | refine below_set ?_ GE398.out) | exact HB.out)⟩
           ·rw [if_neg c36] at H
            exact absurd H (by simp)
          ·rw [if_neg c35] at H
           exact absurd H (by simp)
         ·rw [if_neg c34] at H
          have c34b0 : decide (x6_3 < (l0_2.length : Int)) = false := decide_eq_false c34
          clear c34
          have H' := Aside0.mk H
          clear H
          have hnb53 := NB397_398.out
          have hnc53 := NB398_397.out
          have hcz54_0 : wr.cell? ⟨gb397, 0, none⟩ = some (.string a0_0) := (blk_cell BK397.out 0).trans rfl
          have hcz54_1 : wr.cell? ⟨gb397, 1, none⟩ = some (.slice A0_1 l0_1.length c0_1) := (blk_cell BK397.out 1).trans rfl
          have hcz54_2 : wr.cell? ⟨gb397, 2, none⟩ = some (.slice A0_2 l0_2.length c0_2) := (blk_cell BK397.out 2).trans rfl
          have hcz54_3 : wr.cell? ⟨gb397, 3, none⟩ = some (.slice A0_3 l0_3.length c0_3) := (blk_cell BK397.out 3).trans rfl
          have hfz54_0 := blk_frozen BK397.out 0
          have hfz54_1 := blk_frozen BK397.out 1
          have hfz54_2 := blk_frozen BK397.out 2
          have hfz54_3 := blk_frozen BK397.out 3
          go_wp2
          repeat (go_quiet (fail); try go_wp2)
          go_loopg [8] k3 (fun kq v8 w' => ∃ (x8_4 : Int), v8 = .int .i64 x8_4 ∧ Aside0 (alumref20_Same.l2 kq x8_4 a0_0 l0_1 l0_2 l0_3 a1_0 l1_1 l1_2 l1_3 = some r) ∧ Aside0 (kq ≤ k3) ∧ Aside0 (w'.heap[gb397]? = some (.cells #[.string a0_0, (.slice A0_1 l0_1.length c0_1), (.slice A0_2 l0_2.length c0_2), (.slice A0_3 l0_3.length c0_3)] 28 (0, 0))) ∧ Aside0 (w'.heap[gb398]? = some (.cells #[.string a1_0, (.slice A1_1 l1_1.length c1_1), (.slice A1_2 l1_2.length c1_2), (.slice A1_3 l1_3.length c1_3)] 28 (0, 0))) ∧ Aside0 (Below w.heap.size w w'))
          case atStart => exact ⟨(0), (by first | rfl | (simp; done) | (simp [*]; done)), H', ⟨Nat.le_refl _⟩, ⟨by (with_reducible repeat (first | refine blk_drewN ?_ _ | refine blk_drew ?_ | refine blk_alloc ?_ _)); exact BK397.out⟩, ⟨by (with_reducible repeat (first | refine blk_drewN ?_ _ | refine blk_drew ?_ | refine blk_alloc ?_ _)); exact BK398.out⟩, ⟨by repeat (first | (with_reducible first | exact HB.out | apply below_alloc | apply pw_below_drewN | apply below_drew1 | refine below_set ?_ GE397.out | refine below_set ?_ GE398.out) | exact HB.out)⟩⟩
          case round =>
           clear H'
           try clear c1
           try clear c2
           try clear p2
           try clear c3
           try clear p3
           try clear q3
           try clear hx3
           try clear c4
           try clear p4
           try clear q4
           try clear hx4
           try clear c5
           try clear c6
           try clear c6b0
           try clear c6b1
           try clear p6
           try clear c7
           try clear c7b0
           try clear c7b1
           try clear c7b2
           try clear c8
           try clear c8b0
           try clear c8b1
           try clear c8b2
           try clear c9
           try clear c12
           try clear c15
           try clear c18
           try clear c21
           try clear c22
           try clear c22b0
           try clear c23
           try clear c23b0
           try clear c24
           try clear c24b0
           try clear c25
           try clear c25b0
           try clear c26
           try clear c29
           try clear c32
           try clear c34
           try clear c34b0
           try clear c35
           try clear c35b0
           try clear c36
           try clear c36b0
           try clear c38
           try clear c39
           try clear c39b0
           try clear c39b1
           try clear p39
           try clear q39
           try clear hx39
           try clear c40
           try clear c40b0
           try clear c40b1
           try clear c40b2
           try clear p40
           try clear q40
           try clear hx40
           try clear c41
           try clear c44
           try clear c47
           try clear c50
           try clear c53
           try clear hcz10_0
           try clear hcz10_1
           try clear hcz10_2
           try clear hcz10_3
           try clear hcz11_0
           try clear hcz11_1
           try clear hcz11_2
           try clear hcz11_3
           try clear hcz13_0
           try clear hcz13_1
           try clear hcz13_2
           try clear hcz13_3
           try clear hcz14_0
           try clear hcz14_1
           try clear hcz14_2
           try clear hcz14_3
           try clear hcz16_0
           try clear hcz16_1
           try clear hcz16_2
           try clear hcz16_3
           try clear hcz17_0
           try clear hcz17_1
           try clear hcz17_2
           try clear hcz17_3
           try clear hcz19_0
           try clear hcz19_1
           try clear hcz19_2
           try clear hcz19_3
           try clear hcz20_0
           try clear hcz20_1
           try clear hcz20_2
           try clear hcz20_3
           try clear hcz27_0
           try clear hcz27_1
           try clear hcz27_2
           try clear hcz27_3
           try clear hcz28_0
           try clear hcz28_1
           try clear hcz28_2
           try clear hcz28_3
           try clear hcz30_0
           try clear hcz30_1
           try clear hcz30_2
           try clear hcz30_3
           try clear hcz31_0
           try clear hcz31_1
           try clear hcz31_2
           try clear hcz31_3
           try clear hcz33_0
           try clear hcz33_1
           try clear hcz33_2
           try clear hcz33_3
           try clear hcz42_0
           try clear hcz42_1
           try clear hcz42_2
           try clear hcz42_3
           try clear hcz43_0
           try clear hcz43_1
           try clear hcz43_2
           try clear hcz43_3
           try clear hcz45_0
           try clear hcz45_1
           try clear hcz45_2
           try clear hcz45_3
           try clear hcz46_0
           try clear hcz46_1
           try clear hcz46_2
           try clear hcz46_3
           try clear hcz48_0
           try clear hcz48_1
           try clear hcz48_2
           try clear hcz48_3
           try clear hcz49_0
           try clear hcz49_1
           try clear hcz49_2
           try clear hcz49_3
           try clear hcz51_0
           try clear hcz51_1
           try clear hcz51_2
           try clear hcz51_3
           try clear hcz52_0
           try clear hcz52_1
           try clear hcz52_2
           try clear hcz52_3
           try clear hcz54_0
           try clear hcz54_1
           try clear hcz54_2
           try clear hcz54_3
           try clear hfz10_0
           try clear hfz10_1
           try clear hfz10_2
           try clear hfz10_3
           try clear hfz11_0
           try clear hfz11_1
           try clear hfz11_2
           try clear hfz11_3
           try clear hfz13_0
           try clear hfz13_1
           try clear hfz13_2
           try clear hfz13_3
           try clear hfz14_0
           try clear hfz14_1
           try clear hfz14_2
           try clear hfz14_3
           try clear hfz16_0
           try clear hfz16_1
           try clear hfz16_2
           try clear hfz16_3
           try clear hfz17_0
           try clear hfz17_1
           try clear hfz17_2
           try clear hfz17_3
           try clear hfz19_0
           try clear hfz19_1
           try clear hfz19_2
           try clear hfz19_3
           try clear hfz20_0
           try clear hfz20_1
           try clear hfz20_2
           try clear hfz20_3
           try clear hfz27_0
           try clear hfz27_1
           try clear hfz27_2
           try clear hfz27_3
           try clear hfz28_0
           try clear hfz28_1
           try clear hfz28_2
           try clear hfz28_3
           try clear hfz30_0
           try clear hfz30_1
           try clear hfz30_2
           try clear hfz30_3
           try clear hfz31_0
           try clear hfz31_1
           try clear hfz31_2
           try clear hfz31_3
           try clear hfz33_0
           try clear hfz33_1
           try clear hfz33_2
           try clear hfz33_3
           try clear hfz42_0
           try clear hfz42_1
           try clear hfz42_2
           try clear hfz42_3
           try clear hfz43_0
           try clear hfz43_1
           try clear hfz43_2
           try clear hfz43_3
           try clear hfz45_0
           try clear hfz45_1
           try clear hfz45_2
           try clear hfz45_3
           try clear hfz46_0
           try clear hfz46_1
           try clear hfz46_2
           try clear hfz46_3
           try clear hfz48_0
           try clear hfz48_1
           try clear hfz48_2
           try clear hfz48_3
           try clear hfz49_0
           try clear hfz49_1
           try clear hfz49_2
           try clear hfz49_3
           try clear hfz51_0
           try clear hfz51_1
           try clear hfz51_2
           try clear hfz51_3
           try clear hfz52_0
           try clear hfz52_1
           try clear hfz52_2
           try clear hfz52_3
           try clear hfz54_0
           try clear hfz54_1
           try clear hfz54_2
           try clear hfz54_3
           try clear hx399_0
           try clear hx399_1
           try clear hx399_2
           try clear hx400_0
           try clear hx400_1
           try clear hx400_2
           try clear hx401_0
           try clear hx401_1
           try clear hx401_2
           try clear hx402_0
           try clear hx402_1
           try clear hx402_2
           try clear hx404_0
           try clear hx404_1
           try clear hx404_2
           try clear hx405_0
           try clear hx405_1
           try clear hx405_2
           try clear hx406_0
           try clear hx406_1
           try clear hx406_2
           try clear hx407_0
           try clear hx407_1
           try clear hx407_2
           try clear p2
           try clear p3
           try clear p399
           try clear p4
           try clear p400
           try clear p401
           try clear p402
           try clear p404
           try clear p405
           try clear p406
           try clear p407
           try clear p6
           try clear q3
           try clear q399
           try clear q4
           try clear q400
           try clear q401
           try clear q402
           try clear q404
           try clear q405
           try clear q406
           try clear q407
           obtain ⟨x8_4, rfl, HA, HK4, BK397, BK398, HB⟩ := hrel
           cases gk with
           | zero => exact absurd HA.out (by simp [alumref20_Same.l2])
           | succ k4 =>
            have H := HA.out
            clear HA
            simp only [alumref20_Same.l2] at H
            by_cases c55 : x8_4 < (l0_3.length : Int)
            ·rw [if_pos c55] at H
             have c55b0 : decide (x8_4 < (l0_3.length : Int)) = true := decide_eq_true c55
             clear c55
             by_cases c56 : 0 ≤ x8_4
             ·rw [if_pos c56] at H
              have c56b0 : decide (0 ≤ x8_4) = true := decide_eq_true c56
              clear c56
              by_cases c57 : x8_4 < (l1_3.length : Int)
              ·rw [if_pos c57] at H
               have c57b0 : decide (x8_4 < (l1_3.length : Int)) = true := decide_eq_true c57
               clear c57
               by_cases c58 : (!(((rd_T42 l0_3 x8_4).f0) == ((rd_T42 l1_3 x8_4).f0)) || (!(((rd_T42 l0_3 x8_4).f1) == ((rd_T42 l1_3 x8_4).f1)) || ((!(((rd_T42 l0_3 x8_4).f2.f0) == ((rd_T42 l1_3 x8_4).f2.f0)) || (!(((rd_T42 l0_3 x8_4).f2.f1) == ((rd_T42 l1_3 x8_4).f2.f1)) || (!((((rd_T42 l0_3 x8_4).f2.f2).toList) == (((rd_T42 l1_3 x8_4).f2.f2).toList)))))))) = true
               ·rw [if_pos c58] at H
                have c58b0 : (!(((rd_T42 l0_3 x8_4).f0) == ((rd_T42 l1_3 x8_4).f0)) || (!(((rd_T42 l0_3 x8_4).f1) == ((rd_T42 l1_3 x8_4).f1)) || ((!(((rd_T42 l0_3 x8_4).f2.f0) == ((rd_T42 l1_3 x8_4).f2.f0)) || (!(((rd_T42 l0_3 x8_4).f2.f1) == ((rd_T42 l1_3 x8_4).f2.f1)) || (!((((rd_T42 l0_3 x8_4).f2.f2).toList) == (((rd_T42 l1_3 x8_4).f2.f2).toList)))))))) = true := c58
                clear c58
                obtain rfl := Option.some.inj H
                have hnb59 := NB397_398.out
                have hnc59 := NB398_397.out
                have hcz60_0 : wr.cell? ⟨gb397, 0, none⟩ = some (.string a0_0) := (blk_cell BK397.out 0).trans rfl
                have hcz60_1 : wr.cell? ⟨gb397, 1, none⟩ = some (.slice A0_1 l0_1.length c0_1) := (blk_cell BK397.out 1).trans rfl
                have hcz60_2 : wr.cell? ⟨gb397, 2, none⟩ = some (.slice A0_2 l0_2.length c0_2) := (blk_cell BK397.out 2).trans rfl
                have hcz60_3 : wr.cell? ⟨gb397, 3, none⟩ = some (.slice A0_3 l0_3.length c0_3) := (blk_cell BK397.out 3).trans rfl
                have hfz60_0 := blk_frozen BK397.out 0
                have hfz60_1 := blk_frozen BK397.out 1
                have hfz60_2 := blk_frozen BK397.out 2
                have hfz60_3 := blk_frozen BK397.out 3
                have p408 : 0 ≤ (x8_4 : Int) := of_decide_eq_true (by first | (with_reducible assumption) | assumption)
                have q408 : x8_4 < (l0_3.length : Int) := of_decide_eq_true (by first | (with_reducible assumption) | assumption)
                obtain ⟨ad408, e408, hx408_0, hx408_1, hx408_2, hx408_3, hx408_4⟩ := at_T42 HR0_3.out x8_4 p408 q408
                cases e408
                replace hx408_0 := (HB.out.cell (World.block_lt_of_cell? w _ hx408_0)).trans hx408_0
                replace hx408_1 := (HB.out.cell (World.block_lt_of_cell? w _ hx408_1)).trans hx408_1
                replace hx408_2 := (HB.out.cell (World.block_lt_of_cell? w _ hx408_2)).trans hx408_2
                replace hx408_3 := (HB.out.cell (World.block_lt_of_cell? w _ hx408_3)).trans hx408_3
                replace hx408_4 := (HB.out.cell (World.block_lt_of_cell? w _ hx408_4)).trans hx408_4
                replace p408 := eq_true p408
                replace q408 := eq_true q408
                have hcz61_0 : wr.cell? ⟨gb398, 0, none⟩ = some (.string a1_0) := (blk_cell BK398.out 0).trans rfl
                have hcz61_1 : wr.cell? ⟨gb398, 1, none⟩ = some (.slice A1_1 l1_1.length c1_1) := (blk_cell BK398.out 1).trans rfl
                have hcz61_2 : wr.cell? ⟨gb398, 2, none⟩ = some (.slice A1_2 l1_2.length c1_2) := (blk_cell BK398.out 2).trans rfl
                have hcz61_3 : wr.cell? ⟨gb398, 3, none⟩ = some (.slice A1_3 l1_3.length c1_3) := (blk_cell BK398.out 3).trans rfl
                have hfz61_0 := blk_frozen BK398.out 0
                have hfz61_1 := blk_frozen BK398.out 1
                have hfz61_2 := blk_frozen BK398.out 2
                have hfz61_3 := blk_frozen BK398.out 3
                have p409 : 0 ≤ (x8_4 : Int) := of_decide_eq_true (by first | (with_reducible assumption) | assumption)
                have q409 : x8_4 < (l1_3.length : Int) := of_decide_eq_true (by first | (with_reducible assumption) | assumption)
                obtain ⟨ad409, e409, hx409_0, hx409_1, hx409_2, hx409_3, hx409_4⟩ := at_T42 HR1_3.out x8_4 p409 q409
                cases e409
                replace hx409_0 := (HB.out.cell (World.block_lt_of_cell? w _ hx409_0)).trans hx409_0
                replace hx409_1 := (HB.out.cell (World.block_lt_of_cell? w _ hx409_1)).trans hx409_1
                replace hx409_2 := (HB.out.cell (World.block_lt_of_cell? w _ hx409_2)).trans hx409_2
                replace hx409_3 := (HB.out.cell (World.block_lt_of_cell? w _ hx409_3)).trans hx409_3
                replace hx409_4 := (HB.out.cell (World.block_lt_of_cell? w _ hx409_4)).trans hx409_4
                replace p409 := eq_true p409
                replace q409 := eq_true q409
                go_wp2
                repeat (go_quiet (fail); try go_wp2)
                go_ret
                exact ⟨by first | rfl | (simp [errW_none, errW_some] <;> rfl) | (simp [*, errW_none, errW_some] <;> rfl), by repeat (first | (with_reducible first | exact HB.out | apply below_alloc | apply pw_below_drewN | apply below_drew1 | refine below_set ?_ GE397.out | refine below_set ?_ GE398.out) | exact HB.out)⟩
               ·rw [if_neg c58] at H
                have c58b0 : (!(((rd_T42 l0_3 x8_4).f0) == ((rd_T42 l1_3 x8_4).f0)) || (!(((rd_T42 l0_3 x8_4).f1) == ((rd_T42 l1_3 x8_4).f1)) || ((!(((rd_T42 l0_3 x8_4).f2.f0) == ((rd_T42 l1_3 x8_4).f2.f0)) || (!(((rd_T42 l0_3 x8_4).f2.f1) == ((rd_T42 l1_3 x8_4).f2.f1)) || (!((((rd_T42 l0_3 x8_4).f2.f2).toList) == (((rd_T42 l1_3 x8_4).f2.f2).toList)))))))) = false := by simpa using c58
                clear c58
                have H' := Aside0.mk H
                clear H
                have hnb62 := NB397_398.out
                have hnc62 := NB398_397.out
                have hcz63_0 : wr.cell? ⟨gb397, 0, none⟩ = some (.string a0_0) := (blk_cell BK397.out 0).trans rfl
                have hcz63_1 : wr.cell? ⟨gb397, 1, none⟩ = some (.slice A0_1 l0_1.length c0_1) := (blk_cell BK397.out 1).trans rfl
                have hcz63_2 : wr.cell? ⟨gb397, 2, none⟩ = some (.slice A0_2 l0_2.length c0_2) := (blk_cell BK397.out 2).trans rfl
                have hcz63_3 : wr.cell? ⟨gb397, 3, none⟩ = some (.slice A0_3 l0_3.length c0_3) := (blk_cell BK397.out 3).trans rfl
                have hfz63_0 := blk_frozen BK397.out 0
                have hfz63_1 := blk_frozen BK397.out 1
                have hfz63_2 := blk_frozen BK397.out 2
                have hfz63_3 := blk_frozen BK397.out 3
                have p408 : 0 ≤ (x8_4 : Int) := of_decide_eq_true (by first | (with_reducible assumption) | assumption)
                have q408 : x8_4 < (l0_3.length : Int) := of_decide_eq_true (by first | (with_reducible assumption) | assumption)
                obtain ⟨ad408, e408, hx408_0, hx408_1, hx408_2, hx408_3, hx408_4⟩ := at_T42 HR0_3.out x8_4 p408 q408
                cases e408
                replace hx408_0 := (HB.out.cell (World.block_lt_of_cell? w _ hx408_0)).trans hx408_0
                replace hx408_1 := (HB.out.cell (World.block_lt_of_cell? w _ hx408_1)).trans hx408_1
                replace hx408_2 := (HB.out.cell (World.block_lt_of_cell? w _ hx408_2)).trans hx408_2
                replace hx408_3 := (HB.out.cell (World.block_lt_of_cell? w _ hx408_3)).trans hx408_3
                replace hx408_4 := (HB.out.cell (World.block_lt_of_cell? w _ hx408_4)).trans hx408_4
                replace p408 := eq_true p408
                replace q408 := eq_true q408
                have hcz64_0 : wr.cell? ⟨gb398, 0, none⟩ = some (.string a1_0) := (blk_cell BK398.out 0).trans rfl
                have hcz64_1 : wr.cell? ⟨gb398, 1, none⟩ = some (.slice A1_1 l1_1.length c1_1) := (blk_cell BK398.out 1).trans rfl
                have hcz64_2 : wr.cell? ⟨gb398, 2, none⟩ = some (.slice A1_2 l1_2.length c1_2) := (blk_cell BK398.out 2).trans rfl
                have hcz64_3 : wr.cell? ⟨gb398, 3, none⟩ = some (.slice A1_3 l1_3.length c1_3) := (blk_cell BK398.out 3).trans rfl
                have hfz64_0 := blk_frozen BK398.out 0
                have hfz64_1 := blk_frozen BK398.out 1
                have hfz64_2 := blk_frozen BK398.out 2
                have hfz64_3 := blk_frozen BK398.out 3
                have p409 : 0 ≤ (x8_4 : Int) := of_decide_eq_true (by first | (with_reducible assumption) | assumption)
                have q409 : x8_4 < (l1_3.length : Int) := of_decide_eq_true (by first | (with_reducible assumption) | assumption)
                obtain ⟨ad409, e409, hx409_0, hx409_1, hx409_2, hx409_3, hx409_4⟩ := at_T42 HR1_3.out x8_4 p409 q409
                cases e409
                replace hx409_0 := (HB.out.cell (World.block_lt_of_cell? w _ hx409_0)).trans hx409_0
                replace hx409_1 := (HB.out.cell (World.block_lt_of_cell? w _ hx409_1)).trans hx409_1
                replace hx409_2 := (HB.out.cell (World.block_lt_of_cell? w _ hx409_2)).trans hx409_2
                replace hx409_3 := (HB.out.cell (World.block_lt_of_cell? w _ hx409_3)).trans hx409_3
                replace hx409_4 := (HB.out.cell (World.block_lt_of_cell? w _ hx409_4)).trans hx409_4
                replace p409 := eq_true p409
                replace q409 := eq_true q409
                go_wp2
                repeat (go_quiet (fail); try go_wp2)
                go_roundg k4
                case measure => have := HJ2.out; have := HK2.out; have := HK3.out; have := HK4.out; omega
                case rel => exact ⟨(wrap64 (x8_4 + 1)), (by first | rfl | (simp; done) | (simp [*]; done)), H', ⟨by have := HJ2.out; have := HK2.out; have := HK3.out; have := HK4.out; omega⟩, ⟨by (with_reducible repeat (first | refine blk_drewN ?_ _ | refine blk_drew ?_ | refine blk_alloc ?_ _)); exact BK397.out⟩, ⟨by (with_reducible repeat (first | refine blk_drewN ?_ _ | refine blk_drew ?_ | refine blk_alloc ?_ _)); exact BK398.out⟩, ⟨by repeat (first | (with_reducible first | exact HB.out | apply below_alloc | apply pw_below_drewN | apply below_drew1 | refine below_set ?_ GE397.out | refine below_set ?_ GE398.out) | exact HB.out)⟩⟩
              ·rw [if_neg c57] at H
               exact absurd H (by simp)
             ·rw [if_neg c56] at H
              exact absurd H (by simp)
            ·rw [if_neg c55] at H
             have c55b0 : decide (x8_4 < (l0_3.length : Int)) = false := decide_eq_false c55
             clear c55
             obtain rfl := Option.some.inj H
             have hnb65 := NB397_398.out
             have hnc65 := NB398_397.out
             have hcz66_0 : wr.cell? ⟨gb397, 0, none⟩ = some (.string a0_0) := (blk_cell BK397.out 0).trans rfl
             have hcz66_1 : wr.cell? ⟨gb397, 1, none⟩ = some (.slice A0_1 l0_1.length c0_1) := (blk_cell BK397.out 1).trans rfl
             have hcz66_2 : wr.cell? ⟨gb397, 2, none⟩ = some (.slice A0_2 l0_2.length c0_2) := (blk_cell BK397.out 2).trans rfl
             have hcz66_3 : wr.cell? ⟨gb397, 3, none⟩ = some (.slice A0_3 l0_3.length c0_3) := (blk_cell BK397.out 3).trans rfl
             have hfz66_0 := blk_frozen BK397.out 0
             have hfz66_1 := blk_frozen BK397.out 1
             have hfz66_2 := blk_frozen BK397.out 2
             have hfz66_3 := blk_frozen BK397.out 3
             go_wp2
             repeat (go_quiet (fail); try go_wp2)
             go_ret
             exact ⟨by first | rfl | (simp [errW_none, errW_some] <;> rfl) | (simp [*, errW_none, errW_some] <;> rfl), by repeat (first | (with_reducible first | exact HB.out | apply below_alloc | apply pw_below_drewN | apply below_drew1 | refine below_set ?_ GE397.out | refine below_set ?_ GE398.out) | exact HB.out)⟩

end Go.Proofs.Ytkopbaikmlajmaa.Q
