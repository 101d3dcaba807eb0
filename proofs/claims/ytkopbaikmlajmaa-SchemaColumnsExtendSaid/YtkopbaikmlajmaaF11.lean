-- Laid by this session's own call of the kit's print.py (wip/qprint.py)
import Derived.Test.YtkopbaikmlajmaaK
import Derived.Test.YtkopbaikmlajmaaFA
import Derived.Test.YtkopbaikmlajmaaF25
import Derived.Test.YtkopbaikmlajmaaF43
import Derived.Test.YtkopbaikmlajmaaF47
import Derived.Test.YtkopbaikmlajmaaF22
import Derived.Test.YtkopbaikmlajmaaF31
namespace Go.Proofs.Ytkopbaikmlajmaa.Q
open Go.RowKit Go.Proofs.YtkopbaikmlajmaaW.PrintWords Go.Proofs.YtkopbaikmlajmaaW.PrintLast Go.Proofs.YtkopbaikmlajmaaW.PrintMore
attribute [local go_sem] max2_int min2_int max_two min_two max_three min_three max_four min_four   -- for this text's walks alone
set_option linter.unusedVariables false
set_option linter.unusedSimpArgs false

attribute [local go_sem high] eqA40
theorem nil_beq11 (l : List UInt8) : l.isEmpty = (l == ([] : List UInt8)) := by cases l <;> rfl
/-! ### alumlaw20_SchemaColumnsExtend: function 11 -/
mutual
def alumlaw20_SchemaColumnsExtend.j0 : Nat → List (S40) → Bool → Bool → ByteArray → List (S56) → List (S65) → List (S42) → ByteArray → Int → Bool → Option (Bool)
  | 0, _, _, _, _, _, _, _, _, _, _ => none
  | k + 1, x2, x7, x20, x412000, x412001, x412002, x412003, x413000, x413001, x413002 => if x20 = true then (some x7) else ((schema_AddColumn.f x412000 x412001 x412002 x412003 x413000 x413001 x413002).bind fun bt415 => (if bt415.2.2.2.2 = 0 then ((schema_Fits.f x412000 x412001 x412002 x412003 x2).bind fun t427 => (alumlaw20_SchemaColumnsExtend.j1 k x2 x7 (t427 != 0) bt415.1 bt415.2.1 bt415.2.2.1 bt415.2.2.2.1)) else (alumlaw20_SchemaColumnsExtend.j1 k x2 x7 true bt415.1 bt415.2.1 bt415.2.2.1 bt415.2.2.2.1)))
def alumlaw20_SchemaColumnsExtend.j1 : Nat → List (S40) → Bool → Bool → ByteArray → List (S56) → List (S65) → List (S42) → Option (Bool)
  | 0, _, _, _, _, _, _, _ => none
  | k + 1, x2, x7, x35, x427000, x427001, x427002, x427003 => if x35 = true then (some x7) else ((schema_Extend.f x427000 x427001 x427002 x427003 x2).bind fun t428 => (if (t428.length : Int) = (wrap64 ((x2.length : Int) + 1)) then (if 0 ≤ (x2.length : Int) then (if (x2.length : Int) ≤ (t428.length : Int) then ((alumref20_SameRow.f k (t428.take ((x2.length : Int) : Int).toNat) x2).bind fun t435 => (alumlaw20_SchemaColumnsExtend.j2 k x2 x7 t428 (!t435) x427000 x427001 x427002 x427003)) else (none)) else (none)) else (alumlaw20_SchemaColumnsExtend.j2 k x2 x7 t428 true x427000 x427001 x427002 x427003)))
def alumlaw20_SchemaColumnsExtend.j2 : Nat → List (S40) → Bool → List (S40) → Bool → ByteArray → List (S56) → List (S65) → List (S42) → Option (Bool)
  | 0, _, _, _, _, _, _, _, _ => none
  | k + 1, x2, x7, x10, x54, x427000, x427001, x427002, x427003 => if x54 = true then (some false) else (if 0 ≤ (x2.length : Int) then (if (x2.length : Int) < (x10.length : Int) then (if x7 = true then (if (((rd_T40 x10 (x2.length : Int)).f0) == 0 && (((rd_T40 x10 (x2.length : Int)).f1) == 0 && ((((rd_T40 x10 (x2.length : Int)).f2).toList) == ([] : List UInt8)))) = true then ((schema_Fits.f x427000 x427001 x427002 x427003 x10).bind fun t437 => (if t437 = 0 then ((schema_Fits.f x427000 x427001 x427002 x427003 x2).bind fun t438 => (some (t438 == 1))) else (some false))) else (some false)) else (some false)) else (none)) else (none))
end
def alumlaw20_SchemaColumnsExtend.f (k : Nat) (a0_0 : ByteArray) (l0_1 : List (S56)) (l0_2 : List (S65)) (l0_3 : List (S42)) (a1_0 : ByteArray) (a1_1 : Int) (a1_2 : Bool) (l2 : List (S40)) : Option (Bool) := (alumlaw20_sanity.f).bind fun t413 => ((alumref20_Few.f k a0_0 l0_1 l0_2 l0_3).bind fun t414 => (if t414 = true then (alumlaw20_SchemaColumnsExtend.j0 k l2 t413 (decide ((l2.length : Int) > 20)) a0_0 l0_1 l0_2 l0_3 a1_0 a1_1 a1_2) else (alumlaw20_SchemaColumnsExtend.j0 k l2 t413 true a0_0 l0_1 l0_2 l0_3 a1_0 a1_1 a1_2)))
theorem alumlaw20_SchemaColumnsExtend.mono_l : ∀ k, (∀ y0 y1 y2 y3 y4 y5 y6 y7 y8 y9, LeO (alumlaw20_SchemaColumnsExtend.j0 k y0 y1 y2 y3 y4 y5 y6 y7 y8 y9) (alumlaw20_SchemaColumnsExtend.j0 (k + 1) y0 y1 y2 y3 y4 y5 y6 y7 y8 y9)) ∧ (∀ y0 y1 y2 y3 y4 y5 y6, LeO (alumlaw20_SchemaColumnsExtend.j1 k y0 y1 y2 y3 y4 y5 y6) (alumlaw20_SchemaColumnsExtend.j1 (k + 1) y0 y1 y2 y3 y4 y5 y6)) ∧ (∀ y0 y1 y2 y3 y4 y5 y6 y7, LeO (alumlaw20_SchemaColumnsExtend.j2 k y0 y1 y2 y3 y4 y5 y6 y7) (alumlaw20_SchemaColumnsExtend.j2 (k + 1) y0 y1 y2 y3 y4 y5 y6 y7))
  | 0 => ⟨fun _ _ _ _ _ _ _ _ _ _ r h => by simp [alumlaw20_SchemaColumnsExtend.j0] at h, fun _ _ _ _ _ _ _ r h => by simp [alumlaw20_SchemaColumnsExtend.j1] at h, fun _ _ _ _ _ _ _ _ r h => by simp [alumlaw20_SchemaColumnsExtend.j2] at h⟩
  | k + 1 => by
    obtain ⟨ih0, ih1, ih2⟩ := alumlaw20_SchemaColumnsExtend.mono_l k
    refine ⟨?_, ?_, ?_⟩
    · intro y0 y1 y2 y3 y4 y5 y6 y7 y8 y9
      unfold alumlaw20_SchemaColumnsExtend.j0
      repeat' first
      | (with_reducible exact ih0 _ _ _ _ _ _ _ _ _ _)
      | (with_reducible exact ih1 _ _ _ _ _ _ _)
      | (with_reducible exact ih2 _ _ _ _ _ _ _ _)
      | (with_reducible exact alumref20_Few.mono _ _ _ _ _)
      | (with_reducible exact alumref20_SameRow.mono _ _ _)
      | (with_reducible exact LeO.refl _)
      | (with_reducible exact LeO.none _)
      | (with_reducible refine LeO.ite ?_ ?_)
      | (with_reducible refine LeO.bind ?_ (fun _ => ?_))
      | exact ih0 _ _ _ _ _ _ _ _ _ _
      | exact ih1 _ _ _ _ _ _ _
      | exact ih2 _ _ _ _ _ _ _ _
      | exact alumref20_Few.mono _ _ _ _ _
      | exact alumref20_SameRow.mono _ _ _
      | exact LeO.none _
      | refine LeO.ite ?_ ?_
      | refine LeO.bind ?_ (fun _ => ?_)
    · intro y0 y1 y2 y3 y4 y5 y6
      unfold alumlaw20_SchemaColumnsExtend.j1
      repeat' first
      | (with_reducible exact ih0 _ _ _ _ _ _ _ _ _ _)
      | (with_reducible exact ih1 _ _ _ _ _ _ _)
      | (with_reducible exact ih2 _ _ _ _ _ _ _ _)
      | (with_reducible exact alumref20_Few.mono _ _ _ _ _)
      | (with_reducible exact alumref20_SameRow.mono _ _ _)
      | (with_reducible exact LeO.refl _)
      | (with_reducible exact LeO.none _)
      | (with_reducible refine LeO.ite ?_ ?_)
      | (with_reducible refine LeO.bind ?_ (fun _ => ?_))
      | exact ih0 _ _ _ _ _ _ _ _ _ _
      | exact ih1 _ _ _ _ _ _ _
      | exact ih2 _ _ _ _ _ _ _ _
      | exact alumref20_Few.mono _ _ _ _ _
      | exact alumref20_SameRow.mono _ _ _
      | exact LeO.none _
      | refine LeO.ite ?_ ?_
      | refine LeO.bind ?_ (fun _ => ?_)
    · intro y0 y1 y2 y3 y4 y5 y6 y7
      unfold alumlaw20_SchemaColumnsExtend.j2
      repeat' first
      | (with_reducible exact ih0 _ _ _ _ _ _ _ _ _ _)
      | (with_reducible exact ih1 _ _ _ _ _ _ _)
      | (with_reducible exact ih2 _ _ _ _ _ _ _ _)
      | (with_reducible exact alumref20_Few.mono _ _ _ _ _)
      | (with_reducible exact alumref20_SameRow.mono _ _ _)
      | (with_reducible exact LeO.refl _)
      | (with_reducible exact LeO.none _)
      | (with_reducible refine LeO.ite ?_ ?_)
      | (with_reducible refine LeO.bind ?_ (fun _ => ?_))
      | exact ih0 _ _ _ _ _ _ _ _ _ _
      | exact ih1 _ _ _ _ _ _ _
      | exact ih2 _ _ _ _ _ _ _ _
      | exact alumref20_Few.mono _ _ _ _ _
      | exact alumref20_SameRow.mono _ _ _
      | exact LeO.none _
      | refine LeO.ite ?_ ?_
      | refine LeO.bind ?_ (fun _ => ?_)
theorem alumlaw20_SchemaColumnsExtend.mono : ∀ a0 a1 a2 a3 a4 a5 a6 a7 k, LeO (alumlaw20_SchemaColumnsExtend.f k a0 a1 a2 a3 a4 a5 a6 a7) (alumlaw20_SchemaColumnsExtend.f (k + 1) a0 a1 a2 a3 a4 a5 a6 a7) := by
  intro a0 a1 a2 a3 a4 a5 a6 a7 k
  obtain ⟨ih0, ih1, ih2⟩ := alumlaw20_SchemaColumnsExtend.mono_l k
  unfold alumlaw20_SchemaColumnsExtend.f
  repeat' first
      | (with_reducible exact ih0 _ _ _ _ _ _ _ _ _ _)
      | (with_reducible exact ih1 _ _ _ _ _ _ _)
      | (with_reducible exact ih2 _ _ _ _ _ _ _ _)
      | (with_reducible exact alumref20_Few.mono _ _ _ _ _)
      | (with_reducible exact alumref20_SameRow.mono _ _ _)
      | (with_reducible exact LeO.refl _)
      | (with_reducible exact LeO.none _)
      | (with_reducible refine LeO.ite ?_ ?_)
      | (with_reducible refine LeO.bind ?_ (fun _ => ?_))
      | exact ih0 _ _ _ _ _ _ _ _ _ _
      | exact ih1 _ _ _ _ _ _ _
      | exact ih2 _ _ _ _ _ _ _ _
      | exact alumref20_Few.mono _ _ _ _ _
      | exact alumref20_SameRow.mono _ _ _
      | exact LeO.none _
      | refine LeO.ite ?_ ?_
      | refine LeO.bind ?_ (fun _ => ?_)
set_option maxHeartbeats 8000000 in
set_option maxRecDepth 100000 in
theorem alumlaw20_SchemaColumnsExtend.calls (k : Nat) (a0_0 : ByteArray) (A0_1 : Option Addr) (c0_1 : Nat) (l0_1 : List (S56)) (A0_2 : Option Addr) (c0_2 : Nat) (l0_2 : List (S65)) (A0_3 : Option Addr) (c0_3 : Nat) (l0_3 : List (S42)) (a1_0 : ByteArray) (a1_1 : Int) (a1_2 : Bool) (A2 : Option Addr) (c2 : Nat) (l2 : List (S40)) (r : Bool) (w : World) (hr0_1 : Kd.C k56 w A0_1 l0_1.length l0_1) (hc0_1 : l0_1.length ≤ c0_1) (hr0_2 : Kd.C k65 w A0_2 l0_2.length l0_2) (hc0_2 : l0_2.length ≤ c0_2) (hr0_3 : Kd.C k42 w A0_3 l0_3.length l0_3) (hc0_3 : l0_3.length ≤ c0_3) (hr2 : Kd.C k40 w A2 l2.length l2) (hc2 : l2.length ≤ c2) (h : alumlaw20_SchemaColumnsExtend.f k a0_0 l0_1 l0_2 l0_3 a1_0 a1_1 a1_2 l2 = some r) :
    Calls Try.prog 11 #[.agg #[.string a0_0, .slice A0_1 l0_1.length c0_1, .slice A0_2 l0_2.length c0_2, .slice A0_3 l0_3.length c0_3], .agg #[.string a1_0, .int .i64 a1_1, .bool a1_2], .slice A2 l2.length c2] w fun e w' => e = .returned (.bool r) ∧ Below w.heap.size w w' := by
  have hu28 := Try.underlying28
  have hu56 := Try.underlying56
  have hu40 := Try.underlying40
  have HR0_1 := Aside0.mk hr0_1
  have HC0_1 := Aside0.mk hc0_1
  clear hr0_1 hc0_1
  have HR0_2 := Aside0.mk hr0_2
  have HC0_2 := Aside0.mk hc0_2
  clear hr0_2 hc0_2
  have HR0_3 := Aside0.mk hr0_3
  have HC0_3 := Aside0.mk hc0_3
  clear hr0_3 hc0_3
  have HR2 := Aside0.mk hr2
  have HC2 := Aside0.mk hc2
  clear hr2 hc2
  have HB := Aside0.mk (Below.refl w.heap.size w)
  have H : ((alumlaw20_sanity.f).bind fun t413 => ((alumref20_Few.f k a0_0 l0_1 l0_2 l0_3).bind fun t414 => (if t414 = true then (alumlaw20_SchemaColumnsExtend.j0 k l2 t413 (decide ((l2.length : Int) > 20)) a0_0 l0_1 l0_2 l0_3 a1_0 a1_1 a1_2) else (alumlaw20_SchemaColumnsExtend.j0 k l2 t413 true a0_0 l0_1 l0_2 l0_3 a1_0 a1_1 a1_2)))) = some r := h
  clear h
  replace H := Option.bind_eq_some_iff.mp H
  obtain ⟨t413, A40, H⟩ := H
  replace H : ((alumref20_Few.f k a0_0 l0_1 l0_2 l0_3).bind fun t414 => (if t414 = true then (alumlaw20_SchemaColumnsExtend.j0 k l2 t413 (decide ((l2.length : Int) > 20)) a0_0 l0_1 l0_2 l0_3 a1_0 a1_1 a1_2) else (alumlaw20_SchemaColumnsExtend.j0 k l2 t413 true a0_0 l0_1 l0_2 l0_3 a1_0 a1_1 a1_2))) = some r := H
  have A4 := Aside0.mk A40
  clear A40
  have HC5 := Aside0.mk H
  clear H
  go_enter Try.func11, Try.ntmps11
  go_upto_region 2 with (first | ((with_reducible refine gate_dst (N := 3) rfl ?_); (try (refine gate_guard (by rfl) ?_; dsimp only)); refine box_event ?hg (N := 3) ?hd (cs := #[.string a0_0, .slice A0_1 l0_1.length c0_1, .slice A0_2 l0_2.length c0_2, .slice A0_3 l0_3.length c0_3]) (t := 28) ?hr ?_; (case hd => rfl); (case hg => rfl); (case hr => first | (go_simp; done) | (go_simp; rfl)); intro gb411 hg w6 hbox hb; have n0_ := Aside0.mk (below_step (by repeat (first | (with_reducible first | exact HB.out | apply below_alloc | apply pw_below_drewN | apply below_drew1) | exact HB.out)) hb); have n1_ := Aside0.mk (hbox); have n2_ := Aside0.mk ((by rw [hg]; exact (below_size (by repeat (first | (with_reducible first | exact HB.out | apply below_alloc | apply pw_below_drewN | apply below_drew1) | exact HB.out))) : w.heap.size ≤ gb411)); have n3_ := Aside0.mk ((by rw [hg]; exact (below_size (by repeat (first | (with_reducible first | exact HB.out | apply below_alloc | apply pw_below_drewN | apply below_drew1) | exact HB.out))) : w.heap.size ≤ gb411)); clear HB; have HB := n0_; have BK411 := n1_; have GW411 := n2_; have GE411 := n3_; clear n0_ n1_ n2_ n3_; clear hb hbox hg) | ((with_reducible refine gate_dst (N := 4) rfl ?_); (try (refine gate_guard (by rfl) ?_; dsimp only)); refine box_event ?hg (N := 4) ?hd (cs := #[.string a1_0, .int .i64 a1_1, .bool a1_2]) (t := 56) ?hr ?_; (case hd => rfl); (case hg => rfl); (case hr => first | (go_simp; done) | (go_simp; rfl)); intro gb412 hg w7 hbox hb; have n0_ := Aside0.mk (blk_below (g := gb411) (o := .cells #[.string a0_0, .slice A0_1 l0_1.length c0_1, .slice A0_2 l0_2.length c0_2, .slice A0_3 l0_3.length c0_3] 28 (0, 0)) (by (with_reducible repeat (first | refine blk_drewN ?_ _ | refine blk_drew ?_ | refine blk_alloc ?_ _)); exact BK411.out) hb); have n1_ := Aside0.mk (below_step (by repeat (first | (with_reducible first | exact HB.out | apply below_alloc | apply pw_below_drewN | apply below_drew1 | refine below_set ?_ GE411.out) | exact HB.out)) hb); have n2_ := Aside0.mk (hbox); have n3_ := Aside0.mk ((by rw [hg]; exact (below_size (by repeat (first | (with_reducible first | exact HB.out | apply below_alloc | apply pw_below_drewN | apply below_drew1 | refine below_set ?_ GE411.out) | exact HB.out))) : w.heap.size ≤ gb412)); have n4_ := Aside0.mk ((by rw [hg]; exact (below_size (by repeat (first | (with_reducible first | exact HB.out | apply below_alloc | apply pw_below_drewN | apply below_drew1 | refine below_set ?_ GE411.out) | exact HB.out))) : w.heap.size ≤ gb412)); have n5_ := Aside0.mk ((by rw [hg]; exact Nat.ne_of_lt (blk_lt (g := gb411) (o := .cells #[.string a0_0, .slice A0_1 l0_1.length c0_1, .slice A0_2 l0_2.length c0_2, .slice A0_3 l0_3.length c0_3] 28 (0, 0)) (by (with_reducible repeat (first | refine blk_drewN ?_ _ | refine blk_drew ?_ | refine blk_alloc ?_ _)); exact BK411.out)) : gb411 ≠ gb412)); have n6_ := Aside0.mk ((by rw [hg]; exact Nat.ne_of_gt (blk_lt (g := gb411) (o := .cells #[.string a0_0, .slice A0_1 l0_1.length c0_1, .slice A0_2 l0_2.length c0_2, .slice A0_3 l0_3.length c0_3] 28 (0, 0)) (by (with_reducible repeat (first | refine blk_drewN ?_ _ | refine blk_drew ?_ | refine blk_alloc ?_ _)); exact BK411.out)) : gb412 ≠ gb411)); clear BK411; clear HB; have BK411 := n0_; have HB := n1_; have BK412 := n2_; have GW412 := n3_; have GE412 := n4_; have NB411_412 := n5_; have NB412_411 := n6_; clear n0_ n1_ n2_ n3_ n4_ n5_ n6_; clear hb hbox hg) | ((with_reducible refine gate_callee (f := 22) rfl ?_); refine goesL_ (some 12) rfl rfl Try.func22 (by kernel_rfl) rfl #[] rfl (by (try simp only [List.map_toArray, List.map_cons, List.map_nil]); first | done | rfl | (simp only [List.length_drop, List.length_take]; rfl)) ?_; (with_reducible refine (alumlaw20_sanity.calls  t413 _ A4.out).mono ?_); rintro e w8 ⟨rfl, hb⟩; refine ⟨_, rfl, ?_⟩; have n0_ := Aside0.mk (blk_below (g := gb411) (o := .cells #[.string a0_0, .slice A0_1 l0_1.length c0_1, .slice A0_2 l0_2.length c0_2, .slice A0_3 l0_3.length c0_3] 28 (0, 0)) (by (with_reducible repeat (first | refine blk_drewN ?_ _ | refine blk_drew ?_ | refine blk_alloc ?_ _)); exact BK411.out) hb); have n1_ := Aside0.mk (blk_below (g := gb412) (o := .cells #[.string a1_0, .int .i64 a1_1, .bool a1_2] 56 (0, 0)) (by (with_reducible repeat (first | refine blk_drewN ?_ _ | refine blk_drew ?_ | refine blk_alloc ?_ _)); exact BK412.out) hb); have n2_ := Aside0.mk (below_step (by repeat (first | (with_reducible first | exact HB.out | apply below_alloc | apply pw_below_drewN | apply below_drew1 | refine below_set ?_ GE411.out | refine below_set ?_ GE412.out) | exact HB.out)) hb); clear BK411; clear BK412; clear HB; have BK411 := n0_; have BK412 := n1_; have HB := n2_; clear n0_ n1_ n2_; (try clear hb); (try clear hb2); (try clear hk); (try clear hi)))
  (try simp only [Act.put, List.setIfInBounds_toArray, List.set_cons_zero, List.set_cons_succ])
  go_cut [20] (fun v20 wc => ∃ (kq : Nat) (x20_4 : Bool), v20 = .bool x20_4 ∧ Aside0 (alumlaw20_SchemaColumnsExtend.j0 kq l2 t413 x20_4 a0_0 l0_1 l0_2 l0_3 a1_0 a1_1 a1_2 = some r) ∧ Aside0 (kq ≤ k) ∧ Aside0 (wc.heap[gb411]? = some (.cells #[.string a0_0, (.slice A0_1 l0_1.length c0_1), (.slice A0_2 l0_2.length c0_2), (.slice A0_3 l0_3.length c0_3)] 28 (0, 0))) ∧ Aside0 (wc.heap[gb412]? = some (.cells #[.string a1_0, .int .i64 a1_1, .bool a1_2] 56 (0, 0))) ∧ Aside0 (Below w.heap.size w wc))
  case first =>
    have H := HC5.out
    clear HC5
    replace H := Option.bind_eq_some_iff.mp H
    obtain ⟨t414, A90, H⟩ := H
    replace H : (if t414 = true then (alumlaw20_SchemaColumnsExtend.j0 k l2 t413 (decide ((l2.length : Int) > 20)) a0_0 l0_1 l0_2 l0_3 a1_0 a1_1 a1_2) else (alumlaw20_SchemaColumnsExtend.j0 k l2 t413 true a0_0 l0_1 l0_2 l0_3 a1_0 a1_1 a1_2)) = some r := H
    have A9 := Aside0.mk A90
    clear A90
    by_cases c10 : t414 = true
    · subst c10
      have H1 : (alumlaw20_SchemaColumnsExtend.j0 k l2 t413 (decide ((l2.length : Int) > 20)) a0_0 l0_1 l0_2 l0_3 a1_0 a1_1 a1_2) = some r := by rw [if_pos rfl] at H; exact H
      clear H
      have H := H1
      clear H1
      have H' := Aside0.mk H
      clear H
      have hnb11 := NB411_412.out
      have hnc11 := NB412_411.out
      have hcz12_0 : w8.cell? ⟨gb411, 0, none⟩ = some (.string a0_0) := (blk_cell BK411.out 0).trans rfl
      have hcz12_1 : w8.cell? ⟨gb411, 1, none⟩ = some (.slice A0_1 l0_1.length c0_1) := (blk_cell BK411.out 1).trans rfl
      have hcz12_2 : w8.cell? ⟨gb411, 2, none⟩ = some (.slice A0_2 l0_2.length c0_2) := (blk_cell BK411.out 2).trans rfl
      have hcz12_3 : w8.cell? ⟨gb411, 3, none⟩ = some (.slice A0_3 l0_3.length c0_3) := (blk_cell BK411.out 3).trans rfl
      have hfz12_0 := blk_frozen BK411.out 0
      have hfz12_1 := blk_frozen BK411.out 1
      have hfz12_2 := blk_frozen BK411.out 2
      have hfz12_3 := blk_frozen BK411.out 3
      go_wp2_with (first | ((with_reducible refine gate_callee (f := 25) rfl ?_); refine goesL_ (some 14) rfl rfl Try.func25 (by kernel_rfl) rfl #[.agg #[.string a0_0, .slice A0_1 l0_1.length c0_1, .slice A0_2 l0_2.length c0_2, .slice A0_3 l0_3.length c0_3]] rfl (by (try simp only [List.map_toArray, List.map_cons, List.map_nil]); first | done | rfl | (simp only [List.length_drop, List.length_take]; rfl)) ?_; (with_reducible refine (alumref20_Few.calls k a0_0 _ _ l0_1 _ _ l0_2 _ _ l0_3 true _ ?side1 ?side2 ?side3 ?side4 ?side5 ?side6 A9.out).mono ?_); (case side1 => repeat (first | exact (Kd.C_below HR0_1.out HB.out) | (with_reducible refine Kd.C_alloc ?_ _) | (with_reducible refine Kd.C_drewN ?_ _) | (with_reducible refine Kd.C_drew ?_))); (case side2 => exact HC0_1.out); (case side3 => repeat (first | exact (Kd.C_below HR0_2.out HB.out) | (with_reducible refine Kd.C_alloc ?_ _) | (with_reducible refine Kd.C_drewN ?_ _) | (with_reducible refine Kd.C_drew ?_))); (case side4 => exact HC0_2.out); (case side5 => repeat (first | exact (Kd.C_below HR0_3.out HB.out) | (with_reducible refine Kd.C_alloc ?_ _) | (with_reducible refine Kd.C_drewN ?_ _) | (with_reducible refine Kd.C_drew ?_))); (case side6 => exact HC0_3.out); rintro e w13 ⟨rfl, hb⟩; refine ⟨_, rfl, ?_⟩; have n0_ := Aside0.mk (blk_below (g := gb411) (o := .cells #[.string a0_0, .slice A0_1 l0_1.length c0_1, .slice A0_2 l0_2.length c0_2, .slice A0_3 l0_3.length c0_3] 28 (0, 0)) (by (with_reducible repeat (first | refine blk_drewN ?_ _ | refine blk_drew ?_ | refine blk_alloc ?_ _)); exact BK411.out) hb); have n1_ := Aside0.mk (blk_below (g := gb412) (o := .cells #[.string a1_0, .int .i64 a1_1, .bool a1_2] 56 (0, 0)) (by (with_reducible repeat (first | refine blk_drewN ?_ _ | refine blk_drew ?_ | refine blk_alloc ?_ _)); exact BK412.out) hb); have n2_ := Aside0.mk (below_step (by repeat (first | (with_reducible first | exact HB.out | apply below_alloc | apply pw_below_drewN | apply below_drew1 | refine below_set ?_ GE411.out | refine below_set ?_ GE412.out) | exact HB.out)) hb); clear BK411; clear BK412; clear HB; have BK411 := n0_; have BK412 := n1_; have HB := n2_; clear n0_ n1_ n2_; (try clear hb); (try clear hb2); (try clear hk); (try clear hi)))
      go_meet
      case rel => exact ⟨_, (decide ((l2.length : Int) > 20)), (by first | rfl | (simp; done) | (simp [*]; done)), H', ⟨by first | omega | exact Nat.le_refl _⟩, ⟨by (with_reducible repeat (first | refine blk_drewN ?_ _ | refine blk_drew ?_ | refine blk_alloc ?_ _)); exact BK411.out⟩, ⟨by (with_reducible repeat (first | refine blk_drewN ?_ _ | refine blk_drew ?_ | refine blk_alloc ?_ _)); exact BK412.out⟩, ⟨by repeat (first | (with_reducible first | exact HB.out | apply below_alloc | apply pw_below_drewN | apply below_drew1 | refine below_set ?_ GE411.out | refine below_set ?_ GE412.out) | exact HB.out)⟩⟩
    · replace c10 := Bool.eq_false_iff.mpr c10
      subst c10
      have H1 : (alumlaw20_SchemaColumnsExtend.j0 k l2 t413 true a0_0 l0_1 l0_2 l0_3 a1_0 a1_1 a1_2) = some r := by rw [if_neg (show ¬ (false = true) by decide)] at H; exact H
      clear H
      have H := H1
      clear H1
      have H' := Aside0.mk H
      clear H
      have hnb14 := NB411_412.out
      have hnc14 := NB412_411.out
      have hcz15_0 : w8.cell? ⟨gb411, 0, none⟩ = some (.string a0_0) := (blk_cell BK411.out 0).trans rfl
      have hcz15_1 : w8.cell? ⟨gb411, 1, none⟩ = some (.slice A0_1 l0_1.length c0_1) := (blk_cell BK411.out 1).trans rfl
      have hcz15_2 : w8.cell? ⟨gb411, 2, none⟩ = some (.slice A0_2 l0_2.length c0_2) := (blk_cell BK411.out 2).trans rfl
      have hcz15_3 : w8.cell? ⟨gb411, 3, none⟩ = some (.slice A0_3 l0_3.length c0_3) := (blk_cell BK411.out 3).trans rfl
      have hfz15_0 := blk_frozen BK411.out 0
      have hfz15_1 := blk_frozen BK411.out 1
      have hfz15_2 := blk_frozen BK411.out 2
      have hfz15_3 := blk_frozen BK411.out 3
      go_wp2_with (first | ((with_reducible refine gate_callee (f := 25) rfl ?_); refine goesL_ (some 14) rfl rfl Try.func25 (by kernel_rfl) rfl #[.agg #[.string a0_0, .slice A0_1 l0_1.length c0_1, .slice A0_2 l0_2.length c0_2, .slice A0_3 l0_3.length c0_3]] rfl (by (try simp only [List.map_toArray, List.map_cons, List.map_nil]); first | done | rfl | (simp only [List.length_drop, List.length_take]; rfl)) ?_; (with_reducible refine (alumref20_Few.calls k a0_0 _ _ l0_1 _ _ l0_2 _ _ l0_3 false _ ?side1 ?side2 ?side3 ?side4 ?side5 ?side6 A9.out).mono ?_); (case side1 => repeat (first | exact (Kd.C_below HR0_1.out HB.out) | (with_reducible refine Kd.C_alloc ?_ _) | (with_reducible refine Kd.C_drewN ?_ _) | (with_reducible refine Kd.C_drew ?_))); (case side2 => exact HC0_1.out); (case side3 => repeat (first | exact (Kd.C_below HR0_2.out HB.out) | (with_reducible refine Kd.C_alloc ?_ _) | (with_reducible refine Kd.C_drewN ?_ _) | (with_reducible refine Kd.C_drew ?_))); (case side4 => exact HC0_2.out); (case side5 => repeat (first | exact (Kd.C_below HR0_3.out HB.out) | (with_reducible refine Kd.C_alloc ?_ _) | (with_reducible refine Kd.C_drewN ?_ _) | (with_reducible refine Kd.C_drew ?_))); (case side6 => exact HC0_3.out); rintro e w16 ⟨rfl, hb⟩; refine ⟨_, rfl, ?_⟩; have n0_ := Aside0.mk (blk_below (g := gb411) (o := .cells #[.string a0_0, .slice A0_1 l0_1.length c0_1, .slice A0_2 l0_2.length c0_2, .slice A0_3 l0_3.length c0_3] 28 (0, 0)) (by (with_reducible repeat (first | refine blk_drewN ?_ _ | refine blk_drew ?_ | refine blk_alloc ?_ _)); exact BK411.out) hb); have n1_ := Aside0.mk (blk_below (g := gb412) (o := .cells #[.string a1_0, .int .i64 a1_1, .bool a1_2] 56 (0, 0)) (by (with_reducible repeat (first | refine blk_drewN ?_ _ | refine blk_drew ?_ | refine blk_alloc ?_ _)); exact BK412.out) hb); have n2_ := Aside0.mk (below_step (by repeat (first | (with_reducible first | exact HB.out | apply below_alloc | apply pw_below_drewN | apply below_drew1 | refine below_set ?_ GE411.out | refine below_set ?_ GE412.out) | exact HB.out)) hb); clear BK411; clear BK412; clear HB; have BK411 := n0_; have BK412 := n1_; have HB := n2_; clear n0_ n1_ n2_; (try clear hb); (try clear hb2); (try clear hk); (try clear hi)))
      go_meet
      case rel => exact ⟨_, (true), (by first | rfl | (simp; done) | (simp [*]; done)), H', ⟨by first | omega | exact Nat.le_refl _⟩, ⟨by (with_reducible repeat (first | refine blk_drewN ?_ _ | refine blk_drew ?_ | refine blk_alloc ?_ _)); exact BK411.out⟩, ⟨by (with_reducible repeat (first | refine blk_drewN ?_ _ | refine blk_drew ?_ | refine blk_alloc ?_ _)); exact BK412.out⟩, ⟨by repeat (first | (with_reducible first | exact HB.out | apply below_alloc | apply pw_below_drewN | apply below_drew1 | refine below_set ?_ GE411.out | refine below_set ?_ GE412.out) | exact HB.out)⟩⟩
  case rest =>
    clear HC5
    try clear c1
    try clear c2
    try clear p2
    try clear c10
    try clear c11
    try clear c14
    try clear hcz12_0
    try clear hcz12_1
    try clear hcz12_2
    try clear hcz12_3
    try clear hcz15_0
    try clear hcz15_1
    try clear hcz15_2
    try clear hcz15_3
    try clear hfz12_0
    try clear hfz12_1
    try clear hfz12_2
    try clear hfz12_3
    try clear hfz15_0
    try clear hfz15_1
    try clear hfz15_2
    try clear hfz15_3
    obtain ⟨kq, x20_4, rfl, HA, HJ4, BK411, BK412, HB⟩ := hcut
    cases kq with
    | zero => exact absurd HA.out (by simp [alumlaw20_SchemaColumnsExtend.j0])
    | succ kj4 =>
      have H := HA.out
      clear HA
      simp only [alumlaw20_SchemaColumnsExtend.j0] at H
      by_cases c17 : x20_4 = true
      · subst c17
        have H1 : (some t413) = some r := by rw [if_pos rfl] at H; exact H
        clear H
        have H := H1
        clear H1
        obtain rfl := Option.some.inj H
        go_wp2
        go_ret
        exact ⟨by first | rfl | (simp [errW_none, errW_some] <;> rfl) | (simp [*, errW_none, errW_some] <;> rfl), by repeat (first | (with_reducible first | exact HB.out | apply below_alloc | apply pw_below_drewN | apply below_drew1 | refine below_set ?_ GE411.out | refine below_set ?_ GE412.out) | exact HB.out)⟩
      · replace c17 := Bool.eq_false_iff.mpr c17
        subst c17
        have H1 : ((schema_AddColumn.f a0_0 l0_1 l0_2 l0_3 a1_0 a1_1 a1_2).bind fun bt415 => (if bt415.2.2.2.2 = 0 then ((schema_Fits.f a0_0 l0_1 l0_2 l0_3 l2).bind fun t427 => (alumlaw20_SchemaColumnsExtend.j1 kj4 l2 t413 (t427 != 0) bt415.1 bt415.2.1 bt415.2.2.1 bt415.2.2.2.1)) else (alumlaw20_SchemaColumnsExtend.j1 kj4 l2 t413 true bt415.1 bt415.2.1 bt415.2.2.1 bt415.2.2.2.1))) = some r := by rw [if_neg (show ¬ (false = true) by decide)] at H; exact H
        clear H
        have H := H1
        clear H1
        replace H := Option.bind_eq_some_iff.mp H
        obtain ⟨⟨t415, t416, t419, t422, t425⟩, A180, H⟩ := H
        replace H : (if t425 = 0 then ((schema_Fits.f a0_0 l0_1 l0_2 l0_3 l2).bind fun t427 => (alumlaw20_SchemaColumnsExtend.j1 kj4 l2 t413 (t427 != 0) t415 t416 t419 t422)) else (alumlaw20_SchemaColumnsExtend.j1 kj4 l2 t413 true t415 t416 t419 t422)) = some r := H
        have A18 := Aside0.mk A180
        clear A180
        have HC19 := Aside0.mk H
        clear H
        have hnb20 := NB411_412.out
        have hnc20 := NB412_411.out
        have hcz21_0 : wc.cell? ⟨gb411, 0, none⟩ = some (.string a0_0) := (blk_cell BK411.out 0).trans rfl
        have hcz21_1 : wc.cell? ⟨gb411, 1, none⟩ = some (.slice A0_1 l0_1.length c0_1) := (blk_cell BK411.out 1).trans rfl
        have hcz21_2 : wc.cell? ⟨gb411, 2, none⟩ = some (.slice A0_2 l0_2.length c0_2) := (blk_cell BK411.out 2).trans rfl
        have hcz21_3 : wc.cell? ⟨gb411, 3, none⟩ = some (.slice A0_3 l0_3.length c0_3) := (blk_cell BK411.out 3).trans rfl
        have hfz21_0 := blk_frozen BK411.out 0
        have hfz21_1 := blk_frozen BK411.out 1
        have hfz21_2 := blk_frozen BK411.out 2
        have hfz21_3 := blk_frozen BK411.out 3
        have hcz22_0 : wc.cell? ⟨gb412, 0, none⟩ = some (.string a1_0) := (blk_cell BK412.out 0).trans rfl
        have hcz22_1 : wc.cell? ⟨gb412, 1, none⟩ = some (.int .i64 a1_1) := (blk_cell BK412.out 1).trans rfl
        have hcz22_2 : wc.cell? ⟨gb412, 2, none⟩ = some (.bool a1_2) := (blk_cell BK412.out 2).trans rfl
        have hfz22_0 := blk_frozen BK412.out 0
        have hfz22_1 := blk_frozen BK412.out 1
        have hfz22_2 := blk_frozen BK412.out 2
        go_upto_region 5 with (first | ((with_reducible refine gate_callee (f := 43) rfl ?_); refine goesL_ (some 25) rfl rfl Try.func43 (by kernel_rfl) rfl #[.agg #[.string a0_0, .slice A0_1 l0_1.length c0_1, .slice A0_2 l0_2.length c0_2, .slice A0_3 l0_3.length c0_3], .agg #[.string a1_0, .int .i64 a1_1, .bool a1_2]] rfl (by (try simp only [List.map_toArray, List.map_cons, List.map_nil]); first | done | rfl | (simp only [List.length_drop, List.length_take]; rfl)) ?_; (with_reducible refine (schema_AddColumn.calls a0_0 _ _ l0_1 _ _ l0_2 _ _ l0_3 a1_0 a1_1 a1_2 t415 t416 t419 t422 t425 _ ?side1 ?side2 ?side3 ?side4 ?side5 ?side6 A18.out).mono ?_); (case side1 => repeat (first | exact (Kd.C_below HR0_1.out HB.out) | (with_reducible refine Kd.C_alloc ?_ _) | (with_reducible refine Kd.C_drewN ?_ _) | (with_reducible refine Kd.C_drew ?_))); (case side2 => exact HC0_1.out); (case side3 => repeat (first | exact (Kd.C_below HR0_2.out HB.out) | (with_reducible refine Kd.C_alloc ?_ _) | (with_reducible refine Kd.C_drewN ?_ _) | (with_reducible refine Kd.C_drew ?_))); (case side4 => exact HC0_2.out); (case side5 => repeat (first | exact (Kd.C_below HR0_3.out HB.out) | (with_reducible refine Kd.C_alloc ?_ _) | (with_reducible refine Kd.C_drewN ?_ _) | (with_reducible refine Kd.C_drew ?_))); (case side6 => exact HC0_3.out); rintro e w23 ⟨v417, v420, v423, rfl, ho0, ho1, ho2, hb⟩; refine ⟨_, rfl, ?_⟩; have n0_ := Aside0.mk (Kd.R_lower (Kd.R_newB (Kd.R_mono (ok' := fun k_ => True) ho0 (fun _ hk_ => trivial)) (g := gb412) (o := .cells #[.string a1_0, .int .i64 a1_1, .bool a1_2] 56 (0, 0)) (by (with_reducible repeat (first | refine blk_drewN ?_ _ | refine blk_drew ?_ | refine blk_alloc ?_ _)); exact BK412.out)) (below_size (by repeat (first | (with_reducible first | exact HB.out | apply below_alloc | apply pw_below_drewN | apply below_drew1 | refine below_set ?_ GE411.out | refine below_set ?_ GE412.out) | exact HB.out)))); have n1_ := Aside0.mk (Kd.V_lower (Kd.V_mono (ok' := fun k_ => some k_ ≠ (v417 : Value).ownBlock ∧ some k_ ≠ (v423 : Value).ownBlock ∧ k_ ≠ gb411 ∧ k_ ≠ gb412) ho1 (fun k_ hk_ => ⟨hk_.2.1, hk_.2.2, (Kd.freshB (g := gb411) (o := .cells #[.string a0_0, .slice A0_1 l0_1.length c0_1, .slice A0_2 l0_2.length c0_2, .slice A0_3 l0_3.length c0_3] 28 (0, 0)) (by (with_reducible repeat (first | refine blk_drewN ?_ _ | refine blk_drew ?_ | refine blk_alloc ?_ _)); exact BK411.out) k_ hk_.1), (Kd.freshB (g := gb412) (o := .cells #[.string a1_0, .int .i64 a1_1, .bool a1_2] 56 (0, 0)) (by (with_reducible repeat (first | refine blk_drewN ?_ _ | refine blk_drew ?_ | refine blk_alloc ?_ _)); exact BK412.out) k_ hk_.1)⟩)) (below_size (by repeat (first | (with_reducible first | exact HB.out | apply below_alloc | apply pw_below_drewN | apply below_drew1 | refine below_set ?_ GE411.out | refine below_set ?_ GE412.out) | exact HB.out)))); have n2_ := Aside0.mk (Kd.R_lower (Kd.R_mono (ok' := fun k_ => True) ho2 (fun _ hk_ => trivial)) (below_size (by repeat (first | (with_reducible first | exact HB.out | apply below_alloc | apply pw_below_drewN | apply below_drew1 | refine below_set ?_ GE411.out | refine below_set ?_ GE412.out) | exact HB.out)))); have n3_ := Aside0.mk (blk_below (g := gb411) (o := .cells #[.string a0_0, .slice A0_1 l0_1.length c0_1, .slice A0_2 l0_2.length c0_2, .slice A0_3 l0_3.length c0_3] 28 (0, 0)) (by (with_reducible repeat (first | refine blk_drewN ?_ _ | refine blk_drew ?_ | refine blk_alloc ?_ _)); exact BK411.out) hb); have n4_ := Aside0.mk (blk_below (g := gb412) (o := .cells #[.string a1_0, .int .i64 a1_1, .bool a1_2] 56 (0, 0)) (by (with_reducible repeat (first | refine blk_drewN ?_ _ | refine blk_drew ?_ | refine blk_alloc ?_ _)); exact BK412.out) hb); have n5_ := Aside0.mk (below_step (by repeat (first | (with_reducible first | exact HB.out | apply below_alloc | apply pw_below_drewN | apply below_drew1 | refine below_set ?_ GE411.out | refine below_set ?_ GE412.out) | exact HB.out)) hb); clear BK411; clear BK412; clear HB; have HO418 := n0_; have HO421 := n1_; have HO424 := n2_; have BK411 := n3_; have BK412 := n4_; have HB := n5_; clear n0_ n1_ n2_ n3_ n4_ n5_; (try clear hb); (try clear hb2); (try clear hk); (try clear hi); (try clear ho0); (try clear ho1); (try clear ho2)) | ((with_reducible refine gate_dst (N := 8) rfl ?_); (try (refine gate_guard (by rfl) ?_; dsimp only)); refine box_event ?hg (N := 8) ?hd (cs := #[.string (⟨#[]⟩ : ByteArray), .slice none 0 0, .slice none 0 0, .slice none 0 0]) (t := 28) ?hr ?_; (case hd => rfl); (case hg => rfl); (case hr => first | (go_simp; done) | (go_simp; rfl)); intro gb426 hg w24 hbox hb; have n0_ := Aside0.mk (Kd.R_below (by (with_reducible repeat (first | apply Kd.R_alloc | apply Kd.R_drewN | apply Kd.R_drew)); exact HO418.out) hb); have n1_ := Aside0.mk (Kd.V_below (Kd.V_elderB (by (with_reducible repeat (first | apply Kd.V_alloc | apply Kd.V_drewN | apply Kd.V_drew)); exact HO421.out) gb426 (Nat.le_of_eq hg.symm)) hb); have n2_ := Aside0.mk (Kd.R_below (by (with_reducible repeat (first | apply Kd.R_alloc | apply Kd.R_drewN | apply Kd.R_drew)); exact HO424.out) hb); have n3_ := Aside0.mk (blk_below (g := gb411) (o := .cells #[.string a0_0, .slice A0_1 l0_1.length c0_1, .slice A0_2 l0_2.length c0_2, .slice A0_3 l0_3.length c0_3] 28 (0, 0)) (by (with_reducible repeat (first | refine blk_drewN ?_ _ | refine blk_drew ?_ | refine blk_alloc ?_ _)); exact BK411.out) hb); have n4_ := Aside0.mk (blk_below (g := gb412) (o := .cells #[.string a1_0, .int .i64 a1_1, .bool a1_2] 56 (0, 0)) (by (with_reducible repeat (first | refine blk_drewN ?_ _ | refine blk_drew ?_ | refine blk_alloc ?_ _)); exact BK412.out) hb); have n5_ := Aside0.mk (below_step (by repeat (first | (with_reducible first | exact HB.out | apply below_alloc | apply pw_below_drewN | apply below_drew1 | refine below_set ?_ GE411.out | refine below_set ?_ GE412.out) | exact HB.out)) hb); have n6_ := Aside0.mk (hbox); have n7_ := Aside0.mk ((by rw [hg]; exact (below_size (by repeat (first | (with_reducible first | exact HB.out | apply below_alloc | apply pw_below_drewN | apply below_drew1 | refine below_set ?_ GE411.out | refine below_set ?_ GE412.out) | exact HB.out))) : w.heap.size ≤ gb426)); have n8_ := Aside0.mk ((by rw [hg]; exact (below_size (by repeat (first | (with_reducible first | exact HB.out | apply below_alloc | apply pw_below_drewN | apply below_drew1 | refine below_set ?_ GE411.out | refine below_set ?_ GE412.out) | exact HB.out))) : w.heap.size ≤ gb426)); have n9_ := Aside0.mk ((by rw [hg]; exact Nat.ne_of_lt (blk_lt (g := gb411) (o := .cells #[.string a0_0, .slice A0_1 l0_1.length c0_1, .slice A0_2 l0_2.length c0_2, .slice A0_3 l0_3.length c0_3] 28 (0, 0)) (by (with_reducible repeat (first | refine blk_drewN ?_ _ | refine blk_drew ?_ | refine blk_alloc ?_ _)); exact BK411.out)) : gb411 ≠ gb426)); have n10_ := Aside0.mk ((by rw [hg]; exact Nat.ne_of_gt (blk_lt (g := gb411) (o := .cells #[.string a0_0, .slice A0_1 l0_1.length c0_1, .slice A0_2 l0_2.length c0_2, .slice A0_3 l0_3.length c0_3] 28 (0, 0)) (by (with_reducible repeat (first | refine blk_drewN ?_ _ | refine blk_drew ?_ | refine blk_alloc ?_ _)); exact BK411.out)) : gb426 ≠ gb411)); have n11_ := Aside0.mk ((by rw [hg]; exact Nat.ne_of_lt (blk_lt (g := gb412) (o := .cells #[.string a1_0, .int .i64 a1_1, .bool a1_2] 56 (0, 0)) (by (with_reducible repeat (first | refine blk_drewN ?_ _ | refine blk_drew ?_ | refine blk_alloc ?_ _)); exact BK412.out)) : gb412 ≠ gb426)); have n12_ := Aside0.mk ((by rw [hg]; exact Nat.ne_of_gt (blk_lt (g := gb412) (o := .cells #[.string a1_0, .int .i64 a1_1, .bool a1_2] 56 (0, 0)) (by (with_reducible repeat (first | refine blk_drewN ?_ _ | refine blk_drew ?_ | refine blk_alloc ?_ _)); exact BK412.out)) : gb426 ≠ gb412)); clear HO418; clear HO421; clear HO424; clear BK411; clear BK412; clear HB; have HO418 := n0_; have HO421 := n1_; have HO424 := n2_; have BK411 := n3_; have BK412 := n4_; have HB := n5_; have BK426 := n6_; have GW426 := n7_; have GE426 := n8_; have NB411_426 := n9_; have NB426_411 := n10_; have NB412_426 := n11_; have NB426_412 := n12_; clear n0_ n1_ n2_ n3_ n4_ n5_ n6_ n7_ n8_ n9_ n10_ n11_ n12_; clear hb hbox hg; have hnb25 := NB426_411.out; have hnc25 := NB411_426.out; have hnb26 := NB426_412.out; have hnc26 := NB412_426.out; have hcz27_0 : w24.cell? ⟨gb426, 0, none⟩ = some (.string (⟨#[]⟩ : ByteArray)) := (blk_cell BK426.out 0).trans rfl; have hcz27_1 : w24.cell? ⟨gb426, 1, none⟩ = some (.slice none 0 0) := (blk_cell BK426.out 1).trans rfl; have hcz27_2 : w24.cell? ⟨gb426, 2, none⟩ = some (.slice none 0 0) := (blk_cell BK426.out 2).trans rfl; have hcz27_3 : w24.cell? ⟨gb426, 3, none⟩ = some (.slice none 0 0) := (blk_cell BK426.out 3).trans rfl; have hfz27_0 := blk_frozen BK426.out 0; have hfz27_1 := blk_frozen BK426.out 1; have hfz27_2 := blk_frozen BK426.out 2; have hfz27_3 := blk_frozen BK426.out 3; obtain ⟨Ao28, co28, eo28⟩ := Kd.R_slice HO418.out; subst eo28; obtain ⟨Ao29, co29, eo29⟩ := Kd.V_slice HO421.out; subst eo29; obtain ⟨Ao30, co30, eo30⟩ := Kd.R_slice HO424.out; subst eo30))
        (try simp only [Act.put, List.setIfInBounds_toArray, List.set_cons_zero, List.set_cons_succ])
        go_cut [35] (fun v35 wc => ∃ (kq : Nat) (x35_18 : Bool), v35 = .bool x35_18 ∧ Aside0 (alumlaw20_SchemaColumnsExtend.j1 kq l2 t413 x35_18 t415 t416 t419 t422 = some r) ∧ Aside0 (kq ≤ kj4) ∧ Aside0 (Kd.R k56 56 wc w.heap.size (fun k_ => k_ ≠ gb412) (.slice Ao28 t416.length co28) t416) ∧ Aside0 (Kd.V k65 65 wc w.heap.size (fun k_ => some k_ ≠ ((.slice Ao28 t416.length co28) : Value).ownBlock ∧ some k_ ≠ ((.slice Ao30 t422.length co30) : Value).ownBlock ∧ k_ ≠ gb411 ∧ k_ ≠ gb412 ∧ k_ ≠ gb426) (.slice Ao29 t419.length co29) t419) ∧ Aside0 (Kd.R k42 42 wc w.heap.size (fun _ => True) (.slice Ao30 t422.length co30) t422) ∧ Aside0 (wc.heap[gb411]? = some (.cells #[.string a0_0, (.slice A0_1 l0_1.length c0_1), (.slice A0_2 l0_2.length c0_2), (.slice A0_3 l0_3.length c0_3)] 28 (0, 0))) ∧ Aside0 (wc.heap[gb412]? = some (.cells #[.string a1_0, .int .i64 a1_1, .bool a1_2] 56 (0, 0))) ∧ Aside0 (wc.heap[gb426]? = some (.cells #[.string t415, (.slice Ao28 t416.length co28), (.slice Ao29 t419.length co29), (.slice Ao30 t422.length co30)] 28 (0, 0))) ∧ Aside0 (Below w.heap.size w wc))
        case first =>
          have H := HC19.out
          clear HC19
          by_cases c31 : t425 = 0
          · rw [if_pos c31] at H
            have c31b0 : (t425 == 0) = true := beq_iff_eq.mpr c31
            have c31b1 : (t425 != 0) = false := bne_eq_false_iff_eq.mpr c31
            clear c31
            (first | rw [c31b0] | (simp only [i64_w, i32_w]; rw [c31b0]) | skip)
            replace H := Option.bind_eq_some_iff.mp H
            obtain ⟨t427, A320, H⟩ := H
            replace H : (alumlaw20_SchemaColumnsExtend.j1 kj4 l2 t413 (t427 != 0) t415 t416 t419 t422) = some r := H
            have A32 := Aside0.mk A320
            clear A320
            have H' := Aside0.mk H
            clear H
            have hnb33 := NB411_412.out
            have hnc33 := NB412_411.out
            have hnb34 := NB411_426.out
            have hnc34 := NB426_411.out
            have hcz35_0 : w24.cell? ⟨gb411, 0, none⟩ = some (.string a0_0) := (blk_cell BK411.out 0).trans rfl
            have hcz35_1 : w24.cell? ⟨gb411, 1, none⟩ = some (.slice A0_1 l0_1.length c0_1) := (blk_cell BK411.out 1).trans rfl
            have hcz35_2 : w24.cell? ⟨gb411, 2, none⟩ = some (.slice A0_2 l0_2.length c0_2) := (blk_cell BK411.out 2).trans rfl
            have hcz35_3 : w24.cell? ⟨gb411, 3, none⟩ = some (.slice A0_3 l0_3.length c0_3) := (blk_cell BK411.out 3).trans rfl
            have hfz35_0 := blk_frozen BK411.out 0
            have hfz35_1 := blk_frozen BK411.out 1
            have hfz35_2 := blk_frozen BK411.out 2
            have hfz35_3 := blk_frozen BK411.out 3
            go_wp2_with (first | (go_at_call 31; (with_reducible refine (schema_Fits.calls a0_0 _ _ l0_1 _ _ l0_2 _ _ l0_3 _ _ l2 t427 _ ?side1 ?side2 ?side3 ?side4 ?side5 ?side6 ?side7 ?side8 A32.out).mono ?_); (case side1 => exact Kd.C_below HR0_1.out (by repeat (first | (with_reducible first | exact HB.out | apply below_alloc | apply pw_below_drewN | apply below_drew1 | refine below_set ?_ GE411.out | refine below_set ?_ GE412.out | refine below_set ?_ GE426.out) | exact HB.out))); (case side2 => exact HC0_1.out); (case side3 => exact Kd.C_below HR0_2.out (by repeat (first | (with_reducible first | exact HB.out | apply below_alloc | apply pw_below_drewN | apply below_drew1 | refine below_set ?_ GE411.out | refine below_set ?_ GE412.out | refine below_set ?_ GE426.out) | exact HB.out))); (case side4 => exact HC0_2.out); (case side5 => exact Kd.C_below HR0_3.out (by repeat (first | (with_reducible first | exact HB.out | apply below_alloc | apply pw_below_drewN | apply below_drew1 | refine below_set ?_ GE411.out | refine below_set ?_ GE412.out | refine below_set ?_ GE426.out) | exact HB.out))); (case side6 => exact HC0_3.out); (case side7 => exact Kd.C_below HR2.out (by repeat (first | (with_reducible first | exact HB.out | apply below_alloc | apply pw_below_drewN | apply below_drew1 | refine below_set ?_ GE411.out | refine below_set ?_ GE412.out | refine below_set ?_ GE426.out) | exact HB.out))); (case side8 => exact HC2.out); rintro e w36 ⟨rfl, hb⟩; have n0_ := Aside0.mk (Kd.R_below (by (with_reducible repeat (first | apply Kd.R_alloc | apply Kd.R_drewN | apply Kd.R_drew)); exact (Kd.R_mono (Kd.R_far (p := ⟨gb426, 3, none⟩) (Kd.R_far (p := ⟨gb426, 2, none⟩) (Kd.R_far (p := ⟨gb426, 1, none⟩) (Kd.R_far (p := ⟨gb426, 0, none⟩) (Kd.R_types HO418.out BK426.out (by decide)) (fun _ hk => hk.2) (.string t415)) (fun _ hk => hk.2) (.slice Ao28 t416.length co28)) (fun _ hk => hk.2) (.slice Ao29 t419.length co29)) (fun _ hk => hk.2) (.slice Ao30 t422.length co30)) (fun _ h_ => h_.1))) hb); have n1_ := Aside0.mk (Kd.V_below (by (with_reducible repeat (first | apply Kd.V_alloc | apply Kd.V_drewN | apply Kd.V_drew)); exact (Kd.V_mono (Kd.V_far (p := ⟨gb426, 3, none⟩) (Kd.V_far (p := ⟨gb426, 2, none⟩) (Kd.V_far (p := ⟨gb426, 1, none⟩) (Kd.V_far (p := ⟨gb426, 0, none⟩) (Kd.V_mono HO421.out (fun k_ hk => (⟨hk, hk.2⟩ : _ ∧ k_ ≠ gb426))) (fun _ hk => hk.2) (.string t415)) (fun _ hk => hk.2) (.slice Ao28 t416.length co28)) (fun _ hk => hk.2) (.slice Ao29 t419.length co29)) (fun _ hk => hk.2) (.slice Ao30 t422.length co30)) (fun _ h_ => h_.1))) hb); have n2_ := Aside0.mk (Kd.R_below (by (with_reducible repeat (first | apply Kd.R_alloc | apply Kd.R_drewN | apply Kd.R_drew)); exact (Kd.R_mono (Kd.R_far (p := ⟨gb426, 3, none⟩) (Kd.R_far (p := ⟨gb426, 2, none⟩) (Kd.R_far (p := ⟨gb426, 1, none⟩) (Kd.R_far (p := ⟨gb426, 0, none⟩) (Kd.R_types HO424.out BK426.out (by decide)) (fun _ hk => hk.2) (.string t415)) (fun _ hk => hk.2) (.slice Ao28 t416.length co28)) (fun _ hk => hk.2) (.slice Ao29 t419.length co29)) (fun _ hk => hk.2) (.slice Ao30 t422.length co30)) (fun _ h_ => h_.1))) hb); have n3_ := Aside0.mk (blk_below (g := gb411) (o := .cells #[.string a0_0, .slice A0_1 l0_1.length c0_1, .slice A0_2 l0_2.length c0_2, .slice A0_3 l0_3.length c0_3] 28 (0, 0)) (by (with_reducible repeat (first | refine blk_drewN ?_ _ | refine blk_drew ?_ | refine blk_alloc ?_ _)); refine blk_far ?_ NB411_426.out _; (with_reducible repeat (first | refine blk_drewN ?_ _ | refine blk_drew ?_ | refine blk_alloc ?_ _)); refine blk_far ?_ NB411_426.out _; (with_reducible repeat (first | refine blk_drewN ?_ _ | refine blk_drew ?_ | refine blk_alloc ?_ _)); refine blk_far ?_ NB411_426.out _; (with_reducible repeat (first | refine blk_drewN ?_ _ | refine blk_drew ?_ | refine blk_alloc ?_ _)); refine blk_far ?_ NB411_426.out _; (with_reducible repeat (first | refine blk_drewN ?_ _ | refine blk_drew ?_ | refine blk_alloc ?_ _)); exact BK411.out) hb); have n4_ := Aside0.mk (blk_below (g := gb412) (o := .cells #[.string a1_0, .int .i64 a1_1, .bool a1_2] 56 (0, 0)) (by (with_reducible repeat (first | refine blk_drewN ?_ _ | refine blk_drew ?_ | refine blk_alloc ?_ _)); refine blk_far ?_ NB412_426.out _; (with_reducible repeat (first | refine blk_drewN ?_ _ | refine blk_drew ?_ | refine blk_alloc ?_ _)); refine blk_far ?_ NB412_426.out _; (with_reducible repeat (first | refine blk_drewN ?_ _ | refine blk_drew ?_ | refine blk_alloc ?_ _)); refine blk_far ?_ NB412_426.out _; (with_reducible repeat (first | refine blk_drewN ?_ _ | refine blk_drew ?_ | refine blk_alloc ?_ _)); refine blk_far ?_ NB412_426.out _; (with_reducible repeat (first | refine blk_drewN ?_ _ | refine blk_drew ?_ | refine blk_alloc ?_ _)); exact BK412.out) hb); have n5_ := Aside0.mk (blk_below (g := gb426) (o := .cells #[.string t415, .slice Ao28 t416.length co28, .slice Ao29 t419.length co29, .slice Ao30 t422.length co30] 28 (0, 0)) (by (with_reducible repeat (first | refine blk_drewN ?_ _ | refine blk_drew ?_ | refine blk_alloc ?_ _)); refine blk_put (cs := #[.string t415, .slice Ao28 t416.length co28, .slice Ao29 t419.length co29, .slice none 0 0]) ?_ 3 _ rfl; (with_reducible repeat (first | refine blk_drewN ?_ _ | refine blk_drew ?_ | refine blk_alloc ?_ _)); refine blk_put (cs := #[.string t415, .slice Ao28 t416.length co28, .slice none 0 0, .slice none 0 0]) ?_ 2 _ rfl; (with_reducible repeat (first | refine blk_drewN ?_ _ | refine blk_drew ?_ | refine blk_alloc ?_ _)); refine blk_put (cs := #[.string t415, .slice none 0 0, .slice none 0 0, .slice none 0 0]) ?_ 1 _ rfl; (with_reducible repeat (first | refine blk_drewN ?_ _ | refine blk_drew ?_ | refine blk_alloc ?_ _)); refine blk_put (cs := #[.string (⟨#[]⟩ : ByteArray), .slice none 0 0, .slice none 0 0, .slice none 0 0]) ?_ 0 _ rfl; (with_reducible repeat (first | refine blk_drewN ?_ _ | refine blk_drew ?_ | refine blk_alloc ?_ _)); exact BK426.out) hb); have n6_ := Aside0.mk (below_step (by repeat (first | (with_reducible first | exact HB.out | apply below_alloc | apply pw_below_drewN | apply below_drew1 | refine below_set ?_ GE411.out | refine below_set ?_ GE412.out | refine below_set ?_ GE426.out) | exact HB.out)) hb); clear HO418; clear HO421; clear HO424; clear BK411; clear BK412; clear BK426; clear HB; have HO418 := n0_; have HO421 := n1_; have HO424 := n2_; have BK411 := n3_; have BK412 := n4_; have BK426 := n5_; have HB := n6_; clear n0_ n1_ n2_ n3_ n4_ n5_ n6_; (try clear hb); (try clear hb2); (try clear hk); (try clear hi)))
            go_meet
            case rel => exact ⟨_, ((t427 != 0)), (by first | rfl | (simp; done) | (simp [*]; done)), H', ⟨by have := HJ4.out; first | omega | exact Nat.le_refl _⟩, ⟨by (with_reducible repeat (first | apply Kd.R_alloc | apply Kd.R_drewN | apply Kd.R_drew)); exact Kd.R_mono HO418.out (fun _ hk => hk.2)⟩, ⟨by (with_reducible repeat (first | apply Kd.V_alloc | apply Kd.V_drewN | apply Kd.V_drew)); exact Kd.V_mono HO421.out (fun _ hk => ⟨hk.1.1, ⟨hk.1.2.1, ⟨hk.1.2.2.1, ⟨hk.1.2.2.2, hk.2⟩⟩⟩⟩)⟩, ⟨by (with_reducible repeat (first | apply Kd.R_alloc | apply Kd.R_drewN | apply Kd.R_drew)); exact HO424.out⟩, ⟨by (with_reducible repeat (first | refine blk_drewN ?_ _ | refine blk_drew ?_ | refine blk_alloc ?_ _)); exact BK411.out⟩, ⟨by (with_reducible repeat (first | refine blk_drewN ?_ _ | refine blk_drew ?_ | refine blk_alloc ?_ _)); exact BK412.out⟩, ⟨by (with_reducible repeat (first | refine blk_drewN ?_ _ | refine blk_drew ?_ | refine blk_alloc ?_ _)); exact BK426.out⟩, ⟨by repeat (first | (with_reducible first | exact HB.out | apply below_alloc | apply pw_below_drewN | apply below_drew1 | refine below_set ?_ GE411.out | refine below_set ?_ GE412.out | refine below_set ?_ GE426.out) | exact HB.out)⟩⟩
          · rw [if_neg c31] at H
            have c31b0 : (t425 == 0) = false := beq_eq_false_iff_ne.mpr c31
            have c31b1 : (t425 != 0) = true := bne_iff_ne.mpr c31
            (first | rw [c31b0] | (simp only [i64_w, i32_w]; rw [c31b0]) | skip)
            have H' := Aside0.mk H
            clear H
            go_wp2
            go_meet
            case rel => exact ⟨_, (true), (by first | rfl | (simp; done) | (simp [*]; done)), H', ⟨by have := HJ4.out; first | omega | exact Nat.le_refl _⟩, ⟨by (with_reducible repeat (first | apply Kd.R_alloc | apply Kd.R_drewN | apply Kd.R_drew)); exact Kd.R_mono (Kd.R_far (p := ⟨gb426, 3, none⟩) (Kd.R_far (p := ⟨gb426, 2, none⟩) (Kd.R_far (p := ⟨gb426, 1, none⟩) (Kd.R_far (p := ⟨gb426, 0, none⟩) (Kd.R_types HO418.out BK426.out (by decide)) (fun _ hk => hk.2) (.string t415)) (fun _ hk => hk.2) (.slice Ao28 t416.length co28)) (fun _ hk => hk.2) (.slice Ao29 t419.length co29)) (fun _ hk => hk.2) (.slice Ao30 t422.length co30)) (fun _ hk => hk.1.2)⟩, ⟨by (with_reducible repeat (first | apply Kd.V_alloc | apply Kd.V_drewN | apply Kd.V_drew)); exact Kd.V_mono (Kd.V_far (p := ⟨gb426, 3, none⟩) (Kd.V_far (p := ⟨gb426, 2, none⟩) (Kd.V_far (p := ⟨gb426, 1, none⟩) (Kd.V_far (p := ⟨gb426, 0, none⟩) (Kd.V_mono HO421.out (fun k_ hk => (⟨hk, hk.2⟩ : _ ∧ k_ ≠ gb426))) (fun _ hk => hk.2) (.string t415)) (fun _ hk => hk.2) (.slice Ao28 t416.length co28)) (fun _ hk => hk.2) (.slice Ao29 t419.length co29)) (fun _ hk => hk.2) (.slice Ao30 t422.length co30)) (fun _ hk => ⟨hk.1.1.1, ⟨hk.1.1.2.1, ⟨hk.1.1.2.2.1, ⟨hk.1.1.2.2.2, hk.1.2⟩⟩⟩⟩)⟩, ⟨by (with_reducible repeat (first | apply Kd.R_alloc | apply Kd.R_drewN | apply Kd.R_drew)); exact Kd.R_mono (Kd.R_far (p := ⟨gb426, 3, none⟩) (Kd.R_far (p := ⟨gb426, 2, none⟩) (Kd.R_far (p := ⟨gb426, 1, none⟩) (Kd.R_far (p := ⟨gb426, 0, none⟩) (Kd.R_types HO424.out BK426.out (by decide)) (fun _ hk => hk.2) (.string t415)) (fun _ hk => hk.2) (.slice Ao28 t416.length co28)) (fun _ hk => hk.2) (.slice Ao29 t419.length co29)) (fun _ hk => hk.2) (.slice Ao30 t422.length co30)) (fun _ hk => trivial)⟩, ⟨by (with_reducible repeat (first | refine blk_drewN ?_ _ | refine blk_drew ?_ | refine blk_alloc ?_ _)); refine blk_far ?_ NB411_426.out _; (with_reducible repeat (first | refine blk_drewN ?_ _ | refine blk_drew ?_ | refine blk_alloc ?_ _)); refine blk_far ?_ NB411_426.out _; (with_reducible repeat (first | refine blk_drewN ?_ _ | refine blk_drew ?_ | refine blk_alloc ?_ _)); refine blk_far ?_ NB411_426.out _; (with_reducible repeat (first | refine blk_drewN ?_ _ | refine blk_drew ?_ | refine blk_alloc ?_ _)); refine blk_far ?_ NB411_426.out _; (with_reducible repeat (first | refine blk_drewN ?_ _ | refine blk_drew ?_ | refine blk_alloc ?_ _)); exact BK411.out⟩, ⟨by (with_reducible repeat (first | refine blk_drewN ?_ _ | refine blk_drew ?_ | refine blk_alloc ?_ _)); refine blk_far ?_ NB412_426.out _; (with_reducible repeat (first | refine blk_drewN ?_ _ | refine blk_drew ?_ | refine blk_alloc ?_ _)); refine blk_far ?_ NB412_426.out _; (with_reducible repeat (first | refine blk_drewN ?_ _ | refine blk_drew ?_ | refine blk_alloc ?_ _)); refine blk_far ?_ NB412_426.out _; (with_reducible repeat (first | refine blk_drewN ?_ _ | refine blk_drew ?_ | refine blk_alloc ?_ _)); refine blk_far ?_ NB412_426.out _; (with_reducible repeat (first | refine blk_drewN ?_ _ | refine blk_drew ?_ | refine blk_alloc ?_ _)); exact BK412.out⟩, ⟨by (with_reducible repeat (first | refine blk_drewN ?_ _ | refine blk_drew ?_ | refine blk_alloc ?_ _)); refine blk_put (cs := #[.string t415, .slice Ao28 t416.length co28, .slice Ao29 t419.length co29, .slice none 0 0]) ?_ 3 _ rfl; (with_reducible repeat (first | refine blk_drewN ?_ _ | refine blk_drew ?_ | refine blk_alloc ?_ _)); refine blk_put (cs := #[.string t415, .slice Ao28 t416.length co28, .slice none 0 0, .slice none 0 0]) ?_ 2 _ rfl; (with_reducible repeat (first | refine blk_drewN ?_ _ | refine blk_drew ?_ | refine blk_alloc ?_ _)); refine blk_put (cs := #[.string t415, .slice none 0 0, .slice none 0 0, .slice none 0 0]) ?_ 1 _ rfl; (with_reducible repeat (first | refine blk_drewN ?_ _ | refine blk_drew ?_ | refine blk_alloc ?_ _)); refine blk_put (cs := #[.string (⟨#[]⟩ : ByteArray), .slice none 0 0, .slice none 0 0, .slice none 0 0]) ?_ 0 _ rfl; (with_reducible repeat (first | refine blk_drewN ?_ _ | refine blk_drew ?_ | refine blk_alloc ?_ _)); exact BK426.out⟩, ⟨by repeat (first | (with_reducible first | exact HB.out | apply below_alloc | apply pw_below_drewN | apply below_drew1 | refine below_set ?_ GE411.out | refine below_set ?_ GE412.out | refine below_set ?_ GE426.out) | exact HB.out)⟩⟩
        case rest =>
          clear HC19
          try clear c1
          try clear c2
          try clear p2
          try clear c3
          try clear c4
          try clear c10
          try clear c11
          try clear c14
          try clear c17
          try clear c20
          try clear c22
          try clear c25
          try clear c26
          try clear c31
          try clear c31b0
          try clear c31b1
          try clear c33
          try clear c34
          try clear hcz12_0
          try clear hcz12_1
          try clear hcz12_2
          try clear hcz12_3
          try clear hcz15_0
          try clear hcz15_1
          try clear hcz15_2
          try clear hcz15_3
          try clear hcz21_0
          try clear hcz21_1
          try clear hcz21_2
          try clear hcz21_3
          try clear hcz22_0
          try clear hcz22_1
          try clear hcz22_2
          try clear hcz27_0
          try clear hcz27_1
          try clear hcz27_2
          try clear hcz27_3
          try clear hcz35_0
          try clear hcz35_1
          try clear hcz35_2
          try clear hcz35_3
          try clear hfz12_0
          try clear hfz12_1
          try clear hfz12_2
          try clear hfz12_3
          try clear hfz15_0
          try clear hfz15_1
          try clear hfz15_2
          try clear hfz15_3
          try clear hfz21_0
          try clear hfz21_1
          try clear hfz21_2
          try clear hfz21_3
          try clear hfz22_0
          try clear hfz22_1
          try clear hfz22_2
          try clear hfz27_0
          try clear hfz27_1
          try clear hfz27_2
          try clear hfz27_3
          try clear hfz35_0
          try clear hfz35_1
          try clear hfz35_2
          try clear hfz35_3
          try clear p2
          obtain ⟨kq, x35_18, rfl, HA, HJ18, HO_427001, HO_427002, HO_427003, BK411, BK412, BK426, HB⟩ := hcut
          cases kq with
          | zero => exact absurd HA.out (by simp [alumlaw20_SchemaColumnsExtend.j1])
          | succ kj18 =>
            have H := HA.out
            clear HA
            simp only [alumlaw20_SchemaColumnsExtend.j1] at H
            by_cases c37 : x35_18 = true
            · subst c37
              have H1 : (some t413) = some r := by rw [if_pos rfl] at H; exact H
              clear H
              have H := H1
              clear H1
              obtain rfl := Option.some.inj H
              go_wp2
              go_ret
              exact ⟨by first | rfl | (simp [errW_none, errW_some] <;> rfl) | (simp [*, errW_none, errW_some] <;> rfl), by repeat (first | (with_reducible first | exact HB.out | apply below_alloc | apply pw_below_drewN | apply below_drew1 | refine below_set ?_ GE411.out | refine below_set ?_ GE412.out | refine below_set ?_ GE426.out) | exact HB.out)⟩
            · replace c37 := Bool.eq_false_iff.mpr c37
              subst c37
              have H1 : ((schema_Extend.f t415 t416 t419 t422 l2).bind fun t428 => (if (t428.length : Int) = (wrap64 ((l2.length : Int) + 1)) then (if 0 ≤ (l2.length : Int) then (if (l2.length : Int) ≤ (t428.length : Int) then ((alumref20_SameRow.f kj18 (t428.take ((l2.length : Int) : Int).toNat) l2).bind fun t435 => (alumlaw20_SchemaColumnsExtend.j2 kj18 l2 t413 t428 (!t435) t415 t416 t419 t422)) else (none)) else (none)) else (alumlaw20_SchemaColumnsExtend.j2 kj18 l2 t413 t428 true t415 t416 t419 t422))) = some r := by rw [if_neg (show ¬ (false = true) by decide)] at H; exact H
              clear H
              have H := H1
              clear H1
              replace H := Option.bind_eq_some_iff.mp H
              obtain ⟨t428, A380, H⟩ := H
              replace H : (if (t428.length : Int) = (wrap64 ((l2.length : Int) + 1)) then (if 0 ≤ (l2.length : Int) then (if (l2.length : Int) ≤ (t428.length : Int) then ((alumref20_SameRow.f kj18 (t428.take ((l2.length : Int) : Int).toNat) l2).bind fun t435 => (alumlaw20_SchemaColumnsExtend.j2 kj18 l2 t413 t428 (!t435) t415 t416 t419 t422)) else (none)) else (none)) else (alumlaw20_SchemaColumnsExtend.j2 kj18 l2 t413 t428 true t415 t416 t419 t422)) = some r := H
              have A38 := Aside0.mk A380
              clear A380
              have HC39 := Aside0.mk H
              clear H
              have hnb40 := NB426_411.out
              have hnc40 := NB411_426.out
              have hnb41 := NB426_412.out
              have hnc41 := NB412_426.out
              have hcz42_0 : wc.cell? ⟨gb426, 0, none⟩ = some (.string t415) := (blk_cell BK426.out 0).trans rfl
              have hcz42_1 : wc.cell? ⟨gb426, 1, none⟩ = some (.slice Ao28 t416.length co28) := (blk_cell BK426.out 1).trans rfl
              have hcz42_2 : wc.cell? ⟨gb426, 2, none⟩ = some (.slice Ao29 t419.length co29) := (blk_cell BK426.out 2).trans rfl
              have hcz42_3 : wc.cell? ⟨gb426, 3, none⟩ = some (.slice Ao30 t422.length co30) := (blk_cell BK426.out 3).trans rfl
              have hfz42_0 := blk_frozen BK426.out 0
              have hfz42_1 := blk_frozen BK426.out 1
              have hfz42_2 := blk_frozen BK426.out 2
              have hfz42_3 := blk_frozen BK426.out 3
              go_upto_region 8 with (first | ((with_reducible refine gate_callee (f := 47) rfl ?_); refine goesL_ (some 39) rfl rfl Try.func47 (by kernel_rfl) rfl #[.agg #[.string t415, .slice Ao28 t416.length co28, .slice Ao29 t419.length co29, .slice Ao30 t422.length co30], .slice A2 l2.length c2] rfl (by (try simp only [List.map_toArray, List.map_cons, List.map_nil]); first | done | rfl | (simp only [List.length_drop, List.length_take]; rfl)) ?_; (with_reducible refine (schema_Extend.calls t415 _ _ t416 _ _ t419 _ _ t422 _ _ l2 t428 _ ?side1 ?side2 ?side3 ?side4 ?side5 ?side6 ?side7 ?side8 A38.out).mono ?_); (case side1 => repeat (first | exact (Kd.R_reads' HO_427001.out).2.2 | (with_reducible refine Kd.C_alloc ?_ _) | (with_reducible refine Kd.C_drewN ?_ _) | (with_reducible refine Kd.C_drew ?_))); (case side2 => exact (Kd.R_reads' HO_427001.out).2.1); (case side3 => repeat (first | exact (Kd.V_reads' HO_427002.out).2.2 | (with_reducible refine Kd.C_alloc ?_ _) | (with_reducible refine Kd.C_drewN ?_ _) | (with_reducible refine Kd.C_drew ?_))); (case side4 => exact (Kd.V_reads' HO_427002.out).2.1); (case side5 => repeat (first | exact (Kd.R_reads' HO_427003.out).2.2 | (with_reducible refine Kd.C_alloc ?_ _) | (with_reducible refine Kd.C_drewN ?_ _) | (with_reducible refine Kd.C_drew ?_))); (case side6 => exact (Kd.R_reads' HO_427003.out).2.1); (case side7 => repeat (first | exact (Kd.C_below HR2.out HB.out) | (with_reducible refine Kd.C_alloc ?_ _) | (with_reducible refine Kd.C_drewN ?_ _) | (with_reducible refine Kd.C_drew ?_))); (case side8 => exact HC2.out); rintro e w43 ⟨v429, rfl, ho0, hb⟩; refine ⟨_, rfl, ?_⟩; have n0_ := Aside0.mk (Kd.R_below (by (with_reducible repeat (first | apply Kd.R_alloc | apply Kd.R_drewN | apply Kd.R_drew)); exact HO_427001.out) hb); have n1_ := Aside0.mk (Kd.V_elder' (by (with_reducible repeat (first | apply Kd.V_alloc | apply Kd.V_drewN | apply Kd.V_drew)); exact HO_427002.out) (Kd.R_base ho0) hb); have n2_ := Aside0.mk (Kd.R_below (by (with_reducible repeat (first | apply Kd.R_alloc | apply Kd.R_drewN | apply Kd.R_drew)); exact HO_427003.out) hb); have n3_ := Aside0.mk (Kd.R_lower ho0 (below_size (by repeat (first | (with_reducible first | exact HB.out | apply below_alloc | apply pw_below_drewN | apply below_drew1 | refine below_set ?_ GE411.out | refine below_set ?_ GE412.out | refine below_set ?_ GE426.out) | exact HB.out)))); have n4_ := Aside0.mk (blk_below (g := gb411) (o := .cells #[.string a0_0, .slice A0_1 l0_1.length c0_1, .slice A0_2 l0_2.length c0_2, .slice A0_3 l0_3.length c0_3] 28 (0, 0)) (by (with_reducible repeat (first | refine blk_drewN ?_ _ | refine blk_drew ?_ | refine blk_alloc ?_ _)); exact BK411.out) hb); have n5_ := Aside0.mk (blk_below (g := gb412) (o := .cells #[.string a1_0, .int .i64 a1_1, .bool a1_2] 56 (0, 0)) (by (with_reducible repeat (first | refine blk_drewN ?_ _ | refine blk_drew ?_ | refine blk_alloc ?_ _)); exact BK412.out) hb); have n6_ := Aside0.mk (blk_below (g := gb426) (o := .cells #[.string t415, .slice Ao28 t416.length co28, .slice Ao29 t419.length co29, .slice Ao30 t422.length co30] 28 (0, 0)) (by (with_reducible repeat (first | refine blk_drewN ?_ _ | refine blk_drew ?_ | refine blk_alloc ?_ _)); exact BK426.out) hb); have n7_ := Aside0.mk (below_step (by repeat (first | (with_reducible first | exact HB.out | apply below_alloc | apply pw_below_drewN | apply below_drew1 | refine below_set ?_ GE411.out | refine below_set ?_ GE412.out | refine below_set ?_ GE426.out) | exact HB.out)) hb); clear HO_427001; clear HO_427002; clear HO_427003; clear BK411; clear BK412; clear BK426; clear HB; have HO_427001 := n0_; have HO_427002 := n1_; have HO_427003 := n2_; have HO430 := n3_; have BK411 := n4_; have BK412 := n5_; have BK426 := n6_; have HB := n7_; clear n0_ n1_ n2_ n3_ n4_ n5_ n6_ n7_; (try clear hb); (try clear hb2); (try clear hk); (try clear hi); (try clear ho0)))
              (try simp only [Act.put, List.setIfInBounds_toArray, List.set_cons_zero, List.set_cons_succ])
              go_cut [54] (fun v54 wc => ∃ (kq : Nat) (x54_38 : Bool), v54 = .bool x54_38 ∧ Aside0 (alumlaw20_SchemaColumnsExtend.j2 kq l2 t413 t428 x54_38 t415 t416 t419 t422 = some r) ∧ Aside0 (kq ≤ kj18) ∧ Aside0 (Kd.R k40 40 wc w.heap.size (fun _ => True) v429 t428) ∧ Aside0 (Kd.R k56 56 wc w.heap.size (fun k_ => k_ ≠ gb412) (.slice Ao28 t416.length co28) t416) ∧ Aside0 (Kd.V k65 65 wc w.heap.size (fun k_ => some k_ ≠ (v429 : Value).ownBlock ∧ some k_ ≠ ((.slice Ao28 t416.length co28) : Value).ownBlock ∧ some k_ ≠ ((.slice Ao30 t422.length co30) : Value).ownBlock ∧ k_ ≠ gb411 ∧ k_ ≠ gb412 ∧ k_ ≠ gb426) (.slice Ao29 t419.length co29) t419) ∧ Aside0 (Kd.R k42 42 wc w.heap.size (fun _ => True) (.slice Ao30 t422.length co30) t422) ∧ Aside0 (wc.heap[gb411]? = some (.cells #[.string a0_0, (.slice A0_1 l0_1.length c0_1), (.slice A0_2 l0_2.length c0_2), (.slice A0_3 l0_3.length c0_3)] 28 (0, 0))) ∧ Aside0 (wc.heap[gb412]? = some (.cells #[.string a1_0, .int .i64 a1_1, .bool a1_2] 56 (0, 0))) ∧ Aside0 (wc.heap[gb426]? = some (.cells #[.string t415, (.slice Ao28 t416.length co28), (.slice Ao29 t419.length co29), (.slice Ao30 t422.length co30)] 28 (0, 0))) ∧ Aside0 (Below w.heap.size w wc))
              case first =>
                have H := HC39.out
                clear HC39
                by_cases c44 : (t428.length : Int) = (wrap64 ((l2.length : Int) + 1))
                · rw [if_pos c44] at H
                  have c44b0 : ((t428.length : Int) == (wrap64 ((l2.length : Int) + 1))) = true := beq_iff_eq.mpr c44
                  have c44b1 : ((t428.length : Int) != (wrap64 ((l2.length : Int) + 1))) = false := bne_eq_false_iff_eq.mpr c44
                  clear c44
                  (first | rw [c44b0] | (simp only [i64_w, i32_w]; rw [c44b0]) | skip)
                  by_cases c45 : 0 ≤ (l2.length : Int)
                  · rw [if_pos c45] at H
                    have c45b0 := eq_true c45
                    have c45b1 : decide (0 ≤ (l2.length : Int)) = true := decide_eq_true c45
                    clear c45
                    by_cases c46 : (l2.length : Int) ≤ (t428.length : Int)
                    · rw [if_pos c46] at H
                      have c46b0 := eq_true c46
                      have c46b1 : decide ((l2.length : Int) ≤ (t428.length : Int)) = true := decide_eq_true c46
                      clear c46
                      obtain ⟨y431, hy431⟩ : ∃ y_ : List (S40), y_ = (t428.take ((l2.length : Int) : Int).toNat) := ⟨_, rfl⟩
                      replace H : ((alumref20_SameRow.f kj18 y431 l2).bind fun t435 => (alumlaw20_SchemaColumnsExtend.j2 kj18 l2 t413 t428 (!t435) t415 t416 t419 t422)) = some r := by first | (rw [hy431]; with_reducible exact H) | (have H2_ := (Option.bind_some _ _).symm.trans H; rw [hy431]; with_reducible exact H2_) | (have H2_ := (Option.bind_some _ _).symm.trans H; with_reducible exact H2_) | with_reducible exact H | (rw [hy431]; exact H) | exact H
                      have Ny431 := Aside0.mk hy431
                      clear hy431
                      replace H := Option.bind_eq_some_iff.mp H
                      obtain ⟨t435, A470, H⟩ := H
                      replace H : (alumlaw20_SchemaColumnsExtend.j2 kj18 l2 t413 t428 (!t435) t415 t416 t419 t422) = some r := H
                      have A47 := Aside0.mk A470
                      clear A470
                      have H' := Aside0.mk H
                      clear H
                      obtain ⟨Ao48, co48, eo48⟩ := Kd.R_slice HO430.out
                      subst eo48
                      have q49 : ((l2.length : Int) : Int) ≤ ((t428.length : Int) : Int) := of_decide_eq_true (by first | (with_reducible assumption) | assumption)
                      obtain ⟨i049, hi049, _, hsz49, _⟩ := info_parts info40
                      have hroom49 : t428.length ≤ co48 := (Kd.R_reads' HO430.out).2.1
                      have hC49 : Kd.C k40 _ Ao48 t428.length t428 := (Kd.R_reads' HO430.out).2.2
                      have hcut49 := cut_to (P := Try.prog) 37 40 .i64 Try.underlying37 hi049 Ao48 t428.length co48 (l2.length : Int) (of_decide_eq_true (by first | (with_reducible assumption) | assumption)) q49 hroom49
                      have hr49 := Kd.C_take (m := ((l2.length : Int) : Int).toNat) hC49 (by omega)
                      have hy49 : y431.length = ((l2.length : Int) : Int).toNat := (by rw [Ny431.out, List.length_take]; omega)
                      rw [← Ny431.out] at hr49
                      rw [← hy49] at hcut49
                      have HR434 := Aside0.mk hr49
                      have HC434 := Aside0.mk (show y431.length ≤ co48 from by omega)
                      clear hr49 hC49 hroom49 hi049 hsz49
                      have KY49 := Aside0.mk hy49
                      clear hy49
                      have KL49 := Aside0.mk (show ((l2.length : Int) : Int).toNat ≤ t428.length from by omega)
                      replace q49 := eq_true q49
                      go_wp2_with (first | (go_at_call 46; (with_reducible refine (alumref20_SameRow.calls kj18 _ _ y431 _ _ l2 t435 _ ?side1 ?side2 ?side3 ?side4 A47.out).mono ?_); (case side1 => repeat (first | exact (by repeat (first | (with_reducible exact HR434.out) | (with_reducible refine Kd.C_alloc ?_ _) | (with_reducible refine Kd.C_drewN ?_ _) | (with_reducible refine Kd.C_drew ?_) | exact HR434.out)) | (with_reducible refine Kd.C_alloc ?_ _) | (with_reducible refine Kd.C_drewN ?_ _) | (with_reducible refine Kd.C_drew ?_))); (case side2 => exact HC434.out); (case side3 => repeat (first | exact (Kd.C_below HR2.out HB.out) | (with_reducible refine Kd.C_alloc ?_ _) | (with_reducible refine Kd.C_drewN ?_ _) | (with_reducible refine Kd.C_drew ?_))); (case side4 => exact HC2.out); rintro e w' ⟨rfl, ⟨nd, rfl⟩⟩))
                      go_meet
                      case rel => exact ⟨_, (!t435), (by first | rfl | (simp; done) | (simp [*]; done)), H', ⟨by have := HJ4.out; have := HJ18.out; first | omega | exact Nat.le_refl _⟩, ⟨by (with_reducible repeat (first | apply Kd.R_alloc | apply Kd.R_drewN | apply Kd.R_drew)); exact HO430.out⟩, ⟨by (with_reducible repeat (first | apply Kd.R_alloc | apply Kd.R_drewN | apply Kd.R_drew)); exact HO_427001.out⟩, ⟨by (with_reducible repeat (first | apply Kd.V_alloc | apply Kd.V_drewN | apply Kd.V_drew)); exact Kd.V_mono HO_427002.out (fun _ hk => ⟨hk.2, ⟨hk.1.1, ⟨hk.1.2.1, ⟨hk.1.2.2.1, ⟨hk.1.2.2.2.1, hk.1.2.2.2.2⟩⟩⟩⟩⟩)⟩, ⟨by (with_reducible repeat (first | apply Kd.R_alloc | apply Kd.R_drewN | apply Kd.R_drew)); exact HO_427003.out⟩, ⟨by (with_reducible repeat (first | refine blk_drewN ?_ _ | refine blk_drew ?_ | refine blk_alloc ?_ _)); exact BK411.out⟩, ⟨by (with_reducible repeat (first | refine blk_drewN ?_ _ | refine blk_drew ?_ | refine blk_alloc ?_ _)); exact BK412.out⟩, ⟨by (with_reducible repeat (first | refine blk_drewN ?_ _ | refine blk_drew ?_ | refine blk_alloc ?_ _)); exact BK426.out⟩, ⟨by repeat (first | (with_reducible first | exact HB.out | apply below_alloc | apply pw_below_drewN | apply below_drew1 | refine below_set ?_ GE411.out | refine below_set ?_ GE412.out | refine below_set ?_ GE426.out) | exact HB.out)⟩⟩
                    · rw [if_neg c46] at H
                      exact absurd H (by simp)
                  · rw [if_neg c45] at H
                    exact absurd H (by simp)
                · rw [if_neg c44] at H
                  have c44b0 : ((t428.length : Int) == (wrap64 ((l2.length : Int) + 1))) = false := beq_eq_false_iff_ne.mpr c44
                  have c44b1 : ((t428.length : Int) != (wrap64 ((l2.length : Int) + 1))) = true := bne_iff_ne.mpr c44
                  (first | rw [c44b0] | (simp only [i64_w, i32_w]; rw [c44b0]) | skip)
                  have H' := Aside0.mk H
                  clear H
                  obtain ⟨Ao50, co50, eo50⟩ := Kd.R_slice HO430.out
                  subst eo50
                  go_wp2
                  go_meet
                  case rel => exact ⟨_, (true), (by first | rfl | (simp; done) | (simp [*]; done)), H', ⟨by have := HJ4.out; have := HJ18.out; first | omega | exact Nat.le_refl _⟩, ⟨by (with_reducible repeat (first | apply Kd.R_alloc | apply Kd.R_drewN | apply Kd.R_drew)); exact HO430.out⟩, ⟨by (with_reducible repeat (first | apply Kd.R_alloc | apply Kd.R_drewN | apply Kd.R_drew)); exact HO_427001.out⟩, ⟨by (with_reducible repeat (first | apply Kd.V_alloc | apply Kd.V_drewN | apply Kd.V_drew)); exact Kd.V_mono HO_427002.out (fun _ hk => ⟨hk.2, ⟨hk.1.1, ⟨hk.1.2.1, ⟨hk.1.2.2.1, ⟨hk.1.2.2.2.1, hk.1.2.2.2.2⟩⟩⟩⟩⟩)⟩, ⟨by (with_reducible repeat (first | apply Kd.R_alloc | apply Kd.R_drewN | apply Kd.R_drew)); exact HO_427003.out⟩, ⟨by (with_reducible repeat (first | refine blk_drewN ?_ _ | refine blk_drew ?_ | refine blk_alloc ?_ _)); exact BK411.out⟩, ⟨by (with_reducible repeat (first | refine blk_drewN ?_ _ | refine blk_drew ?_ | refine blk_alloc ?_ _)); exact BK412.out⟩, ⟨by (with_reducible repeat (first | refine blk_drewN ?_ _ | refine blk_drew ?_ | refine blk_alloc ?_ _)); exact BK426.out⟩, ⟨by repeat (first | (with_reducible first | exact HB.out | apply below_alloc | apply pw_below_drewN | apply below_drew1 | refine below_set ?_ GE411.out | refine below_set ?_ GE412.out | refine below_set ?_ GE426.out) | exact HB.out)⟩⟩
              case rest =>
                clear HC39
                try clear c1
                try clear c2
                try clear p2
                try clear c3
                try clear c4
                try clear q4
                try clear p6
                try clear c10
                try clear c11
                try clear c14
                try clear c17
                try clear c20
                try clear c22
                try clear c25
                try clear c26
                try clear c31
                try clear c31b0
                try clear c31b1
                try clear c33
                try clear c34
                try clear c37
                try clear c40
                try clear c41
                try clear c43
                try clear c44
                try clear c44b0
                try clear c44b1
                try clear c45
                try clear c45b0
                try clear c45b1
                try clear c46
                try clear c46b0
                try clear c46b1
                try clear c47
                try clear q49
                try clear hcz12_0
                try clear hcz12_1
                try clear hcz12_2
                try clear hcz12_3
                try clear hcz15_0
                try clear hcz15_1
                try clear hcz15_2
                try clear hcz15_3
                try clear hcz21_0
                try clear hcz21_1
                try clear hcz21_2
                try clear hcz21_3
                try clear hcz22_0
                try clear hcz22_1
                try clear hcz22_2
                try clear hcz27_0
                try clear hcz27_1
                try clear hcz27_2
                try clear hcz27_3
                try clear hcz35_0
                try clear hcz35_1
                try clear hcz35_2
                try clear hcz35_3
                try clear hcz42_0
                try clear hcz42_1
                try clear hcz42_2
                try clear hcz42_3
                try clear hfz12_0
                try clear hfz12_1
                try clear hfz12_2
                try clear hfz12_3
                try clear hfz15_0
                try clear hfz15_1
                try clear hfz15_2
                try clear hfz15_3
                try clear hfz21_0
                try clear hfz21_1
                try clear hfz21_2
                try clear hfz21_3
                try clear hfz22_0
                try clear hfz22_1
                try clear hfz22_2
                try clear hfz27_0
                try clear hfz27_1
                try clear hfz27_2
                try clear hfz27_3
                try clear hfz35_0
                try clear hfz35_1
                try clear hfz35_2
                try clear hfz35_3
                try clear hfz42_0
                try clear hfz42_1
                try clear hfz42_2
                try clear hfz42_3
                try clear p2
                try clear q49
                obtain ⟨kq, x54_38, rfl, HA, HJ38, HO_10, HO_427001, HO_427002, HO_427003, BK411, BK412, BK426, HB⟩ := hcut
                cases kq with
                | zero => exact absurd HA.out (by simp [alumlaw20_SchemaColumnsExtend.j2])
                | succ kj38 =>
                  have H := HA.out
                  clear HA
                  simp only [alumlaw20_SchemaColumnsExtend.j2] at H
                  by_cases c51 : x54_38 = true
                  · subst c51
                    have H1 : (some false) = some r := by rw [if_pos rfl] at H; exact H
                    clear H
                    have H := H1
                    clear H1
                    obtain rfl := Option.some.inj H
                    go_wp2
                    go_ret
                    exact ⟨by first | rfl | (simp [errW_none, errW_some] <;> rfl) | (simp [*, errW_none, errW_some] <;> rfl), by repeat (first | (with_reducible first | exact HB.out | apply below_alloc | apply pw_below_drewN | apply below_drew1 | refine below_set ?_ GE411.out | refine below_set ?_ GE412.out | refine below_set ?_ GE426.out) | exact HB.out)⟩
                  · replace c51 := Bool.eq_false_iff.mpr c51
                    subst c51
                    have H1 : (if 0 ≤ (l2.length : Int) then (if (l2.length : Int) < (t428.length : Int) then (if t413 = true then (if (((rd_T40 t428 (l2.length : Int)).f0) == 0 && (((rd_T40 t428 (l2.length : Int)).f1) == 0 && ((((rd_T40 t428 (l2.length : Int)).f2).toList) == ([] : List UInt8)))) = true then ((schema_Fits.f t415 t416 t419 t422 t428).bind fun t437 => (if t437 = 0 then ((schema_Fits.f t415 t416 t419 t422 l2).bind fun t438 => (some (t438 == 1))) else (some false))) else (some false)) else (some false)) else (none)) else (none)) = some r := by rw [if_neg (show ¬ (false = true) by decide)] at H; exact H
                    clear H
                    have H := H1
                    clear H1
                    by_cases c52 : 0 ≤ (l2.length : Int)
                    · rw [if_pos c52] at H
                      have c52b0 : decide (0 ≤ (l2.length : Int)) = true := decide_eq_true c52
                      have c52b1 : decide (0 ≤ l2.length) = true := decide_eq_true (by omega)
                      clear c52
                      by_cases c53 : (l2.length : Int) < (t428.length : Int)
                      · rw [if_pos c53] at H
                        have c53b0 : decide ((l2.length : Int) < (t428.length : Int)) = true := decide_eq_true c53
                        have c53b1 : decide (l2.length < t428.length) = true := decide_eq_true (Int.ofNat_lt.mp c53)
                        clear c53
                        by_cases c54 : t413 = true
                        · subst c54
                          have H1 : (if (((rd_T40 t428 (l2.length : Int)).f0) == 0 && (((rd_T40 t428 (l2.length : Int)).f1) == 0 && ((((rd_T40 t428 (l2.length : Int)).f2).toList) == ([] : List UInt8)))) = true then ((schema_Fits.f t415 t416 t419 t422 t428).bind fun t437 => (if t437 = 0 then ((schema_Fits.f t415 t416 t419 t422 l2).bind fun t438 => (some (t438 == 1))) else (some false))) else (some false)) = some r := by rw [if_pos rfl] at H; exact H
                          clear H
                          have H := H1
                          clear H1
                          by_cases c55 : (((rd_T40 t428 (l2.length : Int)).f0) == 0 && (((rd_T40 t428 (l2.length : Int)).f1) == 0 && ((((rd_T40 t428 (l2.length : Int)).f2).toList) == ([] : List UInt8)))) = true
                          · rw [if_pos c55] at H
                            have c55b0 : (((rd_T40 t428 (l2.length : Int)).f0) == 0 && (((rd_T40 t428 (l2.length : Int)).f1) == 0 && ((((rd_T40 t428 (l2.length : Int)).f2).toList) == ([] : List UInt8)))) = true := c55
                            have c55b9 : (((rd_T40 t428 (l2.length : Int)).f0) == 0 && (((rd_T40 t428 (l2.length : Int)).f1) == 0 && ((rd_T40 t428 (l2.length : Int)).f2).toList.isEmpty)) = true := by rw [nil_beq11]; exact c55b0
                            (try (have c55b1 : decide (((rd_T40 t428 (l2.length : Int)).f0) = 0 && (((rd_T40 t428 (l2.length : Int)).f1) == 0 && ((((rd_T40 t428 (l2.length : Int)).f2).toList) == ([] : List UInt8)))) = true := by simpa using c55))
                            (try (have c55b2 : (((rd_T40 t428 (l2.length : Int)).f0) == 0 && (((rd_T40 t428 (l2.length : Int)).f1) == 0 && ((((rd_T40 t428 (l2.length : Int)).f2).toList) == ([] : List UInt8)))) = true := by simpa using c55))
                            clear c55
                            replace H := Option.bind_eq_some_iff.mp H
                            obtain ⟨t437, A560, H⟩ := H
                            replace H : (if t437 = 0 then ((schema_Fits.f t415 t416 t419 t422 l2).bind fun t438 => (some (t438 == 1))) else (some false)) = some r := H
                            have A56 := Aside0.mk A560
                            clear A560
                            by_cases c57 : t437 = 0
                            · rw [if_pos c57] at H
                              have c57b0 : (t437 == 0) = true := beq_iff_eq.mpr c57
                              have c57b1 : (t437 != 0) = false := bne_eq_false_iff_eq.mpr c57
                              clear c57
                              replace H := Option.bind_eq_some_iff.mp H
                              obtain ⟨t438, A580, H⟩ := H
                              replace H : (some (t438 == 1)) = some r := H
                              have A58 := Aside0.mk A580
                              clear A580
                              obtain rfl := Option.some.inj H
                              obtain ⟨Ao59, co59, eo59⟩ := Kd.R_slice HO_10.out
                              subst eo59
                              have p436 : 0 ≤ ((l2.length : Int) : Int) := of_decide_eq_true (by first | (with_reducible assumption) | assumption)
                              have q436 : (l2.length : Int) < (t428.length : Int) := of_decide_eq_true (by first | (with_reducible assumption) | assumption)
                              obtain ⟨ad436, e436, hx436_0, hx436_1, hx436_2⟩ := at_T40 (Kd.R_reads' HO_10.out).2.2 (l2.length : Int) p436 q436
                              cases e436
                              (try simp only [Go.IntWalk.toNatUp] at hx436_0)
                              (try simp only [Go.IntWalk.toNatUp] at hx436_1)
                              (try simp only [Go.IntWalk.toNatUp] at hx436_2)
                              replace p436 := eq_true p436
                              replace q436 := eq_true q436
                              have hnb60 := NB426_411.out
                              have hnc60 := NB411_426.out
                              have hnb61 := NB426_412.out
                              have hnc61 := NB412_426.out
                              have hcz62_0 : wc.cell? ⟨gb426, 0, none⟩ = some (.string t415) := (blk_cell BK426.out 0).trans rfl
                              have hcz62_1 : wc.cell? ⟨gb426, 1, none⟩ = some (.slice Ao28 t416.length co28) := (blk_cell BK426.out 1).trans rfl
                              have hcz62_2 : wc.cell? ⟨gb426, 2, none⟩ = some (.slice Ao29 t419.length co29) := (blk_cell BK426.out 2).trans rfl
                              have hcz62_3 : wc.cell? ⟨gb426, 3, none⟩ = some (.slice Ao30 t422.length co30) := (blk_cell BK426.out 3).trans rfl
                              have hfz62_0 := blk_frozen BK426.out 0
                              have hfz62_1 := blk_frozen BK426.out 1
                              have hfz62_2 := blk_frozen BK426.out 2
                              have hfz62_3 := blk_frozen BK426.out 3
                              go_wp2_with (first | (go_at_call 31; (with_reducible refine (schema_Fits.calls t415 _ _ t416 _ _ t419 _ _ t422 _ _ t428 t437 _ ?side1 ?side2 ?side3 ?side4 ?side5 ?side6 ?side7 ?side8 A56.out).mono ?_); (case side1 => repeat (first | exact (Kd.R_reads' HO_427001.out).2.2 | (with_reducible refine Kd.C_alloc ?_ _) | (with_reducible refine Kd.C_drewN ?_ _) | (with_reducible refine Kd.C_drew ?_))); (case side2 => exact (Kd.R_reads' HO_427001.out).2.1); (case side3 => repeat (first | exact (Kd.V_reads' HO_427002.out).2.2 | (with_reducible refine Kd.C_alloc ?_ _) | (with_reducible refine Kd.C_drewN ?_ _) | (with_reducible refine Kd.C_drew ?_))); (case side4 => exact (Kd.V_reads' HO_427002.out).2.1); (case side5 => repeat (first | exact (Kd.R_reads' HO_427003.out).2.2 | (with_reducible refine Kd.C_alloc ?_ _) | (with_reducible refine Kd.C_drewN ?_ _) | (with_reducible refine Kd.C_drew ?_))); (case side6 => exact (Kd.R_reads' HO_427003.out).2.1); (case side7 => repeat (first | exact (Kd.R_reads' HO_10.out).2.2 | (with_reducible refine Kd.C_alloc ?_ _) | (with_reducible refine Kd.C_drewN ?_ _) | (with_reducible refine Kd.C_drew ?_))); (case side8 => exact (Kd.R_reads' HO_10.out).2.1); rintro e w63 ⟨rfl, hb⟩; have n0_ := Aside0.mk (Kd.R_below (by (with_reducible repeat (first | apply Kd.R_alloc | apply Kd.R_drewN | apply Kd.R_drew)); exact HO_10.out) hb); have n1_ := Aside0.mk (Kd.R_below (by (with_reducible repeat (first | apply Kd.R_alloc | apply Kd.R_drewN | apply Kd.R_drew)); exact HO_427001.out) hb); have n2_ := Aside0.mk (Kd.V_below (by (with_reducible repeat (first | apply Kd.V_alloc | apply Kd.V_drewN | apply Kd.V_drew)); exact HO_427002.out) hb); have n3_ := Aside0.mk (Kd.R_below (by (with_reducible repeat (first | apply Kd.R_alloc | apply Kd.R_drewN | apply Kd.R_drew)); exact HO_427003.out) hb); have n4_ := Aside0.mk (blk_below (g := gb411) (o := .cells #[.string a0_0, .slice A0_1 l0_1.length c0_1, .slice A0_2 l0_2.length c0_2, .slice A0_3 l0_3.length c0_3] 28 (0, 0)) (by (with_reducible repeat (first | refine blk_drewN ?_ _ | refine blk_drew ?_ | refine blk_alloc ?_ _)); exact BK411.out) hb); have n5_ := Aside0.mk (blk_below (g := gb412) (o := .cells #[.string a1_0, .int .i64 a1_1, .bool a1_2] 56 (0, 0)) (by (with_reducible repeat (first | refine blk_drewN ?_ _ | refine blk_drew ?_ | refine blk_alloc ?_ _)); exact BK412.out) hb); have n6_ := Aside0.mk (blk_below (g := gb426) (o := .cells #[.string t415, .slice Ao28 t416.length co28, .slice Ao29 t419.length co29, .slice Ao30 t422.length co30] 28 (0, 0)) (by (with_reducible repeat (first | refine blk_drewN ?_ _ | refine blk_drew ?_ | refine blk_alloc ?_ _)); exact BK426.out) hb); have n7_ := Aside0.mk (below_step (by repeat (first | (with_reducible first | exact HB.out | apply below_alloc | apply pw_below_drewN | apply below_drew1 | refine below_set ?_ GE411.out | refine below_set ?_ GE412.out | refine below_set ?_ GE426.out) | exact HB.out)) hb); clear HO_10; clear HO_427001; clear HO_427002; clear HO_427003; clear BK411; clear BK412; clear BK426; clear HB; have HO_10 := n0_; have HO_427001 := n1_; have HO_427002 := n2_; have HO_427003 := n3_; have BK411 := n4_; have BK412 := n5_; have BK426 := n6_; have HB := n7_; clear n0_ n1_ n2_ n3_ n4_ n5_ n6_ n7_; (try clear hb); (try clear hb2); (try clear hk); (try clear hi); have hcz64_0 : w63.cell? ⟨gb426, 0, none⟩ = some (.string t415) := (blk_cell BK426.out 0).trans rfl; have hcz64_1 : w63.cell? ⟨gb426, 1, none⟩ = some (.slice Ao28 t416.length co28) := (blk_cell BK426.out 1).trans rfl; have hcz64_2 : w63.cell? ⟨gb426, 2, none⟩ = some (.slice Ao29 t419.length co29) := (blk_cell BK426.out 2).trans rfl; have hcz64_3 : w63.cell? ⟨gb426, 3, none⟩ = some (.slice Ao30 t422.length co30) := (blk_cell BK426.out 3).trans rfl; have hfz64_0 := blk_frozen BK426.out 0; have hfz64_1 := blk_frozen BK426.out 1; have hfz64_2 := blk_frozen BK426.out 2; have hfz64_3 := blk_frozen BK426.out 3) | (go_at_call 31; (with_reducible refine (schema_Fits.calls t415 _ _ t416 _ _ t419 _ _ t422 _ _ l2 t438 _ ?side1 ?side2 ?side3 ?side4 ?side5 ?side6 ?side7 ?side8 A58.out).mono ?_); (case side1 => repeat (first | exact (Kd.R_reads' HO_427001.out).2.2 | (with_reducible refine Kd.C_alloc ?_ _) | (with_reducible refine Kd.C_drewN ?_ _) | (with_reducible refine Kd.C_drew ?_))); (case side2 => exact (Kd.R_reads' HO_427001.out).2.1); (case side3 => repeat (first | exact (Kd.V_reads' HO_427002.out).2.2 | (with_reducible refine Kd.C_alloc ?_ _) | (with_reducible refine Kd.C_drewN ?_ _) | (with_reducible refine Kd.C_drew ?_))); (case side4 => exact (Kd.V_reads' HO_427002.out).2.1); (case side5 => repeat (first | exact (Kd.R_reads' HO_427003.out).2.2 | (with_reducible refine Kd.C_alloc ?_ _) | (with_reducible refine Kd.C_drewN ?_ _) | (with_reducible refine Kd.C_drew ?_))); (case side6 => exact (Kd.R_reads' HO_427003.out).2.1); (case side7 => repeat (first | exact (Kd.C_below HR2.out HB.out) | (with_reducible refine Kd.C_alloc ?_ _) | (with_reducible refine Kd.C_drewN ?_ _) | (with_reducible refine Kd.C_drew ?_))); (case side8 => exact HC2.out); rintro e w65 ⟨rfl, hb⟩; have n0_ := Aside0.mk (Kd.R_below (by (with_reducible repeat (first | apply Kd.R_alloc | apply Kd.R_drewN | apply Kd.R_drew)); exact HO_10.out) hb); have n1_ := Aside0.mk (Kd.R_below (by (with_reducible repeat (first | apply Kd.R_alloc | apply Kd.R_drewN | apply Kd.R_drew)); exact HO_427001.out) hb); have n2_ := Aside0.mk (Kd.V_below (by (with_reducible repeat (first | apply Kd.V_alloc | apply Kd.V_drewN | apply Kd.V_drew)); exact HO_427002.out) hb); have n3_ := Aside0.mk (Kd.R_below (by (with_reducible repeat (first | apply Kd.R_alloc | apply Kd.R_drewN | apply Kd.R_drew)); exact HO_427003.out) hb); have n4_ := Aside0.mk (blk_below (g := gb411) (o := .cells #[.string a0_0, .slice A0_1 l0_1.length c0_1, .slice A0_2 l0_2.length c0_2, .slice A0_3 l0_3.length c0_3] 28 (0, 0)) (by (with_reducible repeat (first | refine blk_drewN ?_ _ | refine blk_drew ?_ | refine blk_alloc ?_ _)); exact BK411.out) hb); have n5_ := Aside0.mk (blk_below (g := gb412) (o := .cells #[.string a1_0, .int .i64 a1_1, .bool a1_2] 56 (0, 0)) (by (with_reducible repeat (first | refine blk_drewN ?_ _ | refine blk_drew ?_ | refine blk_alloc ?_ _)); exact BK412.out) hb); have n6_ := Aside0.mk (blk_below (g := gb426) (o := .cells #[.string t415, .slice Ao28 t416.length co28, .slice Ao29 t419.length co29, .slice Ao30 t422.length co30] 28 (0, 0)) (by (with_reducible repeat (first | refine blk_drewN ?_ _ | refine blk_drew ?_ | refine blk_alloc ?_ _)); exact BK426.out) hb); have n7_ := Aside0.mk (below_step (by repeat (first | (with_reducible first | exact HB.out | apply below_alloc | apply pw_below_drewN | apply below_drew1 | refine below_set ?_ GE411.out | refine below_set ?_ GE412.out | refine below_set ?_ GE426.out) | exact HB.out)) hb); clear HO_10; clear HO_427001; clear HO_427002; clear HO_427003; clear BK411; clear BK412; clear BK426; clear HB; have HO_10 := n0_; have HO_427001 := n1_; have HO_427002 := n2_; have HO_427003 := n3_; have BK411 := n4_; have BK412 := n5_; have BK426 := n6_; have HB := n7_; clear n0_ n1_ n2_ n3_ n4_ n5_ n6_ n7_; (try clear hb); (try clear hb2); (try clear hk); (try clear hi)))
                              go_ret
                              exact ⟨by first | rfl | (simp [errW_none, errW_some] <;> rfl) | (simp [*, errW_none, errW_some] <;> rfl), by repeat (first | (with_reducible first | exact HB.out | apply below_alloc | apply pw_below_drewN | apply below_drew1 | refine below_set ?_ GE411.out | refine below_set ?_ GE412.out | refine below_set ?_ GE426.out) | exact HB.out)⟩
                            · rw [if_neg c57] at H
                              have c57b0 : (t437 == 0) = false := beq_eq_false_iff_ne.mpr c57
                              have c57b1 : (t437 != 0) = true := bne_iff_ne.mpr c57
                              obtain rfl := Option.some.inj H
                              obtain ⟨Ao66, co66, eo66⟩ := Kd.R_slice HO_10.out
                              subst eo66
                              have p436 : 0 ≤ ((l2.length : Int) : Int) := of_decide_eq_true (by first | (with_reducible assumption) | assumption)
                              have q436 : (l2.length : Int) < (t428.length : Int) := of_decide_eq_true (by first | (with_reducible assumption) | assumption)
                              obtain ⟨ad436, e436, hx436_0, hx436_1, hx436_2⟩ := at_T40 (Kd.R_reads' HO_10.out).2.2 (l2.length : Int) p436 q436
                              cases e436
                              (try simp only [Go.IntWalk.toNatUp] at hx436_0)
                              (try simp only [Go.IntWalk.toNatUp] at hx436_1)
                              (try simp only [Go.IntWalk.toNatUp] at hx436_2)
                              replace p436 := eq_true p436
                              replace q436 := eq_true q436
                              have hnb67 := NB426_411.out
                              have hnc67 := NB411_426.out
                              have hnb68 := NB426_412.out
                              have hnc68 := NB412_426.out
                              have hcz69_0 : wc.cell? ⟨gb426, 0, none⟩ = some (.string t415) := (blk_cell BK426.out 0).trans rfl
                              have hcz69_1 : wc.cell? ⟨gb426, 1, none⟩ = some (.slice Ao28 t416.length co28) := (blk_cell BK426.out 1).trans rfl
                              have hcz69_2 : wc.cell? ⟨gb426, 2, none⟩ = some (.slice Ao29 t419.length co29) := (blk_cell BK426.out 2).trans rfl
                              have hcz69_3 : wc.cell? ⟨gb426, 3, none⟩ = some (.slice Ao30 t422.length co30) := (blk_cell BK426.out 3).trans rfl
                              have hfz69_0 := blk_frozen BK426.out 0
                              have hfz69_1 := blk_frozen BK426.out 1
                              have hfz69_2 := blk_frozen BK426.out 2
                              have hfz69_3 := blk_frozen BK426.out 3
                              go_wp2_with (first | (go_at_call 31; (with_reducible refine (schema_Fits.calls t415 _ _ t416 _ _ t419 _ _ t422 _ _ t428 t437 _ ?side1 ?side2 ?side3 ?side4 ?side5 ?side6 ?side7 ?side8 A56.out).mono ?_); (case side1 => repeat (first | exact (Kd.R_reads' HO_427001.out).2.2 | (with_reducible refine Kd.C_alloc ?_ _) | (with_reducible refine Kd.C_drewN ?_ _) | (with_reducible refine Kd.C_drew ?_))); (case side2 => exact (Kd.R_reads' HO_427001.out).2.1); (case side3 => repeat (first | exact (Kd.V_reads' HO_427002.out).2.2 | (with_reducible refine Kd.C_alloc ?_ _) | (with_reducible refine Kd.C_drewN ?_ _) | (with_reducible refine Kd.C_drew ?_))); (case side4 => exact (Kd.V_reads' HO_427002.out).2.1); (case side5 => repeat (first | exact (Kd.R_reads' HO_427003.out).2.2 | (with_reducible refine Kd.C_alloc ?_ _) | (with_reducible refine Kd.C_drewN ?_ _) | (with_reducible refine Kd.C_drew ?_))); (case side6 => exact (Kd.R_reads' HO_427003.out).2.1); (case side7 => repeat (first | exact (Kd.R_reads' HO_10.out).2.2 | (with_reducible refine Kd.C_alloc ?_ _) | (with_reducible refine Kd.C_drewN ?_ _) | (with_reducible refine Kd.C_drew ?_))); (case side8 => exact (Kd.R_reads' HO_10.out).2.1); rintro e w70 ⟨rfl, hb⟩; have n0_ := Aside0.mk (Kd.R_below (by (with_reducible repeat (first | apply Kd.R_alloc | apply Kd.R_drewN | apply Kd.R_drew)); exact HO_10.out) hb); have n1_ := Aside0.mk (Kd.R_below (by (with_reducible repeat (first | apply Kd.R_alloc | apply Kd.R_drewN | apply Kd.R_drew)); exact HO_427001.out) hb); have n2_ := Aside0.mk (Kd.V_below (by (with_reducible repeat (first | apply Kd.V_alloc | apply Kd.V_drewN | apply Kd.V_drew)); exact HO_427002.out) hb); have n3_ := Aside0.mk (Kd.R_below (by (with_reducible repeat (first | apply Kd.R_alloc | apply Kd.R_drewN | apply Kd.R_drew)); exact HO_427003.out) hb); have n4_ := Aside0.mk (blk_below (g := gb411) (o := .cells #[.string a0_0, .slice A0_1 l0_1.length c0_1, .slice A0_2 l0_2.length c0_2, .slice A0_3 l0_3.length c0_3] 28 (0, 0)) (by (with_reducible repeat (first | refine blk_drewN ?_ _ | refine blk_drew ?_ | refine blk_alloc ?_ _)); exact BK411.out) hb); have n5_ := Aside0.mk (blk_below (g := gb412) (o := .cells #[.string a1_0, .int .i64 a1_1, .bool a1_2] 56 (0, 0)) (by (with_reducible repeat (first | refine blk_drewN ?_ _ | refine blk_drew ?_ | refine blk_alloc ?_ _)); exact BK412.out) hb); have n6_ := Aside0.mk (blk_below (g := gb426) (o := .cells #[.string t415, .slice Ao28 t416.length co28, .slice Ao29 t419.length co29, .slice Ao30 t422.length co30] 28 (0, 0)) (by (with_reducible repeat (first | refine blk_drewN ?_ _ | refine blk_drew ?_ | refine blk_alloc ?_ _)); exact BK426.out) hb); have n7_ := Aside0.mk (below_step (by repeat (first | (with_reducible first | exact HB.out | apply below_alloc | apply pw_below_drewN | apply below_drew1 | refine below_set ?_ GE411.out | refine below_set ?_ GE412.out | refine below_set ?_ GE426.out) | exact HB.out)) hb); clear HO_10; clear HO_427001; clear HO_427002; clear HO_427003; clear BK411; clear BK412; clear BK426; clear HB; have HO_10 := n0_; have HO_427001 := n1_; have HO_427002 := n2_; have HO_427003 := n3_; have BK411 := n4_; have BK412 := n5_; have BK426 := n6_; have HB := n7_; clear n0_ n1_ n2_ n3_ n4_ n5_ n6_ n7_; (try clear hb); (try clear hb2); (try clear hk); (try clear hi)))
                              go_ret
                              exact ⟨by first | rfl | (simp [errW_none, errW_some] <;> rfl) | (simp [*, errW_none, errW_some] <;> rfl), by repeat (first | (with_reducible first | exact HB.out | apply below_alloc | apply pw_below_drewN | apply below_drew1 | refine below_set ?_ GE411.out | refine below_set ?_ GE412.out | refine below_set ?_ GE426.out) | exact HB.out)⟩
                          · rw [if_neg c55] at H
                            have c55b0 : (((rd_T40 t428 (l2.length : Int)).f0) == 0 && (((rd_T40 t428 (l2.length : Int)).f1) == 0 && ((((rd_T40 t428 (l2.length : Int)).f2).toList) == ([] : List UInt8)))) = false := by simpa using c55
                            have c55b9 : (((rd_T40 t428 (l2.length : Int)).f0) == 0 && (((rd_T40 t428 (l2.length : Int)).f1) == 0 && ((rd_T40 t428 (l2.length : Int)).f2).toList.isEmpty)) = false := by rw [nil_beq11]; exact c55b0
                            (try (have c55b1 : decide (((rd_T40 t428 (l2.length : Int)).f0) = 0 && (((rd_T40 t428 (l2.length : Int)).f1) == 0 && ((((rd_T40 t428 (l2.length : Int)).f2).toList) == ([] : List UInt8)))) = false := by simpa using c55))
                            (try (have c55b2 : (((rd_T40 t428 (l2.length : Int)).f0) == 0 && (((rd_T40 t428 (l2.length : Int)).f1) == 0 && ((((rd_T40 t428 (l2.length : Int)).f2).toList) == ([] : List UInt8)))) = false := by simpa using c55))
                            (try (have c55b3 : ¬ (((rd_T40 t428 (l2.length : Int)).f0) = 0 && (((rd_T40 t428 (l2.length : Int)).f1) == 0 && ((((rd_T40 t428 (l2.length : Int)).f2).toList) == ([] : List UInt8)))) := by simpa using c55))
                            clear c55
                            obtain rfl := Option.some.inj H
                            obtain ⟨Ao71, co71, eo71⟩ := Kd.R_slice HO_10.out
                            subst eo71
                            have p436 : 0 ≤ ((l2.length : Int) : Int) := of_decide_eq_true (by first | (with_reducible assumption) | assumption)
                            have q436 : (l2.length : Int) < (t428.length : Int) := of_decide_eq_true (by first | (with_reducible assumption) | assumption)
                            obtain ⟨ad436, e436, hx436_0, hx436_1, hx436_2⟩ := at_T40 (Kd.R_reads' HO_10.out).2.2 (l2.length : Int) p436 q436
                            cases e436
                            (try simp only [Go.IntWalk.toNatUp] at hx436_0)
                            (try simp only [Go.IntWalk.toNatUp] at hx436_1)
                            (try simp only [Go.IntWalk.toNatUp] at hx436_2)
                            replace p436 := eq_true p436
                            replace q436 := eq_true q436
                            go_wp2
                            go_ret
                            exact ⟨by first | rfl | (simp [errW_none, errW_some] <;> rfl) | (simp [*, errW_none, errW_some] <;> rfl), by repeat (first | (with_reducible first | exact HB.out | apply below_alloc | apply pw_below_drewN | apply below_drew1 | refine below_set ?_ GE411.out | refine below_set ?_ GE412.out | refine below_set ?_ GE426.out) | exact HB.out)⟩
                        · replace c54 := Bool.eq_false_iff.mpr c54
                          subst c54
                          have H1 : (some false) = some r := by rw [if_neg (show ¬ (false = true) by decide)] at H; exact H
                          clear H
                          have H := H1
                          clear H1
                          obtain rfl := Option.some.inj H
                          obtain ⟨Ao72, co72, eo72⟩ := Kd.R_slice HO_10.out
                          subst eo72
                          have p436 : 0 ≤ ((l2.length : Int) : Int) := of_decide_eq_true (by first | (with_reducible assumption) | assumption)
                          have q436 : (l2.length : Int) < (t428.length : Int) := of_decide_eq_true (by first | (with_reducible assumption) | assumption)
                          obtain ⟨ad436, e436, hx436_0, hx436_1, hx436_2⟩ := at_T40 (Kd.R_reads' HO_10.out).2.2 (l2.length : Int) p436 q436
                          cases e436
                          (try simp only [Go.IntWalk.toNatUp] at hx436_0)
                          (try simp only [Go.IntWalk.toNatUp] at hx436_1)
                          (try simp only [Go.IntWalk.toNatUp] at hx436_2)
                          replace p436 := eq_true p436
                          replace q436 := eq_true q436
                          go_wp2
                          go_ret
                          exact ⟨by first | rfl | (simp [errW_none, errW_some] <;> rfl) | (simp [*, errW_none, errW_some] <;> rfl), by repeat (first | (with_reducible first | exact HB.out | apply below_alloc | apply pw_below_drewN | apply below_drew1 | refine below_set ?_ GE411.out | refine below_set ?_ GE412.out | refine below_set ?_ GE426.out) | exact HB.out)⟩
                      · rw [if_neg c53] at H
                        exact absurd H (by simp)
                    · rw [if_neg c52] at H
                      exact absurd H (by simp)

end Go.Proofs.Ytkopbaikmlajmaa.Q
