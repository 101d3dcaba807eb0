/- trimmed to what this claim's texts name -/
import Derived.Test.YtkopbaikmlajmaaK
import Derived.Test.YtkopbaikmlajmaaF65
import Derived.Test.YtkopbaikmlajmaaF45
-- Laid by this session's own call of the kit's print.py (wip/qprint.py)
namespace Go.Proofs.Ytkopbaikmlajmaa.Q
open Go.RowKit Go.Proofs.YtkopbaikmlajmaaW.PrintWords Go.Proofs.YtkopbaikmlajmaaW.PrintLast Go.Proofs.YtkopbaikmlajmaaW.PrintMore
attribute [local go_sem] max2_int min2_int max_two min_two max_three min_three max_four min_four   -- for this text's walks alone
set_option linter.unusedVariables false
set_option linter.unusedSimpArgs false

mutual
def alumref21_Update.j0 : Nat → List (S40) → List Int → List (S40) → Bool → ByteArray → List (S56) → List (S65) → List (S42) → Option ((List (S40)) × Int)
 | 0, _, _, _, _, _, _, _, _ => none
 | k + 1, x1, x2, x3, x29, x775000, x775001, x775002, x775003 => if x29 = true then (some (([] : List (S40)), 1)) else ((some (([] : List (S40)) : List (S40))).bind fun y779 => (if y779.length + x1.length < 4398046511104 then (alumref21_Update.l0 k x2 x3 (y779 ++ x1) 0 x775000 x775001 x775002 x775003) else (none)))
def alumref21_Update.l0 : Nat → List Int → List (S40) → List (S40) → Int → ByteArray → List (S56) → List (S65) → List (S42) → Option ((List (S40)) × Int)
 | 0, _, _, _, _, _, _, _, _ => none
 | k + 1, x2, x3, x12, x13, x775000, x775001, x775002, x775003 => if x13 < (x2.length : Int) then (alumref21_Update.l1 k x2 x3 x12 x13 0 x775000 x775001 x775002 x775003) else ((alumref20_Fits.f x775000 x775001 x775002 x775003 x12).bind fun t785 => (if t785 = 0 then (some (x12, 0)) else (some (([] : List (S40)), t785))))
def alumref21_Update.l1 : Nat → List Int → List (S40) → List (S40) → Int → Int → ByteArray → List (S56) → List (S65) → List (S42) → Option ((List (S40)) × Int)
 | 0, _, _, _, _, _, _, _, _, _ => none
 | k + 1, x2, x3, x12, x13, x14, x775000, x775001, x775002, x775003 => if x14 < x13 then (if 0 ≤ x14 then (if x14 < (x2.length : Int) then (if 0 ≤ x13 then (if x13 < (x2.length : Int) then (if (rd x2 x14) = (rd x2 x13) then (some (([] : List (S40)), 6)) else (alumref21_Update.l1 k x2 x3 x12 x13 (wrap64 (x14 + 1)) x775000 x775001 x775002 x775003)) else (none)) else (none)) else (none)) else (none)) else (if 0 ≤ x13 then (if x13 < (x2.length : Int) then (if x13 < (x3.length : Int) then (if 0 ≤ (rd x2 x13) then (if (rd x2 x13) < (x12.length : Int) then (alumref21_Update.l0 k x2 x3 (x12.set ((rd x2 x13) : Int).toNat (⟨(rd_T40 x3 x13).f0, (rd_T40 x3 x13).f1, (rd_T40 x3 x13).f2⟩ : S40)) (wrap64 (x13 + 1)) x775000 x775001 x775002 x775003) else (none)) else (none)) else (none)) else (none)) else (none))
end
def alumref21_Update.f (k : Nat) (a0_0 : ByteArray) (l0_1 : List (S56)) (l0_2 : List (S65)) (l0_3 : List (S42)) (l1 : List (S40)) (l2 : List Int) (l3 : List (S40)) : Option ((List (S40)) × Int) := (alumref21_Project.f k l1 l2).bind fun bt775 => (if bt775.2 = 0 then (alumref21_Update.j0 k l1 l2 l3 ((l2.length : Int) != (l3.length : Int)) a0_0 l0_1 l0_2 l0_3) else (alumref21_Update.j0 k l1 l2 l3 true a0_0 l0_1 l0_2 l0_3))
def alumref21_Update.T11 : Bool × List (List Nat × List Nat) := (true, [([], []), ([], []), ([0, 1], [0, 1]), ([2], [2]), ([], []), ([], []), ([4, 5], [4, 5]), ([6], [6]), ([3, 7], [3, 7])])
def alumref21_Update.B11 : List Nat := [0, 0, 3, 7, 0, 0, 48, 112, 255]
theorem alumref21_Update.tab11 : rtab .any (opsOf Try.f66 11) = alumref21_Update.T11 := by kernel_rfl
theorem alumref21_Update.bits11 : waitsOk alumref21_Update.T11.2 alumref21_Update.B11 = true := by kernel_rfl
def alumref21_Update.T13 : Bool × List (List Nat × List Nat) := (true, [([], []), ([], []), ([], []), ([1, 2], [1, 2]), ([3], [3]), ([], []), ([], []), ([5, 6], [5, 6]), ([7], [7]), ([0, 4, 0, 1, 2, 3, 4, 5, 6, 7, 8], [0, 4]), ([9, 8, 0, 1, 2, 3, 4, 5, 6, 7, 8], [8, 9])])
def alumref21_Update.B13 : List Nat := [0, 0, 0, 6, 14, 0, 0, 96, 224, 511, 1023]
theorem alumref21_Update.tab13 : rtab .any (opsOf Try.f66 13) = alumref21_Update.T13 := by kernel_rfl
theorem alumref21_Update.bits13 : waitsOk alumref21_Update.T13.2 alumref21_Update.B13 = true := by kernel_rfl
set_option maxHeartbeats 8000000 in
set_option maxRecDepth 100000 in
theorem alumref21_Update.calls (k : Nat) (a0_0 : ByteArray) (A0_1 : Option Addr) (c0_1 : Nat) (l0_1 : List (S56)) (A0_2 : Option Addr) (c0_2 : Nat) (l0_2 : List (S65)) (A0_3 : Option Addr) (c0_3 : Nat) (l0_3 : List (S42)) (A1 : Option Addr) (c1 : Nat) (l1 : List (S40)) (A2 : Option Addr) (c2 : Nat) (l2 : List Int) (A3 : Option Addr) (c3 : Nat) (l3 : List (S40)) (r1 : List (S40)) (r2 : Int) (w : World) (hr0_1 : Kd.C k56 w A0_1 l0_1.length l0_1) (hc0_1 : l0_1.length ≤ c0_1) (hr0_2 : Kd.C k65 w A0_2 l0_2.length l0_2) (hc0_2 : l0_2.length ≤ c0_2) (hr0_3 : Kd.C k42 w A0_3 l0_3.length l0_3) (hc0_3 : l0_3.length ≤ c0_3) (hr1 : Kd.C k40 w A1 l1.length l1) (hc1 : l1.length ≤ c1) (hr2 : Kd.C (Kd.int .i64) w A2 l2.length l2) (hc2 : l2.length ≤ c2) (hr3 : Kd.C k40 w A3 l3.length l3) (hc3 : l3.length ≤ c3) (h : alumref21_Update.f k a0_0 l0_1 l0_2 l0_3 l1 l2 l3 = some (r1, r2)) :
  Calls Try.prog 66 #[.agg #[.string a0_0, .slice A0_1 l0_1.length c0_1, .slice A0_2 l0_2.length c0_2, .slice A0_3 l0_3.length c0_3], .slice A1 l1.length c1, .slice A2 l2.length c2, .slice A3 l3.length c3] w fun e w' => ∃ v0_ : Value, e = .returned (.tuple #[v0_, .int .i64 r2]) ∧ Kd.R k40 40 w' w.heap.size (fun _ => True) v0_ r1 ∧ Below w.heap.size w w' := by
 have hu28 := Try.underlying28
 have hu40 := Try.underlying40
 have HR0_1 := Aside0.mk hr0_1
 have HC0_1 := Aside0.mk hc0_1
 clear hr0_1 hc0_1
 have HR0_2 := Aside0.mk hr0_2
 have HC0_2 := Aside0.mk hc0_2
 clear hr0_2 hc0_2
 have HR0_3 := Aside0.mk hr0_3
 have HC0_3 := Aside0.mk hc0_3
 clear hr0_3 hc0_3
 have HR1 := Aside0.mk hr1
 have HC1 := Aside0.mk hc1
 clear hr1 hc1
 have HR2 := Aside0.mk hr2
 have HC2 := Aside0.mk hc2
 clear hr2 hc2
 have HR3 := Aside0.mk hr3
 have HC3 := Aside0.mk hc3
 clear hr3 hc3
 have HB := Aside0.mk (Below.refl w.heap.size w)
 have H : ((alumref21_Project.f k l1 l2).bind fun bt775 => (if bt775.2 = 0 then (alumref21_Update.j0 k l1 l2 l3 ((l2.length : Int) != (l3.length : Int)) a0_0 l0_1 l0_2 l0_3) else (alumref21_Update.j0 k l1 l2 l3 true a0_0 l0_1 l0_2 l0_3))) = some (r1, r2) := h
 clear h
 replace H := Option.bind_eq_some_iff.mp H
 obtain ⟨⟨t775, t776⟩, A50, H⟩ := H
 replace H : (if t776 = 0 then (alumref21_Update.j0 k l1 l2 l3 ((l2.length : Int) != (l3.length : Int)) a0_0 l0_1 l0_2 l0_3) else (alumref21_Update.j0 k l1 l2 l3 true a0_0 l0_1 l0_2 l0_3)) = some (r1, r2) := H
 have A5 := Aside0.mk A50
 clear A50
 have HC6 := Aside0.mk H
 clear H
 go_enter Try.func66, Try.ntmps66
 go_upto_region 2 with (first | ((with_reducible refine gate_dst (N := 4) rfl ?_); (try (refine gate_guard (by rfl) ?_; dsimp only)); refine box_event ?hg (N := 4) ?hd (cs := #[.string a0_0, .slice A0_1 l0_1.length c0_1, .slice A0_2 l0_2.length c0_2, .slice A0_3 l0_3.length c0_3]) (t := 28) ?hr ?_; (case hd => rfl); (case hg => rfl); (case hr => first | (go_simp; done) | (go_simp; rfl)); intro gb774 hg w7 hbox hb; have n0_ := Aside0.mk (below_step (by repeat (first | (with_reducible first | exact HB.out | apply below_alloc | apply pw_below_drewN | apply below_drew1) | exact HB.out)) hb); have n1_ := Aside0.mk (hbox); have n2_ := Aside0.mk ((by rw [hg]; exact (below_size (by repeat (first | (with_reducible first | exact HB.out | apply below_alloc | apply pw_below_drewN | apply below_drew1) | exact HB.out))) : w.heap.size ≤ gb774)); have n3_ := Aside0.mk ((by rw [hg]; exact (below_size (by repeat (first | (with_reducible first | exact HB.out | apply below_alloc | apply pw_below_drewN | apply below_drew1) | exact HB.out))) : w.heap.size ≤ gb774)); clear HB; have HB := n0_; have BK774 := n1_; have GW774 := n2_; have GE774 := n3_; clear n0_ n1_ n2_ n3_; clear hb hbox hg) | ((with_reducible refine gate_callee (f := 65) rfl ?_); refine goesL_ (some 18) rfl rfl Try.func65 (by kernel_rfl) rfl #[.slice A1 l1.length c1, .slice A2 l2.length c2] rfl (by (try simp only [List.map_toArray, List.map_cons, List.map_nil]); first | done | rfl | (simp only [List.length_drop, List.length_take]; rfl)) ?_; (with_reducible refine (alumref21_Project.calls k _ _ l1 _ _ l2 t775 t776 _ ?side1 ?side2 ?side3 ?side4 A5.out).mono ?_); (case side1 => repeat (first | exact (Kd.C_below HR1.out HB.out) | (with_reducible refine Kd.C_alloc ?_ _) | (with_reducible refine Kd.C_drewN ?_ _) | (with_reducible refine Kd.C_drew ?_))); (case side2 => exact HC1.out); (case side3 => repeat (first | exact (Kd.C_below HR2.out HB.out) | (with_reducible refine Kd.C_alloc ?_ _) | (with_reducible refine Kd.C_drewN ?_ _) | (with_reducible refine Kd.C_drew ?_))); (case side4 => exact HC2.out); rintro e w8 ⟨v777, rfl, ho0, hb⟩; refine ⟨_, rfl, ?_⟩; have n0_ := Aside0.mk (Kd.R_lower ho0 (below_size (by repeat (first | (with_reducible first | exact HB.out | apply below_alloc | apply pw_below_drewN | apply below_drew1 | refine below_set ?_ GE774.out) | exact HB.out)))); have n1_ := Aside0.mk (blk_below (g := gb774) (o := .cells #[.string a0_0, .slice A0_1 l0_1.length c0_1, .slice A0_2 l0_2.length c0_2, .slice A0_3 l0_3.length c0_3] 28 (0, 0)) (by (with_reducible repeat (first | refine blk_drewN ?_ _ | refine blk_drew ?_ | refine blk_alloc ?_ _)); exact BK774.out) hb); have n2_ := Aside0.mk (below_step (by repeat (first | (with_reducible first | exact HB.out | apply below_alloc | apply pw_below_drewN | apply below_drew1 | refine below_set ?_ GE774.out) | exact HB.out)) hb); clear BK774; clear HB; have HO778 := n0_; have BK774 := n1_; have HB := n2_; clear n0_ n1_ n2_; (try clear hb); (try clear hb2); (try clear hk); (try clear hi); (try clear ho0)))
 (try simp only [Act.put, List.setIfInBounds_toArray, List.set_cons_zero, List.set_cons_succ])
 go_cut [29] (fun v29 wc => ∃ (kq : Nat) (x29_5 : Bool), v29 = .bool x29_5 ∧ Aside0 (alumref21_Update.j0 kq l1 l2 l3 x29_5 a0_0 l0_1 l0_2 l0_3 = some (r1, r2)) ∧ Aside0 (kq ≤ k) ∧ Aside0 (wc.heap[gb774]? = some (.cells #[.string a0_0, (.slice A0_1 l0_1.length c0_1), (.slice A0_2 l0_2.length c0_2), (.slice A0_3 l0_3.length c0_3)] 28 (0, 0))) ∧ Aside0 (Below w.heap.size w wc))
 case first =>
  have H := HC6.out
  clear HC6
  by_cases c9 : t776 = 0
  ·rw [if_pos c9] at H
   have c9b0 : (t776 == 0) = true := beq_iff_eq.mpr c9
   have c9b1 : (t776 != 0) = false := bne_eq_false_iff_eq.mpr c9
   clear c9
   (first | rw [c9b0] | (simp only [i64_w, i32_w]; rw [c9b0]) | skip)
   have H' := Aside0.mk H
   clear H
   go_wp2
   go_meet
   case rel => exact ⟨_, (((l2.length : Int) != (l3.length : Int))), (by first | rfl | (simp; done) | (simp [*]; done)), H', ⟨by first | omega | exact Nat.le_refl _⟩, ⟨by (with_reducible repeat (first | refine blk_drewN ?_ _ | refine blk_drew ?_ | refine blk_alloc ?_ _)); exact BK774.out⟩, ⟨by repeat (first | (with_reducible first | exact HB.out | apply below_alloc | apply pw_below_drewN | apply below_drew1 | refine below_set ?_ GE774.out) | exact HB.out)⟩⟩
  ·rw [if_neg c9] at H
   have c9b0 : (t776 == 0) = false := beq_eq_false_iff_ne.mpr c9
   have c9b1 : (t776 != 0) = true := bne_iff_ne.mpr c9
   (first | rw [c9b0] | (simp only [i64_w, i32_w]; rw [c9b0]) | skip)
   have H' := Aside0.mk H
   clear H
   go_wp2
   go_meet
   case rel => exact ⟨_, (true), (by first | rfl | (simp; done) | (simp [*]; done)), H', ⟨by first | omega | exact Nat.le_refl _⟩, ⟨by (with_reducible repeat (first | refine blk_drewN ?_ _ | refine blk_drew ?_ | refine blk_alloc ?_ _)); exact BK774.out⟩, ⟨by repeat (first | (with_reducible first | exact HB.out | apply below_alloc | apply pw_below_drewN | apply below_drew1 | refine below_set ?_ GE774.out) | exact HB.out)⟩⟩
 case rest =>
  clear HC6
  try clear c1
  try clear c2
  try clear p2
  try clear c3
  try clear c6
  try clear c9
  try clear c9b0
  try clear c9b1
  obtain ⟨kq, x29_5, rfl, HA, HJ5, BK774, HB⟩ := hcut
  cases kq with
  | zero => exact absurd HA.out (by simp [alumref21_Update.j0])
  | succ kj5 =>
   have H := HA.out
   clear HA
   simp only [alumref21_Update.j0] at H
   by_cases c10 : x29_5 = true
   ·subst c10
    have H1 : (some (([] : List (S40)), 1)) = some (r1, r2) := by rw [if_pos rfl] at H; exact H
    clear H
    have H := H1
    clear H1
    simp only [Option.some.injEq, Prod.mk.injEq] at H
    obtain ⟨rfl, rfl⟩ := H
    go_wp2
    go_ret2
    exact ⟨_, by first | rfl | (simp [errW_none, errW_some] <;> rfl) | (simp [*, errW_none, errW_some] <;> rfl), by first | exact Kd.R_nil _ _ _ _ _ | exact Kd.N_nil _ _ _ _ _ | exact Kd.V_nil _ _ _ _ _ | exact Kd.Q_nil _ _ _ _ _ | exact Kd.S_nil _ _ _ _ _, by repeat (first | (with_reducible first | exact HB.out | apply below_alloc | apply pw_below_drewN | apply below_drew1 | refine below_set ?_ GE774.out) | exact HB.out)⟩
   ·replace c10 := Bool.eq_false_iff.mpr c10
    subst c10
    have H1 : ((some (([] : List (S40)) : List (S40))).bind fun y779 => (if y779.length + l1.length < 4398046511104 then (alumref21_Update.l0 kj5 l2 l3 (y779 ++ l1) 0 a0_0 l0_1 l0_2 l0_3) else (none))) = some (r1, r2) := by rw [if_neg (show ¬ (false = true) by decide)] at H; exact H
    clear H
    have H := H1
    clear H1
    obtain ⟨y779, hy779⟩ : ∃ y_ : List (S40), y_ = (([] : List (S40))) := ⟨_, rfl⟩
    replace H : (if y779.length + l1.length < 4398046511104 then (alumref21_Update.l0 kj5 l2 l3 (y779 ++ l1) 0 a0_0 l0_1 l0_2 l0_3) else (none)) = some (r1, r2) := by first | (rw [hy779]; with_reducible exact H) | (have H2_ := (Option.bind_some _ _).symm.trans H; rw [hy779]; with_reducible exact H2_) | (have H2_ := (Option.bind_some _ _).symm.trans H; with_reducible exact H2_) | with_reducible exact H | (rw [hy779]; exact H) | exact H
    have Ny779 := Aside0.mk hy779
    clear hy779
    by_cases c11 : y779.length + l1.length < 4398046511104
    ·rw [if_pos c11] at H
     have LMc11 := Aside0.mk c11
     clear c11
     obtain ⟨y782, hy782⟩ : ∃ y_ : List (S40), y_ = (y779 ++ l1) := ⟨_, rfl⟩
     replace H : (alumref21_Update.l0 kj5 l2 l3 y782 0 a0_0 l0_1 l0_2 l0_3) = some (r1, r2) := by first | (rw [hy782]; with_reducible exact H) | (have H2_ := (Option.bind_some _ _).symm.trans H; rw [hy782]; with_reducible exact H2_) | (have H2_ := (Option.bind_some _ _).symm.trans H; with_reducible exact H2_) | with_reducible exact H | (rw [hy782]; exact H) | exact H
     have Ny782 := Aside0.mk hy782
     clear hy782
     have H' := Aside0.mk H
     clear H
     go_wp2_with (first | ((with_reducible refine gate_dst (N := 30) rfl ?_); (try (refine gate_guard (by rfl) ?_; dsimp only)); refine Kd.R_lit k40 _ 40 ?hg (N := 30) ?hd (xs := ([] : List (S40))) (inner := []) (ok := fun _ => True) (okp := fun _ => True) ?hr ?hp (fun _ hk => hk) trivial (Below.refl _ _) (Nat.le_refl _) (by simp) ?_; (case hd => rfl); (case hg => rfl); (case hr => first | (go_simp; done) | (go_simp; rfl)); (case hp => exact (Reps.none _ _)); intro v780 w12 ho13 hb hg_ hnew_; clear hg_ hnew_; (first | rw [← Ny779.out] at ho13 | (simp only [Int.reduceToNat] at ho13; rw [← Ny779.out] at ho13)); have n0_ := Aside0.mk (Kd.R_lower ho13 (below_size (by repeat (first | (with_reducible first | exact HB.out | apply below_alloc | apply pw_below_drewN | apply below_drew1 | refine below_set ?_ GE774.out) | exact HB.out)))); have n1_ := Aside0.mk (blk_below (g := gb774) (o := .cells #[.string a0_0, .slice A0_1 l0_1.length c0_1, .slice A0_2 l0_2.length c0_2, .slice A0_3 l0_3.length c0_3] 28 (0, 0)) (by (with_reducible repeat (first | refine blk_drewN ?_ _ | refine blk_drew ?_ | refine blk_alloc ?_ _)); exact BK774.out) hb); have n2_ := Aside0.mk (below_step (by repeat (first | (with_reducible first | exact HB.out | apply below_alloc | apply pw_below_drewN | apply below_drew1 | refine below_set ?_ GE774.out) | exact HB.out)) hb); clear BK774; clear HB; have HO781 := n0_; have BK774 := n1_; have HB := n2_; clear n0_ n1_ n2_; clear hb ho13) | ((with_reducible refine gate_builtin (b := .append) (xs := #[.tmp 30, .tmp 31]) rfl ?_); (try (refine gate_guard (by rfl) ?_; dsimp only)); at_builtin; refine Kd.R_append_rows k40 (w0 := w) w.heap.size rfl (.tmp 30) (.tmp 31) 37 40 (.agg #[(.int .i64 0), (.int .i64 0), (.string ⟨#[]⟩)]) 32 rfl Try.underlying37 info40 rfl (by decide) (by omega) v780 y779 l1 _ _ _ (fun _ => True) (fun _ => False) rfl rfl ?aO ?aR (fun _ _ h => h) (fun _ h => h.elim) ?aF ?aB ?aS ?aL ?_; (case aR => repeat (first | exact (Kd.C_below HR1.out HB.out) | (with_reducible refine Kd.C_alloc ?_ _) | (with_reducible refine Kd.C_drewN ?_ _) | (with_reducible refine Kd.C_drew ?_))); (case aB => exact (by repeat (first | (with_reducible first | exact HB.out | apply below_alloc | apply pw_below_drewN | apply below_drew1 | refine below_set ?_ GE774.out) | exact HB.out))); (case aF => exact (fun _ _ => trivial)); (case aO => exact (by (with_reducible repeat (first | apply Kd.R_alloc | apply Kd.R_drewN | apply Kd.R_drew)); exact HO781.out)); (case aS => exact (below_size (by repeat (first | (with_reducible first | exact HB.out | apply below_alloc | apply pw_below_drewN | apply below_drew1 | refine below_set ?_ GE774.out) | exact HB.out)))); (case aL => have := LMc11.out; omega); intro v783 w14 ho hb hg hat; rw [← Ny782.out] at ho; have n0_ := Aside0.mk (blk_grown (g := gb774) (o := .cells #[.string a0_0, .slice A0_1 l0_1.length c0_1, .slice A0_2 l0_2.length c0_2, .slice A0_3 l0_3.length c0_3] 28 (0, 0)) (by (with_reducible repeat (first | refine blk_drewN ?_ _ | refine blk_drew ?_ | refine blk_alloc ?_ _)); exact BK774.out) hg (Kd.R_ne HO781.out BK774.out (by decide))); have n1_ := Aside0.mk (hb); have n2_ := Aside0.mk (ho); clear BK774; clear HB; clear HO781; have BK774 := n0_; have HB := n1_; have HO784 := n2_; clear n0_ n1_ n2_; clear ho hb hg hat))
     go_loopg [13] kj5 (fun kq v13 w' => ∃ (x12_2 : List (S40)) (x13_2 : Int), v13 = .int .i64 x13_2 ∧ Aside0 (alumref21_Update.l0 kq l2 l3 x12_2 x13_2 a0_0 l0_1 l0_2 l0_3 = some (r1, r2)) ∧ Aside0 (kq ≤ kj5) ∧ Aside0 (Kd.R k40 40 w' w.heap.size (fun _ => True) v783 x12_2) ∧ Aside0 (w'.heap[gb774]? = some (.cells #[.string a0_0, (.slice A0_1 l0_1.length c0_1), (.slice A0_2 l0_2.length c0_2), (.slice A0_3 l0_3.length c0_3)] 28 (0, 0))) ∧ Aside0 (Below w.heap.size w w'))
     case atStart => exact ⟨(y782), (0), (by first | rfl | (simp; done) | (simp [*]; done)), H', ⟨Nat.le_refl _⟩, ⟨by (with_reducible repeat (first | apply Kd.R_alloc | apply Kd.R_drewN | apply Kd.R_drew)); exact HO784.out⟩, ⟨by (with_reducible repeat (first | refine blk_drewN ?_ _ | refine blk_drew ?_ | refine blk_alloc ?_ _)); exact BK774.out⟩, ⟨by repeat (first | (with_reducible first | exact HB.out | apply below_alloc | apply pw_below_drewN | apply below_drew1 | refine below_set ?_ GE774.out) | exact HB.out)⟩⟩
     case round =>
      clear H'
      try clear c1
      try clear c2
      try clear p2
      try clear c3
      try clear c6
      try clear c9
      try clear c9b0
      try clear c9b1
      try clear c10
      try clear c11
      try clear p2
      obtain ⟨x12_2, x13_2, rfl, HA, HK2, HO_12, BK774, HB⟩ := hrel
      cases gk with
      | zero => exact absurd HA.out (by simp [alumref21_Update.l0])
      | succ k2 =>
       have H := HA.out
       clear HA
       simp only [alumref21_Update.l0] at H
       by_cases c15 : x13_2 < (l2.length : Int)
       ·rw [if_pos c15] at H
        have c15b0 : decide (x13_2 < (l2.length : Int)) = true := decide_eq_true c15
        clear c15
        have H' := Aside0.mk H
        clear H
        go_wp2
        go_loopg [14] k2 (fun kq v14 w' => ∃ (x14_3 : Int), v14 = .int .i64 x14_3 ∧ Aside0 (alumref21_Update.l1 kq l2 l3 x12_2 x13_2 x14_3 a0_0 l0_1 l0_2 l0_3 = some (r1, r2)) ∧ Aside0 (kq ≤ k2) ∧ Aside0 (Kd.R k40 40 w' w.heap.size (fun _ => True) v783 x12_2) ∧ Aside0 (w'.heap[gb774]? = some (.cells #[.string a0_0, (.slice A0_1 l0_1.length c0_1), (.slice A0_2 l0_2.length c0_2), (.slice A0_3 l0_3.length c0_3)] 28 (0, 0))) ∧ Aside0 (Below w.heap.size w w'))
        case atStart => exact ⟨(0), (by first | rfl | (simp; done) | (simp [*]; done)), H', ⟨Nat.le_refl _⟩, ⟨by (with_reducible repeat (first | apply Kd.R_alloc | apply Kd.R_drewN | apply Kd.R_drew)); exact HO_12.out⟩, ⟨by (with_reducible repeat (first | refine blk_drewN ?_ _ | refine blk_drew ?_ | refine blk_alloc ?_ _)); exact BK774.out⟩, ⟨by repeat (first | (with_reducible first | exact HB.out | apply below_alloc | apply pw_below_drewN | apply below_drew1 | refine below_set ?_ GE774.out) | exact HB.out)⟩⟩
        case round =>
         clear H'
         try clear c1
         try clear c2
         try clear p2
         try clear c3
         try clear c6
         try clear c9
         try clear c9b0
         try clear c9b1
         try clear c10
         try clear c11
         try clear c15
         try clear c15b0
         try clear p2
         obtain ⟨x14_3, rfl, HA, HK3, HO_12, BK774, HB⟩ := hrel
         cases gk with
         | zero => exact absurd HA.out (by simp [alumref21_Update.l1])
         | succ k3 =>
          have H := HA.out
          clear HA
          simp only [alumref21_Update.l1] at H
          by_cases c16 : x14_3 < x13_2
          ·rw [if_pos c16] at H
           have c16b0 : decide (x14_3 < x13_2) = true := decide_eq_true c16
           clear c16
           by_cases c17 : 0 ≤ x14_3
           ·rw [if_pos c17] at H
            have c17b0 : decide (0 ≤ x14_3) = true := decide_eq_true c17
            clear c17
            by_cases c18 : x14_3 < (l2.length : Int)
            ·rw [if_pos c18] at H
             have c18b0 : decide (x14_3 < (l2.length : Int)) = true := decide_eq_true c18
             clear c18
             by_cases c19 : 0 ≤ x13_2
             ·rw [if_pos c19] at H
              have c19b0 : decide (0 ≤ x13_2) = true := decide_eq_true c19
              clear c19
              by_cases c20 : x13_2 < (l2.length : Int)
              ·rw [if_pos c20] at H
               have c20b0 : decide (x13_2 < (l2.length : Int)) = true := decide_eq_true c20
               clear c20
               by_cases c21 : (rd l2 x14_3) = (rd l2 x13_2)
               ·rw [if_pos c21] at H
                have c21b0 : ((rd l2 x14_3) == (rd l2 x13_2)) = true := beq_iff_eq.mpr c21
                have c21b1 : ((rd l2 x14_3) != (rd l2 x13_2)) = false := bne_eq_false_iff_eq.mpr c21
                clear c21
                simp only [Option.some.injEq, Prod.mk.injEq] at H
                obtain ⟨rfl, rfl⟩ := H
                try go_wp2
                have n0_ := Aside0.mk (Kd.R_drew HO_12.out)
                have n1_ := Aside0.mk (blk_drew BK774.out)
                have n2_ := Aside0.mk (below_drew1 HB.out)
                clear HO_12
                clear BK774
                clear HB
                have HO_12 := n0_
                have BK774 := n1_
                have HB := n2_
                clear n0_ n1_ n2_
                have p786 : 0 ≤ (x14_3 : Int) := of_decide_eq_true (by first | (with_reducible assumption) | assumption)
                have q786 : x14_3 < (l2.length : Int) := of_decide_eq_true (by first | (with_reducible assumption) | assumption)
                obtain ⟨ad786, e786, hx786_0⟩ := Kd.at_int HR2.out x14_3 p786 q786
                have hw786_0 := hx786_0
                cases e786
                replace hx786_0 := (HB.out.cell (World.block_lt_of_cell? w _ hx786_0)).trans hx786_0
                replace p786 := eq_true p786
                replace q786 := eq_true q786
                have p787 : 0 ≤ (x13_2 : Int) := of_decide_eq_true (by first | (with_reducible assumption) | assumption)
                have q787 : x13_2 < (l2.length : Int) := of_decide_eq_true (by first | (with_reducible assumption) | assumption)
                obtain ⟨ad787, e787, hx787_0⟩ := Kd.at_int HR2.out x13_2 p787 q787
                have hw787_0 := hx787_0
                obtain rfl : ad786 = ad787 := (by injection e787)
                replace hx787_0 := (HB.out.cell (World.block_lt_of_cell? w _ hx787_0)).trans hx787_0
                replace p787 := eq_true p787
                replace q787 := eq_true q787
                refine start_ (n := 9) (S := fun w' => w'.cell? (ad786.add (x14_3).toNat) = some (.int .i64 (rd l2 x14_3)) ∧ w'.cell? (ad786.add (x13_2).toNat) = some (.int .i64 (rd l2 x13_2))) (ds := []) #[false, false, false, false, false, false, false, false, false] (by kernel_rfl) rfl rfl ⟨((HB.out.cell (World.block_lt_of_cell? w _ hw786_0)).trans hw786_0), ((HB.out.cell (World.block_lt_of_cell? w _ hw787_0)).trans hw787_0)⟩ (fun hHeld => ?_); refine with_tabW alumref21_Update.tab11 alumref21_Update.bits11 (fun HT_ HW_ => ?_)
                generalize wr.drew = w22 at HO_12 BK774 HB hx786_0 hx787_0 hHeld ⊢
                refine pure_ (i := 0) (N := some 44) (v := ?_) (a' := ?_) #[true, false, false, false, false, false, false, false, false] rfl rfl (any_of HT_.out (by kernel_rfl)) (fun _ _ _ h => h) (Or.inl ⟨by rfl, ?_⟩) ?_ ?_
                rotate_left
                ·intro w'
                 go_simp
                 with_reducible rfl
                rotate_left
                ·simp only [Act.put, List.setIfInBounds_toArray, List.set_cons_zero, List.set_cons_succ, i64_w, i32_w]
                 rfl
                refine pure_ (i := 1) (N := some 45) (v := ?_) (a' := ?_) #[true, true, false, false, false, false, false, false, false] rfl rfl (any_of HT_.out (by kernel_rfl)) (fun _ _ _ h => h) (Or.inl ⟨by rfl, ?_⟩) ?_ ?_
                rotate_left
                ·intro w'
                 go_simp
                 with_reducible rfl
                rotate_left
                ·simp only [Act.put, List.setIfInBounds_toArray, List.set_cons_zero, List.set_cons_succ, i64_w, i32_w]
                 rfl
                refine pure_ (i := 2) (N := some 46) (v := ?_) (a' := ?_) #[true, true, true, false, false, false, false, false, false] rfl rfl (any_of HT_.out (by kernel_rfl)) (fun _ _ _ h => h) (Or.inl ⟨by rfl, ?_⟩) ?_ ?_
                rotate_left
                ·intro w'
                 go_simp
                 with_reducible rfl
                rotate_left
                ·simp only [Act.put, List.setIfInBounds_toArray, List.set_cons_zero, List.set_cons_succ, i64_w, i32_w]
                 rfl
                refine pure_ (i := 4) (N := some 48) (v := ?_) (a' := ?_) #[true, true, true, false, true, false, false, false, false] rfl rfl (any_of HT_.out (by kernel_rfl)) (fun _ _ _ h => h) (Or.inl ⟨by rfl, ?_⟩) ?_ ?_
                rotate_left
                ·intro w'
                 go_simp
                 with_reducible rfl
                rotate_left
                ·simp only [Act.put, List.setIfInBounds_toArray, List.set_cons_zero, List.set_cons_succ, i64_w, i32_w]
                 rfl
                refine pure_ (i := 5) (N := some 49) (v := ?_) (a' := ?_) #[true, true, true, false, true, true, false, false, false] rfl rfl (any_of HT_.out (by kernel_rfl)) (fun _ _ _ h => h) (Or.inl ⟨by rfl, ?_⟩) ?_ ?_
                rotate_left
                ·intro w'
                 go_simp
                 with_reducible rfl
                rotate_left
                ·simp only [Act.put, List.setIfInBounds_toArray, List.set_cons_zero, List.set_cons_succ, i64_w, i32_w]
                 rfl
                refine pure_ (i := 6) (N := some 50) (v := ?_) (a' := ?_) #[true, true, true, false, true, true, true, false, false] rfl rfl (any_of HT_.out (by kernel_rfl)) (fun _ _ _ h => h) (Or.inl ⟨by rfl, ?_⟩) ?_ ?_
                rotate_left
                ·intro w'
                 go_simp
                 with_reducible rfl
                rotate_left
                ·simp only [Act.put, List.setIfInBounds_toArray, List.set_cons_zero, List.set_cons_succ, i64_w, i32_w]
                 rfl
                refine take_ (i := 3) (N := some 47) (v := ?_) (a' := ?_) #[true, true, true, true, true, true, true, false, false] rfl rfl (take_ofW HT_.out HW_.out (by kernel_rfl)) (fun _ _ _ h => h) (Or.inl ⟨by rfl, ?_⟩) hHeld ?_ ?_
                rotate_left
                ·rintro w' ⟨s0, s1⟩
                 go_simp
                 with_reducible rfl
                rotate_left
                ·simp only [Act.put, List.setIfInBounds_toArray, List.set_cons_zero, List.set_cons_succ, i64_w, i32_w]
                 rfl
                refine take_ (i := 7) (N := some 51) (v := ?_) (a' := ?_) #[true, true, true, true, true, true, true, true, false] rfl rfl (take_ofW HT_.out HW_.out (by kernel_rfl)) (fun _ _ _ h => h) (Or.inl ⟨by rfl, ?_⟩) hHeld ?_ ?_
                rotate_left
                ·rintro w' ⟨s0, s1⟩
                 go_simp
                 with_reducible rfl
                rotate_left
                ·simp only [Act.put, List.setIfInBounds_toArray, List.set_cons_zero, List.set_cons_succ, i64_w, i32_w]
                 rfl
                refine pure_ (i := 8) (N := some 52) (v := ?_) (a' := ?_) #[true, true, true, true, true, true, true, true, true] rfl rfl (any_of HT_.out (by kernel_rfl)) (fun _ _ _ h => h) (Or.inl ⟨by rfl, ?_⟩) ?_ ?_
                rotate_left
                ·intro w'
                 go_simp
                 with_reducible rfl
                rotate_left
                ·simp only [Act.put, List.setIfInBounds_toArray, List.set_cons_zero, List.set_cons_succ, i64_w, i32_w]
                 rfl
                refine done_ (done_of HT_.out (by kernel_rfl)) ?_
                try go_wp2
                go_ret2
                exact ⟨_, by first | rfl | (simp [errW_none, errW_some] <;> rfl) | (simp [*, errW_none, errW_some] <;> rfl), by first | exact Kd.R_nil _ _ _ _ _ | exact Kd.N_nil _ _ _ _ _ | exact Kd.V_nil _ _ _ _ _ | exact Kd.Q_nil _ _ _ _ _ | exact Kd.S_nil _ _ _ _ _, by repeat (first | (with_reducible first | exact HB.out | apply below_alloc | apply pw_below_drewN | apply below_drew1 | refine below_set ?_ GE774.out) | exact HB.out)⟩
               ·rw [if_neg c21] at H
                have c21b0 : ((rd l2 x14_3) == (rd l2 x13_2)) = false := beq_eq_false_iff_ne.mpr c21
                have c21b1 : ((rd l2 x14_3) != (rd l2 x13_2)) = true := bne_iff_ne.mpr c21
                have H' := Aside0.mk H
                clear H
                try go_wp2
                have n0_ := Aside0.mk (Kd.R_drew HO_12.out)
                have n1_ := Aside0.mk (blk_drew BK774.out)
                have n2_ := Aside0.mk (below_drew1 HB.out)
                clear HO_12
                clear BK774
                clear HB
                have HO_12 := n0_
                have BK774 := n1_
                have HB := n2_
                clear n0_ n1_ n2_
                have p786 : 0 ≤ (x14_3 : Int) := of_decide_eq_true (by first | (with_reducible assumption) | assumption)
                have q786 : x14_3 < (l2.length : Int) := of_decide_eq_true (by first | (with_reducible assumption) | assumption)
                obtain ⟨ad786, e786, hx786_0⟩ := Kd.at_int HR2.out x14_3 p786 q786
                have hw786_0 := hx786_0
                cases e786
                replace hx786_0 := (HB.out.cell (World.block_lt_of_cell? w _ hx786_0)).trans hx786_0
                replace p786 := eq_true p786
                replace q786 := eq_true q786
                have p787 : 0 ≤ (x13_2 : Int) := of_decide_eq_true (by first | (with_reducible assumption) | assumption)
                have q787 : x13_2 < (l2.length : Int) := of_decide_eq_true (by first | (with_reducible assumption) | assumption)
                obtain ⟨ad787, e787, hx787_0⟩ := Kd.at_int HR2.out x13_2 p787 q787
                have hw787_0 := hx787_0
                obtain rfl : ad786 = ad787 := (by injection e787)
                replace hx787_0 := (HB.out.cell (World.block_lt_of_cell? w _ hx787_0)).trans hx787_0
                replace p787 := eq_true p787
                replace q787 := eq_true q787
                refine start_ (n := 9) (S := fun w' => w'.cell? (ad786.add (x14_3).toNat) = some (.int .i64 (rd l2 x14_3)) ∧ w'.cell? (ad786.add (x13_2).toNat) = some (.int .i64 (rd l2 x13_2))) (ds := []) #[false, false, false, false, false, false, false, false, false] (by kernel_rfl) rfl rfl ⟨((HB.out.cell (World.block_lt_of_cell? w _ hw786_0)).trans hw786_0), ((HB.out.cell (World.block_lt_of_cell? w _ hw787_0)).trans hw787_0)⟩ (fun hHeld => ?_); refine with_tabW alumref21_Update.tab11 alumref21_Update.bits11 (fun HT_ HW_ => ?_)
                generalize wr.drew = w23 at HO_12 BK774 HB hx786_0 hx787_0 hHeld ⊢
                refine pure_ (i := 0) (N := some 44) (v := ?_) (a' := ?_) #[true, false, false, false, false, false, false, false, false] rfl rfl (any_of HT_.out (by kernel_rfl)) (fun _ _ _ h => h) (Or.inl ⟨by rfl, ?_⟩) ?_ ?_
                rotate_left
                ·intro w'
                 go_simp
                 with_reducible rfl
                rotate_left
                ·simp only [Act.put, List.setIfInBounds_toArray, List.set_cons_zero, List.set_cons_succ, i64_w, i32_w]
                 rfl
                refine pure_ (i := 1) (N := some 45) (v := ?_) (a' := ?_) #[true, true, false, false, false, false, false, false, false] rfl rfl (any_of HT_.out (by kernel_rfl)) (fun _ _ _ h => h) (Or.inl ⟨by rfl, ?_⟩) ?_ ?_
                rotate_left
                ·intro w'
                 go_simp
                 with_reducible rfl
                rotate_left
                ·simp only [Act.put, List.setIfInBounds_toArray, List.set_cons_zero, List.set_cons_succ, i64_w, i32_w]
                 rfl
                refine pure_ (i := 2) (N := some 46) (v := ?_) (a' := ?_) #[true, true, true, false, false, false, false, false, false] rfl rfl (any_of HT_.out (by kernel_rfl)) (fun _ _ _ h => h) (Or.inl ⟨by rfl, ?_⟩) ?_ ?_
                rotate_left
                ·intro w'
                 go_simp
                 with_reducible rfl
                rotate_left
                ·simp only [Act.put, List.setIfInBounds_toArray, List.set_cons_zero, List.set_cons_succ, i64_w, i32_w]
                 rfl
                refine pure_ (i := 4) (N := some 48) (v := ?_) (a' := ?_) #[true, true, true, false, true, false, false, false, false] rfl rfl (any_of HT_.out (by kernel_rfl)) (fun _ _ _ h => h) (Or.inl ⟨by rfl, ?_⟩) ?_ ?_
                rotate_left
                ·intro w'
                 go_simp
                 with_reducible rfl
                rotate_left
                ·simp only [Act.put, List.setIfInBounds_toArray, List.set_cons_zero, List.set_cons_succ, i64_w, i32_w]
                 rfl
                refine pure_ (i := 5) (N := some 49) (v := ?_) (a' := ?_) #[true, true, true, false, true, true, false, false, false] rfl rfl (any_of HT_.out (by kernel_rfl)) (fun _ _ _ h => h) (Or.inl ⟨by rfl, ?_⟩) ?_ ?_
                rotate_left
                ·intro w'
                 go_simp
                 with_reducible rfl
                rotate_left
                ·simp only [Act.put, List.setIfInBounds_toArray, List.set_cons_zero, List.set_cons_succ, i64_w, i32_w]
                 rfl
                refine pure_ (i := 6) (N := some 50) (v := ?_) (a' := ?_) #[true, true, true, false, true, true, true, false, false] rfl rfl (any_of HT_.out (by kernel_rfl)) (fun _ _ _ h => h) (Or.inl ⟨by rfl, ?_⟩) ?_ ?_
                rotate_left
                ·intro w'
                 go_simp
                 with_reducible rfl
                rotate_left
                ·simp only [Act.put, List.setIfInBounds_toArray, List.set_cons_zero, List.set_cons_succ, i64_w, i32_w]
                 rfl
                refine take_ (i := 3) (N := some 47) (v := ?_) (a' := ?_) #[true, true, true, true, true, true, true, false, false] rfl rfl (take_ofW HT_.out HW_.out (by kernel_rfl)) (fun _ _ _ h => h) (Or.inl ⟨by rfl, ?_⟩) hHeld ?_ ?_
                rotate_left
                ·rintro w' ⟨s0, s1⟩
                 go_simp
                 with_reducible rfl
                rotate_left
                ·simp only [Act.put, List.setIfInBounds_toArray, List.set_cons_zero, List.set_cons_succ, i64_w, i32_w]
                 rfl
                refine take_ (i := 7) (N := some 51) (v := ?_) (a' := ?_) #[true, true, true, true, true, true, true, true, false] rfl rfl (take_ofW HT_.out HW_.out (by kernel_rfl)) (fun _ _ _ h => h) (Or.inl ⟨by rfl, ?_⟩) hHeld ?_ ?_
                rotate_left
                ·rintro w' ⟨s0, s1⟩
                 go_simp
                 with_reducible rfl
                rotate_left
                ·simp only [Act.put, List.setIfInBounds_toArray, List.set_cons_zero, List.set_cons_succ, i64_w, i32_w]
                 rfl
                refine pure_ (i := 8) (N := some 52) (v := ?_) (a' := ?_) #[true, true, true, true, true, true, true, true, true] rfl rfl (any_of HT_.out (by kernel_rfl)) (fun _ _ _ h => h) (Or.inl ⟨by rfl, ?_⟩) ?_ ?_
                rotate_left
                ·intro w'
                 go_simp
                 with_reducible rfl
                rotate_left
                ·simp only [Act.put, List.setIfInBounds_toArray, List.set_cons_zero, List.set_cons_succ, i64_w, i32_w]
                 rfl
                refine done_ (done_of HT_.out (by kernel_rfl)) ?_
                try go_wp2
                go_roundg k3
                case measure => have := HJ5.out; have := HK2.out; have := HK3.out; omega
                case rel => exact ⟨(wrap64 (x14_3 + 1)), (by first | rfl | (simp; done) | (simp [*]; done)), H', ⟨by have := HJ5.out; have := HK2.out; have := HK3.out; omega⟩, ⟨by (with_reducible repeat (first | apply Kd.R_alloc | apply Kd.R_drewN | apply Kd.R_drew)); exact HO_12.out⟩, ⟨by (with_reducible repeat (first | refine blk_drewN ?_ _ | refine blk_drew ?_ | refine blk_alloc ?_ _)); exact BK774.out⟩, ⟨by repeat (first | (with_reducible first | exact HB.out | apply below_alloc | apply pw_below_drewN | apply below_drew1 | refine below_set ?_ GE774.out) | exact HB.out)⟩⟩
              ·rw [if_neg c20] at H
               exact absurd H (by simp)
             ·rw [if_neg c19] at H
              exact absurd H (by simp)
            ·rw [if_neg c18] at H
             exact absurd H (by simp)
           ·rw [if_neg c17] at H
            exact absurd H (by simp)
          ·rw [if_neg c16] at H
           have c16b0 : decide (x14_3 < x13_2) = false := decide_eq_false c16
           clear c16
           by_cases c24 : 0 ≤ x13_2
           ·rw [if_pos c24] at H
            have c24b0 : decide (0 ≤ x13_2) = true := decide_eq_true c24
            clear c24
            by_cases c25 : x13_2 < (l2.length : Int)
            ·rw [if_pos c25] at H
             have c25b0 : decide (x13_2 < (l2.length : Int)) = true := decide_eq_true c25
             clear c25
             by_cases c26 : x13_2 < (l3.length : Int)
             ·rw [if_pos c26] at H
              have c26b0 : decide (x13_2 < (l3.length : Int)) = true := decide_eq_true c26
              clear c26
              by_cases c27 : 0 ≤ (rd l2 x13_2)
              ·rw [if_pos c27] at H
               have c27b0 : decide (0 ≤ (rd l2 x13_2)) = true := decide_eq_true c27
               clear c27
               by_cases c28 : (rd l2 x13_2) < (x12_2.length : Int)
               ·rw [if_pos c28] at H
                have c28b0 : decide ((rd l2 x13_2) < (x12_2.length : Int)) = true := decide_eq_true c28
                clear c28
                obtain ⟨y790, hy790⟩ : ∃ y_ : List (S40), y_ = (x12_2.set ((rd l2 x13_2) : Int).toNat (⟨(rd_T40 l3 x13_2).f0, (rd_T40 l3 x13_2).f1, (rd_T40 l3 x13_2).f2⟩ : S40)) := ⟨_, rfl⟩
                replace H : (alumref21_Update.l0 k3 l2 l3 y790 (wrap64 (x13_2 + 1)) a0_0 l0_1 l0_2 l0_3) = some (r1, r2) := by first | (rw [hy790]; with_reducible exact H) | (have H2_ := (Option.bind_some _ _).symm.trans H; rw [hy790]; with_reducible exact H2_) | (have H2_ := (Option.bind_some _ _).symm.trans H; with_reducible exact H2_) | with_reducible exact H | (rw [hy790]; exact H) | exact H
                have Ny790 := Aside0.mk hy790
                clear hy790
                have H' := Aside0.mk H
                clear H
                try go_wp2
                have n0_ := Aside0.mk (Kd.R_drew HO_12.out)
                have n1_ := Aside0.mk (blk_drew BK774.out)
                have n2_ := Aside0.mk (below_drew1 HB.out)
                clear HO_12
                clear BK774
                clear HB
                have HO_12 := n0_
                have BK774 := n1_
                have HB := n2_
                clear n0_ n1_ n2_
                have p788 : 0 ≤ (x13_2 : Int) := of_decide_eq_true (by first | (with_reducible assumption) | assumption)
                have q788 : x13_2 < (l2.length : Int) := of_decide_eq_true (by first | (with_reducible assumption) | assumption)
                obtain ⟨ad788, e788, hx788_0⟩ := Kd.at_int HR2.out x13_2 p788 q788
                have hw788_0 := hx788_0
                cases e788
                replace hx788_0 := (HB.out.cell (World.block_lt_of_cell? w _ hx788_0)).trans hx788_0
                replace p788 := eq_true p788
                replace q788 := eq_true q788
                have p789 : 0 ≤ (x13_2 : Int) := of_decide_eq_true (by first | (with_reducible assumption) | assumption)
                have q789 : x13_2 < (l3.length : Int) := of_decide_eq_true (by first | (with_reducible assumption) | assumption)
                obtain ⟨ad789, e789, hx789_0, hx789_1, hx789_2⟩ := at_T40 HR3.out x13_2 p789 q789
                have hw789_2 := hx789_2
                have hw789_1 := hx789_1
                have hw789_0 := hx789_0
                cases e789
                replace hx789_0 := (HB.out.cell (World.block_lt_of_cell? w _ hx789_0)).trans hx789_0
                replace hx789_1 := (HB.out.cell (World.block_lt_of_cell? w _ hx789_1)).trans hx789_1
                replace hx789_2 := (HB.out.cell (World.block_lt_of_cell? w _ hx789_2)).trans hx789_2
                replace p789 := eq_true p789
                replace q789 := eq_true q789
                have p29 : 0 ≤ ((rd l2 x13_2) : Int) := of_decide_eq_true (by first | (with_reducible assumption) | assumption)
                have q29 : ((rd l2 x13_2) : Int) < ((x12_2.length : Int) : Int) := of_decide_eq_true (by first | (with_reducible assumption) | assumption)
                obtain ⟨go29, co29, eo29, gb29, gl29, cl29, HG29⟩ := Kd.R_form HO_12.out (by omega)
                (first | cases eo29 | (injection eo29 with ea_ en_ ec_; (first | subst ea_ | (injection ea_ with ea_; subst ea_)); subst ec_; clear en_))
                have GB29 := Aside0.mk gb29
                have GG29 := Aside0.mk HG29
                clear gb29 gl29 HG29
                obtain ⟨ce29, hcl29, hM29, hcc29, hfr29⟩ := Kd.R_elem HO_12.out z40 ((rd l2 x13_2) : Int) p29 q29
                obtain rfl := k40_openM hM29
                have hx29_0 : World.cell? _ ⟨go29, ((rd l2 x13_2) : Int).toNat * 3, none⟩ = some (.int .i64 ((rd_T40 x12_2 (rd l2 x13_2)).f0)) := hcc29 0 _ rfl
                have hx29_1 : World.cell? _ ⟨go29, ((rd l2 x13_2) : Int).toNat * 3 + 1, none⟩ = some (.int .i64 ((rd_T40 x12_2 (rd l2 x13_2)).f1)) := hcc29 1 _ rfl
                have hx29_2 : World.cell? _ ⟨go29, ((rd l2 x13_2) : Int).toNat * 3 + 2, none⟩ = some (.string ((rd_T40 x12_2 (rd l2 x13_2)).f2)) := hcc29 2 _ rfl
                have hf29_0 : World.frozen? _ ⟨go29, ((rd l2 x13_2) : Int).toNat * 3, none⟩ = false := hfr29 0
                have hf29_1 : World.frozen? _ ⟨go29, ((rd l2 x13_2) : Int).toNat * 3 + 1, none⟩ = false := hfr29 1
                have hf29_2 : World.frozen? _ ⟨go29, ((rd l2 x13_2) : Int).toNat * 3 + 2, none⟩ = false := hfr29 2
                clear hcl29 hcc29 hfr29 hM29
                replace p29 := eq_true p29
                replace q29 := eq_true q29
                obtain ⟨ce31, hcl31, hM31, hcc31, hfr31⟩ := Kd.R_elem HO_12.out z40 ((rd l2 x13_2) : Int) (of_decide_eq_true (by first | (with_reducible assumption) | assumption)) (by have h_ : ((rd l2 x13_2) : Int) < ((x12_2.length : Int) : Int) := of_decide_eq_true (by first | (with_reducible assumption) | assumption); first | exact h_ | (have e_ := (Kd.R_reads' HO_12.out).1; omega) | simpa using h_)
                obtain rfl := k40_openM hM31
                have HP31 := (Kd.R_seg HO_12.out ((rd l2 x13_2) : Int) (of_decide_eq_true (by first | (with_reducible assumption) | assumption)) (by have h_ : ((rd l2 x13_2) : Int) < ((x12_2.length : Int) : Int) := of_decide_eq_true (by first | (with_reducible assumption) | assumption); first | exact h_ | (have e_ := (Kd.R_reads' HO_12.out).1; omega) | simpa using h_) (seg := [.int .i64 ((rd_T40 l3 x13_2).f0), .int .i64 ((rd_T40 l3 x13_2).f1), .string ((rd_T40 l3 x13_2).f2)]) (j := 0) hcl31 hcc31 (show 3 ≤ 3 from by decide) (x' := (⟨(rd_T40 l3 x13_2).f0, (rd_T40 l3 x13_2).f1, (rd_T40 l3 x13_2).f2⟩ : S40)) (k40_mkM _ _ _ (⟨(rd_T40 l3 x13_2).f0, (rd_T40 l3 x13_2).f1, (rd_T40 l3 x13_2).f2⟩ : S40) ) (fun _ hk => hk)).1
                rw [← Ny790.out] at HP31
                have HQ31 := Aside0.mk HP31
                clear hcl31 hcc31 hfr31 hM31 HP31
                refine start_ (n := 11) (S := fun w' => w'.cell? (ad788.add (x13_2).toNat) = some (.int .i64 (rd l2 x13_2)) ∧ w'.cell? (ad789.add ((x13_2).toNat * 3)) = some (.int .i64 ((rd_T40 l3 x13_2).f0)) ∧ w'.cell? ⟨(ad789.add ((x13_2).toNat * 3)).block, (ad789.add ((x13_2).toNat * 3)).off + 1, none⟩ = some (.int .i64 ((rd_T40 l3 x13_2).f1)) ∧ w'.cell? ⟨(ad789.add ((x13_2).toNat * 3)).block, (ad789.add ((x13_2).toNat * 3)).off + 2, none⟩ = some (.string ((rd_T40 l3 x13_2).f2))) (ds := [10]) #[false, false, false, false, false, false, false, false, false, false, false] (by kernel_rfl) rfl rfl ⟨((HB.out.cell (World.block_lt_of_cell? w _ hw788_0)).trans hw788_0), ((HB.out.cell (World.block_lt_of_cell? w _ hw789_0)).trans hw789_0), ((HB.out.cell (World.block_lt_of_cell? w _ hw789_1)).trans hw789_1), ((HB.out.cell (World.block_lt_of_cell? w _ hw789_2)).trans hw789_2)⟩ (fun hHeld => ?_); refine with_tabW alumref21_Update.tab13 alumref21_Update.bits13 (fun HT_ HW_ => ?_)
                generalize wr.drew = w30 at HO_12 BK774 HB GG29 HQ31 hf29_0 hf29_1 hf29_2 hx29_0 hx29_1 hx29_2 hx788_0 hx789_0 hx789_1 hx789_2 hHeld ⊢
                refine pure_ (i := 0) (N := some 53) (v := ?_) (a' := ?_) #[true, false, false, false, false, false, false, false, false, false, false] rfl rfl (any_of HT_.out (by kernel_rfl)) (fun _ _ _ h => h) (Or.inl ⟨by rfl, ?_⟩) ?_ ?_
                rotate_left
                ·intro w'
                 go_simp
                 with_reducible rfl
                rotate_left
                ·simp only [Act.put, List.setIfInBounds_toArray, List.set_cons_zero, List.set_cons_succ, i64_w, i32_w]
                 rfl
                refine pure_ (i := 1) (N := some 54) (v := ?_) (a' := ?_) #[true, true, false, false, false, false, false, false, false, false, false] rfl rfl (any_of HT_.out (by kernel_rfl)) (fun _ _ _ h => h) (Or.inl ⟨by rfl, ?_⟩) ?_ ?_
                rotate_left
                ·intro w'
                 go_simp
                 with_reducible rfl
                rotate_left
                ·simp only [Act.put, List.setIfInBounds_toArray, List.set_cons_zero, List.set_cons_succ, i64_w, i32_w]
                 rfl
                refine pure_ (i := 2) (N := some 55) (v := ?_) (a' := ?_) #[true, true, true, false, false, false, false, false, false, false, false] rfl rfl (any_of HT_.out (by kernel_rfl)) (fun _ _ _ h => h) (Or.inl ⟨by rfl, ?_⟩) ?_ ?_
                rotate_left
                ·intro w'
                 go_simp
                 with_reducible rfl
                rotate_left
                ·simp only [Act.put, List.setIfInBounds_toArray, List.set_cons_zero, List.set_cons_succ, i64_w, i32_w]
                 rfl
                refine pure_ (i := 3) (N := some 56) (v := ?_) (a' := ?_) #[true, true, true, true, false, false, false, false, false, false, false] rfl rfl (any_of HT_.out (by kernel_rfl)) (fun _ _ _ h => h) (Or.inl ⟨by rfl, ?_⟩) ?_ ?_
                rotate_left
                ·intro w'
                 go_simp
                 with_reducible rfl
                rotate_left
                ·simp only [Act.put, List.setIfInBounds_toArray, List.set_cons_zero, List.set_cons_succ, i64_w, i32_w]
                 rfl
                refine pure_ (i := 5) (N := some 58) (v := ?_) (a' := ?_) #[true, true, true, true, false, true, false, false, false, false, false] rfl rfl (any_of HT_.out (by kernel_rfl)) (fun _ _ _ h => h) (Or.inl ⟨by rfl, ?_⟩) ?_ ?_
                rotate_left
                ·intro w'
                 go_simp
                 with_reducible rfl
                rotate_left
                ·simp only [Act.put, List.setIfInBounds_toArray, List.set_cons_zero, List.set_cons_succ, i64_w, i32_w]
                 rfl
                refine pure_ (i := 6) (N := some 59) (v := ?_) (a' := ?_) #[true, true, true, true, false, true, true, false, false, false, false] rfl rfl (any_of HT_.out (by kernel_rfl)) (fun _ _ _ h => h) (Or.inl ⟨by rfl, ?_⟩) ?_ ?_
                rotate_left
                ·intro w'
                 go_simp
                 with_reducible rfl
                rotate_left
                ·simp only [Act.put, List.setIfInBounds_toArray, List.set_cons_zero, List.set_cons_succ, i64_w, i32_w]
                 rfl
                refine pure_ (i := 7) (N := some 60) (v := ?_) (a' := ?_) #[true, true, true, true, false, true, true, true, false, false, false] rfl rfl (any_of HT_.out (by kernel_rfl)) (fun _ _ _ h => h) (Or.inl ⟨by rfl, ?_⟩) ?_ ?_
                rotate_left
                ·intro w'
                 go_simp
                 with_reducible rfl
                rotate_left
                ·simp only [Act.put, List.setIfInBounds_toArray, List.set_cons_zero, List.set_cons_succ, i64_w, i32_w]
                 rfl
                refine take_ (i := 4) (N := some 57) (v := ?_) (a' := ?_) #[true, true, true, true, true, true, true, true, false, false, false] rfl rfl (take_ofW HT_.out HW_.out (by kernel_rfl)) (fun _ _ _ h => h) (Or.inl ⟨by rfl, ?_⟩) hHeld ?_ ?_
                rotate_left
                ·rintro w' ⟨s0, s1, s2, s3⟩
                 go_simp
                 with_reducible rfl
                rotate_left
                ·simp only [Act.put, List.setIfInBounds_toArray, List.set_cons_zero, List.set_cons_succ, i64_w, i32_w]
                 rfl
                refine take_ (i := 8) (N := some 61) (v := ?_) (a' := ?_) #[true, true, true, true, true, true, true, true, true, false, false] rfl rfl (take_ofW HT_.out HW_.out (by kernel_rfl)) (fun _ _ _ h => h) (Or.inl ⟨by rfl, ?_⟩) hHeld ?_ ?_
                rotate_left
                ·rintro w' ⟨s0, s1, s2, s3⟩
                 go_simp
                 with_reducible rfl
                rotate_left
                ·simp only [Act.put, List.setIfInBounds_toArray, List.set_cons_zero, List.set_cons_succ, i64_w, i32_w]
                 rfl
                refine pure_ (i := 9) (N := some 62) (v := ?_) (a' := ?_) #[true, true, true, true, true, true, true, true, true, true, false] rfl rfl (any_of HT_.out (by kernel_rfl)) (fun _ _ _ h => h) (Or.inl ⟨by rfl, ?_⟩) ?_ ?_
                rotate_left
                ·intro w'
                 go_simp
                 with_reducible rfl
                rotate_left
                ·simp only [Act.put, List.setIfInBounds_toArray, List.set_cons_zero, List.set_cons_succ, i64_w, i32_w]
                 rfl
                refine last_ (i := 10) (N := none) #[true, true, true, true, true, true, true, true, true, true, true] rfl rfl (one_of HT_.out (by kernel_rfl)) (by decide) (fun K hK => ?_)
                refine skip_ (w1 := ?_) (by rfl) rfl ?_ ?_
                rotate_left
                ·go_simp
                 rfl
                refine hK.out _ _ ?_
                clear hK K
                refine done_ (done_of HT_.out (by kernel_rfl)) ?_
                try go_wp2
                go_roundg k3
                case measure => have := HJ5.out; have := HK2.out; have := HK3.out; omega
                case rel => exact ⟨(y790), (wrap64 (x13_2 + 1)), (by first | rfl | (simp; done) | (simp [*]; done)), H', ⟨by have := HJ5.out; have := HK2.out; have := HK3.out; omega⟩, ⟨by (with_reducible repeat (first | apply Kd.R_alloc | apply Kd.R_drewN | apply Kd.R_drew)); exact HQ31.out⟩, ⟨by (with_reducible repeat (first | refine blk_drewN ?_ _ | refine blk_drew ?_ | refine blk_alloc ?_ _)); refine blk_far ?_ (by have h_ := Kd.R_ne HO_12.out BK774.out (by decide); intro e_; exact h_ (by rw [e_]; rfl)) _; (with_reducible repeat (first | refine blk_drewN ?_ _ | refine blk_drew ?_ | refine blk_alloc ?_ _)); refine blk_far ?_ (by have h_ := Kd.R_ne HO_12.out BK774.out (by decide); intro e_; exact h_ (by rw [e_]; rfl)) _; (with_reducible repeat (first | refine blk_drewN ?_ _ | refine blk_drew ?_ | refine blk_alloc ?_ _)); refine blk_far ?_ (by have h_ := Kd.R_ne HO_12.out BK774.out (by decide); intro e_; exact h_ (by rw [e_]; rfl)) _; (with_reducible repeat (first | refine blk_drewN ?_ _ | refine blk_drew ?_ | refine blk_alloc ?_ _)); exact BK774.out⟩, ⟨by repeat (first | (with_reducible first | exact HB.out | apply below_alloc | apply pw_below_drewN | apply below_drew1 | refine below_set ?_ GB29.out | refine below_set ?_ GB29.out | refine below_set ?_ GB29.out | refine below_set ?_ GE774.out) | exact HB.out)⟩⟩
               ·rw [if_neg c28] at H
                exact absurd H (by simp)
              ·rw [if_neg c27] at H
               exact absurd H (by simp)
             ·rw [if_neg c26] at H
              exact absurd H (by simp)
            ·rw [if_neg c25] at H
             exact absurd H (by simp)
           ·rw [if_neg c24] at H
            exact absurd H (by simp)
       ·rw [if_neg c15] at H
        have c15b0 : decide (x13_2 < (l2.length : Int)) = false := decide_eq_false c15
        clear c15
        replace H := Option.bind_eq_some_iff.mp H
        obtain ⟨t785, A320, H⟩ := H
        replace H : (if t785 = 0 then (some (x12_2, 0)) else (some (([] : List (S40)), t785))) = some (r1, r2) := H
        have A32 := Aside0.mk A320
        clear A320
        by_cases c33 : t785 = 0
        ·rw [if_pos c33] at H
         have c33b0 : (t785 == 0) = true := beq_iff_eq.mpr c33
         have c33b1 : (t785 != 0) = false := bne_eq_false_iff_eq.mpr c33
         clear c33
         simp only [Option.some.injEq, Prod.mk.injEq] at H
         obtain ⟨rfl, rfl⟩ := H
         have hcz34_0 : wr.cell? ⟨gb774, 0, none⟩ = some (.string a0_0) := (blk_cell BK774.out 0).trans rfl
         have hcz34_1 : wr.cell? ⟨gb774, 1, none⟩ = some (.slice A0_1 l0_1.length c0_1) := (blk_cell BK774.out 1).trans rfl
         have hcz34_2 : wr.cell? ⟨gb774, 2, none⟩ = some (.slice A0_2 l0_2.length c0_2) := (blk_cell BK774.out 2).trans rfl
         have hcz34_3 : wr.cell? ⟨gb774, 3, none⟩ = some (.slice A0_3 l0_3.length c0_3) := (blk_cell BK774.out 3).trans rfl
         have hfz34_0 := blk_frozen BK774.out 0
         have hfz34_1 := blk_frozen BK774.out 1
         have hfz34_2 := blk_frozen BK774.out 2
         have hfz34_3 := blk_frozen BK774.out 3
         obtain ⟨Ao35, co35, eo35⟩ := Kd.R_slice HO_12.out
         subst eo35
         go_wp2_with (first | ((with_reducible refine gate_callee (f := 45) rfl ?_); refine goesL_ (some 65) rfl rfl Try.func45 (by kernel_rfl) rfl #[.agg #[.string a0_0, .slice A0_1 l0_1.length c0_1, .slice A0_2 l0_2.length c0_2, .slice A0_3 l0_3.length c0_3], .slice Ao35 x12_2.length co35] rfl (by (try simp only [List.map_toArray, List.map_cons, List.map_nil]); first | done | rfl | (simp only [List.length_drop, List.length_take]; rfl)) ?_; (with_reducible refine (alumref20_Fits.calls a0_0 _ _ l0_1 _ _ l0_2 _ _ l0_3 _ _ x12_2 t785 _ ?side1 ?side2 ?side3 ?side4 ?side5 ?side6 ?side7 ?side8 A32.out).mono ?_); (case side1 => repeat (first | exact (Kd.C_below HR0_1.out HB.out) | (with_reducible refine Kd.C_alloc ?_ _) | (with_reducible refine Kd.C_drewN ?_ _) | (with_reducible refine Kd.C_drew ?_))); (case side2 => exact HC0_1.out); (case side3 => repeat (first | exact (Kd.C_below HR0_2.out HB.out) | (with_reducible refine Kd.C_alloc ?_ _) | (with_reducible refine Kd.C_drewN ?_ _) | (with_reducible refine Kd.C_drew ?_))); (case side4 => exact HC0_2.out); (case side5 => repeat (first | exact (Kd.C_below HR0_3.out HB.out) | (with_reducible refine Kd.C_alloc ?_ _) | (with_reducible refine Kd.C_drewN ?_ _) | (with_reducible refine Kd.C_drew ?_))); (case side6 => exact HC0_3.out); (case side7 => repeat (first | exact (Kd.R_reads' HO_12.out).2.2 | (with_reducible refine Kd.C_alloc ?_ _) | (with_reducible refine Kd.C_drewN ?_ _) | (with_reducible refine Kd.C_drew ?_))); (case side8 => exact (Kd.R_reads' HO_12.out).2.1); rintro e w36 ⟨rfl, hb⟩; refine ⟨_, rfl, ?_⟩; have n0_ := Aside0.mk (Kd.R_below (by (with_reducible repeat (first | apply Kd.R_alloc | apply Kd.R_drewN | apply Kd.R_drew)); exact HO_12.out) hb); have n1_ := Aside0.mk (blk_below (g := gb774) (o := .cells #[.string a0_0, .slice A0_1 l0_1.length c0_1, .slice A0_2 l0_2.length c0_2, .slice A0_3 l0_3.length c0_3] 28 (0, 0)) (by (with_reducible repeat (first | refine blk_drewN ?_ _ | refine blk_drew ?_ | refine blk_alloc ?_ _)); exact BK774.out) hb); have n2_ := Aside0.mk (below_step (by repeat (first | (with_reducible first | exact HB.out | apply below_alloc | apply pw_below_drewN | apply below_drew1 | refine below_set ?_ GE774.out) | exact HB.out)) hb); clear HO_12; clear BK774; clear HB; have HO_12 := n0_; have BK774 := n1_; have HB := n2_; clear n0_ n1_ n2_; (try clear hb); (try clear hb2); (try clear hk); (try clear hi)))
         go_ret2
         exact ⟨_, by first | rfl | (simp [errW_none, errW_some] <;> rfl) | (simp [*, errW_none, errW_some] <;> rfl), by (with_reducible repeat (first | apply Kd.R_alloc | apply Kd.R_drewN | apply Kd.R_drew)); exact HO_12.out, by repeat (first | (with_reducible first | exact HB.out | apply below_alloc | apply pw_below_drewN | apply below_drew1 | refine below_set ?_ GE774.out) | exact HB.out)⟩
        ·rw [if_neg c33] at H
         have c33b0 : (t785 == 0) = false := beq_eq_false_iff_ne.mpr c33
         have c33b1 : (t785 != 0) = true := bne_iff_ne.mpr c33
         simp only [Option.some.injEq, Prod.mk.injEq] at H
         obtain ⟨rfl, rfl⟩ := H
         have hcz37_0 : wr.cell? ⟨gb774, 0, none⟩ = some (.string a0_0) := (blk_cell BK774.out 0).trans rfl
         have hcz37_1 : wr.cell? ⟨gb774, 1, none⟩ = some (.slice A0_1 l0_1.length c0_1) := (blk_cell BK774.out 1).trans rfl
         have hcz37_2 : wr.cell? ⟨gb774, 2, none⟩ = some (.slice A0_2 l0_2.length c0_2) := (blk_cell BK774.out 2).trans rfl
         have hcz37_3 : wr.cell? ⟨gb774, 3, none⟩ = some (.slice A0_3 l0_3.length c0_3) := (blk_cell BK774.out 3).trans rfl
         have hfz37_0 := blk_frozen BK774.out 0
         have hfz37_1 := blk_frozen BK774.out 1
         have hfz37_2 := blk_frozen BK774.out 2
         have hfz37_3 := blk_frozen BK774.out 3
         obtain ⟨Ao38, co38, eo38⟩ := Kd.R_slice HO_12.out
         subst eo38
         go_wp2_with (first | ((with_reducible refine gate_callee (f := 45) rfl ?_); refine goesL_ (some 65) rfl rfl Try.func45 (by kernel_rfl) rfl #[.agg #[.string a0_0, .slice A0_1 l0_1.length c0_1, .slice A0_2 l0_2.length c0_2, .slice A0_3 l0_3.length c0_3], .slice Ao38 x12_2.length co38] rfl (by (try simp only [List.map_toArray, List.map_cons, List.map_nil]); first | done | rfl | (simp only [List.length_drop, List.length_take]; rfl)) ?_; (with_reducible refine (alumref20_Fits.calls a0_0 _ _ l0_1 _ _ l0_2 _ _ l0_3 _ _ x12_2 t785 _ ?side1 ?side2 ?side3 ?side4 ?side5 ?side6 ?side7 ?side8 A32.out).mono ?_); (case side1 => repeat (first | exact (Kd.C_below HR0_1.out HB.out) | (with_reducible refine Kd.C_alloc ?_ _) | (with_reducible refine Kd.C_drewN ?_ _) | (with_reducible refine Kd.C_drew ?_))); (case side2 => exact HC0_1.out); (case side3 => repeat (first | exact (Kd.C_below HR0_2.out HB.out) | (with_reducible refine Kd.C_alloc ?_ _) | (with_reducible refine Kd.C_drewN ?_ _) | (with_reducible refine Kd.C_drew ?_))); (case side4 => exact HC0_2.out); (case side5 => repeat (first | exact (Kd.C_below HR0_3.out HB.out) | (with_reducible refine Kd.C_alloc ?_ _) | (with_reducible refine Kd.C_drewN ?_ _) | (with_reducible refine Kd.C_drew ?_))); (case side6 => exact HC0_3.out); (case side7 => repeat (first | exact (Kd.R_reads' HO_12.out).2.2 | (with_reducible refine Kd.C_alloc ?_ _) | (with_reducible refine Kd.C_drewN ?_ _) | (with_reducible refine Kd.C_drew ?_))); (case side8 => exact (Kd.R_reads' HO_12.out).2.1); rintro e w39 ⟨rfl, hb⟩; refine ⟨_, rfl, ?_⟩; have n0_ := Aside0.mk (Kd.R_below (by (with_reducible repeat (first | apply Kd.R_alloc | apply Kd.R_drewN | apply Kd.R_drew)); exact HO_12.out) hb); have n1_ := Aside0.mk (blk_below (g := gb774) (o := .cells #[.string a0_0, .slice A0_1 l0_1.length c0_1, .slice A0_2 l0_2.length c0_2, .slice A0_3 l0_3.length c0_3] 28 (0, 0)) (by (with_reducible repeat (first | refine blk_drewN ?_ _ | refine blk_drew ?_ | refine blk_alloc ?_ _)); exact BK774.out) hb); have n2_ := Aside0.mk (below_step (by repeat (first | (with_reducible first | exact HB.out | apply below_alloc | apply pw_below_drewN | apply below_drew1 | refine below_set ?_ GE774.out) | exact HB.out)) hb); clear HO_12; clear BK774; clear HB; have HO_12 := n0_; have BK774 := n1_; have HB := n2_; clear n0_ n1_ n2_; (try clear hb); (try clear hb2); (try clear hk); (try clear hi)))
         go_ret2
         exact ⟨_, by first | rfl | (simp [errW_none, errW_some] <;> rfl) | (simp [*, errW_none, errW_some] <;> rfl), by first | exact Kd.R_nil _ _ _ _ _ | exact Kd.N_nil _ _ _ _ _ | exact Kd.V_nil _ _ _ _ _ | exact Kd.Q_nil _ _ _ _ _ | exact Kd.S_nil _ _ _ _ _, by repeat (first | (with_reducible first | exact HB.out | apply below_alloc | apply pw_below_drewN | apply below_drew1 | refine below_set ?_ GE774.out) | exact HB.out)⟩
    ·rw [if_neg c11] at H
     exact absurd H (by simp)

end Go.Proofs.Ytkopbaikmlajmaa.Q
