import Derived.Test.YtkopbaikmlajmaaZ
import Derived.Test.YtkopbaikmlajmaaK
import Derived.Test.YtkopbaikmlajmaaFA
import Derived.Test.YtkopbaikmlajmaaPB
namespace Go.Proofs.Ytkopbaikmlajmaa.Q
open Go.RowKit Go.Proofs.YtkopbaikmlajmaaW.PrintWords Go.Proofs.YtkopbaikmlajmaaW.PrintLast Go.Proofs.YtkopbaikmlajmaaW.PrintMore
attribute [local go_sem] max2_int min2_int max_two min_two max_three min_three max_four min_four
set_option linter.unusedVariables false
set_option linter.unusedSimpArgs false

theorem Z116 {P : Prop} (h : P := by have := HJ2.out; first | omega | exact Nat.le_refl _) : P := h
theorem Z113 {P : Prop} (h : P := by have := HJ2.out; have := HJ9.out; have := HK3.out; have := HJ19.out; have := HJ24.out; omega) : P := h
theorem Z111 {P : Prop} (h : P := by simp only [putAll, Act.put, List.setIfInBounds_toArray, List.set_cons_zero, List.set_cons_succ]) : P := h
theorem Z101 {P : Prop} (h : P := by (with_reducible repeat (first | apply Kd.R_alloc | apply Kd.R_drewN | apply Kd.R_drew)); exact HO_9.out) : P := h
theorem Z107 {P : Prop} (h : P := by (with_reducible repeat (first | apply Kd.R_alloc | apply Kd.R_drewN | apply Kd.R_drew)); exact HO_9.out) : P := h
theorem Z106 {P : Prop} (h : P := by have := HJ2.out; have := HJ9.out; have := HK3.out; have := HJ19.out; first | omega | exact Nat.le_refl _) : P := h
theorem Z79 {P : Prop} (h : P := by (with_reducible repeat (first | refine blk_drewN ?_ _ | refine blk_drew ?_ | refine blk_alloc ?_ _)); exact BK723.out) : P := h
theorem Z80 {P : Prop} (h : P := by (with_reducible repeat (first | refine blk_drewN ?_ _ | refine blk_drew ?_ | refine blk_alloc ?_ _)); exact BK708.out) : P := h
theorem Z90 {P : Prop} (h : P := by (with_reducible repeat (first | refine blk_drewN ?_ _ | refine blk_drew ?_ | refine blk_alloc ?_ _)); exact BK708.out) : P := h
theorem Z68 {P : Prop} (h : P := by (with_reducible repeat (first | apply Kd.R_alloc | apply Kd.R_drewN | apply Kd.R_drew)); exact Kd.R_mono HO_9.out (fun _ hk => hk.2)) : P := h
theorem Z48 {P : Prop} (h : P := by repeat (first | (with_reducible first | exact HB.out | apply below_alloc | apply pw_below_drewN | apply below_drew1 | refine below_set ?_ GE708.out) | exact HB.out)) : P := h
theorem Z57 {P : Prop} (h : P := by repeat (first | (with_reducible first | exact HB.out | apply below_alloc | apply pw_below_drewN | apply below_drew1 | refine below_set ?_ GE708.out) | exact HB.out)) : P := h
theorem Z32 {P : Prop} (h : P := by rw [hg]; exact (below_size Z67)) : P := h
theorem Z22 {P : Prop} (h : P := by repeat (first | (with_reducible first | exact HB.out | apply below_alloc | apply pw_below_drewN | apply below_drew1 | refine below_set ?_ GE708.out | refine below_set ?_ GE723.out) | exact HB.out)) : P := h
theorem Z26 {P : Prop} (h : P := by repeat (first | (with_reducible first | exact HB.out | apply below_alloc | apply pw_below_drewN | apply below_drew1 | refine below_set ?_ GE708.out | refine below_set ?_ GE723.out) | exact HB.out)) : P := h
theorem Z18 {P : Prop} (h : P := by rw [hg]; exact (below_size Z48)) : P := h
theorem Z15 {P : Prop} (h : P := by (try simp only [List.map_toArray, List.map_cons, List.map_nil]); first | done | (rw [show (l1.drop (x10_3 : Int).toNat).length = (l1.length - x10_3.toNat) from List.length_drop] <;> rfl) | rfl | (simp only [List.length_drop, List.length_take]; rfl)) : P := h
theorem Z11 {P : Prop} (h : P := by rw [hg]; exact Nat.ne_of_lt (blk_lt (g := gb708) (o := .cells #[.string a0_0, .slice (some ad717) l0_1.length c0_1, .slice A0_2 l0_2.length c0_2, .slice A0_3 l0_3.length c0_3] 28 (0, 0)) Z80)) : P := h
theorem Z12 {P : Prop} (h : P := by rw [hg]; exact Nat.ne_of_gt (blk_lt (g := gb708) (o := .cells #[.string a0_0, .slice (some ad717) l0_1.length c0_1, .slice A0_2 l0_2.length c0_2, .slice A0_3 l0_3.length c0_3] 28 (0, 0)) Z80)) : P := h
theorem Z6 {P : Prop} (h : P := by first | exact Nat.ne_of_lt (Nat.lt_of_lt_of_le (by have := World.block_lt_of_cell? _ _ hw717_0; first | rwa [add_block] at this | exact this) GW723.out) | (rw [add_block]; exact Nat.ne_of_lt (Nat.lt_of_lt_of_le (by have := World.block_lt_of_cell? _ _ hw717_0; first | rwa [add_block] at this | exact this) GW723.out)) | (show (Addr.add _ _).block ≠ _; rw [add_block]; exact Nat.ne_of_lt (Nat.lt_of_lt_of_le (by have := World.block_lt_of_cell? _ _ hw717_0; first | rwa [add_block] at this | exact this) GW723.out)) | (dsimp only; exact Nat.ne_of_lt (Nat.lt_of_lt_of_le (by have := World.block_lt_of_cell? _ _ hw717_0; first | rwa [add_block] at this | exact this) GW723.out))) : P := h
theorem Z7 {P : Prop} (h : P := by first | exact Nat.ne_of_lt (Nat.lt_of_lt_of_le (by have := World.block_lt_of_cell? _ _ hw717_2; first | rwa [add_block] at this | exact this) GW723.out) | (rw [add_block]; exact Nat.ne_of_lt (Nat.lt_of_lt_of_le (by have := World.block_lt_of_cell? _ _ hw717_2; first | rwa [add_block] at this | exact this) GW723.out)) | (show (Addr.add _ _).block ≠ _; rw [add_block]; exact Nat.ne_of_lt (Nat.lt_of_lt_of_le (by have := World.block_lt_of_cell? _ _ hw717_2; first | rwa [add_block] at this | exact this) GW723.out)) | (dsimp only; exact Nat.ne_of_lt (Nat.lt_of_lt_of_le (by have := World.block_lt_of_cell? _ _ hw717_2; first | rwa [add_block] at this | exact this) GW723.out))) : P := h
theorem Z8 {P : Prop} (h : P := by first | exact Nat.ne_of_lt (Nat.lt_of_lt_of_le (by have := World.block_lt_of_cell? _ _ hw717_1; first | rwa [add_block] at this | exact this) GW723.out) | (rw [add_block]; exact Nat.ne_of_lt (Nat.lt_of_lt_of_le (by have := World.block_lt_of_cell? _ _ hw717_1; first | rwa [add_block] at this | exact this) GW723.out)) | (show (Addr.add _ _).block ≠ _; rw [add_block]; exact Nat.ne_of_lt (Nat.lt_of_lt_of_le (by have := World.block_lt_of_cell? _ _ hw717_1; first | rwa [add_block] at this | exact this) GW723.out)) | (dsimp only; exact Nat.ne_of_lt (Nat.lt_of_lt_of_le (by have := World.block_lt_of_cell? _ _ hw717_1; first | rwa [add_block] at this | exact this) GW723.out))) : P := h
theorem Z4 {P : Prop} (h : P := by (with_reducible repeat (first | refine blk_drewN ?_ _ | refine blk_drew ?_ | refine blk_alloc ?_ _)); refine blk_put (cs := #[.int .i64 t719, .int .i64 t720, .string (⟨#[]⟩ : ByteArray)]) ?_ 2 _ rfl; (with_reducible repeat (first | refine blk_drewN ?_ _ | refine blk_drew ?_ | refine blk_alloc ?_ _)); refine blk_put (cs := #[.int .i64 t719, .int .i64 0, .string (⟨#[]⟩ : ByteArray)]) ?_ 1 _ rfl; (with_reducible repeat (first | refine blk_drewN ?_ _ | refine blk_drew ?_ | refine blk_alloc ?_ _)); refine blk_put (cs := #[.int .i64 0, .int .i64 0, .string (⟨#[]⟩ : ByteArray)]) ?_ 0 _ rfl; (with_reducible repeat (first | refine blk_drewN ?_ _ | refine blk_drew ?_ | refine blk_alloc ?_ _)); exact BK723.out) : P := h
mutual
def alumref21_Decode.j0 : Nat → List Int → Bool → ByteArray → List (S56) → List (S65) → List (S42) → Option ((List (S40)) × Int × Int)
 | 0, _, _, _, _, _, _ => none
 | k + 1, x1, x24, x709000, x709001, x709002, x709003 => if x24 = true then (some (([] : List (S40)), 0, 3)) else (if 0 < (x1.length : Int) then (if (wrap64 (Int.tdiv (rd x1 0) 256)) < 1 then (alumref21_Decode.j1 k x1 (wrap64 (Int.tdiv (rd x1 0) 256)) (Int.tmod (rd x1 0) 256) true x709000 x709001 x709002 x709003) else (if (wrap64 (Int.tdiv (rd x1 0) 256)) > (x709001.length : Int) then (alumref21_Decode.j1 k x1 (wrap64 (Int.tdiv (rd x1 0) 256)) (Int.tmod (rd x1 0) 256) true x709000 x709001 x709002 x709003) else (if 0 ≤ (wrap64 (Int.tdiv (rd x1 0) 256)) then (alumref21_Decode.j1 k x1 (wrap64 (Int.tdiv (rd x1 0) 256)) (Int.tmod (rd x1 0) 256) (decide ((Int.tmod (rd x1 0) 256) ≥ (shl .i64 1 (wrap64 (Int.tdiv (rd x1 0) 256))))) x709000 x709001 x709002 x709003) else (none)))) else (none))
def alumref21_Decode.j1 : Nat → List Int → Int → Int → Bool → ByteArray → List (S56) → List (S65) → List (S42) → Option ((List (S40)) × Int × Int)
 | 0, _, _, _, _, _, _, _, _ => none
 | k + 1, x1, x7, x8, x47, x709000, x709001, x709002, x709003 => if x47 = true then (some (([] : List (S40)), 0, 3)) else (alumref21_Decode.l0 k x1 x7 x8 ([] : List (S40)) 1 0 x709000 x709001 x709002 x709003)
def alumref21_Decode.l0 : Nat → List Int → Int → Int → List (S40) → Int → Int → ByteArray → List (S56) → List (S65) → List (S42) → Option ((List (S40)) × Int × Int)
 | 0, _, _, _, _, _, _, _, _, _, _ => none
 | k + 1, x1, x7, x8, x9, x10, x11, x709000, x709001, x709002, x709003 => if x11 < (x709001.length : Int) then (if x11 ≥ x7 then (alumref21_Decode.j3 k x1 x7 x8 x9 x10 x11 true x709000 x709001 x709002 x709003) else (if 0 ≤ x11 then (alumref21_Decode.j3 k x1 x7 x8 x9 x10 x11 ((Int.tmod (shr .i64 x8 x11) 2) == 1) x709000 x709001 x709002 x709003) else (none))) else (some (x9, x10, 0))
def alumref21_Decode.j3 : Nat → List Int → Int → Int → List (S40) → Int → Int → Bool → ByteArray → List (S56) → List (S65) → List (S42) → Option ((List (S40)) × Int × Int)
 | 0, _, _, _, _, _, _, _, _, _, _, _ => none
 | k + 1, x1, x7, x8, x9, x10, x11, x12, x709000, x709001, x709002, x709003 => if x12 = true then (if 0 ≤ x11 then (if x11 < (x709001.length : Int) then (alumref21_Decode.j4 k x1 x7 x8 x9 x10 x11 x12 (!((rd_T56 x709001 x11).f2)) x709000 x709001 x709002 x709003) else (none)) else (none)) else (alumref21_Decode.j4 k x1 x7 x8 x9 x10 x11 x12 false x709000 x709001 x709002 x709003)
def alumref21_Decode.j4 : Nat → List Int → Int → Int → List (S40) → Int → Int → Bool → Bool → ByteArray → List (S56) → List (S65) → List (S42) → Option ((List (S40)) × Int × Int)
 | 0, _, _, _, _, _, _, _, _, _, _, _, _ => none
 | k + 1, x1, x7, x8, x9, x10, x11, x12, x74, x709000, x709001, x709002, x709003 => if x74 = true then (some (([] : List (S40)), 0, 3)) else (if x12 = true then (if x9.length < 4398046511104 then (alumref21_Decode.l0 k x1 x7 x8 (x9 ++ [(⟨0, 0, (⟨#[]⟩ : ByteArray)⟩ : S40)]) x10 (wrap64 (x11 + 1)) x709000 x709001 x709002 x709003) else (none)) else (if 0 ≤ x11 then (if x11 < (x709001.length : Int) then (if 0 ≤ x10 then (if x10 ≤ (x1.length : Int) then ((alumref21_one.f k ((rd_T56 x709001 x11).f1) (x1.drop (x10 : Int).toNat)).bind fun bt719 => (if bt719.2.2.2 = 0 then (some (([] : List (S40)), 0, 3)) else (if x9.length < 4398046511104 then (alumref21_Decode.l0 k x1 x7 x8 (x9 ++ [(⟨bt719.1, bt719.2.1, bt719.2.2.1⟩ : S40)]) (wrap64 (x10 + bt719.2.2.2)) (wrap64 (x11 + 1)) x709000 x709001 x709002 x709003) else (none)))) else (none)) else (none)) else (none)) else (none)))
end
def alumref21_Decode.f (k : Nat) (a0_0 : ByteArray) (l0_1 : List (S56)) (l0_2 : List (S65)) (l0_3 : List (S42)) (l1 : List Int) : Option ((List (S40)) × Int × Int) := if (l1.length : Int) = 0 then (alumref21_Decode.j0 k l1 true a0_0 l0_1 l0_2 l0_3) else (if 0 < (l1.length : Int) then ((alumref21_word.f (rd l1 0)).bind fun t710 => (alumref21_Decode.j0 k l1 (!t710) a0_0 l0_1 l0_2 l0_3)) else (none))
def alumref21_Decode.T17 : Bool × List (List Nat × List Nat) := (true, [([], []), ([0], [0]), ([], []), ([1, 2], [1, 2]), ([3], [3]), ([4], [4]), ([], []), ([], []), ([6, 7], [6, 7]), ([5, 8], [5, 8]), ([9], [9]), ([10], [10]), ([10], [10]), ([], []), ([13, 11, 9, 0, 1, 2, 3, 4, 5, 6, 7, 8, 9, 10, 11, 13], [11, 13]), ([12, 14, 0, 1, 2, 3, 4, 5, 6, 7, 8, 9, 10, 11, 12, 13, 14], [12])])
def alumref21_Decode.B17 : List Nat := [0, 1, 0, 7, 15, 31, 0, 0, 192, 511, 1023, 2047, 2047, 0, 12287, 32767]
theorem alumref21_Decode.tab17 : rtab .any (opsOf Try.f58 17) = alumref21_Decode.T17 := by kernel_rfl
theorem alumref21_Decode.bits17 : waitsOk alumref21_Decode.T17.2 alumref21_Decode.B17 = true := by kernel_rfl
set_option maxHeartbeats 8000000 in
set_option maxRecDepth 100000 in
theorem alumref21_Decode.calls (k : Nat) (a0_0 : ByteArray) (A0_1 : Option Addr) (c0_1 : Nat) (l0_1 : List (S56)) (A0_2 : Option Addr) (c0_2 : Nat) (l0_2 : List (S65)) (A0_3 : Option Addr) (c0_3 : Nat) (l0_3 : List (S42)) (A1 : Option Addr) (c1 : Nat) (l1 : List Int) (r1 : List (S40)) (r2 : Int) (r3 : Int) (w : World) (hr0_1 : Kd.C k56 w A0_1 l0_1.length l0_1) (hc0_1 : l0_1.length ≤ c0_1) (hr0_2 : Kd.C k65 w A0_2 l0_2.length l0_2) (hc0_2 : l0_2.length ≤ c0_2) (hr0_3 : Kd.C k42 w A0_3 l0_3.length l0_3) (hc0_3 : l0_3.length ≤ c0_3) (hr1 : Kd.C (Kd.int .i64) w A1 l1.length l1) (hc1 : l1.length ≤ c1) (h : alumref21_Decode.f k a0_0 l0_1 l0_2 l0_3 l1 = some (r1, r2, r3)) :
  Calls Try.prog 58 #[.agg #[.string a0_0, .slice A0_1 l0_1.length c0_1, .slice A0_2 l0_2.length c0_2, .slice A0_3 l0_3.length c0_3], .slice A1 l1.length c1] w fun e w' => ∃ v0_ : Value, e = .returned (.tuple #[v0_, .int .i64 r2, .int .i64 r3]) ∧ Kd.R k40 40 w' w.heap.size (fun _ => True) v0_ r1 ∧ Below w.heap.size w w' := by
 have hu28 := Try.underlying28
 have hu40 := Try.underlying40
 have HR0_1 := Aside0.mk hr0_1
 have HC0_1 := Aside0.mk hc0_1
 clear hr0_1 hc0_1
 have HR0_2 := Aside0.mk hr0_2
 have HC0_2 := Aside0.mk hc0_2
 clear hr0_2 hc0_2
 have HR0_3 := Aside0.mk hr0_3
 have HC0_3 := Aside0.mk hc0_3
 clear hr0_3 hc0_3
 have HR1 := Aside0.mk hr1
 have HC1 := Aside0.mk hc1
 clear hr1 hc1
 have HB := Aside0.mk (Below.refl w.heap.size w)
 have H : (if (l1.length : Int) = 0 then (alumref21_Decode.j0 k l1 true a0_0 l0_1 l0_2 l0_3) else (if 0 < (l1.length : Int) then ((alumref21_word.f (rd l1 0)).bind fun t710 => (alumref21_Decode.j0 k l1 (!t710) a0_0 l0_1 l0_2 l0_3)) else (none))) = some (r1, r2, r3) := h
 clear h
 have HC3 := Aside0.mk H
 clear H
 go_enter Try.func58, Try.ntmps58
 go_upto_region 1 with (first | ((with_reducible refine gate_dst (N := 2) rfl ?_); (try (refine gate_guard (by rfl) ?_; dsimp only)); refine box_event ?hg (N := 2) ?hd (cs := #[.string a0_0, .slice A0_1 l0_1.length c0_1, .slice A0_2 l0_2.length c0_2, .slice A0_3 l0_3.length c0_3]) (t := 28) ?hr ?_; (case hd => rfl); (case hg => rfl); (case hr => first | (go_simp; done) | (go_simp; rfl)); intro gb708 hg w4 hbox hb; have n0_ := Aside0.mk (below_step Z67 hb); have n1_ := Aside0.mk (hbox); have n2_ := Aside0.mk ((Z32 : w.heap.size ≤ gb708)); have n3_ := Aside0.mk ((Z32 : w.heap.size ≤ gb708)); clear HB; have HB := n0_; have BK708 := n1_; have GW708 := n2_; have GE708 := n3_; clear n0_ n1_ n2_ n3_; clear hb hbox hg))
 (try simp only [Act.put, List.setIfInBounds_toArray, List.set_cons_zero, List.set_cons_succ])
 go_cut [24] (fun v24 wc => ∃ (kq : Nat) (x24_2 : Bool), v24 = .bool x24_2 ∧ Aside0 (alumref21_Decode.j0 kq l1 x24_2 a0_0 l0_1 l0_2 l0_3 = some (r1, r2, r3)) ∧ Aside0 (kq ≤ k) ∧ Aside0 (wc.heap[gb708]? = some (.cells #[.string a0_0, (.slice A0_1 l0_1.length c0_1), (.slice A0_2 l0_2.length c0_2), (.slice A0_3 l0_3.length c0_3)] 28 (0, 0))) ∧ Aside0 (Below w.heap.size w wc))
 case first =>
  have H := HC3.out
  clear HC3
  by_cases c5 : (l1.length : Int) = 0
  ·rw [if_pos c5] at H
   have c5b0 : ((l1.length : Int) == 0) = true := beq_iff_eq.mpr c5
   have c5b1 : ((l1.length : Int) != 0) = false := bne_eq_false_iff_eq.mpr c5
   clear c5
   (first | rw [c5b0] | (simp only [i64_w, i32_w]; rw [c5b0]) | skip)
   have H' := Aside0.mk H
   clear H
   go_wp2
   go_meet
   case rel => exact ⟨_, (true), Z122, H', ⟨Z128⟩, ⟨Z90⟩, ⟨Z57⟩⟩
  rw [if_neg c5] at H
  have c5b0 : ((l1.length : Int) == 0) = false := beq_eq_false_iff_ne.mpr c5
  have c5b1 : ((l1.length : Int) != 0) = true := bne_iff_ne.mpr c5
  have c5b2 : ¬ (l1 = []) := fun h_ => c5 (by rw [h_]; rfl)
  (first | rw [c5b0] | (simp only [i64_w, i32_w]; rw [c5b0]) | skip)
  by_cases c6 : 0 < (l1.length : Int)
  rotate_left
  ·rw [if_neg c6] at H
   exact absurd H (by simp)
  rw [if_pos c6] at H
  have c6b0 : decide (0 < (l1.length : Int)) = true := decide_eq_true c6
  have c6b1 : decide (0 < l1.length) = true := decide_eq_true (by omega)
  clear c6
  replace H := Option.bind_eq_some_iff.mp H
  obtain ⟨t710, A70, H⟩ := H
  replace H : (alumref21_Decode.j0 k l1 (!t710) a0_0 l0_1 l0_2 l0_3) = some (r1, r2, r3) := H
  have A7 := Aside0.mk A70
  clear A70
  have H' := Aside0.mk H
  clear H
  have p709 : 0 ≤ (0 : Int) := (by omega)
  have q709 : 0 < (l1.length : Int) := of_decide_eq_true Z121
  obtain ⟨ad709, e709, hx709_0⟩ := Kd.at_int HR1.out 0 p709 q709
  cases e709
  have qi709 : (0 < l1.length) = True := eq_true (by omega)
  (try rw [show ((0 : Int)).toNat = 0 from rfl] at hx709_0)
  (try rw [Addr.add_zero'] at hx709_0)
  replace hx709_0 := (HB.out.cell (World.block_lt_of_cell? w _ hx709_0)).trans hx709_0
  replace p709 := eq_true p709
  replace q709 := eq_true q709
  go_wp2_with (first | (go_at_call 115; (with_reducible refine (alumref21_word.calls (rd l1 0) t710 _ A7.out).mono ?_); rintro e w' ⟨rfl, ⟨nd, rfl⟩⟩))
  go_meet
  case rel => exact ⟨_, (!t710), Z122, H', ⟨Z128⟩, ⟨Z90⟩, ⟨Z57⟩⟩
 case rest =>
  clear HC3
  try clear c1
  try clear p2
  try clear c5
  try clear c5b0
  try clear c5b1
  try clear c5b2
  try clear c6
  try clear c6b0
  try clear c6b1
  try clear p7
  try clear q7
  try clear hx7
  try clear qi7
  try clear hx709_0
  try clear p709
  try clear q709
  obtain ⟨kq, x24_2, rfl, HA, HJ2, BK708, HB⟩ := hcut
  cases kq with
  | zero => exact absurd HA.out (by simp [alumref21_Decode.j0])
  | succ kj2 =>
   have H := HA.out
   clear HA
   simp only [alumref21_Decode.j0] at H
   by_cases c8 : x24_2 = true
   ·subst c8
    have H1 : (some (([] : List (S40)), 0, 3)) = some (r1, r2, r3) := by rw [if_pos rfl] at H; exact H
    clear H
    have H := H1
    clear H1
    simp only [Option.some.injEq, Prod.mk.injEq] at H
    obtain ⟨rfl, rfl, rfl⟩ := H
    go_wp2
    go_ret3
    exact ⟨_, Z112, Z66, Z57⟩
   replace c8 := Bool.eq_false_iff.mpr c8
   subst c8
   have H1 : (if 0 < (l1.length : Int) then (if (wrap64 (Int.tdiv (rd l1 0) 256)) < 1 then (alumref21_Decode.j1 kj2 l1 (wrap64 (Int.tdiv (rd l1 0) 256)) (Int.tmod (rd l1 0) 256) true a0_0 l0_1 l0_2 l0_3) else (if (wrap64 (Int.tdiv (rd l1 0) 256)) > (l0_1.length : Int) then (alumref21_Decode.j1 kj2 l1 (wrap64 (Int.tdiv (rd l1 0) 256)) (Int.tmod (rd l1 0) 256) true a0_0 l0_1 l0_2 l0_3) else (if 0 ≤ (wrap64 (Int.tdiv (rd l1 0) 256)) then (alumref21_Decode.j1 kj2 l1 (wrap64 (Int.tdiv (rd l1 0) 256)) (Int.tmod (rd l1 0) 256) (decide ((Int.tmod (rd l1 0) 256) ≥ (shl .i64 1 (wrap64 (Int.tdiv (rd l1 0) 256))))) a0_0 l0_1 l0_2 l0_3) else (none)))) else (none)) = some (r1, r2, r3) := by rw [if_neg (show ¬ (false = true) by decide)] at H; exact H
   clear H
   have H := H1
   clear H1
   by_cases c9 : 0 < (l1.length : Int)
   ·rw [if_pos c9] at H
    have c9b0 : decide (0 < (l1.length : Int)) = true := decide_eq_true c9
    have c9b1 : decide (0 < l1.length) = true := decide_eq_true (by omega)
    clear c9
    have HC10 := Aside0.mk H
    clear H
    have p711 : 0 ≤ (0 : Int) := (by omega)
    have q711 : 0 < (l1.length : Int) := of_decide_eq_true Z121
    obtain ⟨ad711, e711, hx711_0⟩ := Kd.at_int HR1.out 0 p711 q711
    cases e711
    have qi711 : (0 < l1.length) = True := eq_true (by omega)
    (try rw [show ((0 : Int)).toNat = 0 from rfl] at hx711_0)
    (try rw [Addr.add_zero'] at hx711_0)
    replace hx711_0 := (HB.out.cell (World.block_lt_of_cell? w _ hx711_0)).trans hx711_0
    replace p711 := eq_true p711
    replace q711 := eq_true q711
    have p712 : 0 ≤ (0 : Int) := (by omega)
    have q712 : 0 < (l1.length : Int) := of_decide_eq_true Z121
    obtain ⟨ad712, e712, hx712_0⟩ := Kd.at_int HR1.out 0 p712 q712
    obtain rfl : ad711 = ad712 := (by injection e712)
    have qi712 : (0 < l1.length) = True := eq_true (by omega)
    (try rw [show ((0 : Int)).toNat = 0 from rfl] at hx712_0)
    (try rw [Addr.add_zero'] at hx712_0)
    replace hx712_0 := (HB.out.cell (World.block_lt_of_cell? w _ hx712_0)).trans hx712_0
    replace p712 := eq_true p712
    replace q712 := eq_true q712
    go_upto_region 5 with (fail)
    go_cut [47] (fun v47 wc => ∃ (kq : Nat) (x47_9 : Bool), v47 = .bool x47_9 ∧ Aside0 (alumref21_Decode.j1 kq l1 (wrap64 (Int.tdiv (rd l1 0) 256)) (Int.tmod (rd l1 0) 256) x47_9 a0_0 l0_1 l0_2 l0_3 = some (r1, r2, r3)) ∧ Aside0 (kq ≤ kj2) ∧ Aside0 (wc.heap[gb708]? = some (.cells #[.string a0_0, (.slice A0_1 l0_1.length c0_1), (.slice A0_2 l0_2.length c0_2), (.slice A0_3 l0_3.length c0_3)] 28 (0, 0))) ∧ Aside0 (Below w.heap.size w wc))
    case first =>
     have H := HC10.out
     clear HC10
     by_cases c11 : (wrap64 (Int.tdiv (rd l1 0) 256)) < 1
     ·rw [if_pos c11] at H
      have c11b0 : decide ((wrap64 (Int.tdiv (rd l1 0) 256)) < 1) = true := decide_eq_true c11
      clear c11
      (first | rw [c11b0] | (simp only [i64_w, i32_w]; rw [c11b0]) | skip)
      have H' := Aside0.mk H
      clear H
      go_wp2
      go_meet
      case rel => exact ⟨_, (true), Z122, H', ⟨Z116⟩, ⟨Z90⟩, ⟨Z57⟩⟩
     rw [if_neg c11] at H
     have c11b0 : decide ((wrap64 (Int.tdiv (rd l1 0) 256)) < 1) = false := decide_eq_false c11
     clear c11
     (first | rw [c11b0] | (simp only [i64_w, i32_w]; rw [c11b0]) | skip)
     by_cases c12 : (wrap64 (Int.tdiv (rd l1 0) 256)) > (l0_1.length : Int)
     ·rw [if_pos c12] at H
      have c12b0 : decide ((l0_1.length : Int) < (wrap64 (Int.tdiv (rd l1 0) 256))) = true := decide_eq_true c12
      clear c12
      have H' := Aside0.mk H
      clear H
      have hcz13_0 : wc.cell? ⟨gb708, 0, none⟩ = some (.string a0_0) := (blk_cell BK708.out 0).trans rfl
      have hcz13_1 : wc.cell? ⟨gb708, 1, none⟩ = some (.slice A0_1 l0_1.length c0_1) := (blk_cell BK708.out 1).trans rfl
      have hcz13_2 : wc.cell? ⟨gb708, 2, none⟩ = some (.slice A0_2 l0_2.length c0_2) := (blk_cell BK708.out 2).trans rfl
      have hcz13_3 : wc.cell? ⟨gb708, 3, none⟩ = some (.slice A0_3 l0_3.length c0_3) := (blk_cell BK708.out 3).trans rfl
      have hfz13_0 := blk_frozen BK708.out 0
      have hfz13_1 := blk_frozen BK708.out 1
      have hfz13_2 := blk_frozen BK708.out 2
      have hfz13_3 := blk_frozen BK708.out 3
      go_wp2
      go_meet
      case rel => exact ⟨_, (true), Z122, H', ⟨Z116⟩, ⟨Z90⟩, ⟨Z57⟩⟩
     rw [if_neg c12] at H
     have c12b0 : decide ((l0_1.length : Int) < (wrap64 (Int.tdiv (rd l1 0) 256))) = false := decide_eq_false c12
     clear c12
     obtain ⟨ji14, hji14⟩ : ∃ j_ : Int, (wrap64 (Int.tdiv (rd l1 0) 256)) = j_ := ⟨_, rfl⟩
     replace H : (if 0 ≤ (ji14) then (alumref21_Decode.j1 kj2 l1 ji14 (Int.tmod (rd l1 0) 256) (decide ((Int.tmod (rd l1 0) 256) ≥ (shl .i64 1 (ji14)))) a0_0 l0_1 l0_2 l0_3) else (none)) = some (r1, r2, r3) := by first | (rw [hji14] at H; exact H) | (simp only [hji14] at H ⊢; exact H)
     (try rw [hji14] at c11b0)
     (try rw [hji14] at c12b0)
     have hji14w : (IntKind.i64.wrap (Int.tdiv (rd l1 0) 256)) = ji14 := (i64_w _).trans hji14
     by_cases c15 : 0 ≤ (ji14)
     rotate_left
     ·rw [if_neg c15] at H
      exact absurd H (by simp)
     rw [if_pos c15] at H
     have c15b0 := eq_true c15
     have c15b1 : decide (0 ≤ (ji14)) = true := decide_eq_true c15
     clear c15
     obtain ⟨ji16, hji16⟩ : ∃ j_ : Int, (shl .i64 1 (ji14)) = j_ := ⟨_, rfl⟩
     replace H : (alumref21_Decode.j1 kj2 l1 ji14 (Int.tmod (rd l1 0) 256) (decide ((Int.tmod (rd l1 0) 256) ≥ (ji16))) a0_0 l0_1 l0_2 l0_3) = some (r1, r2, r3) := by first | (rw [hji16] at H; exact H) | (simp only [hji16] at H ⊢; exact H)
     have hji16_ : (IntKind.i64.wrap (1 * 2 ^ min (ji14).toNat 64)) = ji16 := hji16
     have hji16z : (ji14) ≤ 64 → (IntKind.i64.wrap (1 * 2 ^ (ji14).toNat)) = ji16 := shl_small hji16
     have hji16u : (IntKind.i64.wrap (2 ^ min (ji14).toNat 64)) = ji16 := by have h_ := hji16_; rw [Int.one_mul] at h_; exact h_
     have hji16v : (ji14) ≤ 64 → (IntKind.i64.wrap (2 ^ (ji14).toNat)) = ji16 := fun hle_ => by have h_ := hji16z hle_; rw [Int.one_mul] at h_; exact h_
     have hji16y : (wrap64 (1 * 2 ^ min (ji14).toNat 64)) = ji16 := (i64_w _).symm.trans hji16_
     have hji16x : (ji14) ≤ 64 → (wrap64 (1 * 2 ^ (ji14).toNat)) = ji16 := fun h_ => (i64_w _).symm.trans (hji16z h_)
     have H' := Aside0.mk H
     clear H
     have hcz17_0 : wc.cell? ⟨gb708, 0, none⟩ = some (.string a0_0) := (blk_cell BK708.out 0).trans rfl
     have hcz17_1 : wc.cell? ⟨gb708, 1, none⟩ = some (.slice A0_1 l0_1.length c0_1) := (blk_cell BK708.out 1).trans rfl
     have hcz17_2 : wc.cell? ⟨gb708, 2, none⟩ = some (.slice A0_2 l0_2.length c0_2) := (blk_cell BK708.out 2).trans rfl
     have hcz17_3 : wc.cell? ⟨gb708, 3, none⟩ = some (.slice A0_3 l0_3.length c0_3) := (blk_cell BK708.out 3).trans rfl
     have hfz17_0 := blk_frozen BK708.out 0
     have hfz17_1 := blk_frozen BK708.out 1
     have hfz17_2 := blk_frozen BK708.out 2
     have hfz17_3 := blk_frozen BK708.out 3
     go_wp2
     subst hji14
     go_meet
     case rel => exact ⟨_, (decide ((Int.tmod (rd l1 0) 256) ≥ (ji16))), (by first | rfl | (simp; done) | (simp only [← hji16] <;> (first | rfl | simp)) | (simp [*]; done)), H', ⟨Z116⟩, ⟨Z90⟩, ⟨Z57⟩⟩
    case rest =>
     clear HC10
     try clear c1
     try clear p2
     try clear c5
     try clear c5b0
     try clear c5b1
     try clear c5b2
     try clear c6
     try clear c6b0
     try clear c6b1
     try clear p6
     try clear p7
     try clear q7
     try clear hx7
     try clear qi7
     try clear c8
     try clear c9
     try clear c9b0
     try clear c9b1
     try clear c11
     try clear c11b0
     try clear c12
     try clear c12b0
     try clear c15
     try clear c15b0
     try clear c15b1
     try clear hcz13_0
     try clear hcz13_1
     try clear hcz13_2
     try clear hcz13_3
     try clear hcz17_0
     try clear hcz17_1
     try clear hcz17_2
     try clear hcz17_3
     try clear hfz13_0
     try clear hfz13_1
     try clear hfz13_2
     try clear hfz13_3
     try clear hfz17_0
     try clear hfz17_1
     try clear hfz17_2
     try clear hfz17_3
     try clear hx709_0
     try clear hx711_0
     try clear hx712_0
     try clear p2
     try clear p7
     try clear p709
     try clear p711
     try clear p712
     try clear q7
     try clear q709
     try clear q711
     try clear q712
     obtain ⟨kq, x47_9, rfl, HA, HJ9, BK708, HB⟩ := hcut
     cases kq with
     | zero => exact absurd HA.out (by simp [alumref21_Decode.j1])
     | succ kj9 =>
      have H := HA.out
      clear HA
      simp only [alumref21_Decode.j1] at H
      by_cases c18 : x47_9 = true
      ·subst c18
       have H1 : (some (([] : List (S40)), 0, 3)) = some (r1, r2, r3) := by rw [if_pos rfl] at H; exact H
       clear H
       have H := H1
       clear H1
       simp only [Option.some.injEq, Prod.mk.injEq] at H
       obtain ⟨rfl, rfl, rfl⟩ := H
       go_wp2
       go_ret3
       exact ⟨_, Z112, Z66, Z57⟩
      replace c18 := Bool.eq_false_iff.mpr c18
      subst c18
      have H1 : (alumref21_Decode.l0 kj9 l1 (wrap64 (Int.tdiv (rd l1 0) 256)) (Int.tmod (rd l1 0) 256) ([] : List (S40)) 1 0 a0_0 l0_1 l0_2 l0_3) = some (r1, r2, r3) := by rw [if_neg (show ¬ (false = true) by decide)] at H; exact H
      clear H
      have H := H1
      clear H1
      have H' := Aside0.mk H
      clear H
      go_wp2
      go_loopg [9, 10, 11] kj9 (fun kq v9 v10 v11 w' => ∃ (x9_3 : List (S40)) (x10_3 : Int) (x11_3 : Int), v10 = .int .i64 x10_3 ∧ v11 = .int .i64 x11_3 ∧ Aside0 (alumref21_Decode.l0 kq l1 (wrap64 (Int.tdiv (rd l1 0) 256)) (Int.tmod (rd l1 0) 256) x9_3 x10_3 x11_3 a0_0 l0_1 l0_2 l0_3 = some (r1, r2, r3)) ∧ Aside0 (kq ≤ kj9) ∧ Aside0 (Kd.R k40 40 w' w.heap.size (fun _ => True) v9 x9_3) ∧ Aside0 (w'.heap[gb708]? = some (.cells #[.string a0_0, (.slice A0_1 l0_1.length c0_1), (.slice A0_2 l0_2.length c0_2), (.slice A0_3 l0_3.length c0_3)] 28 (0, 0))) ∧ Aside0 (Below w.heap.size w w'))
      case atStart => exact ⟨(([] : List (S40))), (1), (0), Z122, Z122, H', ⟨Nat.le_refl _⟩, ⟨Z66⟩, ⟨Z90⟩, ⟨Z57⟩⟩
      case round =>
       clear H'
       try clear c1
       try clear p2
       try clear c5
       try clear c5b0
       try clear c5b1
       try clear c5b2
       try clear c6
       try clear c6b0
       try clear c6b1
       try clear p6
       try clear p7
       try clear q7
       try clear hx7
       try clear qi7
       try clear c8
       try clear c9
       try clear c9b0
       try clear c9b1
       try clear c11
       try clear c11b0
       try clear c12
       try clear c12b0
       try clear c15
       try clear c15b0
       try clear c15b1
       try clear c18
       try clear hcz13_0
       try clear hcz13_1
       try clear hcz13_2
       try clear hcz13_3
       try clear hcz17_0
       try clear hcz17_1
       try clear hcz17_2
       try clear hcz17_3
       try clear hfz13_0
       try clear hfz13_1
       try clear hfz13_2
       try clear hfz13_3
       try clear hfz17_0
       try clear hfz17_1
       try clear hfz17_2
       try clear hfz17_3
       try clear hx709_0
       try clear hx711_0
       try clear hx712_0
       try clear p2
       try clear p6
       try clear p7
       try clear p709
       try clear p711
       try clear p712
       try clear q7
       try clear q709
       try clear q711
       try clear q712
       obtain ⟨x9_3, x10_3, x11_3, rfl, rfl, HA, HK3, HO_9, BK708, HB⟩ := hrel
       cases gk with
       | zero => exact absurd HA.out (by simp [alumref21_Decode.l0])
       | succ k3 =>
        have H := HA.out
        clear HA
        simp only [alumref21_Decode.l0] at H
        by_cases c19 : x11_3 < (l0_1.length : Int)
        rotate_left
        ·rw [if_neg c19] at H
         have c19b0 : decide (x11_3 < (l0_1.length : Int)) = false := decide_eq_false c19
         clear c19
         simp only [Option.some.injEq, Prod.mk.injEq] at H
         obtain ⟨rfl, rfl, rfl⟩ := H
         have hcz60_0 : wr.cell? ⟨gb708, 0, none⟩ = some (.string a0_0) := (blk_cell BK708.out 0).trans rfl
         have hcz60_1 : wr.cell? ⟨gb708, 1, none⟩ = some (.slice A0_1 l0_1.length c0_1) := (blk_cell BK708.out 1).trans rfl
         have hcz60_2 : wr.cell? ⟨gb708, 2, none⟩ = some (.slice A0_2 l0_2.length c0_2) := (blk_cell BK708.out 2).trans rfl
         have hcz60_3 : wr.cell? ⟨gb708, 3, none⟩ = some (.slice A0_3 l0_3.length c0_3) := (blk_cell BK708.out 3).trans rfl
         have hfz60_0 := blk_frozen BK708.out 0
         have hfz60_1 := blk_frozen BK708.out 1
         have hfz60_2 := blk_frozen BK708.out 2
         have hfz60_3 := blk_frozen BK708.out 3
         go_wp2
         go_ret3
         exact ⟨_, Z112, Z107, Z57⟩
        rw [if_pos c19] at H
        have c19b0 : decide (x11_3 < (l0_1.length : Int)) = true := decide_eq_true c19
        clear c19
        have HC20 := Aside0.mk H
        clear H
        have hcz21_0 : wr.cell? ⟨gb708, 0, none⟩ = some (.string a0_0) := (blk_cell BK708.out 0).trans rfl
        have hcz21_1 : wr.cell? ⟨gb708, 1, none⟩ = some (.slice A0_1 l0_1.length c0_1) := (blk_cell BK708.out 1).trans rfl
        have hcz21_2 : wr.cell? ⟨gb708, 2, none⟩ = some (.slice A0_2 l0_2.length c0_2) := (blk_cell BK708.out 2).trans rfl
        have hcz21_3 : wr.cell? ⟨gb708, 3, none⟩ = some (.slice A0_3 l0_3.length c0_3) := (blk_cell BK708.out 3).trans rfl
        have hfz21_0 := blk_frozen BK708.out 0
        have hfz21_1 := blk_frozen BK708.out 1
        have hfz21_2 := blk_frozen BK708.out 2
        have hfz21_3 := blk_frozen BK708.out 3
        go_upto_region 12 with (fail)
        go_cut [12] (fun v12 wc => ∃ (kq : Nat) (x12_19 : Bool), v12 = .bool x12_19 ∧ Aside0 (alumref21_Decode.j3 kq l1 (wrap64 (Int.tdiv (rd l1 0) 256)) (Int.tmod (rd l1 0) 256) x9_3 x10_3 x11_3 x12_19 a0_0 l0_1 l0_2 l0_3 = some (r1, r2, r3)) ∧ Aside0 (kq ≤ k3) ∧ Aside0 (Kd.R k40 40 wc w.heap.size (fun _ => True) u9 x9_3) ∧ Aside0 (wc.heap[gb708]? = some (.cells #[.string a0_0, (.slice A0_1 l0_1.length c0_1), (.slice A0_2 l0_2.length c0_2), (.slice A0_3 l0_3.length c0_3)] 28 (0, 0))) ∧ Aside0 (Below w.heap.size w wc))
        case first =>
         have H := HC20.out
         clear HC20
         by_cases c22 : x11_3 ≥ (wrap64 (Int.tdiv (rd l1 0) 256))
         ·rw [if_pos c22] at H
          have c22b0 : decide ((wrap64 (Int.tdiv (rd l1 0) 256)) ≤ x11_3) = true := decide_eq_true c22
          clear c22
          (first | rw [c22b0] | (simp only [i64_w, i32_w]; rw [c22b0]) | skip)
          have H' := Aside0.mk H
          clear H
          go_wp2
          go_meet
          case rel => exact ⟨_, (true), Z122, H', ⟨by have := HJ2.out; have := HJ9.out; have := HK3.out; first | omega | exact Nat.le_refl _⟩, ⟨Z107⟩, ⟨Z90⟩, ⟨Z57⟩⟩
         rw [if_neg c22] at H
         have c22b0 : decide ((wrap64 (Int.tdiv (rd l1 0) 256)) ≤ x11_3) = false := decide_eq_false c22
         clear c22
         (first | rw [c22b0] | (simp only [i64_w, i32_w]; rw [c22b0]) | skip)
         by_cases c23 : 0 ≤ x11_3
         ·rw [if_pos c23] at H
          have c23b0 := eq_true c23
          have c23b1 : decide (0 ≤ x11_3) = true := decide_eq_true c23
          clear c23
          obtain ⟨ji24, hji24⟩ : ∃ j_ : Int, (shr .i64 (Int.tmod (rd l1 0) 256) x11_3) = j_ := ⟨_, rfl⟩
          replace H : (alumref21_Decode.j3 k3 l1 (wrap64 (Int.tdiv (rd l1 0) 256)) (Int.tmod (rd l1 0) 256) x9_3 x10_3 x11_3 ((Int.tmod (ji24) 2) == 1) a0_0 l0_1 l0_2 l0_3) = some (r1, r2, r3) := by first | (rw [hji24] at H; exact H) | (simp only [hji24] at H ⊢; exact H)
          have hji24_ : ((Int.tmod (rd l1 0) 256) / 2 ^ min x11_3.toNat 64) = ji24 := hji24
          have hji24z : x11_3 ≤ 64 → ((Int.tmod (rd l1 0) 256) / 2 ^ x11_3.toNat) = ji24 := shr_small hji24
          have H' := Aside0.mk H
          clear H
          go_wp2
          go_meet
          case rel => exact ⟨_, (((Int.tmod (ji24) 2) == 1)), (by first | rfl | (simp; done) | (simp only [← hji24] <;> (first | rfl | simp)) | (simp [*]; done)), H', ⟨by have := HJ2.out; have := HJ9.out; have := HK3.out; first | omega | exact Nat.le_refl _⟩, ⟨Z107⟩, ⟨Z90⟩, ⟨Z57⟩⟩
         rw [if_neg c23] at H
         exact absurd H (by simp)
        case rest =>
         clear HC20
         try clear c1
         try clear c2
         try clear p2
         try clear c5
         try clear c5b0
         try clear c5b1
         try clear c5b2
         try clear c6
         try clear c6b0
         try clear c6b1
         try clear p6
         try clear p7
         try clear q7
         try clear hx7
         try clear qi7
         try clear c8
         try clear c9
         try clear c9b0
         try clear c9b1
         try clear c11
         try clear c11b0
         try clear c12
         try clear c12b0
         try clear c15
         try clear c15b0
         try clear c15b1
         try clear c18
         try clear c19
         try clear c19b0
         try clear c22
         try clear c22b0
         try clear c23
         try clear c23b0
         try clear c23b1
         try clear hcz13_0
         try clear hcz13_1
         try clear hcz13_2
         try clear hcz13_3
         try clear hcz17_0
         try clear hcz17_1
         try clear hcz17_2
         try clear hcz17_3
         try clear hcz21_0
         try clear hcz21_1
         try clear hcz21_2
         try clear hcz21_3
         try clear hfz13_0
         try clear hfz13_1
         try clear hfz13_2
         try clear hfz13_3
         try clear hfz17_0
         try clear hfz17_1
         try clear hfz17_2
         try clear hfz17_3
         try clear hfz21_0
         try clear hfz21_1
         try clear hfz21_2
         try clear hfz21_3
         try clear hx709_0
         try clear hx711_0
         try clear hx712_0
         try clear p2
         try clear p6
         try clear p7
         try clear p709
         try clear p711
         try clear p712
         try clear q7
         try clear q709
         try clear q711
         try clear q712
         obtain ⟨kq, x12_19, rfl, HA, HJ19, HO_9, BK708, HB⟩ := hcut
         cases kq with
         | zero => exact absurd HA.out (by simp [alumref21_Decode.j3])
         | succ kj19 =>
          have H := HA.out
          clear HA
          simp only [alumref21_Decode.j3] at H
          have HC25 := Aside0.mk H
          clear H
          go_upto_region 13 with (fail)
          go_cut [74] (fun v74 wc => ∃ (kq : Nat) (x74_24 : Bool), v74 = .bool x74_24 ∧ Aside0 (alumref21_Decode.j4 kq l1 (wrap64 (Int.tdiv (rd l1 0) 256)) (Int.tmod (rd l1 0) 256) x9_3 x10_3 x11_3 x12_19 x74_24 a0_0 l0_1 l0_2 l0_3 = some (r1, r2, r3)) ∧ Aside0 (kq ≤ kj19) ∧ Aside0 (Kd.R k40 40 wc w.heap.size (fun _ => True) u9 x9_3) ∧ Aside0 (wc.heap[gb708]? = some (.cells #[.string a0_0, (.slice A0_1 l0_1.length c0_1), (.slice A0_2 l0_2.length c0_2), (.slice A0_3 l0_3.length c0_3)] 28 (0, 0))) ∧ Aside0 (Below w.heap.size w wc))
          case first =>
           have H := HC25.out
           clear HC25
           by_cases c26 : x12_19 = true
           rotate_left
           ·replace c26 := Bool.eq_false_iff.mpr c26
            subst c26
            have H1 : (alumref21_Decode.j4 kj19 l1 (wrap64 (Int.tdiv (rd l1 0) 256)) (Int.tmod (rd l1 0) 256) x9_3 x10_3 x11_3 false false a0_0 l0_1 l0_2 l0_3) = some (r1, r2, r3) := by rw [if_neg (show ¬ (false = true) by decide)] at H; exact H
            clear H
            have H := H1
            clear H1
            have H' := Aside0.mk H
            clear H
            go_wp2
            go_meet
            case rel => exact ⟨_, (false), Z122, H', ⟨Z106⟩, ⟨Z107⟩, ⟨Z90⟩, ⟨Z57⟩⟩
           subst c26
           have H1 : (if 0 ≤ x11_3 then (if x11_3 < (l0_1.length : Int) then (alumref21_Decode.j4 kj19 l1 (wrap64 (Int.tdiv (rd l1 0) 256)) (Int.tmod (rd l1 0) 256) x9_3 x10_3 x11_3 true (!((rd_T56 l0_1 x11_3).f2)) a0_0 l0_1 l0_2 l0_3) else (none)) else (none)) = some (r1, r2, r3) := by rw [if_pos rfl] at H; exact H
           clear H
           have H := H1
           clear H1
           by_cases c27 : 0 ≤ x11_3
           rotate_left
           ·rw [if_neg c27] at H
            exact absurd H (by simp)
           rw [if_pos c27] at H
           have c27b0 : decide (0 ≤ x11_3) = true := decide_eq_true c27
           clear c27
           (first | rw [c27b0] | (simp only [i64_w, i32_w]; rw [c27b0]) | skip)
           by_cases c28 : x11_3 < (l0_1.length : Int)
           rotate_left
           ·rw [if_neg c28] at H
            exact absurd H (by simp)
           rw [if_pos c28] at H
           have c28b0 : decide (x11_3 < (l0_1.length : Int)) = true := decide_eq_true c28
           clear c28
           have H' := Aside0.mk H
           clear H
           have hcz29_0 : wc.cell? ⟨gb708, 0, none⟩ = some (.string a0_0) := (blk_cell BK708.out 0).trans rfl
           have hcz29_1 : wc.cell? ⟨gb708, 1, none⟩ = some (.slice A0_1 l0_1.length c0_1) := (blk_cell BK708.out 1).trans rfl
           have hcz29_2 : wc.cell? ⟨gb708, 2, none⟩ = some (.slice A0_2 l0_2.length c0_2) := (blk_cell BK708.out 2).trans rfl
           have hcz29_3 : wc.cell? ⟨gb708, 3, none⟩ = some (.slice A0_3 l0_3.length c0_3) := (blk_cell BK708.out 3).trans rfl
           have hfz29_0 := blk_frozen BK708.out 0
           have hfz29_1 := blk_frozen BK708.out 1
           have hfz29_2 := blk_frozen BK708.out 2
           have hfz29_3 := blk_frozen BK708.out 3
           have p713 : 0 ≤ (x11_3 : Int) := of_decide_eq_true Z121
           have q713 : x11_3 < (l0_1.length : Int) := of_decide_eq_true Z121
           obtain ⟨ad713, e713, hx713_0, hx713_1, hx713_2⟩ := at_T56 HR0_1.out x11_3 p713 q713
           cases e713
           replace hx713_0 := (HB.out.cell (World.block_lt_of_cell? w _ hx713_0)).trans hx713_0
           replace hx713_1 := (HB.out.cell (World.block_lt_of_cell? w _ hx713_1)).trans hx713_1
           replace hx713_2 := (HB.out.cell (World.block_lt_of_cell? w _ hx713_2)).trans hx713_2
           replace p713 := eq_true p713
           replace q713 := eq_true q713
           go_wp2
           go_meet
           case rel => exact ⟨_, (!((rd_T56 l0_1 x11_3).f2)), Z122, H', ⟨Z106⟩, ⟨Z107⟩, ⟨Z90⟩, ⟨Z57⟩⟩
          case rest =>
           clear HC25
           try clear c1
           try clear c2
           try clear p2
           try clear c5
           try clear c5b0
           try clear c5b1
           try clear c5b2
           try clear c6
           try clear c6b0
           try clear c6b1
           try clear p6
           try clear p7
           try clear q7
           try clear hx7
           try clear qi7
           try clear c8
           try clear c9
           try clear c9b0
           try clear c9b1
           try clear c11
           try clear c11b0
           try clear c12
           try clear c12b0
           try clear c15
           try clear c15b0
           try clear c15b1
           try clear c18
           try clear c19
           try clear c19b0
           try clear c22
           try clear c22b0
           try clear c23
           try clear c23b0
           try clear c23b1
           try clear c26
           try clear c27
           try clear c27b0
           try clear c28
           try clear c28b0
           try clear hcz13_0
           try clear hcz13_1
           try clear hcz13_2
           try clear hcz13_3
           try clear hcz17_0
           try clear hcz17_1
           try clear hcz17_2
           try clear hcz17_3
           try clear hcz21_0
           try clear hcz21_1
           try clear hcz21_2
           try clear hcz21_3
           try clear hcz29_0
           try clear hcz29_1
           try clear hcz29_2
           try clear hcz29_3
           try clear hfz13_0
           try clear hfz13_1
           try clear hfz13_2
           try clear hfz13_3
           try clear hfz17_0
           try clear hfz17_1
           try clear hfz17_2
           try clear hfz17_3
           try clear hfz21_0
           try clear hfz21_1
           try clear hfz21_2
           try clear hfz21_3
           try clear hfz29_0
           try clear hfz29_1
           try clear hfz29_2
           try clear hfz29_3
           try clear hx709_0
           try clear hx711_0
           try clear hx712_0
           try clear hx713_0
           try clear hx713_1
           try clear hx713_2
           try clear p2
           try clear p6
           try clear p7
           try clear p709
           try clear p711
           try clear p712
           try clear p713
           try clear q7
           try clear q709
           try clear q711
           try clear q712
           try clear q713
           obtain ⟨kq, x74_24, rfl, HA, HJ24, HO_9, BK708, HB⟩ := hcut
           cases kq with
           | zero => exact absurd HA.out (by simp [alumref21_Decode.j4])
           | succ kj24 =>
            have H := HA.out
            clear HA
            simp only [alumref21_Decode.j4] at H
            by_cases c30 : x74_24 = true
            ·subst c30
             have H1 : (some (([] : List (S40)), 0, 3)) = some (r1, r2, r3) := by rw [if_pos rfl] at H; exact H
             clear H
             have H := H1
             clear H1
             simp only [Option.some.injEq, Prod.mk.injEq] at H
             obtain ⟨rfl, rfl, rfl⟩ := H
             go_wp2
             go_ret3
             exact ⟨_, Z112, Z66, Z57⟩
            replace c30 := Bool.eq_false_iff.mpr c30
            subst c30
            have H1 : (if x12_19 = true then (if x9_3.length < 4398046511104 then (alumref21_Decode.l0 kj24 l1 (wrap64 (Int.tdiv (rd l1 0) 256)) (Int.tmod (rd l1 0) 256) (x9_3 ++ [(⟨0, 0, (⟨#[]⟩ : ByteArray)⟩ : S40)]) x10_3 (wrap64 (x11_3 + 1)) a0_0 l0_1 l0_2 l0_3) else (none)) else (if 0 ≤ x11_3 then (if x11_3 < (l0_1.length : Int) then (if 0 ≤ x10_3 then (if x10_3 ≤ (l1.length : Int) then ((alumref21_one.f kj24 ((rd_T56 l0_1 x11_3).f1) (l1.drop (x10_3 : Int).toNat)).bind fun bt719 => (if bt719.2.2.2 = 0 then (some (([] : List (S40)), 0, 3)) else (if x9_3.length < 4398046511104 then (alumref21_Decode.l0 kj24 l1 (wrap64 (Int.tdiv (rd l1 0) 256)) (Int.tmod (rd l1 0) 256) (x9_3 ++ [(⟨bt719.1, bt719.2.1, bt719.2.2.1⟩ : S40)]) (wrap64 (x10_3 + bt719.2.2.2)) (wrap64 (x11_3 + 1)) a0_0 l0_1 l0_2 l0_3) else (none)))) else (none)) else (none)) else (none)) else (none))) = some (r1, r2, r3) := by rw [if_neg (show ¬ (false = true) by decide)] at H; exact H
            clear H
            have H := H1
            clear H1
            by_cases c31 : x12_19 = true
            ·subst c31
             have H1 : (if x9_3.length < 4398046511104 then (alumref21_Decode.l0 kj24 l1 (wrap64 (Int.tdiv (rd l1 0) 256)) (Int.tmod (rd l1 0) 256) (x9_3 ++ [(⟨0, 0, (⟨#[]⟩ : ByteArray)⟩ : S40)]) x10_3 (wrap64 (x11_3 + 1)) a0_0 l0_1 l0_2 l0_3) else (none)) = some (r1, r2, r3) := by rw [if_pos rfl] at H; exact H
             clear H
             have H := H1
             clear H1
             by_cases c32 : x9_3.length < 4398046511104
             ·rw [if_pos c32] at H
              have LMc32 := Aside0.mk c32
              clear c32
              obtain ⟨y714, hy714⟩ : ∃ y_ : List (S40), y_ = (x9_3 ++ [(⟨0, 0, (⟨#[]⟩ : ByteArray)⟩ : S40)]) := ⟨_, rfl⟩
              replace H : (alumref21_Decode.l0 kj24 l1 (wrap64 (Int.tdiv (rd l1 0) 256)) (Int.tmod (rd l1 0) 256) y714 x10_3 (wrap64 (x11_3 + 1)) a0_0 l0_1 l0_2 l0_3) = some (r1, r2, r3) := by first | (rw [hy714]; with_reducible exact H) | (have H2_ := (Option.bind_some _ _).symm.trans H; rw [hy714]; with_reducible exact H2_) | (have H2_ := (Option.bind_some _ _).symm.trans H; with_reducible exact H2_) | with_reducible exact H | (rw [hy714]; exact H) | exact H
              have Ny714 := Aside0.mk hy714
              clear hy714
              have H' := Aside0.mk H
              clear H
              go_wp2_with (first | ((with_reducible refine gate_builtin (b := .append) (xs := #[.tmp 76, .tmp 78]) rfl ?_); (try (refine gate_guard (by rfl) ?_; dsimp only)); at_builtin; refine Kd.R_append k40 (w0 := w) w.heap.size rfl (.tmp 76) (.tmp 78) 37 40 (.agg #[(.int .i64 0), (.int .i64 0), (.string ⟨#[]⟩)]) 32 rfl Try.underlying37 info40 rfl (by decide) (by omega) u9 x9_3 (⟨0, 0, (⟨#[]⟩ : ByteArray)⟩ : S40) [.int .i64 0, .int .i64 0, .string (⟨#[]⟩ : ByteArray)] (fun _ => True) (fun _ => False) rfl rfl ?aP (fun _ hk => hk.elim) ?aF ?aO ?aB ?aS ?aL ?_; (case aP => exact k40_mkM _ _ _ (⟨0, 0, (⟨#[]⟩ : ByteArray)⟩ : S40)); (case aB => exact Z48); (case aF => exact (fun _ _ => trivial)); (case aO => exact Z101); (case aS => exact (below_size Z48)); (case aL => have := LMc32.out; omega); intro v715 w33 ho hb hg hat; rw [← Ny714.out] at ho; have n0_ := Aside0.mk (blk_grown (g := gb708) (o := .cells #[.string a0_0, .slice A0_1 l0_1.length c0_1, .slice A0_2 l0_2.length c0_2, .slice A0_3 l0_3.length c0_3] 28 (0, 0)) Z80 hg (Kd.R_ne HO_9.out BK708.out (by decide))); have n1_ := Aside0.mk (hb); have n2_ := Aside0.mk (ho); clear BK708; clear HB; clear HO_9; have BK708 := n0_; have HB := n1_; have HO716 := n2_; clear n0_ n1_ n2_; clear ho hb hg hat))
              go_roundg kj24
              case measure => have := HJ2.out; have := HJ9.out; have := HK3.out; have := HJ19.out; have := HJ24.out; omega
              case rel => exact ⟨(y714), (x10_3), (wrap64 (x11_3 + 1)), Z122, Z122, H', ⟨Z113⟩, ⟨by (with_reducible repeat (first | apply Kd.R_alloc | apply Kd.R_drewN | apply Kd.R_drew)); exact HO716.out⟩, ⟨Z90⟩, ⟨Z57⟩⟩
             rw [if_neg c32] at H
             exact absurd H (by simp)
            replace c31 := Bool.eq_false_iff.mpr c31
            subst c31
            have H1 : (if 0 ≤ x11_3 then (if x11_3 < (l0_1.length : Int) then (if 0 ≤ x10_3 then (if x10_3 ≤ (l1.length : Int) then ((alumref21_one.f kj24 ((rd_T56 l0_1 x11_3).f1) (l1.drop (x10_3 : Int).toNat)).bind fun bt719 => (if bt719.2.2.2 = 0 then (some (([] : List (S40)), 0, 3)) else (if x9_3.length < 4398046511104 then (alumref21_Decode.l0 kj24 l1 (wrap64 (Int.tdiv (rd l1 0) 256)) (Int.tmod (rd l1 0) 256) (x9_3 ++ [(⟨bt719.1, bt719.2.1, bt719.2.2.1⟩ : S40)]) (wrap64 (x10_3 + bt719.2.2.2)) (wrap64 (x11_3 + 1)) a0_0 l0_1 l0_2 l0_3) else (none)))) else (none)) else (none)) else (none)) else (none)) = some (r1, r2, r3) := by rw [if_neg (show ¬ (false = true) by decide)] at H; exact H
            clear H
            have H := H1
            clear H1
            by_cases c34 : 0 ≤ x11_3
            rotate_left
            ·rw [if_neg c34] at H
             exact absurd H (by simp)
            rw [if_pos c34] at H
            have c34b0 : decide (0 ≤ x11_3) = true := decide_eq_true c34
            clear c34
            by_cases c35 : x11_3 < (l0_1.length : Int)
            rotate_left
            ·rw [if_neg c35] at H
             exact absurd H (by simp)
            rw [if_pos c35] at H
            have c35b0 : decide (x11_3 < (l0_1.length : Int)) = true := decide_eq_true c35
            clear c35
            by_cases c36 : 0 ≤ x10_3
            rotate_left
            ·rw [if_neg c36] at H
             exact absurd H (by simp)
            rw [if_pos c36] at H
            have c36b0 := eq_true c36
            have c36b1 : decide (0 ≤ x10_3) = true := decide_eq_true c36
            clear c36
            by_cases c37 : x10_3 ≤ (l1.length : Int)
            rotate_left
            ·rw [if_neg c37] at H
             exact absurd H (by simp)
            rw [if_pos c37] at H
            have c37b0 := eq_true c37
            have c37b1 : decide (x10_3 ≤ (l1.length : Int)) = true := decide_eq_true c37
            clear c37
            replace H := Option.bind_eq_some_iff.mp H
            obtain ⟨⟨t719, t720, t721, t722⟩, A380, H⟩ := H
            replace H : (if t722 = 0 then (some (([] : List (S40)), 0, 3)) else (if x9_3.length < 4398046511104 then (alumref21_Decode.l0 kj24 l1 (wrap64 (Int.tdiv (rd l1 0) 256)) (Int.tmod (rd l1 0) 256) (x9_3 ++ [(⟨t719, t720, t721⟩ : S40)]) (wrap64 (x10_3 + t722)) (wrap64 (x11_3 + 1)) a0_0 l0_1 l0_2 l0_3) else (none))) = some (r1, r2, r3) := H
            have A38 := Aside0.mk A380
            clear A380
            by_cases c39 : t722 = 0
            ·rw [if_pos c39] at H
             have c39b0 : (t722 == 0) = true := beq_iff_eq.mpr c39
             have c39b1 : (t722 != 0) = false := bne_eq_false_iff_eq.mpr c39
             clear c39
             simp only [Option.some.injEq, Prod.mk.injEq] at H
             obtain ⟨rfl, rfl, rfl⟩ := H
             try go_wp2
             have n0_ := Aside0.mk (Kd.R_drew HO_9.out)
             have n1_ := Aside0.mk (blk_drew BK708.out)
             have n2_ := Aside0.mk (below_drew1 HB.out)
             clear HO_9
             clear BK708
             clear HB
             have HO_9 := n0_
             have BK708 := n1_
             have HB := n2_
             clear n0_ n1_ n2_
             have p717 : 0 ≤ (x11_3 : Int) := of_decide_eq_true Z121
             have q717 : x11_3 < (l0_1.length : Int) := of_decide_eq_true Z121
             obtain ⟨ad717, e717, hx717_0, hx717_1, hx717_2⟩ := at_T56 HR0_1.out x11_3 p717 q717
             have hw717_2 := hx717_2
             have hw717_1 := hx717_1
             have hw717_0 := hx717_0
             cases e717
             replace hx717_0 := (HB.out.cell (World.block_lt_of_cell? w _ hx717_0)).trans hx717_0
             replace hx717_1 := (HB.out.cell (World.block_lt_of_cell? w _ hx717_1)).trans hx717_1
             replace hx717_2 := (HB.out.cell (World.block_lt_of_cell? w _ hx717_2)).trans hx717_2
             replace p717 := eq_true p717
             replace q717 := eq_true q717
             obtain ⟨i041, hi041, _, hsz41, _⟩ := info_parts info3
             obtain ⟨A41, hcut41, hA41, hC41⟩ := print_drop_of (P := Try.prog) (Value.int .i64) 0 32 3 .i64 Try.underlying32 hi041 hsz41 (some ad711) c1 l1 x10_3 (of_decide_eq_true Z121) (of_decide_eq_true Z121) HC1.out
             have HR718 := Aside0.mk (Kd.C_of_reads (h1 := fun _ => rfl) (hA41 _ (Kd.reads_of_C HR1.out)))
             have HC718 := Aside0.mk hC41
             clear hA41 hC41 hi041 hsz41
             refine start_ (n := 16) (S := fun w' => w'.cell? ⟨gb708, 0, none⟩ = some (.string a0_0) ∧ w'.cell? ⟨gb708, 1, none⟩ = some (.slice (some ad717) l0_1.length c0_1) ∧ w'.cell? ⟨gb708, 2, none⟩ = some (.slice A0_2 l0_2.length c0_2) ∧ w'.cell? ⟨gb708, 3, none⟩ = some (.slice A0_3 l0_3.length c0_3) ∧ w'.cell? (ad717.add ((x11_3).toNat * 3)) = some (.string ((rd_T56 l0_1 x11_3).f0)) ∧ w'.cell? ⟨(ad717.add ((x11_3).toNat * 3)).block, (ad717.add ((x11_3).toNat * 3)).off + 1, none⟩ = some (.int .i64 ((rd_T56 l0_1 x11_3).f1)) ∧ w'.cell? ⟨(ad717.add ((x11_3).toNat * 3)).block, (ad717.add ((x11_3).toNat * 3)).off + 2, none⟩ = some (.bool ((rd_T56 l0_1 x11_3).f2))) (ds := []) #[false, false, false, false, false, false, false, false, false, false, false, false, false, false, false, false] (by kernel_rfl) rfl rfl ⟨(blk_cell BK708.out 0).trans rfl, (blk_cell BK708.out 1).trans rfl, (blk_cell BK708.out 2).trans rfl, (blk_cell BK708.out 3).trans rfl, ((HB.out.cell (World.block_lt_of_cell? w _ hw717_0)).trans hw717_0), ((HB.out.cell (World.block_lt_of_cell? w _ hw717_1)).trans hw717_1), ((HB.out.cell (World.block_lt_of_cell? w _ hw717_2)).trans hw717_2)⟩ (fun hHeld => ?_); refine with_tabW alumref21_Decode.tab17 alumref21_Decode.bits17 (fun HT_ HW_ => ?_)
             generalize wc.drew = w40 at HO_9 BK708 HB HR718 hx717_0 hx717_1 hx717_2 hHeld ⊢
             refine pure_ (i := 0) (N := some 81) (v := ?_) (a' := ?_) #[true, false, false, false, false, false, false, false, false, false, false, false, false, false, false, false] rfl rfl (any_of HT_.out (by kernel_rfl)) (fun _ _ _ h => h) (Or.inl ⟨by rfl, ?_⟩) ?_ ?_
             rotate_left
             ·intro w'
              go_simp
              with_reducible rfl
             rotate_left
             ·exact Z94
             refine pure_ (i := 2) (N := some 83) (v := ?_) (a' := ?_) #[true, false, true, false, false, false, false, false, false, false, false, false, false, false, false, false] rfl rfl (any_of HT_.out (by kernel_rfl)) (fun _ _ _ h => h) (Or.inl ⟨by rfl, ?_⟩) ?_ ?_
             rotate_left
             ·intro w'
              go_simp
              with_reducible rfl
             rotate_left
             ·exact Z94
             refine pure_ (i := 6) (N := some 87) (v := ?_) (a' := ?_) #[true, false, true, false, false, false, true, false, false, false, false, false, false, false, false, false] rfl rfl (any_of HT_.out (by kernel_rfl)) (fun _ _ _ h => h) (Or.inl ⟨by rfl, ?_⟩) ?_ ?_
             rotate_left
             ·intro w'
              go_simp
              with_reducible rfl
             rotate_left
             ·exact Z94
             refine pure_ (i := 7) (N := some 88) (v := ?_) (a' := ?_) #[true, false, true, false, false, false, true, true, false, false, false, false, false, false, false, false] rfl rfl (any_of HT_.out (by kernel_rfl)) (fun _ _ _ h => h) (Or.inl ⟨by rfl, ?_⟩) ?_ ?_
             rotate_left
             ·intro w'
              go_simp
              with_reducible rfl
             rotate_left
             ·exact Z94
             refine pure_ (i := 8) (N := some 89) (v := ?_) (a' := ?_) #[true, false, true, false, false, false, true, true, true, false, false, false, false, false, false, false] rfl rfl (any_of HT_.out (by kernel_rfl)) (fun _ _ _ h => h) (Or.inl ⟨by rfl, ?_⟩) ?_ ?_
             rotate_left
             ·intro w'
              go_simp
              with_reducible rfl
             rotate_left
             ·exact Z94
             refine take_ (i := 1) (N := some 82) (v := ?_) (a' := ?_) #[true, true, true, false, false, false, true, true, true, false, false, false, false, false, false, false] rfl rfl (take_ofW HT_.out HW_.out (by kernel_rfl)) (fun _ _ _ h => h) (Or.inl ⟨by rfl, ?_⟩) hHeld ?_ ?_
             rotate_left
             ·rintro w' ⟨s0, s1, s2, s3, s4, s5, s6⟩
              go_simp
              with_reducible rfl
             rotate_left
             ·exact Z94
             refine pure_ (i := 3) (N := some 84) (v := ?_) (a' := ?_) #[true, true, true, true, false, false, true, true, true, false, false, false, false, false, false, false] rfl rfl (any_of HT_.out (by kernel_rfl)) (fun _ _ _ h => h) (Or.inl ⟨by rfl, ?_⟩) ?_ ?_
             rotate_left
             ·intro w'
              go_simp
              with_reducible rfl
             rotate_left
             ·exact Z94
             refine pure_ (i := 4) (N := some 85) (v := ?_) (a' := ?_) #[true, true, true, true, true, false, true, true, true, false, false, false, false, false, false, false] rfl rfl (any_of HT_.out (by kernel_rfl)) (fun _ _ _ h => h) (Or.inl ⟨by rfl, ?_⟩) ?_ ?_
             rotate_left
             ·intro w'
              go_simp
              with_reducible rfl
             rotate_left
             ·exact Z94
             refine take_ (i := 5) (N := some 86) (v := ?_) (a' := ?_) #[true, true, true, true, true, true, true, true, true, false, false, false, false, false, false, false] rfl rfl (take_ofW HT_.out HW_.out (by kernel_rfl)) (fun _ _ _ h => h) (Or.inl ⟨by rfl, ?_⟩) hHeld ?_ ?_
             rotate_left
             ·rintro w' ⟨s0, s1, s2, s3, s4, s5, s6⟩
              go_simp
              with_reducible rfl
             rotate_left
             ·exact Z94
             refine join_ (σ := Nat) 2 #[true, true, true, true, true, true, true, true, true, true, true, true, true, true, false, false] (fun s_ => [(90, .tuple #[.agg #[.int .i64 t719, .int .i64 t720, .string t721], .int .i64 t722]), (13, .pointer (some ⟨s_, 0, none⟩)), (80, .tuple #[.agg #[.int .i64 t719, .int .i64 t720, .string t721], .int .i64 t722]), (91, .agg #[.int .i64 t719, .int .i64 t720, .string t721]), (92, .int .i64 t722)]) (fun s_ w' => (w'.cell? ⟨gb708, 0, none⟩ = some (.string a0_0) ∧ w'.cell? ⟨gb708, 1, none⟩ = some (.slice (some ad717) l0_1.length c0_1) ∧ w'.cell? ⟨gb708, 2, none⟩ = some (.slice A0_2 l0_2.length c0_2) ∧ w'.cell? ⟨gb708, 3, none⟩ = some (.slice A0_3 l0_3.length c0_3) ∧ w'.cell? (ad717.add ((x11_3).toNat * 3)) = some (.string ((rd_T56 l0_1 x11_3).f0)) ∧ w'.cell? ⟨(ad717.add ((x11_3).toNat * 3)).block, (ad717.add ((x11_3).toNat * 3)).off + 1, none⟩ = some (.int .i64 ((rd_T56 l0_1 x11_3).f1)) ∧ w'.cell? ⟨(ad717.add ((x11_3).toNat * 3)).block, (ad717.add ((x11_3).toNat * 3)).off + 2, none⟩ = some (.bool ((rd_T56 l0_1 x11_3).f2))) ∧ (Kd.R k40 40 w' w.heap.size (fun k_ => k_ ≠ s_) u9 x9_3) ∧ (w'.heap[gb708]? = some (.cells #[.string a0_0, .slice (some ad717) l0_1.length c0_1, .slice A0_2 l0_2.length c0_2, .slice A0_3 l0_3.length c0_3] 28 (0, 0))) ∧ (w'.heap[s_]? = some (.cells #[.int .i64 0, .int .i64 0, .string (⟨#[]⟩ : ByteArray)] 40 (0, 0))) ∧ (w.heap.size ≤ s_) ∧ (w.heap.size ≤ s_) ∧ (gb708 ≠ s_) ∧ (s_ ≠ gb708) ∧ (Below w.heap.size w w')) ?_ ?_
             rotate_left
             ·intro hCont
              refine two_ (i := 9) (j := 13) (Ni := some 90) (Nj := some 13) #[true, true, true, true, true, true, true, true, true, true, false, false, false, false, false, false] #[true, true, true, true, true, true, true, true, true, false, false, false, false, true, false, false] rfl rfl rfl rfl (two_of HT_.out (by kernel_rfl)) (by decide) (by decide) (fun K hK => ?_) (fun K hK => ?_)
              ·skip
               refine goes_ Try.func116 (by kernel_rfl) rfl #[.int .i64 ((rd_T56 l0_1 x11_3).f1), .slice A41 (l1.drop (x10_3 : Int).toNat).length (c1 - x10_3.toNat)] (by rfl) rfl rfl Z15 ?_
               with_reducible refine (alumref21_one.calls kj24 ((rd_T56 l0_1 x11_3).f1) _ _ (l1.drop (x10_3 : Int).toNat) t719 t720 t721 t722 _ ?side1 ?side2 A38.out).mono ?_
               (case side1 => repeat (first | exact (Kd.C_below HR718.out HB.out) | (with_reducible refine Kd.C_alloc ?_ _) | (with_reducible refine Kd.C_drewN ?_ _) | (with_reducible refine Kd.C_drew ?_)))
               (case side2 => exact HC718.out)
               rintro e w42 ⟨rfl, hb⟩
               refine ⟨_, rfl, ?_⟩
               have n0_ := Aside0.mk (Kd.R_below Z101 hb)
               have n1_ := Aside0.mk (blk_below (g := gb708) (o := .cells #[.string a0_0, .slice (some ad717) l0_1.length c0_1, .slice A0_2 l0_2.length c0_2, .slice A0_3 l0_3.length c0_3] 28 (0, 0)) Z80 hb)
               have n2_ := Aside0.mk (below_step Z48 hb)
               clear HO_9
               clear BK708
               clear HB
               have HO_9 := n0_
               have BK708 := n1_
               have HB := n2_
               clear n0_ n1_ n2_
               (try clear hb)
               (try clear hb2)
               (try clear hk)
               (try clear hi)
               refine hK.out _ _ ⟨(blk_cell BK708.out 0).trans rfl, (blk_cell BK708.out 1).trans rfl, (blk_cell BK708.out 2).trans rfl, (blk_cell BK708.out 3).trans rfl, ((HB.out.cell (World.block_lt_of_cell? w _ hw717_0)).trans hw717_0), ((HB.out.cell (World.block_lt_of_cell? w _ hw717_1)).trans hw717_1), ((HB.out.cell (World.block_lt_of_cell? w _ hw717_2)).trans hw717_2)⟩ (fun hHeld => ?_)
               clear hK K
               refine norm_ (a' := ?_) ?_ ?_
               rotate_left
               ·show Act.put _ (some 90) _ = _
                simp only [Act.put, List.setIfInBounds_toArray, List.set_cons_zero, List.set_cons_succ, i64_w, i32_w]
                rfl
               refine pure_ (i := 10) (N := some 80) (v := ?_) (a' := ?_) #[true, true, true, true, true, true, true, true, true, true, true, false, false, false, false, false] rfl rfl (any_of HT_.out (by kernel_rfl)) (fun _ _ _ h => h) (Or.inl ⟨by rfl, ?_⟩) ?_ ?_
               rotate_left
               ·intro w'
                go_simp
                with_reducible rfl
               rotate_left
               ·exact Z94
               refine pure_ (i := 11) (N := some 91) (v := ?_) (a' := ?_) #[true, true, true, true, true, true, true, true, true, true, true, true, false, false, false, false] rfl rfl (any_of HT_.out (by kernel_rfl)) (fun _ _ _ h => h) (Or.inl ⟨by rfl, ?_⟩) ?_ ?_
               rotate_left
               ·intro w'
                go_simp
                with_reducible rfl
               rotate_left
               ·exact Z94
               refine pure_ (i := 12) (N := some 92) (v := ?_) (a' := ?_) #[true, true, true, true, true, true, true, true, true, true, true, true, true, false, false, false] rfl rfl (any_of HT_.out (by kernel_rfl)) (fun _ _ _ h => h) (Or.inl ⟨by rfl, ?_⟩) ?_ ?_
               rotate_left
               ·intro w'
                go_simp
                with_reducible rfl
               rotate_left
               ·exact Z94
               refine one_ (i := 13) (N := some 13) #[true, true, true, true, true, true, true, true, true, true, true, true, true, true, false, false] rfl rfl (one_of HT_.out (by kernel_rfl)) (by decide) (fun K hK => ?_)
               refine box_step ?hg (N := 13) ?hd (cs := #[.int .i64 0, .int .i64 0, .string (⟨#[]⟩ : ByteArray)]) (t := 40) ?hr ?_; (case hd => rfl); (case hg => rfl); (case hr => first | (go_simp; done) | (go_simp; rfl))
               intro gb723 hg w43 hbox hb
               have n0_ := Aside0.mk (Kd.R_below (Kd.R_elderB Z101 gb723 (Nat.le_of_eq hg.symm)) hb)
               have n1_ := Aside0.mk (blk_below (g := gb708) (o := .cells #[.string a0_0, .slice (some ad717) l0_1.length c0_1, .slice A0_2 l0_2.length c0_2, .slice A0_3 l0_3.length c0_3] 28 (0, 0)) Z80 hb)
               have n2_ := Aside0.mk (below_step Z48 hb)
               have n3_ := Aside0.mk (hbox)
               have n4_ := Aside0.mk ((Z18 : w.heap.size ≤ gb723))
               have n5_ := Aside0.mk ((Z18 : w.heap.size ≤ gb723))
               have n6_ := Aside0.mk ((Z11 : gb708 ≠ gb723))
               have n7_ := Aside0.mk ((Z12 : gb723 ≠ gb708))
               clear HO_9
               clear BK708
               clear HB
               have HO_9 := n0_
               have BK708 := n1_
               have HB := n2_
               have BK723 := n3_
               have GW723 := n4_
               have GE723 := n5_
               have NB708_723 := n6_
               have NB723_708 := n7_
               clear n0_ n1_ n2_ n3_ n4_ n5_ n6_ n7_
               clear hb hbox hg
               refine hK.out _ _ ⟨(blk_cell BK708.out 0).trans rfl, (blk_cell BK708.out 1).trans rfl, (blk_cell BK708.out 2).trans rfl, (blk_cell BK708.out 3).trans rfl, ((HB.out.cell (World.block_lt_of_cell? w _ hw717_0)).trans hw717_0), ((HB.out.cell (World.block_lt_of_cell? w _ hw717_1)).trans hw717_1), ((HB.out.cell (World.block_lt_of_cell? w _ hw717_2)).trans hw717_2)⟩ (fun hHeld => ?_)
               clear hK K
               refine norm_ (a' := ?_) ?_ ?_
               rotate_left
               ·show Act.put _ (some 13) _ = _
                simp only [Act.put, List.setIfInBounds_toArray, List.set_cons_zero, List.set_cons_succ, i64_w, i32_w]
                rfl
               exact norm_ Z111 (hCont (gb723) _ ⟨hHeld, Z68, Z80, Z79, GW723.out, GE723.out, NB708_723.out, NB723_708.out, Z22⟩)
              skip
              refine box_step ?hg (N := 13) ?hd (cs := #[.int .i64 0, .int .i64 0, .string (⟨#[]⟩ : ByteArray)]) (t := 40) ?hr ?_; (case hd => rfl); (case hg => rfl); (case hr => first | (go_simp; done) | (go_simp; rfl))
              intro gb723 hg w42 hbox hb
              have n0_ := Aside0.mk (Kd.R_below (Kd.R_elderB Z101 gb723 (Nat.le_of_eq hg.symm)) hb)
              have n1_ := Aside0.mk (blk_below (g := gb708) (o := .cells #[.string a0_0, .slice (some ad717) l0_1.length c0_1, .slice A0_2 l0_2.length c0_2, .slice A0_3 l0_3.length c0_3] 28 (0, 0)) Z80 hb)
              have n2_ := Aside0.mk (below_step Z48 hb)
              have n3_ := Aside0.mk (hbox)
              have n4_ := Aside0.mk ((Z18 : w.heap.size ≤ gb723))
              have n5_ := Aside0.mk ((Z18 : w.heap.size ≤ gb723))
              have n6_ := Aside0.mk ((Z11 : gb708 ≠ gb723))
              have n7_ := Aside0.mk ((Z12 : gb723 ≠ gb708))
              clear HO_9
              clear BK708
              clear HB
              have HO_9 := n0_
              have BK708 := n1_
              have HB := n2_
              have BK723 := n3_
              have GW723 := n4_
              have GE723 := n5_
              have NB708_723 := n6_
              have NB723_708 := n7_
              clear n0_ n1_ n2_ n3_ n4_ n5_ n6_ n7_
              clear hb hbox hg
              refine hK.out _ _ ⟨(blk_cell BK708.out 0).trans rfl, (blk_cell BK708.out 1).trans rfl, (blk_cell BK708.out 2).trans rfl, (blk_cell BK708.out 3).trans rfl, ((HB.out.cell (World.block_lt_of_cell? w _ hw717_0)).trans hw717_0), ((HB.out.cell (World.block_lt_of_cell? w _ hw717_1)).trans hw717_1), ((HB.out.cell (World.block_lt_of_cell? w _ hw717_2)).trans hw717_2)⟩ (fun hHeld => ?_)
              clear hK K
              refine norm_ (a' := ?_) ?_ ?_
              rotate_left
              ·show Act.put _ (some 13) _ = _
               simp only [Act.put, List.setIfInBounds_toArray, List.set_cons_zero, List.set_cons_succ, i64_w, i32_w]
               rfl
              refine one_ (i := 9) (N := some 90) #[true, true, true, true, true, true, true, true, true, true, false, false, false, true, false, false] rfl rfl (one_of HT_.out (by kernel_rfl)) (by decide) (fun K hK => ?_)
              refine goes_ Try.func116 (by kernel_rfl) rfl #[.int .i64 ((rd_T56 l0_1 x11_3).f1), .slice A41 (l1.drop (x10_3 : Int).toNat).length (c1 - x10_3.toNat)] (by rfl) rfl rfl Z15 ?_
              with_reducible refine (alumref21_one.calls kj24 ((rd_T56 l0_1 x11_3).f1) _ _ (l1.drop (x10_3 : Int).toNat) t719 t720 t721 t722 _ ?side1 ?side2 A38.out).mono ?_
              (case side1 => repeat (first | exact (Kd.C_below HR718.out HB.out) | (with_reducible refine Kd.C_alloc ?_ _) | (with_reducible refine Kd.C_drewN ?_ _) | (with_reducible refine Kd.C_drew ?_)))
              (case side2 => exact HC718.out)
              rintro e w43 ⟨rfl, hb⟩
              refine ⟨_, rfl, ?_⟩
              have n0_ := Aside0.mk (Kd.R_below Z101 hb)
              have n1_ := Aside0.mk (blk_below (g := gb708) (o := .cells #[.string a0_0, .slice (some ad717) l0_1.length c0_1, .slice A0_2 l0_2.length c0_2, .slice A0_3 l0_3.length c0_3] 28 (0, 0)) Z80 hb)
              have n2_ := Aside0.mk (blk_below (g := gb723) (o := .cells #[.int .i64 0, .int .i64 0, .string (⟨#[]⟩ : ByteArray)] 40 (0, 0)) Z79 hb)
              have n3_ := Aside0.mk (below_step Z22 hb)
              clear HO_9
              clear BK708
              clear BK723
              clear HB
              have HO_9 := n0_
              have BK708 := n1_
              have BK723 := n2_
              have HB := n3_
              clear n0_ n1_ n2_ n3_
              (try clear hb)
              (try clear hb2)
              (try clear hk)
              (try clear hi)
              refine hK.out _ _ ⟨(blk_cell BK708.out 0).trans rfl, (blk_cell BK708.out 1).trans rfl, (blk_cell BK708.out 2).trans rfl, (blk_cell BK708.out 3).trans rfl, ((HB.out.cell (World.block_lt_of_cell? w _ hw717_0)).trans hw717_0), ((HB.out.cell (World.block_lt_of_cell? w _ hw717_1)).trans hw717_1), ((HB.out.cell (World.block_lt_of_cell? w _ hw717_2)).trans hw717_2)⟩ (fun hHeld => ?_)
              clear hK K
              refine norm_ (a' := ?_) ?_ ?_
              rotate_left
              ·show Act.put _ (some 90) _ = _
               simp only [Act.put, List.setIfInBounds_toArray, List.set_cons_zero, List.set_cons_succ, i64_w, i32_w]
               rfl
              refine pure_ (i := 10) (N := some 80) (v := ?_) (a' := ?_) #[true, true, true, true, true, true, true, true, true, true, true, false, false, true, false, false] rfl rfl (any_of HT_.out (by kernel_rfl)) (fun _ _ _ h => h) (Or.inl ⟨by rfl, ?_⟩) ?_ ?_
              rotate_left
              ·intro w'
               go_simp
               with_reducible rfl
              rotate_left
              ·exact Z94
              refine pure_ (i := 11) (N := some 91) (v := ?_) (a' := ?_) #[true, true, true, true, true, true, true, true, true, true, true, true, false, true, false, false] rfl rfl (any_of HT_.out (by kernel_rfl)) (fun _ _ _ h => h) (Or.inl ⟨by rfl, ?_⟩) ?_ ?_
              rotate_left
              ·intro w'
               go_simp
               with_reducible rfl
              rotate_left
              ·exact Z94
              refine pure_ (i := 12) (N := some 92) (v := ?_) (a' := ?_) #[true, true, true, true, true, true, true, true, true, true, true, true, true, true, false, false] rfl rfl (any_of HT_.out (by kernel_rfl)) (fun _ _ _ h => h) (Or.inl ⟨by rfl, ?_⟩) ?_ ?_
              rotate_left
              ·intro w'
               go_simp
               with_reducible rfl
              rotate_left
              ·exact Z94
              exact norm_ Z111 (hCont (gb723) _ ⟨hHeld, Z68, Z80, Z79, GW723.out, GE723.out, NB708_723.out, NB723_708.out, Z22⟩)
             rintro gb723 w44 ⟨hS_, h0_, h1_, h2_, h3_, h4_, h5_, h6_, h7_⟩
             have n0_ : Aside0 (Kd.R k40 40 w44 w.heap.size (fun k_ => k_ ≠ gb723) u9 x9_3) := ⟨h0_⟩
             have n1_ : Aside0 (w44.heap[gb708]? = some (.cells #[.string a0_0, .slice (some ad717) l0_1.length c0_1, .slice A0_2 l0_2.length c0_2, .slice A0_3 l0_3.length c0_3] 28 (0, 0))) := ⟨h1_⟩
             have n2_ : Aside0 (w44.heap[gb723]? = some (.cells #[.int .i64 0, .int .i64 0, .string (⟨#[]⟩ : ByteArray)] 40 (0, 0))) := ⟨h2_⟩
             have n3_ : Aside0 (w.heap.size ≤ gb723) := ⟨h3_⟩
             have n4_ : Aside0 (w.heap.size ≤ gb723) := ⟨h4_⟩
             have n5_ : Aside0 (gb708 ≠ gb723) := ⟨h5_⟩
             have n6_ : Aside0 (gb723 ≠ gb708) := ⟨h6_⟩
             have n7_ : Aside0 (Below w.heap.size w w44) := ⟨h7_⟩
             clear HO_9
             clear BK708
             clear HB
             clear h0_ h1_ h2_ h3_ h4_ h5_ h6_ h7_
             have HO_9 := n0_
             have BK708 := n1_
             have BK723 := n2_
             have GW723 := n3_
             have GE723 := n4_
             have NB708_723 := n5_
             have NB723_708 := n6_
             have HB := n7_
             clear n0_ n1_ n2_ n3_ n4_ n5_ n6_ n7_
             have hHeld : w44.cell? ⟨gb708, 0, none⟩ = some (.string a0_0) ∧ w44.cell? ⟨gb708, 1, none⟩ = some (.slice (some ad717) l0_1.length c0_1) ∧ w44.cell? ⟨gb708, 2, none⟩ = some (.slice A0_2 l0_2.length c0_2) ∧ w44.cell? ⟨gb708, 3, none⟩ = some (.slice A0_3 l0_3.length c0_3) ∧ w44.cell? (ad717.add ((x11_3).toNat * 3)) = some (.string ((rd_T56 l0_1 x11_3).f0)) ∧ w44.cell? ⟨(ad717.add ((x11_3).toNat * 3)).block, (ad717.add ((x11_3).toNat * 3)).off + 1, none⟩ = some (.int .i64 ((rd_T56 l0_1 x11_3).f1)) ∧ w44.cell? ⟨(ad717.add ((x11_3).toNat * 3)).block, (ad717.add ((x11_3).toNat * 3)).off + 2, none⟩ = some (.bool ((rd_T56 l0_1 x11_3).f2)) := hS_
             refine norm_ (a' := ?_) ?_ ?_
             rotate_left
             ·simp only [putAll, Act.put, List.setIfInBounds_toArray, List.set_cons_zero, List.set_cons_succ]
              rfl
             refine one_ (i := 14) (N := none) #[true, true, true, true, true, true, true, true, true, true, true, true, true, true, true, false] rfl rfl (one_of HT_.out (by kernel_rfl)) (by decide) (fun K hK => ?_)
             have hs45 : w44.cell? ⟨gb723, 0, none⟩ = some (.int .i64 0) := (blk_cell BK723.out 0).trans rfl
             have hfs45 := blk_frozen BK723.out 0
             have hns45_0 := NB708_723.out
             have hms45_0 := NB723_708.out
             have hs46 : w44.cell? ⟨gb723, 1, none⟩ = some (.int .i64 0) := (blk_cell BK723.out 1).trans rfl
             have hfs46 := blk_frozen BK723.out 1
             have hns46_0 := NB708_723.out
             have hms46_0 := NB723_708.out
             have hs47 : w44.cell? ⟨gb723, 2, none⟩ = some (.string (⟨#[]⟩ : ByteArray)) := (blk_cell BK723.out 2).trans rfl
             have hfs47 := blk_frozen BK723.out 2
             have hns47_0 := NB708_723.out
             have hms47_0 := NB723_708.out
             refine skip_ (w1 := ?_) (by rfl) rfl ?_ ?_
             rotate_left
             ·go_simp
              rfl
             refine hK.out _ _ ⟨((cell_far (p := ⟨gb723, _, none⟩) NB708_723.out _).trans (((cell_far (p := ⟨gb723, _, none⟩) NB708_723.out _).trans (((cell_far (p := ⟨gb723, _, none⟩) NB708_723.out _).trans (hHeld.1)))))), ((cell_far (p := ⟨gb723, _, none⟩) NB708_723.out _).trans (((cell_far (p := ⟨gb723, _, none⟩) NB708_723.out _).trans (((cell_far (p := ⟨gb723, _, none⟩) NB708_723.out _).trans (hHeld.2.1)))))), ((cell_far (p := ⟨gb723, _, none⟩) NB708_723.out _).trans (((cell_far (p := ⟨gb723, _, none⟩) NB708_723.out _).trans (((cell_far (p := ⟨gb723, _, none⟩) NB708_723.out _).trans (hHeld.2.2.1)))))), ((cell_far (p := ⟨gb723, _, none⟩) NB708_723.out _).trans (((cell_far (p := ⟨gb723, _, none⟩) NB708_723.out _).trans (((cell_far (p := ⟨gb723, _, none⟩) NB708_723.out _).trans (hHeld.2.2.2.1)))))), ((cell_far (p := ⟨gb723, _, none⟩) Z6 _).trans (((cell_far (p := ⟨gb723, _, none⟩) Z6 _).trans (((cell_far (p := ⟨gb723, _, none⟩) Z6 _).trans (hHeld.2.2.2.2.1)))))), ((cell_far (p := ⟨gb723, _, none⟩) Z8 _).trans (((cell_far (p := ⟨gb723, _, none⟩) Z8 _).trans (((cell_far (p := ⟨gb723, _, none⟩) Z8 _).trans (hHeld.2.2.2.2.2.1)))))), ((cell_far (p := ⟨gb723, _, none⟩) Z7 _).trans (((cell_far (p := ⟨gb723, _, none⟩) Z7 _).trans (((cell_far (p := ⟨gb723, _, none⟩) Z7 _).trans (hHeld.2.2.2.2.2.2))))))⟩ (fun hHeld => ?_)
             clear hK K
             refine pure_ (i := 15) (N := some 14) (v := ?_) (a' := ?_) #[true, true, true, true, true, true, true, true, true, true, true, true, true, true, true, true] rfl rfl (any_of HT_.out (by kernel_rfl)) (fun _ _ _ h => h) (Or.inl ⟨by rfl, ?_⟩) ?_ ?_
             rotate_left
             ·intro w'
              go_simp
              with_reducible rfl
             rotate_left
             ·exact Z94
             refine done_ (done_of HT_.out (by kernel_rfl)) ?_
             try go_wp2
             go_ret3
             exact ⟨_, Z112, Z66, Z26⟩
            rw [if_neg c39] at H
            have c39b0 : (t722 == 0) = false := beq_eq_false_iff_ne.mpr c39
            have c39b1 : (t722 != 0) = true := bne_iff_ne.mpr c39
            by_cases c48 : x9_3.length < 4398046511104
            rotate_left
            ·rw [if_neg c48] at H
             exact absurd H (by simp)
            rw [if_pos c48] at H
            have LMc48 := Aside0.mk c48
            clear c48
            obtain ⟨y724, hy724⟩ : ∃ y_ : List (S40), y_ = (x9_3 ++ [(⟨t719, t720, t721⟩ : S40)]) := ⟨_, rfl⟩
            replace H : (alumref21_Decode.l0 kj24 l1 (wrap64 (Int.tdiv (rd l1 0) 256)) (Int.tmod (rd l1 0) 256) y724 (wrap64 (x10_3 + t722)) (wrap64 (x11_3 + 1)) a0_0 l0_1 l0_2 l0_3) = some (r1, r2, r3) := by first | (rw [hy724]; with_reducible exact H) | (have H2_ := (Option.bind_some _ _).symm.trans H; rw [hy724]; with_reducible exact H2_) | (have H2_ := (Option.bind_some _ _).symm.trans H; with_reducible exact H2_) | with_reducible exact H | (rw [hy724]; exact H) | exact H
            have Ny724 := Aside0.mk hy724
            clear hy724
            have H' := Aside0.mk H
            clear H
            try go_wp2
            have n0_ := Aside0.mk (Kd.R_drew HO_9.out)
            have n1_ := Aside0.mk (blk_drew BK708.out)
            have n2_ := Aside0.mk (below_drew1 HB.out)
            clear HO_9
            clear BK708
            clear HB
            have HO_9 := n0_
            have BK708 := n1_
            have HB := n2_
            clear n0_ n1_ n2_
            have p717 : 0 ≤ (x11_3 : Int) := of_decide_eq_true Z121
            have q717 : x11_3 < (l0_1.length : Int) := of_decide_eq_true Z121
            obtain ⟨ad717, e717, hx717_0, hx717_1, hx717_2⟩ := at_T56 HR0_1.out x11_3 p717 q717
            have hw717_2 := hx717_2
            have hw717_1 := hx717_1
            have hw717_0 := hx717_0
            cases e717
            replace hx717_0 := (HB.out.cell (World.block_lt_of_cell? w _ hx717_0)).trans hx717_0
            replace hx717_1 := (HB.out.cell (World.block_lt_of_cell? w _ hx717_1)).trans hx717_1
            replace hx717_2 := (HB.out.cell (World.block_lt_of_cell? w _ hx717_2)).trans hx717_2
            replace p717 := eq_true p717
            replace q717 := eq_true q717
            obtain ⟨i050, hi050, _, hsz50, _⟩ := info_parts info3
            obtain ⟨A50, hcut50, hA50, hC50⟩ := print_drop_of (P := Try.prog) (Value.int .i64) 0 32 3 .i64 Try.underlying32 hi050 hsz50 (some ad711) c1 l1 x10_3 (of_decide_eq_true Z121) (of_decide_eq_true Z121) HC1.out
            have HR718 := Aside0.mk (Kd.C_of_reads (h1 := fun _ => rfl) (hA50 _ (Kd.reads_of_C HR1.out)))
            have HC718 := Aside0.mk hC50
            clear hA50 hC50 hi050 hsz50
            refine start_ (n := 16) (S := fun w' => w'.cell? ⟨gb708, 0, none⟩ = some (.string a0_0) ∧ w'.cell? ⟨gb708, 1, none⟩ = some (.slice (some ad717) l0_1.length c0_1) ∧ w'.cell? ⟨gb708, 2, none⟩ = some (.slice A0_2 l0_2.length c0_2) ∧ w'.cell? ⟨gb708, 3, none⟩ = some (.slice A0_3 l0_3.length c0_3) ∧ w'.cell? (ad717.add ((x11_3).toNat * 3)) = some (.string ((rd_T56 l0_1 x11_3).f0)) ∧ w'.cell? ⟨(ad717.add ((x11_3).toNat * 3)).block, (ad717.add ((x11_3).toNat * 3)).off + 1, none⟩ = some (.int .i64 ((rd_T56 l0_1 x11_3).f1)) ∧ w'.cell? ⟨(ad717.add ((x11_3).toNat * 3)).block, (ad717.add ((x11_3).toNat * 3)).off + 2, none⟩ = some (.bool ((rd_T56 l0_1 x11_3).f2))) (ds := []) #[false, false, false, false, false, false, false, false, false, false, false, false, false, false, false, false] (by kernel_rfl) rfl rfl ⟨(blk_cell BK708.out 0).trans rfl, (blk_cell BK708.out 1).trans rfl, (blk_cell BK708.out 2).trans rfl, (blk_cell BK708.out 3).trans rfl, ((HB.out.cell (World.block_lt_of_cell? w _ hw717_0)).trans hw717_0), ((HB.out.cell (World.block_lt_of_cell? w _ hw717_1)).trans hw717_1), ((HB.out.cell (World.block_lt_of_cell? w _ hw717_2)).trans hw717_2)⟩ (fun hHeld => ?_); refine with_tabW alumref21_Decode.tab17 alumref21_Decode.bits17 (fun HT_ HW_ => ?_)
            generalize wc.drew = w49 at HO_9 BK708 HB HR718 hx717_0 hx717_1 hx717_2 hHeld ⊢
            refine pure_ (i := 0) (N := some 81) (v := ?_) (a' := ?_) #[true, false, false, false, false, false, false, false, false, false, false, false, false, false, false, false] rfl rfl (any_of HT_.out (by kernel_rfl)) (fun _ _ _ h => h) (Or.inl ⟨by rfl, ?_⟩) ?_ ?_
            rotate_left
            ·intro w'
             go_simp
             with_reducible rfl
            rotate_left
            ·exact Z94
            refine pure_ (i := 2) (N := some 83) (v := ?_) (a' := ?_) #[true, false, true, false, false, false, false, false, false, false, false, false, false, false, false, false] rfl rfl (any_of HT_.out (by kernel_rfl)) (fun _ _ _ h => h) (Or.inl ⟨by rfl, ?_⟩) ?_ ?_
            rotate_left
            ·intro w'
             go_simp
             with_reducible rfl
            rotate_left
            ·exact Z94
            refine pure_ (i := 6) (N := some 87) (v := ?_) (a' := ?_) #[true, false, true, false, false, false, true, false, false, false, false, false, false, false, false, false] rfl rfl (any_of HT_.out (by kernel_rfl)) (fun _ _ _ h => h) (Or.inl ⟨by rfl, ?_⟩) ?_ ?_
            rotate_left
            ·intro w'
             go_simp
             with_reducible rfl
            rotate_left
            ·exact Z94
            refine pure_ (i := 7) (N := some 88) (v := ?_) (a' := ?_) #[true, false, true, false, false, false, true, true, false, false, false, false, false, false, false, false] rfl rfl (any_of HT_.out (by kernel_rfl)) (fun _ _ _ h => h) (Or.inl ⟨by rfl, ?_⟩) ?_ ?_
            rotate_left
            ·intro w'
             go_simp
             with_reducible rfl
            rotate_left
            ·exact Z94
            refine pure_ (i := 8) (N := some 89) (v := ?_) (a' := ?_) #[true, false, true, false, false, false, true, true, true, false, false, false, false, false, false, false] rfl rfl (any_of HT_.out (by kernel_rfl)) (fun _ _ _ h => h) (Or.inl ⟨by rfl, ?_⟩) ?_ ?_
            rotate_left
            ·intro w'
             go_simp
             with_reducible rfl
            rotate_left
            ·exact Z94
            refine take_ (i := 1) (N := some 82) (v := ?_) (a' := ?_) #[true, true, true, false, false, false, true, true, true, false, false, false, false, false, false, false] rfl rfl (take_ofW HT_.out HW_.out (by kernel_rfl)) (fun _ _ _ h => h) (Or.inl ⟨by rfl, ?_⟩) hHeld ?_ ?_
            rotate_left
            ·rintro w' ⟨s0, s1, s2, s3, s4, s5, s6⟩
             go_simp
             with_reducible rfl
            rotate_left
            ·exact Z94
            refine pure_ (i := 3) (N := some 84) (v := ?_) (a' := ?_) #[true, true, true, true, false, false, true, true, true, false, false, false, false, false, false, false] rfl rfl (any_of HT_.out (by kernel_rfl)) (fun _ _ _ h => h) (Or.inl ⟨by rfl, ?_⟩) ?_ ?_
            rotate_left
            ·intro w'
             go_simp
             with_reducible rfl
            rotate_left
            ·exact Z94
            refine pure_ (i := 4) (N := some 85) (v := ?_) (a' := ?_) #[true, true, true, true, true, false, true, true, true, false, false, false, false, false, false, false] rfl rfl (any_of HT_.out (by kernel_rfl)) (fun _ _ _ h => h) (Or.inl ⟨by rfl, ?_⟩) ?_ ?_
            rotate_left
            ·intro w'
             go_simp
             with_reducible rfl
            rotate_left
            ·exact Z94
            refine take_ (i := 5) (N := some 86) (v := ?_) (a' := ?_) #[true, true, true, true, true, true, true, true, true, false, false, false, false, false, false, false] rfl rfl (take_ofW HT_.out HW_.out (by kernel_rfl)) (fun _ _ _ h => h) (Or.inl ⟨by rfl, ?_⟩) hHeld ?_ ?_
            rotate_left
            ·rintro w' ⟨s0, s1, s2, s3, s4, s5, s6⟩
             go_simp
             with_reducible rfl
            rotate_left
            ·exact Z94
            refine join_ (σ := Nat) 2 #[true, true, true, true, true, true, true, true, true, true, true, true, true, true, false, false] (fun s_ => [(90, .tuple #[.agg #[.int .i64 t719, .int .i64 t720, .string t721], .int .i64 t722]), (13, .pointer (some ⟨s_, 0, none⟩)), (80, .tuple #[.agg #[.int .i64 t719, .int .i64 t720, .string t721], .int .i64 t722]), (91, .agg #[.int .i64 t719, .int .i64 t720, .string t721]), (92, .int .i64 t722)]) (fun s_ w' => (w'.cell? ⟨gb708, 0, none⟩ = some (.string a0_0) ∧ w'.cell? ⟨gb708, 1, none⟩ = some (.slice (some ad717) l0_1.length c0_1) ∧ w'.cell? ⟨gb708, 2, none⟩ = some (.slice A0_2 l0_2.length c0_2) ∧ w'.cell? ⟨gb708, 3, none⟩ = some (.slice A0_3 l0_3.length c0_3) ∧ w'.cell? (ad717.add ((x11_3).toNat * 3)) = some (.string ((rd_T56 l0_1 x11_3).f0)) ∧ w'.cell? ⟨(ad717.add ((x11_3).toNat * 3)).block, (ad717.add ((x11_3).toNat * 3)).off + 1, none⟩ = some (.int .i64 ((rd_T56 l0_1 x11_3).f1)) ∧ w'.cell? ⟨(ad717.add ((x11_3).toNat * 3)).block, (ad717.add ((x11_3).toNat * 3)).off + 2, none⟩ = some (.bool ((rd_T56 l0_1 x11_3).f2))) ∧ (Kd.R k40 40 w' w.heap.size (fun k_ => k_ ≠ s_) u9 x9_3) ∧ (w'.heap[gb708]? = some (.cells #[.string a0_0, .slice (some ad717) l0_1.length c0_1, .slice A0_2 l0_2.length c0_2, .slice A0_3 l0_3.length c0_3] 28 (0, 0))) ∧ (w'.heap[s_]? = some (.cells #[.int .i64 0, .int .i64 0, .string (⟨#[]⟩ : ByteArray)] 40 (0, 0))) ∧ (w.heap.size ≤ s_) ∧ (w.heap.size ≤ s_) ∧ (gb708 ≠ s_) ∧ (s_ ≠ gb708) ∧ (Below w.heap.size w w')) ?_ ?_
            rotate_left
            ·intro hCont
             refine two_ (i := 9) (j := 13) (Ni := some 90) (Nj := some 13) #[true, true, true, true, true, true, true, true, true, true, false, false, false, false, false, false] #[true, true, true, true, true, true, true, true, true, false, false, false, false, true, false, false] rfl rfl rfl rfl (two_of HT_.out (by kernel_rfl)) (by decide) (by decide) (fun K hK => ?_) (fun K hK => ?_)
             ·skip
              refine goes_ Try.func116 (by kernel_rfl) rfl #[.int .i64 ((rd_T56 l0_1 x11_3).f1), .slice A50 (l1.drop (x10_3 : Int).toNat).length (c1 - x10_3.toNat)] (by rfl) rfl rfl Z15 ?_
              with_reducible refine (alumref21_one.calls kj24 ((rd_T56 l0_1 x11_3).f1) _ _ (l1.drop (x10_3 : Int).toNat) t719 t720 t721 t722 _ ?side1 ?side2 A38.out).mono ?_
              (case side1 => repeat (first | exact (Kd.C_below HR718.out HB.out) | (with_reducible refine Kd.C_alloc ?_ _) | (with_reducible refine Kd.C_drewN ?_ _) | (with_reducible refine Kd.C_drew ?_)))
              (case side2 => exact HC718.out)
              rintro e w51 ⟨rfl, hb⟩
              refine ⟨_, rfl, ?_⟩
              have n0_ := Aside0.mk (Kd.R_below Z101 hb)
              have n1_ := Aside0.mk (blk_below (g := gb708) (o := .cells #[.string a0_0, .slice (some ad717) l0_1.length c0_1, .slice A0_2 l0_2.length c0_2, .slice A0_3 l0_3.length c0_3] 28 (0, 0)) Z80 hb)
              have n2_ := Aside0.mk (below_step Z48 hb)
              clear HO_9
              clear BK708
              clear HB
              have HO_9 := n0_
              have BK708 := n1_
              have HB := n2_
              clear n0_ n1_ n2_
              (try clear hb)
              (try clear hb2)
              (try clear hk)
              (try clear hi)
              refine hK.out _ _ ⟨(blk_cell BK708.out 0).trans rfl, (blk_cell BK708.out 1).trans rfl, (blk_cell BK708.out 2).trans rfl, (blk_cell BK708.out 3).trans rfl, ((HB.out.cell (World.block_lt_of_cell? w _ hw717_0)).trans hw717_0), ((HB.out.cell (World.block_lt_of_cell? w _ hw717_1)).trans hw717_1), ((HB.out.cell (World.block_lt_of_cell? w _ hw717_2)).trans hw717_2)⟩ (fun hHeld => ?_)
              clear hK K
              refine norm_ (a' := ?_) ?_ ?_
              rotate_left
              ·show Act.put _ (some 90) _ = _
               simp only [Act.put, List.setIfInBounds_toArray, List.set_cons_zero, List.set_cons_succ, i64_w, i32_w]
               rfl
              refine pure_ (i := 10) (N := some 80) (v := ?_) (a' := ?_) #[true, true, true, true, true, true, true, true, true, true, true, false, false, false, false, false] rfl rfl (any_of HT_.out (by kernel_rfl)) (fun _ _ _ h => h) (Or.inl ⟨by rfl, ?_⟩) ?_ ?_
              rotate_left
              ·intro w'
               go_simp
               with_reducible rfl
              rotate_left
              ·exact Z94
              refine pure_ (i := 11) (N := some 91) (v := ?_) (a' := ?_) #[true, true, true, true, true, true, true, true, true, true, true, true, false, false, false, false] rfl rfl (any_of HT_.out (by kernel_rfl)) (fun _ _ _ h => h) (Or.inl ⟨by rfl, ?_⟩) ?_ ?_
              rotate_left
              ·intro w'
               go_simp
               with_reducible rfl
              rotate_left
              ·exact Z94
              refine pure_ (i := 12) (N := some 92) (v := ?_) (a' := ?_) #[true, true, true, true, true, true, true, true, true, true, true, true, true, false, false, false] rfl rfl (any_of HT_.out (by kernel_rfl)) (fun _ _ _ h => h) (Or.inl ⟨by rfl, ?_⟩) ?_ ?_
              rotate_left
              ·intro w'
               go_simp
               with_reducible rfl
              rotate_left
              ·exact Z94
              refine one_ (i := 13) (N := some 13) #[true, true, true, true, true, true, true, true, true, true, true, true, true, true, false, false] rfl rfl (one_of HT_.out (by kernel_rfl)) (by decide) (fun K hK => ?_)
              refine box_step ?hg (N := 13) ?hd (cs := #[.int .i64 0, .int .i64 0, .string (⟨#[]⟩ : ByteArray)]) (t := 40) ?hr ?_; (case hd => rfl); (case hg => rfl); (case hr => first | (go_simp; done) | (go_simp; rfl))
              intro gb723 hg w52 hbox hb
              have n0_ := Aside0.mk (Kd.R_below (Kd.R_elderB Z101 gb723 (Nat.le_of_eq hg.symm)) hb)
              have n1_ := Aside0.mk (blk_below (g := gb708) (o := .cells #[.string a0_0, .slice (some ad717) l0_1.length c0_1, .slice A0_2 l0_2.length c0_2, .slice A0_3 l0_3.length c0_3] 28 (0, 0)) Z80 hb)
              have n2_ := Aside0.mk (below_step Z48 hb)
              have n3_ := Aside0.mk (hbox)
              have n4_ := Aside0.mk ((Z18 : w.heap.size ≤ gb723))
              have n5_ := Aside0.mk ((Z18 : w.heap.size ≤ gb723))
              have n6_ := Aside0.mk ((Z11 : gb708 ≠ gb723))
              have n7_ := Aside0.mk ((Z12 : gb723 ≠ gb708))
              clear HO_9
              clear BK708
              clear HB
              have HO_9 := n0_
              have BK708 := n1_
              have HB := n2_
              have BK723 := n3_
              have GW723 := n4_
              have GE723 := n5_
              have NB708_723 := n6_
              have NB723_708 := n7_
              clear n0_ n1_ n2_ n3_ n4_ n5_ n6_ n7_
              clear hb hbox hg
              refine hK.out _ _ ⟨(blk_cell BK708.out 0).trans rfl, (blk_cell BK708.out 1).trans rfl, (blk_cell BK708.out 2).trans rfl, (blk_cell BK708.out 3).trans rfl, ((HB.out.cell (World.block_lt_of_cell? w _ hw717_0)).trans hw717_0), ((HB.out.cell (World.block_lt_of_cell? w _ hw717_1)).trans hw717_1), ((HB.out.cell (World.block_lt_of_cell? w _ hw717_2)).trans hw717_2)⟩ (fun hHeld => ?_)
              clear hK K
              refine norm_ (a' := ?_) ?_ ?_
              rotate_left
              ·show Act.put _ (some 13) _ = _
               simp only [Act.put, List.setIfInBounds_toArray, List.set_cons_zero, List.set_cons_succ, i64_w, i32_w]
               rfl
              exact norm_ Z111 (hCont (gb723) _ ⟨hHeld, Z68, Z80, Z79, GW723.out, GE723.out, NB708_723.out, NB723_708.out, Z22⟩)
             skip
             refine box_step ?hg (N := 13) ?hd (cs := #[.int .i64 0, .int .i64 0, .string (⟨#[]⟩ : ByteArray)]) (t := 40) ?hr ?_; (case hd => rfl); (case hg => rfl); (case hr => first | (go_simp; done) | (go_simp; rfl))
             intro gb723 hg w51 hbox hb
             have n0_ := Aside0.mk (Kd.R_below (Kd.R_elderB Z101 gb723 (Nat.le_of_eq hg.symm)) hb)
             have n1_ := Aside0.mk (blk_below (g := gb708) (o := .cells #[.string a0_0, .slice (some ad717) l0_1.length c0_1, .slice A0_2 l0_2.length c0_2, .slice A0_3 l0_3.length c0_3] 28 (0, 0)) Z80 hb)
             have n2_ := Aside0.mk (below_step Z48 hb)
             have n3_ := Aside0.mk (hbox)
             have n4_ := Aside0.mk ((Z18 : w.heap.size ≤ gb723))
             have n5_ := Aside0.mk ((Z18 : w.heap.size ≤ gb723))
             have n6_ := Aside0.mk ((Z11 : gb708 ≠ gb723))
             have n7_ := Aside0.mk ((Z12 : gb723 ≠ gb708))
             clear HO_9
             clear BK708
             clear HB
             have HO_9 := n0_
             have BK708 := n1_
             have HB := n2_
             have BK723 := n3_
             have GW723 := n4_
             have GE723 := n5_
             have NB708_723 := n6_
             have NB723_708 := n7_
             clear n0_ n1_ n2_ n3_ n4_ n5_ n6_ n7_
             clear hb hbox hg
             refine hK.out _ _ ⟨(blk_cell BK708.out 0).trans rfl, (blk_cell BK708.out 1).trans rfl, (blk_cell BK708.out 2).trans rfl, (blk_cell BK708.out 3).trans rfl, ((HB.out.cell (World.block_lt_of_cell? w _ hw717_0)).trans hw717_0), ((HB.out.cell (World.block_lt_of_cell? w _ hw717_1)).trans hw717_1), ((HB.out.cell (World.block_lt_of_cell? w _ hw717_2)).trans hw717_2)⟩ (fun hHeld => ?_)
             clear hK K
             refine norm_ (a' := ?_) ?_ ?_
             rotate_left
             ·show Act.put _ (some 13) _ = _
              simp only [Act.put, List.setIfInBounds_toArray, List.set_cons_zero, List.set_cons_succ, i64_w, i32_w]
              rfl
             refine one_ (i := 9) (N := some 90) #[true, true, true, true, true, true, true, true, true, true, false, false, false, true, false, false] rfl rfl (one_of HT_.out (by kernel_rfl)) (by decide) (fun K hK => ?_)
             refine goes_ Try.func116 (by kernel_rfl) rfl #[.int .i64 ((rd_T56 l0_1 x11_3).f1), .slice A50 (l1.drop (x10_3 : Int).toNat).length (c1 - x10_3.toNat)] (by rfl) rfl rfl Z15 ?_
             with_reducible refine (alumref21_one.calls kj24 ((rd_T56 l0_1 x11_3).f1) _ _ (l1.drop (x10_3 : Int).toNat) t719 t720 t721 t722 _ ?side1 ?side2 A38.out).mono ?_
             (case side1 => repeat (first | exact (Kd.C_below HR718.out HB.out) | (with_reducible refine Kd.C_alloc ?_ _) | (with_reducible refine Kd.C_drewN ?_ _) | (with_reducible refine Kd.C_drew ?_)))
             (case side2 => exact HC718.out)
             rintro e w52 ⟨rfl, hb⟩
             refine ⟨_, rfl, ?_⟩
             have n0_ := Aside0.mk (Kd.R_below Z101 hb)
             have n1_ := Aside0.mk (blk_below (g := gb708) (o := .cells #[.string a0_0, .slice (some ad717) l0_1.length c0_1, .slice A0_2 l0_2.length c0_2, .slice A0_3 l0_3.length c0_3] 28 (0, 0)) Z80 hb)
             have n2_ := Aside0.mk (blk_below (g := gb723) (o := .cells #[.int .i64 0, .int .i64 0, .string (⟨#[]⟩ : ByteArray)] 40 (0, 0)) Z79 hb)
             have n3_ := Aside0.mk (below_step Z22 hb)
             clear HO_9
             clear BK708
             clear BK723
             clear HB
             have HO_9 := n0_
             have BK708 := n1_
             have BK723 := n2_
             have HB := n3_
             clear n0_ n1_ n2_ n3_
             (try clear hb)
             (try clear hb2)
             (try clear hk)
             (try clear hi)
             refine hK.out _ _ ⟨(blk_cell BK708.out 0).trans rfl, (blk_cell BK708.out 1).trans rfl, (blk_cell BK708.out 2).trans rfl, (blk_cell BK708.out 3).trans rfl, ((HB.out.cell (World.block_lt_of_cell? w _ hw717_0)).trans hw717_0), ((HB.out.cell (World.block_lt_of_cell? w _ hw717_1)).trans hw717_1), ((HB.out.cell (World.block_lt_of_cell? w _ hw717_2)).trans hw717_2)⟩ (fun hHeld => ?_)
             clear hK K
             refine norm_ (a' := ?_) ?_ ?_
             rotate_left
             ·show Act.put _ (some 90) _ = _
              simp only [Act.put, List.setIfInBounds_toArray, List.set_cons_zero, List.set_cons_succ, i64_w, i32_w]
              rfl
             refine pure_ (i := 10) (N := some 80) (v := ?_) (a' := ?_) #[true, true, true, true, true, true, true, true, true, true, true, false, false, true, false, false] rfl rfl (any_of HT_.out (by kernel_rfl)) (fun _ _ _ h => h) (Or.inl ⟨by rfl, ?_⟩) ?_ ?_
             rotate_left
             ·intro w'
              go_simp
              with_reducible rfl
             rotate_left
             ·exact Z94
             refine pure_ (i := 11) (N := some 91) (v := ?_) (a' := ?_) #[true, true, true, true, true, true, true, true, true, true, true, true, false, true, false, false] rfl rfl (any_of HT_.out (by kernel_rfl)) (fun _ _ _ h => h) (Or.inl ⟨by rfl, ?_⟩) ?_ ?_
             rotate_left
             ·intro w'
              go_simp
              with_reducible rfl
             rotate_left
             ·exact Z94
             refine pure_ (i := 12) (N := some 92) (v := ?_) (a' := ?_) #[true, true, true, true, true, true, true, true, true, true, true, true, true, true, false, false] rfl rfl (any_of HT_.out (by kernel_rfl)) (fun _ _ _ h => h) (Or.inl ⟨by rfl, ?_⟩) ?_ ?_
             rotate_left
             ·intro w'
              go_simp
              with_reducible rfl
             rotate_left
             ·exact Z94
             exact norm_ Z111 (hCont (gb723) _ ⟨hHeld, Z68, Z80, Z79, GW723.out, GE723.out, NB708_723.out, NB723_708.out, Z22⟩)
            rintro gb723 w53 ⟨hS_, h0_, h1_, h2_, h3_, h4_, h5_, h6_, h7_⟩
            have n0_ : Aside0 (Kd.R k40 40 w53 w.heap.size (fun k_ => k_ ≠ gb723) u9 x9_3) := ⟨h0_⟩
            have n1_ : Aside0 (w53.heap[gb708]? = some (.cells #[.string a0_0, .slice (some ad717) l0_1.length c0_1, .slice A0_2 l0_2.length c0_2, .slice A0_3 l0_3.length c0_3] 28 (0, 0))) := ⟨h1_⟩
            have n2_ : Aside0 (w53.heap[gb723]? = some (.cells #[.int .i64 0, .int .i64 0, .string (⟨#[]⟩ : ByteArray)] 40 (0, 0))) := ⟨h2_⟩
            have n3_ : Aside0 (w.heap.size ≤ gb723) := ⟨h3_⟩
            have n4_ : Aside0 (w.heap.size ≤ gb723) := ⟨h4_⟩
            have n5_ : Aside0 (gb708 ≠ gb723) := ⟨h5_⟩
            have n6_ : Aside0 (gb723 ≠ gb708) := ⟨h6_⟩
            have n7_ : Aside0 (Below w.heap.size w w53) := ⟨h7_⟩
            clear HO_9
            clear BK708
            clear HB
            clear h0_ h1_ h2_ h3_ h4_ h5_ h6_ h7_
            have HO_9 := n0_
            have BK708 := n1_
            have BK723 := n2_
            have GW723 := n3_
            have GE723 := n4_
            have NB708_723 := n5_
            have NB723_708 := n6_
            have HB := n7_
            clear n0_ n1_ n2_ n3_ n4_ n5_ n6_ n7_
            have hHeld : w53.cell? ⟨gb708, 0, none⟩ = some (.string a0_0) ∧ w53.cell? ⟨gb708, 1, none⟩ = some (.slice (some ad717) l0_1.length c0_1) ∧ w53.cell? ⟨gb708, 2, none⟩ = some (.slice A0_2 l0_2.length c0_2) ∧ w53.cell? ⟨gb708, 3, none⟩ = some (.slice A0_3 l0_3.length c0_3) ∧ w53.cell? (ad717.add ((x11_3).toNat * 3)) = some (.string ((rd_T56 l0_1 x11_3).f0)) ∧ w53.cell? ⟨(ad717.add ((x11_3).toNat * 3)).block, (ad717.add ((x11_3).toNat * 3)).off + 1, none⟩ = some (.int .i64 ((rd_T56 l0_1 x11_3).f1)) ∧ w53.cell? ⟨(ad717.add ((x11_3).toNat * 3)).block, (ad717.add ((x11_3).toNat * 3)).off + 2, none⟩ = some (.bool ((rd_T56 l0_1 x11_3).f2)) := hS_
            refine norm_ (a' := ?_) ?_ ?_
            rotate_left
            ·simp only [putAll, Act.put, List.setIfInBounds_toArray, List.set_cons_zero, List.set_cons_succ]
             rfl
            refine one_ (i := 14) (N := none) #[true, true, true, true, true, true, true, true, true, true, true, true, true, true, true, false] rfl rfl (one_of HT_.out (by kernel_rfl)) (by decide) (fun K hK => ?_)
            have hs54 : w53.cell? ⟨gb723, 0, none⟩ = some (.int .i64 0) := (blk_cell BK723.out 0).trans rfl
            have hfs54 := blk_frozen BK723.out 0
            have hns54_0 := NB708_723.out
            have hms54_0 := NB723_708.out
            have hs55 : w53.cell? ⟨gb723, 1, none⟩ = some (.int .i64 0) := (blk_cell BK723.out 1).trans rfl
            have hfs55 := blk_frozen BK723.out 1
            have hns55_0 := NB708_723.out
            have hms55_0 := NB723_708.out
            have hs56 : w53.cell? ⟨gb723, 2, none⟩ = some (.string (⟨#[]⟩ : ByteArray)) := (blk_cell BK723.out 2).trans rfl
            have hfs56 := blk_frozen BK723.out 2
            have hns56_0 := NB708_723.out
            have hms56_0 := NB723_708.out
            refine skip_ (w1 := ?_) (by rfl) rfl ?_ ?_
            rotate_left
            ·go_simp
             rfl
            refine hK.out _ _ ⟨((cell_far (p := ⟨gb723, _, none⟩) NB708_723.out _).trans (((cell_far (p := ⟨gb723, _, none⟩) NB708_723.out _).trans (((cell_far (p := ⟨gb723, _, none⟩) NB708_723.out _).trans (hHeld.1)))))), ((cell_far (p := ⟨gb723, _, none⟩) NB708_723.out _).trans (((cell_far (p := ⟨gb723, _, none⟩) NB708_723.out _).trans (((cell_far (p := ⟨gb723, _, none⟩) NB708_723.out _).trans (hHeld.2.1)))))), ((cell_far (p := ⟨gb723, _, none⟩) NB708_723.out _).trans (((cell_far (p := ⟨gb723, _, none⟩) NB708_723.out _).trans (((cell_far (p := ⟨gb723, _, none⟩) NB708_723.out _).trans (hHeld.2.2.1)))))), ((cell_far (p := ⟨gb723, _, none⟩) NB708_723.out _).trans (((cell_far (p := ⟨gb723, _, none⟩) NB708_723.out _).trans (((cell_far (p := ⟨gb723, _, none⟩) NB708_723.out _).trans (hHeld.2.2.2.1)))))), ((cell_far (p := ⟨gb723, _, none⟩) Z6 _).trans (((cell_far (p := ⟨gb723, _, none⟩) Z6 _).trans (((cell_far (p := ⟨gb723, _, none⟩) Z6 _).trans (hHeld.2.2.2.2.1)))))), ((cell_far (p := ⟨gb723, _, none⟩) Z8 _).trans (((cell_far (p := ⟨gb723, _, none⟩) Z8 _).trans (((cell_far (p := ⟨gb723, _, none⟩) Z8 _).trans (hHeld.2.2.2.2.2.1)))))), ((cell_far (p := ⟨gb723, _, none⟩) Z7 _).trans (((cell_far (p := ⟨gb723, _, none⟩) Z7 _).trans (((cell_far (p := ⟨gb723, _, none⟩) Z7 _).trans (hHeld.2.2.2.2.2.2))))))⟩ (fun hHeld => ?_)
            clear hK K
            refine pure_ (i := 15) (N := some 14) (v := ?_) (a' := ?_) #[true, true, true, true, true, true, true, true, true, true, true, true, true, true, true, true] rfl rfl (any_of HT_.out (by kernel_rfl)) (fun _ _ _ h => h) (Or.inl ⟨by rfl, ?_⟩) ?_ ?_
            rotate_left
            ·intro w'
             go_simp
             with_reducible rfl
            rotate_left
            ·exact Z94
            refine done_ (done_of HT_.out (by kernel_rfl)) ?_
            have hnb57 := NB723_708.out
            have hnc57 := NB708_723.out
            have hcz58_0 : w53.cell? ⟨gb723, 0, none⟩ = some (.int .i64 0) := (blk_cell BK723.out 0).trans rfl
            have hcz58_1 : w53.cell? ⟨gb723, 1, none⟩ = some (.int .i64 0) := (blk_cell BK723.out 1).trans rfl
            have hcz58_2 : w53.cell? ⟨gb723, 2, none⟩ = some (.string (⟨#[]⟩ : ByteArray)) := (blk_cell BK723.out 2).trans rfl
            have hfz58_0 := blk_frozen BK723.out 0
            have hfz58_1 := blk_frozen BK723.out 1
            have hfz58_2 := blk_frozen BK723.out 2
            try go_wp2_with (first | ((with_reducible refine gate_builtin (b := .append) (xs := #[.tmp 95, .tmp 97]) rfl ?_); (try (refine gate_guard (by rfl) ?_; dsimp only)); at_builtin; refine Kd.R_append k40 (w0 := w) w.heap.size rfl (.tmp 95) (.tmp 97) 37 40 (.agg #[(.int .i64 0), (.int .i64 0), (.string ⟨#[]⟩)]) 32 rfl Try.underlying37 info40 rfl (by decide) (by omega) u9 x9_3 (⟨t719, t720, t721⟩ : S40) [.int .i64 t719, .int .i64 t720, .string t721] (fun k_ => k_ ≠ gb723) (fun _ => False) rfl (by first | (go_simp; done) | (go_simp; rfl)) ?aP (fun _ hk => hk.elim) ?aF ?aO ?aB ?aS ?aL ?_; (case aP => exact k40_mkM _ _ _ (⟨t719, t720, t721⟩ : S40)); (case aB => exact Z22); (case aF => exact (fun k_ hk => Kd.freshB (g := gb723) (o := .cells #[.int .i64 t719, .int .i64 t720, .string t721] 40 (0, 0)) Z4 k_ hk)); (case aO => exact (by (with_reducible repeat (first | apply Kd.R_alloc | apply Kd.R_drewN | apply Kd.R_drew)); exact Kd.R_mono (Kd.R_far (p := ⟨gb723, 2, none⟩) (Kd.R_far (p := ⟨gb723, 1, none⟩) (Kd.R_far (p := ⟨gb723, 0, none⟩) (Kd.R_mono HO_9.out (fun k_ hk => (⟨hk, hk⟩ : _ ∧ k_ ≠ gb723))) (fun _ hk => hk.2) (.int .i64 t719)) (fun _ hk => hk.2) (.int .i64 t720)) (fun _ hk => hk.2) (.string t721)) (fun _ hk => hk.1))); (case aS => exact (below_size Z22)); (case aL => have := LMc48.out; omega); intro v725 w59 ho hb hg hat; rw [← Ny724.out] at ho; have n0_ := Aside0.mk (blk_grown (g := gb708) (o := .cells #[.string a0_0, .slice (some ad717) l0_1.length c0_1, .slice A0_2 l0_2.length c0_2, .slice A0_3 l0_3.length c0_3] 28 (0, 0)) (by (with_reducible repeat (first | refine blk_drewN ?_ _ | refine blk_drew ?_ | refine blk_alloc ?_ _)); refine blk_far ?_ NB708_723.out _; (with_reducible repeat (first | refine blk_drewN ?_ _ | refine blk_drew ?_ | refine blk_alloc ?_ _)); refine blk_far ?_ NB708_723.out _; (with_reducible repeat (first | refine blk_drewN ?_ _ | refine blk_drew ?_ | refine blk_alloc ?_ _)); refine blk_far ?_ NB708_723.out _; (with_reducible repeat (first | refine blk_drewN ?_ _ | refine blk_drew ?_ | refine blk_alloc ?_ _)); exact BK708.out) hg (Kd.R_ne HO_9.out BK708.out (by decide))); have n1_ := Aside0.mk (blk_grown (g := gb723) (o := .cells #[.int .i64 t719, .int .i64 t720, .string t721] 40 (0, 0)) Z4 hg (Kd.R_away HO_9.out (fun _ hk => hk))); have n2_ := Aside0.mk (hb); have n3_ := Aside0.mk (ho); clear BK708; clear BK723; clear HB; clear HO_9; have BK708 := n0_; have BK723 := n1_; have HB := n2_; have HO726 := n3_; clear n0_ n1_ n2_ n3_; clear ho hb hg hat))
            go_roundg kj24
            case measure => have := HJ2.out; have := HJ9.out; have := HK3.out; have := HJ19.out; have := HJ24.out; omega
            case rel => exact ⟨(y724), (wrap64 (x10_3 + t722)), (wrap64 (x11_3 + 1)), Z122, Z122, H', ⟨Z113⟩, ⟨by (with_reducible repeat (first | apply Kd.R_alloc | apply Kd.R_drewN | apply Kd.R_drew)); exact Kd.R_mono HO726.out (fun _ hk => trivial)⟩, ⟨Z90⟩, ⟨Z26⟩⟩
   rw [if_neg c9] at H
   exact absurd H (by simp)

end Go.Proofs.Ytkopbaikmlajmaa.Q
