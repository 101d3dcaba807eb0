import Derived.Test.YtkopbaikmlajmaaZ
import Derived.Test.YtkopbaikmlajmaaK
import Derived.Test.YtkopbaikmlajmaaFA
namespace Go.Proofs.Ytkopbaikmlajmaa.Q
open Go.RowKit Go.Proofs.YtkopbaikmlajmaaW.PrintWords Go.Proofs.YtkopbaikmlajmaaW.PrintLast Go.Proofs.YtkopbaikmlajmaaW.PrintMore
attribute [local go_sem] max2_int min2_int max_two min_two max_three min_three max_four min_four
set_option linter.unusedVariables false
set_option linter.unusedSimpArgs false
theorem Z85 {P : Prop} (h : P := by (with_reducible repeat (first | refine blk_drewN ?_ _ | refine blk_drew ?_ | refine blk_alloc ?_ _)); exact BK144.out) : P := h
theorem Z52 {P : Prop} (h : P := by repeat (first | (with_reducible first | exact HB.out | apply below_alloc | apply pw_below_drewN | apply below_drew1 | refine below_set ?_ GE144.out) | exact HB.out)) : P := h
theorem Z64 {P : Prop} (h : P := by repeat (first | (with_reducible first | exact HB.out | apply below_alloc | apply pw_below_drewN | apply below_drew1 | refine below_set ?_ GE144.out) | exact HB.out)) : P := h
theorem Z42 {P : Prop} (h : P := by rw [hg]; exact (below_size Z67)) : P := h
theorem Z1 {P : Prop} (h : P := by (with_reducible repeat (first | refine blk_drewN ?_ _ | refine blk_drew ?_ | refine blk_alloc ?_ _)); refine blk_put (cs := #[.int .i64 ((rd_T42 l0 x5_1).f0), .int .i64 ((rd_T42 l0 x5_1).f1), .int .i64 ((rd_T42 l0 x5_1).f2.f0), .int .i64 ((rd_T42 l0 x5_1).f2.f1), .string (⟨#[]⟩ : ByteArray)]) ?_ 4 _ rfl; (with_reducible repeat (first | refine blk_drewN ?_ _ | refine blk_drew ?_ | refine blk_alloc ?_ _)); refine blk_put (cs := #[.int .i64 ((rd_T42 l0 x5_1).f0), .int .i64 ((rd_T42 l0 x5_1).f1), .int .i64 ((rd_T42 l0 x5_1).f2.f0), .int .i64 0, .string (⟨#[]⟩ : ByteArray)]) ?_ 3 _ rfl; (with_reducible repeat (first | refine blk_drewN ?_ _ | refine blk_drew ?_ | refine blk_alloc ?_ _)); refine blk_put (cs := #[.int .i64 ((rd_T42 l0 x5_1).f0), .int .i64 ((rd_T42 l0 x5_1).f1), .int .i64 0, .int .i64 0, .string (⟨#[]⟩ : ByteArray)]) ?_ 2 _ rfl; (with_reducible repeat (first | refine blk_drewN ?_ _ | refine blk_drew ?_ | refine blk_alloc ?_ _)); refine blk_put (cs := #[.int .i64 ((rd_T42 l0 x5_1).f0), .int .i64 0, .int .i64 0, .int .i64 0, .string (⟨#[]⟩ : ByteArray)]) ?_ 1 _ rfl; (with_reducible repeat (first | refine blk_drewN ?_ _ | refine blk_drew ?_ | refine blk_alloc ?_ _)); refine blk_put (cs := #[.int .i64 0, .int .i64 0, .int .i64 0, .int .i64 0, .string (⟨#[]⟩ : ByteArray)]) ?_ 0 _ rfl; (with_reducible repeat (first | refine blk_drewN ?_ _ | refine blk_drew ?_ | refine blk_alloc ?_ _)); exact BK144.out) : P := h
def alumref20_Reserved.f  : Option (List ByteArray) := some (([(⟨#[97, 100, 100]⟩ : ByteArray), (⟨#[97, 110, 100]⟩ : ByteArray), (⟨#[97, 115]⟩ : ByteArray), (⟨#[97, 115, 99]⟩ : ByteArray), (⟨#[98, 101, 103, 105, 110]⟩ : ByteArray), (⟨#[98, 111, 111, 108]⟩ : ByteArray), (⟨#[98, 121]⟩ : ByteArray), (⟨#[99, 104, 101, 99, 107]⟩ : ByteArray), (⟨#[99, 111, 108, 117, 109, 110]⟩ : ByteArray), (⟨#[99, 111, 109, 109, 105, 116]⟩ : ByteArray), (⟨#[99, 111, 117, 110, 116]⟩ : ByteArray), (⟨#[99, 114, 101, 97, 116, 101]⟩ : ByteArray), (⟨#[100, 101, 108, 101, 116, 101]⟩ : ByteArray), (⟨#[100, 101, 115, 99]⟩ : ByteArray), (⟨#[100, 105, 115, 116, 105, 110, 99, 116]⟩ : ByteArray), (⟨#[100, 114, 111, 112]⟩ : ByteArray), (⟨#[102, 97, 108, 115, 101]⟩ : ByteArray), (⟨#[102, 114, 111, 109]⟩ : ByteArray), (⟨#[103, 114, 111, 117, 112]⟩ : ByteArray), (⟨#[105, 110, 100, 101, 120]⟩ : ByteArray), (⟨#[105, 110, 115, 101, 114, 116]⟩ : ByteArray), (⟨#[105, 110, 116]⟩ : ByteArray), (⟨#[105, 110, 116, 111]⟩ : ByteArray), (⟨#[105, 115]⟩ : ByteArray), (⟨#[106, 111, 105, 110]⟩ : ByteArray), (⟨#[107, 101, 121]⟩ : ByteArray), (⟨#[108, 105, 109, 105, 116]⟩ : ByteArray), (⟨#[109, 97, 120]⟩ : ByteArray), (⟨#[109, 105, 110]⟩ : ByteArray), (⟨#[110, 111, 116]⟩ : ByteArray), (⟨#[110, 117, 108, 108]⟩ : ByteArray), (⟨#[111, 110]⟩ : ByteArray), (⟨#[111, 110, 108, 121]⟩ : ByteArray), (⟨#[111, 114]⟩ : ByteArray), (⟨#[111, 114, 100, 101, 114]⟩ : ByteArray), (⟨#[114, 101, 97, 100]⟩ : ByteArray), (⟨#[114, 101, 108, 101, 97, 115, 101]⟩ : ByteArray), (⟨#[114, 111, 108, 108, 98, 97, 99, 107]⟩ : ByteArray), (⟨#[115, 97, 118, 101, 112, 111, 105, 110, 116]⟩ : ByteArray), (⟨#[115, 101, 108, 101, 99, 116]⟩ : ByteArray), (⟨#[115, 101, 114, 105, 97, 108, 105, 122, 97, 98, 108, 101]⟩ : ByteArray), (⟨#[115, 101, 116]⟩ : ByteArray), (⟨#[115, 117, 109]⟩ : ByteArray), (⟨#[116, 97, 98, 108, 101]⟩ : ByteArray), (⟨#[116, 101, 120, 116]⟩ : ByteArray), (⟨#[116, 111]⟩ : ByteArray), (⟨#[116, 114, 117, 101]⟩ : ByteArray), (⟨#[117, 110, 105, 113, 117, 101]⟩ : ByteArray), (⟨#[117, 112, 100, 97, 116, 101]⟩ : ByteArray), (⟨#[118, 97, 108, 117, 101, 115]⟩ : ByteArray), (⟨#[119, 104, 101, 114, 101]⟩ : ByteArray)] : List ByteArray))
set_option maxHeartbeats 8000000 in
set_option maxRecDepth 100000 in
theorem alumref20_Reserved.calls  (r : List ByteArray) (w : World) (h : alumref20_Reserved.f  = some r) :
  Calls Try.prog 69 #[] w fun e w' => ∃ v0_ : Value, e = .returned (v0_) ∧ Kd.R Kd.string 9 w' w.heap.size (fun _ => True) v0_ r ∧ Below w.heap.size w w' := by
 have HB := Aside0.mk (Below.refl w.heap.size w)
 have H : (some (([(⟨#[97, 100, 100]⟩ : ByteArray), (⟨#[97, 110, 100]⟩ : ByteArray), (⟨#[97, 115]⟩ : ByteArray), (⟨#[97, 115, 99]⟩ : ByteArray), (⟨#[98, 101, 103, 105, 110]⟩ : ByteArray), (⟨#[98, 111, 111, 108]⟩ : ByteArray), (⟨#[98, 121]⟩ : ByteArray), (⟨#[99, 104, 101, 99, 107]⟩ : ByteArray), (⟨#[99, 111, 108, 117, 109, 110]⟩ : ByteArray), (⟨#[99, 111, 109, 109, 105, 116]⟩ : ByteArray), (⟨#[99, 111, 117, 110, 116]⟩ : ByteArray), (⟨#[99, 114, 101, 97, 116, 101]⟩ : ByteArray), (⟨#[100, 101, 108, 101, 116, 101]⟩ : ByteArray), (⟨#[100, 101, 115, 99]⟩ : ByteArray), (⟨#[100, 105, 115, 116, 105, 110, 99, 116]⟩ : ByteArray), (⟨#[100, 114, 111, 112]⟩ : ByteArray), (⟨#[102, 97, 108, 115, 101]⟩ : ByteArray), (⟨#[102, 114, 111, 109]⟩ : ByteArray), (⟨#[103, 114, 111, 117, 112]⟩ : ByteArray), (⟨#[105, 110, 100, 101, 120]⟩ : ByteArray), (⟨#[105, 110, 115, 101, 114, 116]⟩ : ByteArray), (⟨#[105, 110, 116]⟩ : ByteArray), (⟨#[105, 110, 116, 111]⟩ : ByteArray), (⟨#[105, 115]⟩ : ByteArray), (⟨#[106, 111, 105, 110]⟩ : ByteArray), (⟨#[107, 101, 121]⟩ : ByteArray), (⟨#[108, 105, 109, 105, 116]⟩ : ByteArray), (⟨#[109, 97, 120]⟩ : ByteArray), (⟨#[109, 105, 110]⟩ : ByteArray), (⟨#[110, 111, 116]⟩ : ByteArray), (⟨#[110, 117, 108, 108]⟩ : ByteArray), (⟨#[111, 110]⟩ : ByteArray), (⟨#[111, 110, 108, 121]⟩ : ByteArray), (⟨#[111, 114]⟩ : ByteArray), (⟨#[111, 114, 100, 101, 114]⟩ : ByteArray), (⟨#[114, 101, 97, 100]⟩ : ByteArray), (⟨#[114, 101, 108, 101, 97, 115, 101]⟩ : ByteArray), (⟨#[114, 111, 108, 108, 98, 97, 99, 107]⟩ : ByteArray), (⟨#[115, 97, 118, 101, 112, 111, 105, 110, 116]⟩ : ByteArray), (⟨#[115, 101, 108, 101, 99, 116]⟩ : ByteArray), (⟨#[115, 101, 114, 105, 97, 108, 105, 122, 97, 98, 108, 101]⟩ : ByteArray), (⟨#[115, 101, 116]⟩ : ByteArray), (⟨#[115, 117, 109]⟩ : ByteArray), (⟨#[116, 97, 98, 108, 101]⟩ : ByteArray), (⟨#[116, 101, 120, 116]⟩ : ByteArray), (⟨#[116, 111]⟩ : ByteArray), (⟨#[116, 114, 117, 101]⟩ : ByteArray), (⟨#[117, 110, 105, 113, 117, 101]⟩ : ByteArray), (⟨#[117, 112, 100, 97, 116, 101]⟩ : ByteArray), (⟨#[118, 97, 108, 117, 101, 115]⟩ : ByteArray), (⟨#[119, 104, 101, 114, 101]⟩ : ByteArray)] : List ByteArray))) = some r := h
 clear h
 obtain ⟨y117, hy117⟩ : ∃ y_ : List ByteArray, y_ = (([(⟨#[97, 100, 100]⟩ : ByteArray), (⟨#[97, 110, 100]⟩ : ByteArray), (⟨#[97, 115]⟩ : ByteArray), (⟨#[97, 115, 99]⟩ : ByteArray), (⟨#[98, 101, 103, 105, 110]⟩ : ByteArray), (⟨#[98, 111, 111, 108]⟩ : ByteArray), (⟨#[98, 121]⟩ : ByteArray), (⟨#[99, 104, 101, 99, 107]⟩ : ByteArray), (⟨#[99, 111, 108, 117, 109, 110]⟩ : ByteArray), (⟨#[99, 111, 109, 109, 105, 116]⟩ : ByteArray), (⟨#[99, 111, 117, 110, 116]⟩ : ByteArray), (⟨#[99, 114, 101, 97, 116, 101]⟩ : ByteArray), (⟨#[100, 101, 108, 101, 116, 101]⟩ : ByteArray), (⟨#[100, 101, 115, 99]⟩ : ByteArray), (⟨#[100, 105, 115, 116, 105, 110, 99, 116]⟩ : ByteArray), (⟨#[100, 114, 111, 112]⟩ : ByteArray), (⟨#[102, 97, 108, 115, 101]⟩ : ByteArray), (⟨#[102, 114, 111, 109]⟩ : ByteArray), (⟨#[103, 114, 111, 117, 112]⟩ : ByteArray), (⟨#[105, 110, 100, 101, 120]⟩ : ByteArray), (⟨#[105, 110, 115, 101, 114, 116]⟩ : ByteArray), (⟨#[105, 110, 116]⟩ : ByteArray), (⟨#[105, 110, 116, 111]⟩ : ByteArray), (⟨#[105, 115]⟩ : ByteArray), (⟨#[106, 111, 105, 110]⟩ : ByteArray), (⟨#[107, 101, 121]⟩ : ByteArray), (⟨#[108, 105, 109, 105, 116]⟩ : ByteArray), (⟨#[109, 97, 120]⟩ : ByteArray), (⟨#[109, 105, 110]⟩ : ByteArray), (⟨#[110, 111, 116]⟩ : ByteArray), (⟨#[110, 117, 108, 108]⟩ : ByteArray), (⟨#[111, 110]⟩ : ByteArray), (⟨#[111, 110, 108, 121]⟩ : ByteArray), (⟨#[111, 114]⟩ : ByteArray), (⟨#[111, 114, 100, 101, 114]⟩ : ByteArray), (⟨#[114, 101, 97, 100]⟩ : ByteArray), (⟨#[114, 101, 108, 101, 97, 115, 101]⟩ : ByteArray), (⟨#[114, 111, 108, 108, 98, 97, 99, 107]⟩ : ByteArray), (⟨#[115, 97, 118, 101, 112, 111, 105, 110, 116]⟩ : ByteArray), (⟨#[115, 101, 108, 101, 99, 116]⟩ : ByteArray), (⟨#[115, 101, 114, 105, 97, 108, 105, 122, 97, 98, 108, 101]⟩ : ByteArray), (⟨#[115, 101, 116]⟩ : ByteArray), (⟨#[115, 117, 109]⟩ : ByteArray), (⟨#[116, 97, 98, 108, 101]⟩ : ByteArray), (⟨#[116, 101, 120, 116]⟩ : ByteArray), (⟨#[116, 111]⟩ : ByteArray), (⟨#[116, 114, 117, 101]⟩ : ByteArray), (⟨#[117, 110, 105, 113, 117, 101]⟩ : ByteArray), (⟨#[117, 112, 100, 97, 116, 101]⟩ : ByteArray), (⟨#[118, 97, 108, 117, 101, 115]⟩ : ByteArray), (⟨#[119, 104, 101, 114, 101]⟩ : ByteArray)] : List ByteArray)) := ⟨_, rfl⟩
 replace H : (some y117) = some r := by first | (rw [hy117]; with_reducible exact H) | (have H2_ := (Option.bind_some _ _).symm.trans H; rw [hy117]; with_reducible exact H2_) | (have H2_ := (Option.bind_some _ _).symm.trans H; with_reducible exact H2_) | with_reducible exact H | (rw [hy117]; exact H) | exact H
 have Ny117 := Aside0.mk hy117
 clear hy117
 obtain rfl := Option.some.inj H
 go_enter Try.func69, Try.ntmps69
 go_wp2_with (first | ((with_reducible refine gate_dst (N := 1) rfl ?_); refine Kd.R_lit Kd.string _ 9 ?hg (N := 1) ?hd (xs := ([(⟨#[97, 100, 100]⟩ : ByteArray), (⟨#[97, 110, 100]⟩ : ByteArray), (⟨#[97, 115]⟩ : ByteArray), (⟨#[97, 115, 99]⟩ : ByteArray), (⟨#[98, 101, 103, 105, 110]⟩ : ByteArray), (⟨#[98, 111, 111, 108]⟩ : ByteArray), (⟨#[98, 121]⟩ : ByteArray), (⟨#[99, 104, 101, 99, 107]⟩ : ByteArray), (⟨#[99, 111, 108, 117, 109, 110]⟩ : ByteArray), (⟨#[99, 111, 109, 109, 105, 116]⟩ : ByteArray), (⟨#[99, 111, 117, 110, 116]⟩ : ByteArray), (⟨#[99, 114, 101, 97, 116, 101]⟩ : ByteArray), (⟨#[100, 101, 108, 101, 116, 101]⟩ : ByteArray), (⟨#[100, 101, 115, 99]⟩ : ByteArray), (⟨#[100, 105, 115, 116, 105, 110, 99, 116]⟩ : ByteArray), (⟨#[100, 114, 111, 112]⟩ : ByteArray), (⟨#[102, 97, 108, 115, 101]⟩ : ByteArray), (⟨#[102, 114, 111, 109]⟩ : ByteArray), (⟨#[103, 114, 111, 117, 112]⟩ : ByteArray), (⟨#[105, 110, 100, 101, 120]⟩ : ByteArray), (⟨#[105, 110, 115, 101, 114, 116]⟩ : ByteArray), (⟨#[105, 110, 116]⟩ : ByteArray), (⟨#[105, 110, 116, 111]⟩ : ByteArray), (⟨#[105, 115]⟩ : ByteArray), (⟨#[106, 111, 105, 110]⟩ : ByteArray), (⟨#[107, 101, 121]⟩ : ByteArray), (⟨#[108, 105, 109, 105, 116]⟩ : ByteArray), (⟨#[109, 97, 120]⟩ : ByteArray), (⟨#[109, 105, 110]⟩ : ByteArray), (⟨#[110, 111, 116]⟩ : ByteArray), (⟨#[110, 117, 108, 108]⟩ : ByteArray), (⟨#[111, 110]⟩ : ByteArray), (⟨#[111, 110, 108, 121]⟩ : ByteArray), (⟨#[111, 114]⟩ : ByteArray), (⟨#[111, 114, 100, 101, 114]⟩ : ByteArray), (⟨#[114, 101, 97, 100]⟩ : ByteArray), (⟨#[114, 101, 108, 101, 97, 115, 101]⟩ : ByteArray), (⟨#[114, 111, 108, 108, 98, 97, 99, 107]⟩ : ByteArray), (⟨#[115, 97, 118, 101, 112, 111, 105, 110, 116]⟩ : ByteArray), (⟨#[115, 101, 108, 101, 99, 116]⟩ : ByteArray), (⟨#[115, 101, 114, 105, 97, 108, 105, 122, 97, 98, 108, 101]⟩ : ByteArray), (⟨#[115, 101, 116]⟩ : ByteArray), (⟨#[115, 117, 109]⟩ : ByteArray), (⟨#[116, 97, 98, 108, 101]⟩ : ByteArray), (⟨#[116, 101, 120, 116]⟩ : ByteArray), (⟨#[116, 111]⟩ : ByteArray), (⟨#[116, 114, 117, 101]⟩ : ByteArray), (⟨#[117, 110, 105, 113, 117, 101]⟩ : ByteArray), (⟨#[117, 112, 100, 97, 116, 101]⟩ : ByteArray), (⟨#[118, 97, 108, 117, 101, 115]⟩ : ByteArray), (⟨#[119, 104, 101, 114, 101]⟩ : ByteArray)] : List ByteArray)) (inner := [.string (⟨#[97, 100, 100]⟩ : ByteArray), .string (⟨#[97, 110, 100]⟩ : ByteArray), .string (⟨#[97, 115]⟩ : ByteArray), .string (⟨#[97, 115, 99]⟩ : ByteArray), .string (⟨#[98, 101, 103, 105, 110]⟩ : ByteArray), .string (⟨#[98, 111, 111, 108]⟩ : ByteArray), .string (⟨#[98, 121]⟩ : ByteArray), .string (⟨#[99, 104, 101, 99, 107]⟩ : ByteArray), .string (⟨#[99, 111, 108, 117, 109, 110]⟩ : ByteArray), .string (⟨#[99, 111, 109, 109, 105, 116]⟩ : ByteArray), .string (⟨#[99, 111, 117, 110, 116]⟩ : ByteArray), .string (⟨#[99, 114, 101, 97, 116, 101]⟩ : ByteArray), .string (⟨#[100, 101, 108, 101, 116, 101]⟩ : ByteArray), .string (⟨#[100, 101, 115, 99]⟩ : ByteArray), .string (⟨#[100, 105, 115, 116, 105, 110, 99, 116]⟩ : ByteArray), .string (⟨#[100, 114, 111, 112]⟩ : ByteArray), .string (⟨#[102, 97, 108, 115, 101]⟩ : ByteArray), .string (⟨#[102, 114, 111, 109]⟩ : ByteArray), .string (⟨#[103, 114, 111, 117, 112]⟩ : ByteArray), .string (⟨#[105, 110, 100, 101, 120]⟩ : ByteArray), .string (⟨#[105, 110, 115, 101, 114, 116]⟩ : ByteArray), .string (⟨#[105, 110, 116]⟩ : ByteArray), .string (⟨#[105, 110, 116, 111]⟩ : ByteArray), .string (⟨#[105, 115]⟩ : ByteArray), .string (⟨#[106, 111, 105, 110]⟩ : ByteArray), .string (⟨#[107, 101, 121]⟩ : ByteArray), .string (⟨#[108, 105, 109, 105, 116]⟩ : ByteArray), .string (⟨#[109, 97, 120]⟩ : ByteArray), .string (⟨#[109, 105, 110]⟩ : ByteArray), .string (⟨#[110, 111, 116]⟩ : ByteArray), .string (⟨#[110, 117, 108, 108]⟩ : ByteArray), .string (⟨#[111, 110]⟩ : ByteArray), .string (⟨#[111, 110, 108, 121]⟩ : ByteArray), .string (⟨#[111, 114]⟩ : ByteArray), .string (⟨#[111, 114, 100, 101, 114]⟩ : ByteArray), .string (⟨#[114, 101, 97, 100]⟩ : ByteArray), .string (⟨#[114, 101, 108, 101, 97, 115, 101]⟩ : ByteArray), .string (⟨#[114, 111, 108, 108, 98, 97, 99, 107]⟩ : ByteArray), .string (⟨#[115, 97, 118, 101, 112, 111, 105, 110, 116]⟩ : ByteArray), .string (⟨#[115, 101, 108, 101, 99, 116]⟩ : ByteArray), .string (⟨#[115, 101, 114, 105, 97, 108, 105, 122, 97, 98, 108, 101]⟩ : ByteArray), .string (⟨#[115, 101, 116]⟩ : ByteArray), .string (⟨#[115, 117, 109]⟩ : ByteArray), .string (⟨#[116, 97, 98, 108, 101]⟩ : ByteArray), .string (⟨#[116, 101, 120, 116]⟩ : ByteArray), .string (⟨#[116, 111]⟩ : ByteArray), .string (⟨#[116, 114, 117, 101]⟩ : ByteArray), .string (⟨#[117, 110, 105, 113, 117, 101]⟩ : ByteArray), .string (⟨#[117, 112, 100, 97, 116, 101]⟩ : ByteArray), .string (⟨#[118, 97, 108, 117, 101, 115]⟩ : ByteArray), .string (⟨#[119, 104, 101, 114, 101]⟩ : ByteArray)]) (ok := fun _ => True) (okp := fun _ => True) ?hr ?hp (fun _ hk => hk) trivial (Below.refl _ _) (Nat.le_refl _) (by simp) ?_; (case hd => rfl); (case hg => rfl); (case hr => first | (go_simp; done) | (go_simp; rfl)); (case hp => exact (Reps.one (show Kd.M Kd.string _ _ _ (⟨#[97, 100, 100]⟩ : ByteArray) [.string (⟨#[97, 100, 100]⟩ : ByteArray)] from rfl) (Reps.one (show Kd.M Kd.string _ _ _ (⟨#[97, 110, 100]⟩ : ByteArray) [.string (⟨#[97, 110, 100]⟩ : ByteArray)] from rfl) (Reps.one (show Kd.M Kd.string _ _ _ (⟨#[97, 115]⟩ : ByteArray) [.string (⟨#[97, 115]⟩ : ByteArray)] from rfl) (Reps.one (show Kd.M Kd.string _ _ _ (⟨#[97, 115, 99]⟩ : ByteArray) [.string (⟨#[97, 115, 99]⟩ : ByteArray)] from rfl) (Reps.one (show Kd.M Kd.string _ _ _ (⟨#[98, 101, 103, 105, 110]⟩ : ByteArray) [.string (⟨#[98, 101, 103, 105, 110]⟩ : ByteArray)] from rfl) (Reps.one (show Kd.M Kd.string _ _ _ (⟨#[98, 111, 111, 108]⟩ : ByteArray) [.string (⟨#[98, 111, 111, 108]⟩ : ByteArray)] from rfl) (Reps.one (show Kd.M Kd.string _ _ _ (⟨#[98, 121]⟩ : ByteArray) [.string (⟨#[98, 121]⟩ : ByteArray)] from rfl) (Reps.one (show Kd.M Kd.string _ _ _ (⟨#[99, 104, 101, 99, 107]⟩ : ByteArray) [.string (⟨#[99, 104, 101, 99, 107]⟩ : ByteArray)] from rfl) (Reps.one (show Kd.M Kd.string _ _ _ (⟨#[99, 111, 108, 117, 109, 110]⟩ : ByteArray) [.string (⟨#[99, 111, 108, 117, 109, 110]⟩ : ByteArray)] from rfl) (Reps.one (show Kd.M Kd.string _ _ _ (⟨#[99, 111, 109, 109, 105, 116]⟩ : ByteArray) [.string (⟨#[99, 111, 109, 109, 105, 116]⟩ : ByteArray)] from rfl) (Reps.one (show Kd.M Kd.string _ _ _ (⟨#[99, 111, 117, 110, 116]⟩ : ByteArray) [.string (⟨#[99, 111, 117, 110, 116]⟩ : ByteArray)] from rfl) (Reps.one (show Kd.M Kd.string _ _ _ (⟨#[99, 114, 101, 97, 116, 101]⟩ : ByteArray) [.string (⟨#[99, 114, 101, 97, 116, 101]⟩ : ByteArray)] from rfl) (Reps.one (show Kd.M Kd.string _ _ _ (⟨#[100, 101, 108, 101, 116, 101]⟩ : ByteArray) [.string (⟨#[100, 101, 108, 101, 116, 101]⟩ : ByteArray)] from rfl) (Reps.one (show Kd.M Kd.string _ _ _ (⟨#[100, 101, 115, 99]⟩ : ByteArray) [.string (⟨#[100, 101, 115, 99]⟩ : ByteArray)] from rfl) (Reps.one (show Kd.M Kd.string _ _ _ (⟨#[100, 105, 115, 116, 105, 110, 99, 116]⟩ : ByteArray) [.string (⟨#[100, 105, 115, 116, 105, 110, 99, 116]⟩ : ByteArray)] from rfl) (Reps.one (show Kd.M Kd.string _ _ _ (⟨#[100, 114, 111, 112]⟩ : ByteArray) [.string (⟨#[100, 114, 111, 112]⟩ : ByteArray)] from rfl) (Reps.one (show Kd.M Kd.string _ _ _ (⟨#[102, 97, 108, 115, 101]⟩ : ByteArray) [.string (⟨#[102, 97, 108, 115, 101]⟩ : ByteArray)] from rfl) (Reps.one (show Kd.M Kd.string _ _ _ (⟨#[102, 114, 111, 109]⟩ : ByteArray) [.string (⟨#[102, 114, 111, 109]⟩ : ByteArray)] from rfl) (Reps.one (show Kd.M Kd.string _ _ _ (⟨#[103, 114, 111, 117, 112]⟩ : ByteArray) [.string (⟨#[103, 114, 111, 117, 112]⟩ : ByteArray)] from rfl) (Reps.one (show Kd.M Kd.string _ _ _ (⟨#[105, 110, 100, 101, 120]⟩ : ByteArray) [.string (⟨#[105, 110, 100, 101, 120]⟩ : ByteArray)] from rfl) (Reps.one (show Kd.M Kd.string _ _ _ (⟨#[105, 110, 115, 101, 114, 116]⟩ : ByteArray) [.string (⟨#[105, 110, 115, 101, 114, 116]⟩ : ByteArray)] from rfl) (Reps.one (show Kd.M Kd.string _ _ _ (⟨#[105, 110, 116]⟩ : ByteArray) [.string (⟨#[105, 110, 116]⟩ : ByteArray)] from rfl) (Reps.one (show Kd.M Kd.string _ _ _ (⟨#[105, 110, 116, 111]⟩ : ByteArray) [.string (⟨#[105, 110, 116, 111]⟩ : ByteArray)] from rfl) (Reps.one (show Kd.M Kd.string _ _ _ (⟨#[105, 115]⟩ : ByteArray) [.string (⟨#[105, 115]⟩ : ByteArray)] from rfl) (Reps.one (show Kd.M Kd.string _ _ _ (⟨#[106, 111, 105, 110]⟩ : ByteArray) [.string (⟨#[106, 111, 105, 110]⟩ : ByteArray)] from rfl) (Reps.one (show Kd.M Kd.string _ _ _ (⟨#[107, 101, 121]⟩ : ByteArray) [.string (⟨#[107, 101, 121]⟩ : ByteArray)] from rfl) (Reps.one (show Kd.M Kd.string _ _ _ (⟨#[108, 105, 109, 105, 116]⟩ : ByteArray) [.string (⟨#[108, 105, 109, 105, 116]⟩ : ByteArray)] from rfl) (Reps.one (show Kd.M Kd.string _ _ _ (⟨#[109, 97, 120]⟩ : ByteArray) [.string (⟨#[109, 97, 120]⟩ : ByteArray)] from rfl) (Reps.one (show Kd.M Kd.string _ _ _ (⟨#[109, 105, 110]⟩ : ByteArray) [.string (⟨#[109, 105, 110]⟩ : ByteArray)] from rfl) (Reps.one (show Kd.M Kd.string _ _ _ (⟨#[110, 111, 116]⟩ : ByteArray) [.string (⟨#[110, 111, 116]⟩ : ByteArray)] from rfl) (Reps.one (show Kd.M Kd.string _ _ _ (⟨#[110, 117, 108, 108]⟩ : ByteArray) [.string (⟨#[110, 117, 108, 108]⟩ : ByteArray)] from rfl) (Reps.one (show Kd.M Kd.string _ _ _ (⟨#[111, 110]⟩ : ByteArray) [.string (⟨#[111, 110]⟩ : ByteArray)] from rfl) (Reps.one (show Kd.M Kd.string _ _ _ (⟨#[111, 110, 108, 121]⟩ : ByteArray) [.string (⟨#[111, 110, 108, 121]⟩ : ByteArray)] from rfl) (Reps.one (show Kd.M Kd.string _ _ _ (⟨#[111, 114]⟩ : ByteArray) [.string (⟨#[111, 114]⟩ : ByteArray)] from rfl) (Reps.one (show Kd.M Kd.string _ _ _ (⟨#[111, 114, 100, 101, 114]⟩ : ByteArray) [.string (⟨#[111, 114, 100, 101, 114]⟩ : ByteArray)] from rfl) (Reps.one (show Kd.M Kd.string _ _ _ (⟨#[114, 101, 97, 100]⟩ : ByteArray) [.string (⟨#[114, 101, 97, 100]⟩ : ByteArray)] from rfl) (Reps.one (show Kd.M Kd.string _ _ _ (⟨#[114, 101, 108, 101, 97, 115, 101]⟩ : ByteArray) [.string (⟨#[114, 101, 108, 101, 97, 115, 101]⟩ : ByteArray)] from rfl) (Reps.one (show Kd.M Kd.string _ _ _ (⟨#[114, 111, 108, 108, 98, 97, 99, 107]⟩ : ByteArray) [.string (⟨#[114, 111, 108, 108, 98, 97, 99, 107]⟩ : ByteArray)] from rfl) (Reps.one (show Kd.M Kd.string _ _ _ (⟨#[115, 97, 118, 101, 112, 111, 105, 110, 116]⟩ : ByteArray) [.string (⟨#[115, 97, 118, 101, 112, 111, 105, 110, 116]⟩ : ByteArray)] from rfl) (Reps.one (show Kd.M Kd.string _ _ _ (⟨#[115, 101, 108, 101, 99, 116]⟩ : ByteArray) [.string (⟨#[115, 101, 108, 101, 99, 116]⟩ : ByteArray)] from rfl) (Reps.one (show Kd.M Kd.string _ _ _ (⟨#[115, 101, 114, 105, 97, 108, 105, 122, 97, 98, 108, 101]⟩ : ByteArray) [.string (⟨#[115, 101, 114, 105, 97, 108, 105, 122, 97, 98, 108, 101]⟩ : ByteArray)] from rfl) (Reps.one (show Kd.M Kd.string _ _ _ (⟨#[115, 101, 116]⟩ : ByteArray) [.string (⟨#[115, 101, 116]⟩ : ByteArray)] from rfl) (Reps.one (show Kd.M Kd.string _ _ _ (⟨#[115, 117, 109]⟩ : ByteArray) [.string (⟨#[115, 117, 109]⟩ : ByteArray)] from rfl) (Reps.one (show Kd.M Kd.string _ _ _ (⟨#[116, 97, 98, 108, 101]⟩ : ByteArray) [.string (⟨#[116, 97, 98, 108, 101]⟩ : ByteArray)] from rfl) (Reps.one (show Kd.M Kd.string _ _ _ (⟨#[116, 101, 120, 116]⟩ : ByteArray) [.string (⟨#[116, 101, 120, 116]⟩ : ByteArray)] from rfl) (Reps.one (show Kd.M Kd.string _ _ _ (⟨#[116, 111]⟩ : ByteArray) [.string (⟨#[116, 111]⟩ : ByteArray)] from rfl) (Reps.one (show Kd.M Kd.string _ _ _ (⟨#[116, 114, 117, 101]⟩ : ByteArray) [.string (⟨#[116, 114, 117, 101]⟩ : ByteArray)] from rfl) (Reps.one (show Kd.M Kd.string _ _ _ (⟨#[117, 110, 105, 113, 117, 101]⟩ : ByteArray) [.string (⟨#[117, 110, 105, 113, 117, 101]⟩ : ByteArray)] from rfl) (Reps.one (show Kd.M Kd.string _ _ _ (⟨#[117, 112, 100, 97, 116, 101]⟩ : ByteArray) [.string (⟨#[117, 112, 100, 97, 116, 101]⟩ : ByteArray)] from rfl) (Reps.one (show Kd.M Kd.string _ _ _ (⟨#[118, 97, 108, 117, 101, 115]⟩ : ByteArray) [.string (⟨#[118, 97, 108, 117, 101, 115]⟩ : ByteArray)] from rfl) (Reps.one (show Kd.M Kd.string _ _ _ (⟨#[119, 104, 101, 114, 101]⟩ : ByteArray) [.string (⟨#[119, 104, 101, 114, 101]⟩ : ByteArray)] from rfl) (Reps.none _ _))))))))))))))))))))))))))))))))))))))))))))))))))))); intro v118 w1 ho2 hb hg_ hnew_; clear hg_ hnew_; (first | rw [← Ny117.out] at ho2 | (simp only [Int.reduceToNat] at ho2; rw [← Ny117.out] at ho2)); have n0_ := Aside0.mk (Kd.R_lower ho2 (below_size Z67)); have n1_ := Aside0.mk (below_step Z67 hb); clear HB; have HO119 := n0_; have HB := n1_; clear n0_ n1_; clear hb ho2))
 go_ret
 exact ⟨_, Z112, by (with_reducible repeat (first | apply Kd.R_alloc | apply Kd.R_drewN | apply Kd.R_drew)); exact HO119.out, Z70⟩
mutual
def alumref20_Name.j0 : Nat → ByteArray → Bool → Option (Bool)
 | 0, _, _ => none
 | k + 1, x0, x15 => if x15 = true then (some false) else (alumref20_Name.l0 k x0 0)
def alumref20_Name.l0 : Nat → ByteArray → Int → Option (Bool)
 | 0, _, _ => none
 | k + 1, x0, x3 => if x3 < (x0.size : Int) then (if 0 ≤ x3 then (if (bt x0 x3) ≥ 97 then (if (bt x0 x3) ≥ 48 then (if (bt x0 x3) ≤ 57 then (if ((bt x0 x3) ≤ 122) then (alumref20_Name.l0 k x0 (wrap64 (x3 + 1))) else (if x3 = 0 then (some false) else (alumref20_Name.l0 k x0 (wrap64 (x3 + 1))))) else (if ((bt x0 x3) ≤ 122) then (alumref20_Name.l0 k x0 (wrap64 (x3 + 1))) else (if ((bt x0 x3) = 95) then (if x3 = 0 then (some false) else (alumref20_Name.l0 k x0 (wrap64 (x3 + 1)))) else (some false)))) else (if ((bt x0 x3) ≤ 122) then (alumref20_Name.l0 k x0 (wrap64 (x3 + 1))) else (if ((bt x0 x3) = 95) then (if x3 = 0 then (some false) else (alumref20_Name.l0 k x0 (wrap64 (x3 + 1)))) else (some false)))) else (if (bt x0 x3) ≥ 48 then (if (bt x0 x3) ≤ 57 then (if x3 = 0 then (some false) else (alumref20_Name.l0 k x0 (wrap64 (x3 + 1)))) else (if ((bt x0 x3) = 95) then (if x3 = 0 then (some false) else (alumref20_Name.l0 k x0 (wrap64 (x3 + 1)))) else (some false))) else (if ((bt x0 x3) = 95) then (if x3 = 0 then (some false) else (alumref20_Name.l0 k x0 (wrap64 (x3 + 1)))) else (some false)))) else (none)) else ((alumref20_Reserved.f).bind fun t120 => (alumref20_Name.l1 k x0 t120 0))
def alumref20_Name.l1 : Nat → ByteArray → List ByteArray → Int → Option (Bool)
 | 0, _, _, _ => none
 | k + 1, x0, x6, x7 => if x7 < (x6.length : Int) then (if 0 ≤ x7 then (if (rdOf ByteArray.empty x6 x7).toList = x0.toList then (some false) else (alumref20_Name.l1 k x0 x6 (wrap64 (x7 + 1)))) else (none)) else (some true)
end
def alumref20_Name.f (k : Nat) (a0 : ByteArray) : Option (Bool) := if (a0.size : Int) < 1 then (alumref20_Name.j0 k a0 true) else (alumref20_Name.j0 k a0 (decide ((a0.size : Int) > 16)))
theorem alumref20_Name.mono_l : ∀ k, (∀ y0 y1, LeO (alumref20_Name.j0 k y0 y1) (alumref20_Name.j0 (k + 1) y0 y1)) ∧ (∀ y0 y1, LeO (alumref20_Name.l0 k y0 y1) (alumref20_Name.l0 (k + 1) y0 y1)) ∧ (∀ y0 y1 y2, LeO (alumref20_Name.l1 k y0 y1 y2) (alumref20_Name.l1 (k + 1) y0 y1 y2))
 | 0 => ⟨fun _ _ r h => by simp [alumref20_Name.j0] at h, fun _ _ r h => by simp [alumref20_Name.l0] at h, fun _ _ _ r h => by simp [alumref20_Name.l1] at h⟩
 | k + 1 => by
  obtain ⟨ih0, ih1, ih2⟩ := alumref20_Name.mono_l k
  refine ⟨?_, ?_, ?_⟩
  ·intro y0 y1
   unfold alumref20_Name.j0
   repeat' first
   | (with_reducible exact ih0 _ _)
   | (with_reducible exact ih1 _ _)
   | (with_reducible exact ih2 _ _ _)
   | (with_reducible exact LeO.refl _)
   | (with_reducible exact LeO.none _)
   | (with_reducible refine LeO.ite ?_ ?_)
   | (with_reducible refine LeO.bind ?_ (fun _ => ?_))
   | exact ih0 _ _
   | exact ih1 _ _
   | exact ih2 _ _ _
   | exact LeO.none _
   | refine LeO.ite ?_ ?_
   | refine LeO.bind ?_ (fun _ => ?_)
  ·intro y0 y1
   unfold alumref20_Name.l0
   repeat' first
   | (with_reducible exact ih0 _ _)
   | (with_reducible exact ih1 _ _)
   | (with_reducible exact ih2 _ _ _)
   | (with_reducible exact LeO.refl _)
   | (with_reducible exact LeO.none _)
   | (with_reducible refine LeO.ite ?_ ?_)
   | (with_reducible refine LeO.bind ?_ (fun _ => ?_))
   | exact ih0 _ _
   | exact ih1 _ _
   | exact ih2 _ _ _
   | exact LeO.none _
   | refine LeO.ite ?_ ?_
   | refine LeO.bind ?_ (fun _ => ?_)
  intro y0 y1 y2
  unfold alumref20_Name.l1
  repeat' first
  | (with_reducible exact ih0 _ _)
  | (with_reducible exact ih1 _ _)
  | (with_reducible exact ih2 _ _ _)
  | (with_reducible exact LeO.refl _)
  | (with_reducible exact LeO.none _)
  | (with_reducible refine LeO.ite ?_ ?_)
  | (with_reducible refine LeO.bind ?_ (fun _ => ?_))
  | exact ih0 _ _
  | exact ih1 _ _
  | exact ih2 _ _ _
  | exact LeO.none _
  | refine LeO.ite ?_ ?_
  | refine LeO.bind ?_ (fun _ => ?_)
theorem alumref20_Name.mono : ∀ a0 k, LeO (alumref20_Name.f k a0) (alumref20_Name.f (k + 1) a0) := by
 intro a0 k
 obtain ⟨ih0, ih1, ih2⟩ := alumref20_Name.mono_l k
 unfold alumref20_Name.f
 repeat' first
   | (with_reducible exact ih0 _ _)
   | (with_reducible exact ih1 _ _)
   | (with_reducible exact ih2 _ _ _)
   | (with_reducible exact LeO.refl _)
   | (with_reducible exact LeO.none _)
   | (with_reducible refine LeO.ite ?_ ?_)
   | (with_reducible refine LeO.bind ?_ (fun _ => ?_))
   | exact ih0 _ _
   | exact ih1 _ _
   | exact ih2 _ _ _
   | exact LeO.none _
   | refine LeO.ite ?_ ?_
   | refine LeO.bind ?_ (fun _ => ?_)
set_option maxHeartbeats 8000000 in
set_option maxRecDepth 100000 in
theorem alumref20_Name.calls (k : Nat) (a0 : ByteArray) (r : Bool) (w : World) (h : alumref20_Name.f k a0 = some r) :
  Calls Try.prog 24 #[.string a0] w fun e w' => e = .returned (.bool r) ∧ Below w.heap.size w w' := by
 have HB := Aside0.mk (Below.refl w.heap.size w)
 have H : (if (a0.size : Int) < 1 then (alumref20_Name.j0 k a0 true) else (alumref20_Name.j0 k a0 (decide ((a0.size : Int) > 16)))) = some r := h
 clear h
 have HC2 := Aside0.mk H
 clear H
 go_enter Try.func24, Try.ntmps24
 go_upto_region 1 with (fail)
 go_cut [15] (fun v15 wc => ∃ (kq : Nat) (x15_1 : Bool), v15 = .bool x15_1 ∧ Aside0 (alumref20_Name.j0 kq a0 x15_1 = some r) ∧ Aside0 (kq ≤ k) ∧ Aside0 (Below w.heap.size w wc))
 case first =>
  have H := HC2.out
  clear HC2
  by_cases c3 : (a0.size : Int) < 1
  ·rw [if_pos c3] at H
   have c3b0 : decide ((a0.size : Int) < 1) = true := decide_eq_true c3
   have c3b1 : decide (a0.size < 1) = true := decide_eq_true (by omega)
   clear c3
   (first | rw [c3b0] | (simp only [i64_w, i32_w]; rw [c3b0]) | skip)
   have H' := Aside0.mk H
   clear H
   go_wp2
   go_meet
   case rel => exact ⟨_, (true), Z122, H', ⟨Z128⟩, ⟨Z70⟩⟩
  rw [if_neg c3] at H
  have c3b0 : decide ((a0.size : Int) < 1) = false := decide_eq_false c3
  have c3b1 : decide (a0.size < 1) = false := decide_eq_false (by omega)
  clear c3
  (first | rw [c3b0] | (simp only [i64_w, i32_w]; rw [c3b0]) | skip)
  have H' := Aside0.mk H
  clear H
  go_wp2
  go_meet
  case rel => exact ⟨_, (decide ((a0.size : Int) > 16)), Z122, H', ⟨Z128⟩, ⟨Z70⟩⟩
 case rest =>
  clear HC2
  try clear c2
  try clear p2
  try clear c3
  try clear c3b0
  try clear c3b1
  obtain ⟨kq, x15_1, rfl, HA, HJ1, HB⟩ := hcut
  cases kq with
  | zero => exact absurd HA.out (by simp [alumref20_Name.j0])
  | succ kj1 =>
   have H := HA.out
   clear HA
   simp only [alumref20_Name.j0] at H
   by_cases c4 : x15_1 = true
   ·subst c4
    have H1 : (some false) = some r := by rw [if_pos rfl] at H; exact H
    clear H
    have H := H1
    clear H1
    obtain rfl := Option.some.inj H
    go_wp2
    go_ret
    exact ⟨Z112, Z70⟩
   replace c4 := Bool.eq_false_iff.mpr c4
   subst c4
   have H1 : (alumref20_Name.l0 kj1 a0 0) = some r := by rw [if_neg (show ¬ (false = true) by decide)] at H; exact H
   clear H
   have H := H1
   clear H1
   have H' := Aside0.mk H
   clear H
   go_wp2
   go_loopg [3] kj1 (fun kq v3 w' => ∃ (x3_2 : Int), v3 = .int .i64 x3_2 ∧ Aside0 (alumref20_Name.l0 kq a0 x3_2 = some r) ∧ Aside0 (kq ≤ kj1) ∧ Aside0 (Below w.heap.size w w'))
   case atStart => exact ⟨(0), Z122, H', ⟨Nat.le_refl _⟩, ⟨Z70⟩⟩
   case round =>
    clear H'
    try clear c2
    try clear p2
    try clear c3
    try clear c3b0
    try clear c3b1
    try clear c4
    try clear p2
    obtain ⟨x3_2, rfl, HA, HK2, HB⟩ := hrel
    cases gk with
    | zero => exact absurd HA.out (by simp [alumref20_Name.l0])
    | succ k2 =>
     have H := HA.out
     clear HA
     simp only [alumref20_Name.l0] at H
     by_cases c5 : x3_2 < (a0.size : Int)
     rotate_left
     ·rw [if_neg c5] at H
      have c5b0 : decide (x3_2 < (a0.size : Int)) = false := decide_eq_false c5
      clear c5
      replace H := Option.bind_eq_some_iff.mp H
      obtain ⟨t120, A350, H⟩ := H
      replace H : (alumref20_Name.l1 k2 a0 t120 0) = some r := H
      have A35 := Aside0.mk A350
      clear A350
      have H' := Aside0.mk H
      clear H
      go_wp2_with (first | ((with_reducible refine gate_callee (f := 69) rfl ?_); refine goesL_ (some 58) rfl rfl Try.func69 (by kernel_rfl) rfl #[] rfl Z65 ?_; (with_reducible refine (alumref20_Reserved.calls  t120 _ A35.out).mono ?_); rintro e w36 ⟨v121, rfl, ho0, hb⟩; refine ⟨_, rfl, ?_⟩; have n0_ := Aside0.mk (Kd.R_lower ho0 (below_size Z67)); have n1_ := Aside0.mk (below_step Z67 hb); clear HB; have HO122 := n0_; have HB := n1_; clear n0_ n1_; (try clear hb); (try clear hb2); (try clear hk); (try clear hi); (try clear ho0)))
      go_loopg [7] k2 (fun kq v7 w' => ∃ (x7_3 : Int), v7 = .int .i64 x7_3 ∧ Aside0 (alumref20_Name.l1 kq a0 t120 x7_3 = some r) ∧ Aside0 (kq ≤ k2) ∧ Aside0 (Kd.R Kd.string 9 w' w.heap.size (fun _ => True) v121 t120) ∧ Aside0 (Below w.heap.size w w'))
      case atStart => exact ⟨(0), Z122, H', ⟨Nat.le_refl _⟩, ⟨by (with_reducible repeat (first | apply Kd.R_alloc | apply Kd.R_drewN | apply Kd.R_drew)); exact HO122.out⟩, ⟨Z70⟩⟩
      case round =>
       clear H'
       try clear c1
       try clear p1
       try clear q1
       try clear hx1
       try clear c2
       try clear p2
       try clear q2
       try clear hx2
       try clear c3
       try clear p3
       try clear q3
       try clear hx3
       try clear c5
       try clear c5b0
       try clear c6
       try clear p6
       try clear p7
       try clear q7
       try clear hx7
       try clear c8
       try clear c8b0
       try clear p9
       try clear q9
       try clear hx9
       try clear p10
       try clear q10
       try clear hx10
       try clear c11
       try clear c11b0
       try clear p12
       try clear q12
       try clear hx12
       try clear c13
       try clear c13b0
       try clear c14
       try clear c14b0
       try clear c15
       try clear c15b0
       try clear c15b1
       try clear p16
       try clear q16
       try clear hx16
       try clear c17
       try clear c17b0
       try clear c18
       try clear c18b0
       try clear c18b1
       try clear c19
       try clear c19b0
       try clear c19b1
       try clear p20
       try clear q20
       try clear hx20
       try clear c21
       try clear c21b0
       try clear c22
       try clear c22b0
       try clear c22b1
       try clear c23
       try clear c23b0
       try clear c23b1
       try clear p24
       try clear q24
       try clear hx24
       try clear c25
       try clear c25b0
       try clear p26
       try clear q26
       try clear hx26
       try clear c27
       try clear c27b0
       try clear c28
       try clear c28b0
       try clear c28b1
       try clear p29
       try clear q29
       try clear hx29
       try clear c30
       try clear c30b0
       try clear c30b1
       try clear c31
       try clear c31b0
       try clear c31b1
       try clear p32
       try clear q32
       try clear hx32
       try clear c33
       try clear c33b0
       try clear c33b1
       try clear c34
       try clear c34b0
       try clear c34b1
       try clear p10
       try clear p12
       try clear p16
       try clear p20
       try clear p24
       try clear p26
       try clear p29
       try clear p32
       try clear p7
       try clear p9
       try clear q10
       try clear q12
       try clear q16
       try clear q20
       try clear q24
       try clear q26
       try clear q29
       try clear q32
       try clear q7
       try clear q9
       obtain ⟨x7_3, rfl, HA, HK3, HO_6, HB⟩ := hrel
       cases gk with
       | zero => exact absurd HA.out (by simp [alumref20_Name.l1])
       | succ k3 =>
        have H := HA.out
        clear HA
        simp only [alumref20_Name.l1] at H
        by_cases c37 : x7_3 < (t120.length : Int)
        ·rw [if_pos c37] at H
         have c37b0 : decide (x7_3 < (t120.length : Int)) = true := decide_eq_true c37
         clear c37
         by_cases c38 : 0 ≤ x7_3
         ·rw [if_pos c38] at H
          have c38b0 : decide (0 ≤ x7_3) = true := decide_eq_true c38
          clear c38
          by_cases c39 : (rdOf ByteArray.empty t120 x7_3).toList = a0.toList
          ·rw [if_pos c39] at H
           have c39b0 : ((rdOf ByteArray.empty t120 x7_3).toList == a0.toList) = true := beq_iff_eq.mpr c39
           have c39b1 : ((rdOf ByteArray.empty t120 x7_3).toList != a0.toList) = false := bne_eq_false_iff_eq.mpr c39
           clear c39
           obtain rfl := Option.some.inj H
           obtain ⟨Ao40, co40, eo40⟩ := Kd.R_slice HO_6.out
           subst eo40
           have p123 : 0 ≤ (x7_3 : Int) := of_decide_eq_true Z121
           have q123 : x7_3 < (t120.length : Int) := of_decide_eq_true Z121
           obtain ⟨ad123, e123, hx123_0⟩ := Kd.at_string (Kd.R_reads' HO_6.out).2.2 x7_3 p123 q123
           cases e123
           replace p123 := eq_true p123
           replace q123 := eq_true q123
           go_wp2
           go_ret
           exact ⟨Z112, Z70⟩
          ·rw [if_neg c39] at H
           have c39b0 : ((rdOf ByteArray.empty t120 x7_3).toList == a0.toList) = false := beq_eq_false_iff_ne.mpr c39
           have c39b1 : ((rdOf ByteArray.empty t120 x7_3).toList != a0.toList) = true := bne_iff_ne.mpr c39
           have H' := Aside0.mk H
           clear H
           obtain ⟨Ao41, co41, eo41⟩ := Kd.R_slice HO_6.out
           subst eo41
           have p123 : 0 ≤ (x7_3 : Int) := of_decide_eq_true Z121
           have q123 : x7_3 < (t120.length : Int) := of_decide_eq_true Z121
           obtain ⟨ad123, e123, hx123_0⟩ := Kd.at_string (Kd.R_reads' HO_6.out).2.2 x7_3 p123 q123
           cases e123
           replace p123 := eq_true p123
           replace q123 := eq_true q123
           go_wp2
           go_roundg k3
           case measure => have := HJ1.out; have := HK2.out; have := HK3.out; omega
           case rel => exact ⟨(wrap64 (x7_3 + 1)), Z122, H', ⟨by have := HJ1.out; have := HK2.out; have := HK3.out; omega⟩, ⟨Z110⟩, ⟨Z70⟩⟩
         ·rw [if_neg c38] at H
          exact absurd H (by simp)
        ·rw [if_neg c37] at H
         have c37b0 : decide (x7_3 < (t120.length : Int)) = false := decide_eq_false c37
         clear c37
         obtain rfl := Option.some.inj H
         obtain ⟨Ao42, co42, eo42⟩ := Kd.R_slice HO_6.out
         subst eo42
         go_wp2
         go_ret
         exact ⟨Z112, Z70⟩
     rw [if_pos c5] at H
     have c5b0 : decide (x3_2 < (a0.size : Int)) = true := decide_eq_true c5
     clear c5
     by_cases c6 : 0 ≤ x3_2
     rotate_left
     ·rw [if_neg c6] at H
      exact absurd H (by simp)
     rw [if_pos c6] at H
     have c6b0 : decide (0 ≤ x3_2) = true := decide_eq_true c6
     clear c6
     by_cases c8 : (bt a0 x3_2) ≥ 97
     rotate_left
     ·rw [if_neg c8] at H
      have c8b0 : decide (97 ≤ (bt a0 x3_2)) = false := decide_eq_false c8
      clear c8
      by_cases c25 : (bt a0 x3_2) ≥ 48
      ·rw [if_pos c25] at H
       have c25b0 : decide (48 ≤ (bt a0 x3_2)) = true := decide_eq_true c25
       clear c25
       by_cases c27 : (bt a0 x3_2) ≤ 57
       ·rw [if_pos c27] at H
        have c27b0 : decide ((bt a0 x3_2) ≤ 57) = true := decide_eq_true c27
        clear c27
        by_cases c28 : x3_2 = 0
        ·rw [if_pos c28] at H
         have c28b0 : (x3_2 == 0) = true := beq_iff_eq.mpr c28
         have c28b1 : (x3_2 != 0) = false := bne_eq_false_iff_eq.mpr c28
         clear c28
         obtain rfl := Option.some.inj H
         have p7 : 0 ≤ (x3_2 : Int) := of_decide_eq_true Z121
         have q7 : x3_2 < (a0.size : Int) := of_decide_eq_true Z121
         have hx7 := bt_at a0 x3_2
         replace p7 := eq_true p7
         replace q7 := eq_true q7
         have p24 : 0 ≤ (x3_2 : Int) := of_decide_eq_true Z121
         have q24 : x3_2 < (a0.size : Int) := of_decide_eq_true Z121
         have hx24 := bt_at a0 x3_2
         replace p24 := eq_true p24
         replace q24 := eq_true q24
         have p26 : 0 ≤ (x3_2 : Int) := of_decide_eq_true Z121
         have q26 : x3_2 < (a0.size : Int) := of_decide_eq_true Z121
         have hx26 := bt_at a0 x3_2
         replace p26 := eq_true p26
         replace q26 := eq_true q26
         go_wp2
         go_ret
         exact ⟨Z112, Z70⟩
        ·rw [if_neg c28] at H
         have c28b0 : (x3_2 == 0) = false := beq_eq_false_iff_ne.mpr c28
         have c28b1 : (x3_2 != 0) = true := bne_iff_ne.mpr c28
         have H' := Aside0.mk H
         clear H
         have p7 : 0 ≤ (x3_2 : Int) := of_decide_eq_true Z121
         have q7 : x3_2 < (a0.size : Int) := of_decide_eq_true Z121
         have hx7 := bt_at a0 x3_2
         replace p7 := eq_true p7
         replace q7 := eq_true q7
         have p24 : 0 ≤ (x3_2 : Int) := of_decide_eq_true Z121
         have q24 : x3_2 < (a0.size : Int) := of_decide_eq_true Z121
         have hx24 := bt_at a0 x3_2
         replace p24 := eq_true p24
         replace q24 := eq_true q24
         have p26 : 0 ≤ (x3_2 : Int) := of_decide_eq_true Z121
         have q26 : x3_2 < (a0.size : Int) := of_decide_eq_true Z121
         have hx26 := bt_at a0 x3_2
         replace p26 := eq_true p26
         replace q26 := eq_true q26
         go_wp2
         go_roundg k2
         case measure => have := HJ1.out; have := HK2.out; omega
         case rel => exact ⟨(wrap64 (x3_2 + 1)), Z122, H', ⟨Z126⟩, ⟨Z70⟩⟩
       ·rw [if_neg c27] at H
        have c27b0 : decide ((bt a0 x3_2) ≤ 57) = false := decide_eq_false c27
        clear c27
        by_cases c30 : ((bt a0 x3_2) = 95)
        ·rw [if_pos c30] at H
         have c30b0 : ((bt a0 x3_2) == 95) = true := beq_iff_eq.mpr c30
         have c30b1 : ((bt a0 x3_2) != 95) = false := bne_eq_false_iff_eq.mpr c30
         clear c30
         by_cases c31 : x3_2 = 0
         ·rw [if_pos c31] at H
          have c31b0 : (x3_2 == 0) = true := beq_iff_eq.mpr c31
          have c31b1 : (x3_2 != 0) = false := bne_eq_false_iff_eq.mpr c31
          clear c31
          obtain rfl := Option.some.inj H
          have p7 : 0 ≤ (x3_2 : Int) := of_decide_eq_true Z121
          have q7 : x3_2 < (a0.size : Int) := of_decide_eq_true Z121
          have hx7 := bt_at a0 x3_2
          replace p7 := eq_true p7
          replace q7 := eq_true q7
          have p24 : 0 ≤ (x3_2 : Int) := of_decide_eq_true Z121
          have q24 : x3_2 < (a0.size : Int) := of_decide_eq_true Z121
          have hx24 := bt_at a0 x3_2
          replace p24 := eq_true p24
          replace q24 := eq_true q24
          have p26 : 0 ≤ (x3_2 : Int) := of_decide_eq_true Z121
          have q26 : x3_2 < (a0.size : Int) := of_decide_eq_true Z121
          have hx26 := bt_at a0 x3_2
          replace p26 := eq_true p26
          replace q26 := eq_true q26
          have p29 : 0 ≤ (x3_2 : Int) := of_decide_eq_true Z121
          have q29 : x3_2 < (a0.size : Int) := of_decide_eq_true Z121
          have hx29 := bt_at a0 x3_2
          replace p29 := eq_true p29
          replace q29 := eq_true q29
          go_wp2
          go_ret
          exact ⟨Z112, Z70⟩
         ·rw [if_neg c31] at H
          have c31b0 : (x3_2 == 0) = false := beq_eq_false_iff_ne.mpr c31
          have c31b1 : (x3_2 != 0) = true := bne_iff_ne.mpr c31
          have H' := Aside0.mk H
          clear H
          have p7 : 0 ≤ (x3_2 : Int) := of_decide_eq_true Z121
          have q7 : x3_2 < (a0.size : Int) := of_decide_eq_true Z121
          have hx7 := bt_at a0 x3_2
          replace p7 := eq_true p7
          replace q7 := eq_true q7
          have p24 : 0 ≤ (x3_2 : Int) := of_decide_eq_true Z121
          have q24 : x3_2 < (a0.size : Int) := of_decide_eq_true Z121
          have hx24 := bt_at a0 x3_2
          replace p24 := eq_true p24
          replace q24 := eq_true q24
          have p26 : 0 ≤ (x3_2 : Int) := of_decide_eq_true Z121
          have q26 : x3_2 < (a0.size : Int) := of_decide_eq_true Z121
          have hx26 := bt_at a0 x3_2
          replace p26 := eq_true p26
          replace q26 := eq_true q26
          have p29 : 0 ≤ (x3_2 : Int) := of_decide_eq_true Z121
          have q29 : x3_2 < (a0.size : Int) := of_decide_eq_true Z121
          have hx29 := bt_at a0 x3_2
          replace p29 := eq_true p29
          replace q29 := eq_true q29
          go_wp2
          go_roundg k2
          case measure => have := HJ1.out; have := HK2.out; omega
          case rel => exact ⟨(wrap64 (x3_2 + 1)), Z122, H', ⟨Z126⟩, ⟨Z70⟩⟩
        ·rw [if_neg c30] at H
         have c30b0 : ((bt a0 x3_2) == 95) = false := beq_eq_false_iff_ne.mpr c30
         have c30b1 : ((bt a0 x3_2) != 95) = true := bne_iff_ne.mpr c30
         obtain rfl := Option.some.inj H
         have p7 : 0 ≤ (x3_2 : Int) := of_decide_eq_true Z121
         have q7 : x3_2 < (a0.size : Int) := of_decide_eq_true Z121
         have hx7 := bt_at a0 x3_2
         replace p7 := eq_true p7
         replace q7 := eq_true q7
         have p24 : 0 ≤ (x3_2 : Int) := of_decide_eq_true Z121
         have q24 : x3_2 < (a0.size : Int) := of_decide_eq_true Z121
         have hx24 := bt_at a0 x3_2
         replace p24 := eq_true p24
         replace q24 := eq_true q24
         have p26 : 0 ≤ (x3_2 : Int) := of_decide_eq_true Z121
         have q26 : x3_2 < (a0.size : Int) := of_decide_eq_true Z121
         have hx26 := bt_at a0 x3_2
         replace p26 := eq_true p26
         replace q26 := eq_true q26
         have p29 : 0 ≤ (x3_2 : Int) := of_decide_eq_true Z121
         have q29 : x3_2 < (a0.size : Int) := of_decide_eq_true Z121
         have hx29 := bt_at a0 x3_2
         replace p29 := eq_true p29
         replace q29 := eq_true q29
         go_wp2
         go_ret
         exact ⟨Z112, Z70⟩
      ·rw [if_neg c25] at H
       have c25b0 : decide (48 ≤ (bt a0 x3_2)) = false := decide_eq_false c25
       clear c25
       by_cases c33 : ((bt a0 x3_2) = 95)
       ·rw [if_pos c33] at H
        have c33b0 : ((bt a0 x3_2) == 95) = true := beq_iff_eq.mpr c33
        have c33b1 : ((bt a0 x3_2) != 95) = false := bne_eq_false_iff_eq.mpr c33
        clear c33
        by_cases c34 : x3_2 = 0
        ·rw [if_pos c34] at H
         have c34b0 : (x3_2 == 0) = true := beq_iff_eq.mpr c34
         have c34b1 : (x3_2 != 0) = false := bne_eq_false_iff_eq.mpr c34
         clear c34
         obtain rfl := Option.some.inj H
         have p7 : 0 ≤ (x3_2 : Int) := of_decide_eq_true Z121
         have q7 : x3_2 < (a0.size : Int) := of_decide_eq_true Z121
         have hx7 := bt_at a0 x3_2
         replace p7 := eq_true p7
         replace q7 := eq_true q7
         have p24 : 0 ≤ (x3_2 : Int) := of_decide_eq_true Z121
         have q24 : x3_2 < (a0.size : Int) := of_decide_eq_true Z121
         have hx24 := bt_at a0 x3_2
         replace p24 := eq_true p24
         replace q24 := eq_true q24
         have p32 : 0 ≤ (x3_2 : Int) := of_decide_eq_true Z121
         have q32 : x3_2 < (a0.size : Int) := of_decide_eq_true Z121
         have hx32 := bt_at a0 x3_2
         replace p32 := eq_true p32
         replace q32 := eq_true q32
         go_wp2
         go_ret
         exact ⟨Z112, Z70⟩
        ·rw [if_neg c34] at H
         have c34b0 : (x3_2 == 0) = false := beq_eq_false_iff_ne.mpr c34
         have c34b1 : (x3_2 != 0) = true := bne_iff_ne.mpr c34
         have H' := Aside0.mk H
         clear H
         have p7 : 0 ≤ (x3_2 : Int) := of_decide_eq_true Z121
         have q7 : x3_2 < (a0.size : Int) := of_decide_eq_true Z121
         have hx7 := bt_at a0 x3_2
         replace p7 := eq_true p7
         replace q7 := eq_true q7
         have p24 : 0 ≤ (x3_2 : Int) := of_decide_eq_true Z121
         have q24 : x3_2 < (a0.size : Int) := of_decide_eq_true Z121
         have hx24 := bt_at a0 x3_2
         replace p24 := eq_true p24
         replace q24 := eq_true q24
         have p32 : 0 ≤ (x3_2 : Int) := of_decide_eq_true Z121
         have q32 : x3_2 < (a0.size : Int) := of_decide_eq_true Z121
         have hx32 := bt_at a0 x3_2
         replace p32 := eq_true p32
         replace q32 := eq_true q32
         go_wp2
         go_roundg k2
         case measure => have := HJ1.out; have := HK2.out; omega
         case rel => exact ⟨(wrap64 (x3_2 + 1)), Z122, H', ⟨Z126⟩, ⟨Z70⟩⟩
       ·rw [if_neg c33] at H
        have c33b0 : ((bt a0 x3_2) == 95) = false := beq_eq_false_iff_ne.mpr c33
        have c33b1 : ((bt a0 x3_2) != 95) = true := bne_iff_ne.mpr c33
        obtain rfl := Option.some.inj H
        have p7 : 0 ≤ (x3_2 : Int) := of_decide_eq_true Z121
        have q7 : x3_2 < (a0.size : Int) := of_decide_eq_true Z121
        have hx7 := bt_at a0 x3_2
        replace p7 := eq_true p7
        replace q7 := eq_true q7
        have p24 : 0 ≤ (x3_2 : Int) := of_decide_eq_true Z121
        have q24 : x3_2 < (a0.size : Int) := of_decide_eq_true Z121
        have hx24 := bt_at a0 x3_2
        replace p24 := eq_true p24
        replace q24 := eq_true q24
        have p32 : 0 ≤ (x3_2 : Int) := of_decide_eq_true Z121
        have q32 : x3_2 < (a0.size : Int) := of_decide_eq_true Z121
        have hx32 := bt_at a0 x3_2
        replace p32 := eq_true p32
        replace q32 := eq_true q32
        go_wp2
        go_ret
        exact ⟨Z112, Z70⟩
     rw [if_pos c8] at H
     have c8b0 : decide (97 ≤ (bt a0 x3_2)) = true := decide_eq_true c8
     clear c8
     by_cases c11 : (bt a0 x3_2) ≥ 48
     rotate_left
     ·rw [if_neg c11] at H
      have c11b0 : decide (48 ≤ (bt a0 x3_2)) = false := decide_eq_false c11
      clear c11
      by_cases c21 : ((bt a0 x3_2) ≤ 122)
      ·rw [if_pos c21] at H
       have c21b0 : decide ((bt a0 x3_2) ≤ 122) = true := decide_eq_true c21
       clear c21
       have H' := Aside0.mk H
       clear H
       have p7 : 0 ≤ (x3_2 : Int) := of_decide_eq_true Z121
       have q7 : x3_2 < (a0.size : Int) := of_decide_eq_true Z121
       have hx7 := bt_at a0 x3_2
       replace p7 := eq_true p7
       replace q7 := eq_true q7
       have p9 : 0 ≤ (x3_2 : Int) := of_decide_eq_true Z121
       have q9 : x3_2 < (a0.size : Int) := of_decide_eq_true Z121
       have hx9 := bt_at a0 x3_2
       replace p9 := eq_true p9
       replace q9 := eq_true q9
       have p10 : 0 ≤ (x3_2 : Int) := of_decide_eq_true Z121
       have q10 : x3_2 < (a0.size : Int) := of_decide_eq_true Z121
       have hx10 := bt_at a0 x3_2
       replace p10 := eq_true p10
       replace q10 := eq_true q10
       have p20 : 0 ≤ (x3_2 : Int) := of_decide_eq_true Z121
       have q20 : x3_2 < (a0.size : Int) := of_decide_eq_true Z121
       have hx20 := bt_at a0 x3_2
       replace p20 := eq_true p20
       replace q20 := eq_true q20
       go_wp2
       go_roundg k2
       case measure => have := HJ1.out; have := HK2.out; omega
       case rel => exact ⟨(wrap64 (x3_2 + 1)), Z122, H', ⟨Z126⟩, ⟨Z70⟩⟩
      ·rw [if_neg c21] at H
       have c21b0 : decide ((bt a0 x3_2) ≤ 122) = false := decide_eq_false c21
       clear c21
       by_cases c22 : ((bt a0 x3_2) = 95)
       ·rw [if_pos c22] at H
        have c22b0 : ((bt a0 x3_2) == 95) = true := beq_iff_eq.mpr c22
        have c22b1 : ((bt a0 x3_2) != 95) = false := bne_eq_false_iff_eq.mpr c22
        clear c22
        by_cases c23 : x3_2 = 0
        ·rw [if_pos c23] at H
         have c23b0 : (x3_2 == 0) = true := beq_iff_eq.mpr c23
         have c23b1 : (x3_2 != 0) = false := bne_eq_false_iff_eq.mpr c23
         clear c23
         obtain rfl := Option.some.inj H
         have p7 : 0 ≤ (x3_2 : Int) := of_decide_eq_true Z121
         have q7 : x3_2 < (a0.size : Int) := of_decide_eq_true Z121
         have hx7 := bt_at a0 x3_2
         replace p7 := eq_true p7
         replace q7 := eq_true q7
         have p9 : 0 ≤ (x3_2 : Int) := of_decide_eq_true Z121
         have q9 : x3_2 < (a0.size : Int) := of_decide_eq_true Z121
         have hx9 := bt_at a0 x3_2
         replace p9 := eq_true p9
         replace q9 := eq_true q9
         have p10 : 0 ≤ (x3_2 : Int) := of_decide_eq_true Z121
         have q10 : x3_2 < (a0.size : Int) := of_decide_eq_true Z121
         have hx10 := bt_at a0 x3_2
         replace p10 := eq_true p10
         replace q10 := eq_true q10
         have p20 : 0 ≤ (x3_2 : Int) := of_decide_eq_true Z121
         have q20 : x3_2 < (a0.size : Int) := of_decide_eq_true Z121
         have hx20 := bt_at a0 x3_2
         replace p20 := eq_true p20
         replace q20 := eq_true q20
         go_wp2
         go_ret
         exact ⟨Z112, Z70⟩
        ·rw [if_neg c23] at H
         have c23b0 : (x3_2 == 0) = false := beq_eq_false_iff_ne.mpr c23
         have c23b1 : (x3_2 != 0) = true := bne_iff_ne.mpr c23
         have H' := Aside0.mk H
         clear H
         have p7 : 0 ≤ (x3_2 : Int) := of_decide_eq_true Z121
         have q7 : x3_2 < (a0.size : Int) := of_decide_eq_true Z121
         have hx7 := bt_at a0 x3_2
         replace p7 := eq_true p7
         replace q7 := eq_true q7
         have p9 : 0 ≤ (x3_2 : Int) := of_decide_eq_true Z121
         have q9 : x3_2 < (a0.size : Int) := of_decide_eq_true Z121
         have hx9 := bt_at a0 x3_2
         replace p9 := eq_true p9
         replace q9 := eq_true q9
         have p10 : 0 ≤ (x3_2 : Int) := of_decide_eq_true Z121
         have q10 : x3_2 < (a0.size : Int) := of_decide_eq_true Z121
         have hx10 := bt_at a0 x3_2
         replace p10 := eq_true p10
         replace q10 := eq_true q10
         have p20 : 0 ≤ (x3_2 : Int) := of_decide_eq_true Z121
         have q20 : x3_2 < (a0.size : Int) := of_decide_eq_true Z121
         have hx20 := bt_at a0 x3_2
         replace p20 := eq_true p20
         replace q20 := eq_true q20
         go_wp2
         go_roundg k2
         case measure => have := HJ1.out; have := HK2.out; omega
         case rel => exact ⟨(wrap64 (x3_2 + 1)), Z122, H', ⟨Z126⟩, ⟨Z70⟩⟩
       ·rw [if_neg c22] at H
        have c22b0 : ((bt a0 x3_2) == 95) = false := beq_eq_false_iff_ne.mpr c22
        have c22b1 : ((bt a0 x3_2) != 95) = true := bne_iff_ne.mpr c22
        obtain rfl := Option.some.inj H
        have p7 : 0 ≤ (x3_2 : Int) := of_decide_eq_true Z121
        have q7 : x3_2 < (a0.size : Int) := of_decide_eq_true Z121
        have hx7 := bt_at a0 x3_2
        replace p7 := eq_true p7
        replace q7 := eq_true q7
        have p9 : 0 ≤ (x3_2 : Int) := of_decide_eq_true Z121
        have q9 : x3_2 < (a0.size : Int) := of_decide_eq_true Z121
        have hx9 := bt_at a0 x3_2
        replace p9 := eq_true p9
        replace q9 := eq_true q9
        have p10 : 0 ≤ (x3_2 : Int) := of_decide_eq_true Z121
        have q10 : x3_2 < (a0.size : Int) := of_decide_eq_true Z121
        have hx10 := bt_at a0 x3_2
        replace p10 := eq_true p10
        replace q10 := eq_true q10
        have p20 : 0 ≤ (x3_2 : Int) := of_decide_eq_true Z121
        have q20 : x3_2 < (a0.size : Int) := of_decide_eq_true Z121
        have hx20 := bt_at a0 x3_2
        replace p20 := eq_true p20
        replace q20 := eq_true q20
        go_wp2
        go_ret
        exact ⟨Z112, Z70⟩
     rw [if_pos c11] at H
     have c11b0 : decide (48 ≤ (bt a0 x3_2)) = true := decide_eq_true c11
     clear c11
     by_cases c13 : (bt a0 x3_2) ≤ 57
     ·rw [if_pos c13] at H
      have c13b0 : decide ((bt a0 x3_2) ≤ 57) = true := decide_eq_true c13
      clear c13
      by_cases c14 : ((bt a0 x3_2) ≤ 122)
      ·rw [if_pos c14] at H
       have c14b0 : decide ((bt a0 x3_2) ≤ 122) = true := decide_eq_true c14
       clear c14
       have H' := Aside0.mk H
       clear H
       have p7 : 0 ≤ (x3_2 : Int) := of_decide_eq_true Z121
       have q7 : x3_2 < (a0.size : Int) := of_decide_eq_true Z121
       have hx7 := bt_at a0 x3_2
       replace p7 := eq_true p7
       replace q7 := eq_true q7
       have p9 : 0 ≤ (x3_2 : Int) := of_decide_eq_true Z121
       have q9 : x3_2 < (a0.size : Int) := of_decide_eq_true Z121
       have hx9 := bt_at a0 x3_2
       replace p9 := eq_true p9
       replace q9 := eq_true q9
       have p10 : 0 ≤ (x3_2 : Int) := of_decide_eq_true Z121
       have q10 : x3_2 < (a0.size : Int) := of_decide_eq_true Z121
       have hx10 := bt_at a0 x3_2
       replace p10 := eq_true p10
       replace q10 := eq_true q10
       have p12 : 0 ≤ (x3_2 : Int) := of_decide_eq_true Z121
       have q12 : x3_2 < (a0.size : Int) := of_decide_eq_true Z121
       have hx12 := bt_at a0 x3_2
       replace p12 := eq_true p12
       replace q12 := eq_true q12
       go_wp2
       go_roundg k2
       case measure => have := HJ1.out; have := HK2.out; omega
       case rel => exact ⟨(wrap64 (x3_2 + 1)), Z122, H', ⟨Z126⟩, ⟨Z70⟩⟩
      rw [if_neg c14] at H
      have c14b0 : decide ((bt a0 x3_2) ≤ 122) = false := decide_eq_false c14
      clear c14
      by_cases c15 : x3_2 = 0
      ·rw [if_pos c15] at H
       have c15b0 : (x3_2 == 0) = true := beq_iff_eq.mpr c15
       have c15b1 : (x3_2 != 0) = false := bne_eq_false_iff_eq.mpr c15
       clear c15
       obtain rfl := Option.some.inj H
       have p7 : 0 ≤ (x3_2 : Int) := of_decide_eq_true Z121
       have q7 : x3_2 < (a0.size : Int) := of_decide_eq_true Z121
       have hx7 := bt_at a0 x3_2
       replace p7 := eq_true p7
       replace q7 := eq_true q7
       have p9 : 0 ≤ (x3_2 : Int) := of_decide_eq_true Z121
       have q9 : x3_2 < (a0.size : Int) := of_decide_eq_true Z121
       have hx9 := bt_at a0 x3_2
       replace p9 := eq_true p9
       replace q9 := eq_true q9
       have p10 : 0 ≤ (x3_2 : Int) := of_decide_eq_true Z121
       have q10 : x3_2 < (a0.size : Int) := of_decide_eq_true Z121
       have hx10 := bt_at a0 x3_2
       replace p10 := eq_true p10
       replace q10 := eq_true q10
       have p12 : 0 ≤ (x3_2 : Int) := of_decide_eq_true Z121
       have q12 : x3_2 < (a0.size : Int) := of_decide_eq_true Z121
       have hx12 := bt_at a0 x3_2
       replace p12 := eq_true p12
       replace q12 := eq_true q12
       go_wp2
       go_ret
       exact ⟨Z112, Z70⟩
      rw [if_neg c15] at H
      have c15b0 : (x3_2 == 0) = false := beq_eq_false_iff_ne.mpr c15
      have c15b1 : (x3_2 != 0) = true := bne_iff_ne.mpr c15
      have H' := Aside0.mk H
      clear H
      have p7 : 0 ≤ (x3_2 : Int) := of_decide_eq_true Z121
      have q7 : x3_2 < (a0.size : Int) := of_decide_eq_true Z121
      have hx7 := bt_at a0 x3_2
      replace p7 := eq_true p7
      replace q7 := eq_true q7
      have p9 : 0 ≤ (x3_2 : Int) := of_decide_eq_true Z121
      have q9 : x3_2 < (a0.size : Int) := of_decide_eq_true Z121
      have hx9 := bt_at a0 x3_2
      replace p9 := eq_true p9
      replace q9 := eq_true q9
      have p10 : 0 ≤ (x3_2 : Int) := of_decide_eq_true Z121
      have q10 : x3_2 < (a0.size : Int) := of_decide_eq_true Z121
      have hx10 := bt_at a0 x3_2
      replace p10 := eq_true p10
      replace q10 := eq_true q10
      have p12 : 0 ≤ (x3_2 : Int) := of_decide_eq_true Z121
      have q12 : x3_2 < (a0.size : Int) := of_decide_eq_true Z121
      have hx12 := bt_at a0 x3_2
      replace p12 := eq_true p12
      replace q12 := eq_true q12
      go_wp2
      go_roundg k2
      case measure => have := HJ1.out; have := HK2.out; omega
      case rel => exact ⟨(wrap64 (x3_2 + 1)), Z122, H', ⟨Z126⟩, ⟨Z70⟩⟩
     rw [if_neg c13] at H
     have c13b0 : decide ((bt a0 x3_2) ≤ 57) = false := decide_eq_false c13
     clear c13
     by_cases c17 : ((bt a0 x3_2) ≤ 122)
     ·rw [if_pos c17] at H
      have c17b0 : decide ((bt a0 x3_2) ≤ 122) = true := decide_eq_true c17
      clear c17
      have H' := Aside0.mk H
      clear H
      have p7 : 0 ≤ (x3_2 : Int) := of_decide_eq_true Z121
      have q7 : x3_2 < (a0.size : Int) := of_decide_eq_true Z121
      have hx7 := bt_at a0 x3_2
      replace p7 := eq_true p7
      replace q7 := eq_true q7
      have p9 : 0 ≤ (x3_2 : Int) := of_decide_eq_true Z121
      have q9 : x3_2 < (a0.size : Int) := of_decide_eq_true Z121
      have hx9 := bt_at a0 x3_2
      replace p9 := eq_true p9
      replace q9 := eq_true q9
      have p10 : 0 ≤ (x3_2 : Int) := of_decide_eq_true Z121
      have q10 : x3_2 < (a0.size : Int) := of_decide_eq_true Z121
      have hx10 := bt_at a0 x3_2
      replace p10 := eq_true p10
      replace q10 := eq_true q10
      have p12 : 0 ≤ (x3_2 : Int) := of_decide_eq_true Z121
      have q12 : x3_2 < (a0.size : Int) := of_decide_eq_true Z121
      have hx12 := bt_at a0 x3_2
      replace p12 := eq_true p12
      replace q12 := eq_true q12
      have p16 : 0 ≤ (x3_2 : Int) := of_decide_eq_true Z121
      have q16 : x3_2 < (a0.size : Int) := of_decide_eq_true Z121
      have hx16 := bt_at a0 x3_2
      replace p16 := eq_true p16
      replace q16 := eq_true q16
      go_wp2
      go_roundg k2
      case measure => have := HJ1.out; have := HK2.out; omega
      case rel => exact ⟨(wrap64 (x3_2 + 1)), Z122, H', ⟨Z126⟩, ⟨Z70⟩⟩
     rw [if_neg c17] at H
     have c17b0 : decide ((bt a0 x3_2) ≤ 122) = false := decide_eq_false c17
     clear c17
     by_cases c18 : ((bt a0 x3_2) = 95)
     rotate_left
     ·rw [if_neg c18] at H
      have c18b0 : ((bt a0 x3_2) == 95) = false := beq_eq_false_iff_ne.mpr c18
      have c18b1 : ((bt a0 x3_2) != 95) = true := bne_iff_ne.mpr c18
      obtain rfl := Option.some.inj H
      have p7 : 0 ≤ (x3_2 : Int) := of_decide_eq_true Z121
      have q7 : x3_2 < (a0.size : Int) := of_decide_eq_true Z121
      have hx7 := bt_at a0 x3_2
      replace p7 := eq_true p7
      replace q7 := eq_true q7
      have p9 : 0 ≤ (x3_2 : Int) := of_decide_eq_true Z121
      have q9 : x3_2 < (a0.size : Int) := of_decide_eq_true Z121
      have hx9 := bt_at a0 x3_2
      replace p9 := eq_true p9
      replace q9 := eq_true q9
      have p10 : 0 ≤ (x3_2 : Int) := of_decide_eq_true Z121
      have q10 : x3_2 < (a0.size : Int) := of_decide_eq_true Z121
      have hx10 := bt_at a0 x3_2
      replace p10 := eq_true p10
      replace q10 := eq_true q10
      have p12 : 0 ≤ (x3_2 : Int) := of_decide_eq_true Z121
      have q12 : x3_2 < (a0.size : Int) := of_decide_eq_true Z121
      have hx12 := bt_at a0 x3_2
      replace p12 := eq_true p12
      replace q12 := eq_true q12
      have p16 : 0 ≤ (x3_2 : Int) := of_decide_eq_true Z121
      have q16 : x3_2 < (a0.size : Int) := of_decide_eq_true Z121
      have hx16 := bt_at a0 x3_2
      replace p16 := eq_true p16
      replace q16 := eq_true q16
      go_wp2
      go_ret
      exact ⟨Z112, Z70⟩
     rw [if_pos c18] at H
     have c18b0 : ((bt a0 x3_2) == 95) = true := beq_iff_eq.mpr c18
     have c18b1 : ((bt a0 x3_2) != 95) = false := bne_eq_false_iff_eq.mpr c18
     clear c18
     by_cases c19 : x3_2 = 0
     ·rw [if_pos c19] at H
      have c19b0 : (x3_2 == 0) = true := beq_iff_eq.mpr c19
      have c19b1 : (x3_2 != 0) = false := bne_eq_false_iff_eq.mpr c19
      clear c19
      obtain rfl := Option.some.inj H
      have p7 : 0 ≤ (x3_2 : Int) := of_decide_eq_true Z121
      have q7 : x3_2 < (a0.size : Int) := of_decide_eq_true Z121
      have hx7 := bt_at a0 x3_2
      replace p7 := eq_true p7
      replace q7 := eq_true q7
      have p9 : 0 ≤ (x3_2 : Int) := of_decide_eq_true Z121
      have q9 : x3_2 < (a0.size : Int) := of_decide_eq_true Z121
      have hx9 := bt_at a0 x3_2
      replace p9 := eq_true p9
      replace q9 := eq_true q9
      have p10 : 0 ≤ (x3_2 : Int) := of_decide_eq_true Z121
      have q10 : x3_2 < (a0.size : Int) := of_decide_eq_true Z121
      have hx10 := bt_at a0 x3_2
      replace p10 := eq_true p10
      replace q10 := eq_true q10
      have p12 : 0 ≤ (x3_2 : Int) := of_decide_eq_true Z121
      have q12 : x3_2 < (a0.size : Int) := of_decide_eq_true Z121
      have hx12 := bt_at a0 x3_2
      replace p12 := eq_true p12
      replace q12 := eq_true q12
      have p16 : 0 ≤ (x3_2 : Int) := of_decide_eq_true Z121
      have q16 : x3_2 < (a0.size : Int) := of_decide_eq_true Z121
      have hx16 := bt_at a0 x3_2
      replace p16 := eq_true p16
      replace q16 := eq_true q16
      go_wp2
      go_ret
      exact ⟨Z112, Z70⟩
     rw [if_neg c19] at H
     have c19b0 : (x3_2 == 0) = false := beq_eq_false_iff_ne.mpr c19
     have c19b1 : (x3_2 != 0) = true := bne_iff_ne.mpr c19
     have H' := Aside0.mk H
     clear H
     have p7 : 0 ≤ (x3_2 : Int) := of_decide_eq_true Z121
     have q7 : x3_2 < (a0.size : Int) := of_decide_eq_true Z121
     have hx7 := bt_at a0 x3_2
     replace p7 := eq_true p7
     replace q7 := eq_true q7
     have p9 : 0 ≤ (x3_2 : Int) := of_decide_eq_true Z121
     have q9 : x3_2 < (a0.size : Int) := of_decide_eq_true Z121
     have hx9 := bt_at a0 x3_2
     replace p9 := eq_true p9
     replace q9 := eq_true q9
     have p10 : 0 ≤ (x3_2 : Int) := of_decide_eq_true Z121
     have q10 : x3_2 < (a0.size : Int) := of_decide_eq_true Z121
     have hx10 := bt_at a0 x3_2
     replace p10 := eq_true p10
     replace q10 := eq_true q10
     have p12 : 0 ≤ (x3_2 : Int) := of_decide_eq_true Z121
     have q12 : x3_2 < (a0.size : Int) := of_decide_eq_true Z121
     have hx12 := bt_at a0 x3_2
     replace p12 := eq_true p12
     replace q12 := eq_true q12
     have p16 : 0 ≤ (x3_2 : Int) := of_decide_eq_true Z121
     have q16 : x3_2 < (a0.size : Int) := of_decide_eq_true Z121
     have hx16 := bt_at a0 x3_2
     replace p16 := eq_true p16
     replace q16 := eq_true q16
     go_wp2
     go_roundg k2
     case measure => have := HJ1.out; have := HK2.out; omega
     case rel => exact ⟨(wrap64 (x3_2 + 1)), Z122, H', ⟨Z126⟩, ⟨Z70⟩⟩
mutual
def alumref20_checks.l0 : Nat → List (S42) → List (S56) → Int → Option (Int)
 | 0, _, _, _ => none
 | k + 1, x0, x1, x5 => if x5 < (x0.length : Int) then (if 0 ≤ x5 then (if ((rd_T42 x0 x5).f0) < 0 then (alumref20_checks.j1 k x0 x1 x5 true ((rd_T42 x0 x5).f0) ((rd_T42 x0 x5).f1) ((rd_T42 x0 x5).f2.f0) ((rd_T42 x0 x5).f2.f1) ((rd_T42 x0 x5).f2.f2)) else (if ((rd_T42 x0 x5).f0) ≥ (x1.length : Int) then (alumref20_checks.j1 k x0 x1 x5 true ((rd_T42 x0 x5).f0) ((rd_T42 x0 x5).f1) ((rd_T42 x0 x5).f2.f0) ((rd_T42 x0 x5).f2.f1) ((rd_T42 x0 x5).f2.f2)) else (if ((rd_T42 x0 x5).f1) < 6 then (alumref20_checks.j1 k x0 x1 x5 true ((rd_T42 x0 x5).f0) ((rd_T42 x0 x5).f1) ((rd_T42 x0 x5).f2.f0) ((rd_T42 x0 x5).f2.f1) ((rd_T42 x0 x5).f2.f2)) else (alumref20_checks.j1 k x0 x1 x5 (decide (((rd_T42 x0 x5).f1) > 11)) ((rd_T42 x0 x5).f0) ((rd_T42 x0 x5).f1) ((rd_T42 x0 x5).f2.f0) ((rd_T42 x0 x5).f2.f1) ((rd_T42 x0 x5).f2.f2))))) else (none)) else (some 0)
def alumref20_checks.j1 : Nat → List (S42) → List (S56) → Int → Bool → Int → Int → Int → Int → ByteArray → Option (Int)
 | 0, _, _, _, _, _, _, _, _, _ => none
 | k + 1, x0, x1, x5, x37, x145000, x145001, x145002, x145003, x145004 => if x37 = true then (some 1) else ((alumref20_Valid.f x145002 x145003 x145004).bind fun t145 => (if t145 = true then (if 0 ≤ x145000 then (if x145000 < (x1.length : Int) then (if x145002 = ((rd_T56 x1 x145000).f1) then (alumref20_checks.l0 k x0 x1 (wrap64 (x5 + 1))) else (some 7)) else (none)) else (none)) else (some 7)))
end
def alumref20_checks.f (k : Nat) (l0 : List (S42)) (l1 : List (S56)) : Option (Int) := alumref20_checks.l0 k l0 l1 0
set_option maxHeartbeats 8000000 in
set_option maxRecDepth 100000 in
theorem alumref20_checks.calls (k : Nat) (A0 : Option Addr) (c0 : Nat) (l0 : List (S42)) (A1 : Option Addr) (c1 : Nat) (l1 : List (S56)) (r : Int) (w : World) (hr0 : Kd.C k42 w A0 l0.length l0) (hc0 : l0.length ≤ c0) (hr1 : Kd.C k56 w A1 l1.length l1) (hc1 : l1.length ≤ c1) (h : alumref20_checks.f k l0 l1 = some r) :
  Calls Try.prog 78 #[.slice A0 l0.length c0, .slice A1 l1.length c1] w fun e w' => e = .returned (.int .i64 r) ∧ Below w.heap.size w w' := by
 have hu42 := Try.underlying42
 have hu40 := Try.underlying40
 have HR0 := Aside0.mk hr0
 have HC0 := Aside0.mk hc0
 clear hr0 hc0
 have HR1 := Aside0.mk hr1
 have HC1 := Aside0.mk hc1
 clear hr1 hc1
 have HB := Aside0.mk (Below.refl w.heap.size w)
 have H : (alumref20_checks.l0 k l0 l1 0) = some r := h
 clear h
 have H' := Aside0.mk H
 clear H
 go_enter Try.func78, Try.ntmps78
 go_wp2
 repeat (go_quiet (fail); try go_wp2)
 go_loopg [5] k (fun kq v5 w' => ∃ (x5_1 : Int), v5 = .int .i64 x5_1 ∧ Aside0 (alumref20_checks.l0 kq l0 l1 x5_1 = some r) ∧ Aside0 (kq ≤ k) ∧ Aside0 (Below w.heap.size w w'))
 case atStart => exact ⟨(0), Z122, H', ⟨Nat.le_refl _⟩, ⟨Z70⟩⟩
 case round =>
  clear H'
  try clear c1
  try clear p2
  obtain ⟨x5_1, rfl, HA, HK1, HB⟩ := hrel
  cases gk with
  | zero => exact absurd HA.out (by simp [alumref20_checks.l0])
  | succ k1 =>
   have H := HA.out
   clear HA
   simp only [alumref20_checks.l0] at H
   by_cases c3 : x5_1 < (l0.length : Int)
   rotate_left
   ·rw [if_neg c3] at H
    have c3b0 : decide (x5_1 < (l0.length : Int)) = false := decide_eq_false c3
    clear c3
    obtain rfl := Option.some.inj H
    go_wp2
    repeat (go_quiet (fail); try go_wp2)
    go_ret
    exact ⟨Z112, Z70⟩
   rw [if_pos c3] at H
   have c3b0 : decide (x5_1 < (l0.length : Int)) = true := decide_eq_true c3
   clear c3
   by_cases c4 : 0 ≤ x5_1
   rotate_left
   ·rw [if_neg c4] at H
    exact absurd H (by simp)
   rw [if_pos c4] at H
   have c4b0 : decide (0 ≤ x5_1) = true := decide_eq_true c4
   clear c4
   have HC5 := Aside0.mk H
   clear H
   have p143 : 0 ≤ (x5_1 : Int) := of_decide_eq_true Z121
   have q143 : x5_1 < (l0.length : Int) := of_decide_eq_true Z121
   obtain ⟨ad143, e143, hx143_0, hx143_1, hx143_2, hx143_3, hx143_4⟩ := at_T42 HR0.out x5_1 p143 q143
   cases e143
   replace hx143_0 := (HB.out.cell (World.block_lt_of_cell? w _ hx143_0)).trans hx143_0
   replace hx143_1 := (HB.out.cell (World.block_lt_of_cell? w _ hx143_1)).trans hx143_1
   replace hx143_2 := (HB.out.cell (World.block_lt_of_cell? w _ hx143_2)).trans hx143_2
   replace hx143_3 := (HB.out.cell (World.block_lt_of_cell? w _ hx143_3)).trans hx143_3
   replace hx143_4 := (HB.out.cell (World.block_lt_of_cell? w _ hx143_4)).trans hx143_4
   replace p143 := eq_true p143
   replace q143 := eq_true q143
   go_upto_region 5 with (first | ((with_reducible refine gate_dst (N := 6) rfl ?_); (try (refine gate_guard (by rfl) ?_; dsimp only)); refine box_event ?hg (N := 6) ?hd (cs := #[.int .i64 0, .int .i64 0, .int .i64 0, .int .i64 0, .string (⟨#[]⟩ : ByteArray)]) (t := 42) ?hr ?_; (case hd => rfl); (case hg => rfl); (case hr => first | (go_simp; done) | (go_simp; rfl)); intro gb144 hg w6 hbox hb; have n0_ := Aside0.mk (below_step Z67 hb); have n1_ := Aside0.mk (hbox); have n2_ := Aside0.mk ((Z42 : w.heap.size ≤ gb144)); have n3_ := Aside0.mk ((Z42 : w.heap.size ≤ gb144)); clear HB; have HB := n0_; have BK144 := n1_; have GW144 := n2_; have GE144 := n3_; clear n0_ n1_ n2_ n3_; clear hb hbox hg; have hcz7_0 : w6.cell? ⟨gb144, 0, none⟩ = some (.int .i64 0) := (blk_cell BK144.out 0).trans rfl; have hcz7_1 : w6.cell? ⟨gb144, 1, none⟩ = some (.int .i64 0) := (blk_cell BK144.out 1).trans rfl; have hcz7_2 : w6.cell? ⟨gb144, 2, none⟩ = some (.int .i64 0) := (blk_cell BK144.out 2).trans rfl; have hcz7_3 : w6.cell? ⟨gb144, 3, none⟩ = some (.int .i64 0) := (blk_cell BK144.out 3).trans rfl; have hcz7_4 : w6.cell? ⟨gb144, 4, none⟩ = some (.string (⟨#[]⟩ : ByteArray)) := (blk_cell BK144.out 4).trans rfl; have hfz7_0 := blk_frozen BK144.out 0; have hfz7_1 := blk_frozen BK144.out 1; have hfz7_2 := blk_frozen BK144.out 2; have hfz7_3 := blk_frozen BK144.out 3; have hfz7_4 := blk_frozen BK144.out 4))
   repeat (go_quiet (first | ((with_reducible refine gate_dst (N := 6) rfl ?_); (try (refine gate_guard (by rfl) ?_; dsimp only)); refine box_event ?hg (N := 6) ?hd (cs := #[.int .i64 0, .int .i64 0, .int .i64 0, .int .i64 0, .string (⟨#[]⟩ : ByteArray)]) (t := 42) ?hr ?_; (case hd => rfl); (case hg => rfl); (case hr => first | (go_simp; done) | (go_simp; rfl)); intro gb144 hg w6 hbox hb; have n0_ := Aside0.mk (below_step Z67 hb); have n1_ := Aside0.mk (hbox); have n2_ := Aside0.mk ((Z42 : w.heap.size ≤ gb144)); have n3_ := Aside0.mk ((Z42 : w.heap.size ≤ gb144)); clear HB; have HB := n0_; have BK144 := n1_; have GW144 := n2_; have GE144 := n3_; clear n0_ n1_ n2_ n3_; clear hb hbox hg; have hcz7_0 : w6.cell? ⟨gb144, 0, none⟩ = some (.int .i64 0) := (blk_cell BK144.out 0).trans rfl; have hcz7_1 : w6.cell? ⟨gb144, 1, none⟩ = some (.int .i64 0) := (blk_cell BK144.out 1).trans rfl; have hcz7_2 : w6.cell? ⟨gb144, 2, none⟩ = some (.int .i64 0) := (blk_cell BK144.out 2).trans rfl; have hcz7_3 : w6.cell? ⟨gb144, 3, none⟩ = some (.int .i64 0) := (blk_cell BK144.out 3).trans rfl; have hcz7_4 : w6.cell? ⟨gb144, 4, none⟩ = some (.string (⟨#[]⟩ : ByteArray)) := (blk_cell BK144.out 4).trans rfl; have hfz7_0 := blk_frozen BK144.out 0; have hfz7_1 := blk_frozen BK144.out 1; have hfz7_2 := blk_frozen BK144.out 2; have hfz7_3 := blk_frozen BK144.out 3; have hfz7_4 := blk_frozen BK144.out 4)); go_upto_region 5 with (first | ((with_reducible refine gate_dst (N := 6) rfl ?_); (try (refine gate_guard (by rfl) ?_; dsimp only)); refine box_event ?hg (N := 6) ?hd (cs := #[.int .i64 0, .int .i64 0, .int .i64 0, .int .i64 0, .string (⟨#[]⟩ : ByteArray)]) (t := 42) ?hr ?_; (case hd => rfl); (case hg => rfl); (case hr => first | (go_simp; done) | (go_simp; rfl)); intro gb144 hg w6 hbox hb; have n0_ := Aside0.mk (below_step Z67 hb); have n1_ := Aside0.mk (hbox); have n2_ := Aside0.mk ((Z42 : w.heap.size ≤ gb144)); have n3_ := Aside0.mk ((Z42 : w.heap.size ≤ gb144)); clear HB; have HB := n0_; have BK144 := n1_; have GW144 := n2_; have GE144 := n3_; clear n0_ n1_ n2_ n3_; clear hb hbox hg; have hcz7_0 : w6.cell? ⟨gb144, 0, none⟩ = some (.int .i64 0) := (blk_cell BK144.out 0).trans rfl; have hcz7_1 : w6.cell? ⟨gb144, 1, none⟩ = some (.int .i64 0) := (blk_cell BK144.out 1).trans rfl; have hcz7_2 : w6.cell? ⟨gb144, 2, none⟩ = some (.int .i64 0) := (blk_cell BK144.out 2).trans rfl; have hcz7_3 : w6.cell? ⟨gb144, 3, none⟩ = some (.int .i64 0) := (blk_cell BK144.out 3).trans rfl; have hcz7_4 : w6.cell? ⟨gb144, 4, none⟩ = some (.string (⟨#[]⟩ : ByteArray)) := (blk_cell BK144.out 4).trans rfl; have hfz7_0 := blk_frozen BK144.out 0; have hfz7_1 := blk_frozen BK144.out 1; have hfz7_2 := blk_frozen BK144.out 2; have hfz7_3 := blk_frozen BK144.out 3; have hfz7_4 := blk_frozen BK144.out 4)))
   (try simp only [Act.put, List.setIfInBounds_toArray, List.set_cons_zero, List.set_cons_succ])
   go_cut [37] (fun v37 wc => ∃ (kq : Nat) (x37_4 : Bool), v37 = .bool x37_4 ∧ Aside0 (alumref20_checks.j1 kq l0 l1 x5_1 x37_4 ((rd_T42 l0 x5_1).f0) ((rd_T42 l0 x5_1).f1) ((rd_T42 l0 x5_1).f2.f0) ((rd_T42 l0 x5_1).f2.f1) ((rd_T42 l0 x5_1).f2.f2) = some r) ∧ Aside0 (kq ≤ k1) ∧ Aside0 (wc.heap[gb144]? = some (.cells #[.int .i64 ((rd_T42 l0 x5_1).f0), .int .i64 ((rd_T42 l0 x5_1).f1), .int .i64 ((rd_T42 l0 x5_1).f2.f0), .int .i64 ((rd_T42 l0 x5_1).f2.f1), .string ((rd_T42 l0 x5_1).f2.f2)] 42 (0, 0))) ∧ Aside0 (Below w.heap.size w wc))
   case first =>
    have H := HC5.out
    clear HC5
    by_cases c8 : ((rd_T42 l0 x5_1).f0) < 0
    ·rw [if_pos c8] at H
     have c8b0 : decide (((rd_T42 l0 x5_1).f0) < 0) = true := decide_eq_true c8
     clear c8
     (first | rw [c8b0] | (simp only [i64_w, i32_w]; rw [c8b0]) | skip)
     have H' := Aside0.mk H
     clear H
     have hcz9_0 : w6.cell? ⟨gb144, 0, none⟩ = some (.int .i64 0) := (blk_cell BK144.out 0).trans rfl
     have hcz9_1 : w6.cell? ⟨gb144, 1, none⟩ = some (.int .i64 0) := (blk_cell BK144.out 1).trans rfl
     have hcz9_2 : w6.cell? ⟨gb144, 2, none⟩ = some (.int .i64 0) := (blk_cell BK144.out 2).trans rfl
     have hcz9_3 : w6.cell? ⟨gb144, 3, none⟩ = some (.int .i64 0) := (blk_cell BK144.out 3).trans rfl
     have hcz9_4 : w6.cell? ⟨gb144, 4, none⟩ = some (.string (⟨#[]⟩ : ByteArray)) := (blk_cell BK144.out 4).trans rfl
     have hfz9_0 := blk_frozen BK144.out 0
     have hfz9_1 := blk_frozen BK144.out 1
     have hfz9_2 := blk_frozen BK144.out 2
     have hfz9_3 := blk_frozen BK144.out 3
     have hfz9_4 := blk_frozen BK144.out 4
     go_wp2
     repeat (go_quiet (fail); try go_wp2)
     go_meet
     case rel => exact ⟨_, (true), Z122, H', ⟨Z118⟩, ⟨Z1⟩, ⟨Z64⟩⟩
    rw [if_neg c8] at H
    have c8b0 : decide (((rd_T42 l0 x5_1).f0) < 0) = false := decide_eq_false c8
    clear c8
    (first | rw [c8b0] | (simp only [i64_w, i32_w]; rw [c8b0]) | skip)
    by_cases c10 : ((rd_T42 l0 x5_1).f0) ≥ (l1.length : Int)
    ·rw [if_pos c10] at H
     have c10b0 : decide ((l1.length : Int) ≤ ((rd_T42 l0 x5_1).f0)) = true := decide_eq_true c10
     clear c10
     have H' := Aside0.mk H
     clear H
     have hcz11_0 : w6.cell? ⟨gb144, 0, none⟩ = some (.int .i64 0) := (blk_cell BK144.out 0).trans rfl
     have hcz11_1 : w6.cell? ⟨gb144, 1, none⟩ = some (.int .i64 0) := (blk_cell BK144.out 1).trans rfl
     have hcz11_2 : w6.cell? ⟨gb144, 2, none⟩ = some (.int .i64 0) := (blk_cell BK144.out 2).trans rfl
     have hcz11_3 : w6.cell? ⟨gb144, 3, none⟩ = some (.int .i64 0) := (blk_cell BK144.out 3).trans rfl
     have hcz11_4 : w6.cell? ⟨gb144, 4, none⟩ = some (.string (⟨#[]⟩ : ByteArray)) := (blk_cell BK144.out 4).trans rfl
     have hfz11_0 := blk_frozen BK144.out 0
     have hfz11_1 := blk_frozen BK144.out 1
     have hfz11_2 := blk_frozen BK144.out 2
     have hfz11_3 := blk_frozen BK144.out 3
     have hfz11_4 := blk_frozen BK144.out 4
     go_wp2
     repeat (go_quiet (fail); try go_wp2)
     go_meet
     case rel => exact ⟨_, (true), Z122, H', ⟨Z118⟩, ⟨Z1⟩, ⟨Z64⟩⟩
    rw [if_neg c10] at H
    have c10b0 : decide ((l1.length : Int) ≤ ((rd_T42 l0 x5_1).f0)) = false := decide_eq_false c10
    clear c10
    by_cases c12 : ((rd_T42 l0 x5_1).f1) < 6
    ·rw [if_pos c12] at H
     have c12b0 : decide (((rd_T42 l0 x5_1).f1) < 6) = true := decide_eq_true c12
     clear c12
     have H' := Aside0.mk H
     clear H
     have hcz13_0 : w6.cell? ⟨gb144, 0, none⟩ = some (.int .i64 0) := (blk_cell BK144.out 0).trans rfl
     have hcz13_1 : w6.cell? ⟨gb144, 1, none⟩ = some (.int .i64 0) := (blk_cell BK144.out 1).trans rfl
     have hcz13_2 : w6.cell? ⟨gb144, 2, none⟩ = some (.int .i64 0) := (blk_cell BK144.out 2).trans rfl
     have hcz13_3 : w6.cell? ⟨gb144, 3, none⟩ = some (.int .i64 0) := (blk_cell BK144.out 3).trans rfl
     have hcz13_4 : w6.cell? ⟨gb144, 4, none⟩ = some (.string (⟨#[]⟩ : ByteArray)) := (blk_cell BK144.out 4).trans rfl
     have hfz13_0 := blk_frozen BK144.out 0
     have hfz13_1 := blk_frozen BK144.out 1
     have hfz13_2 := blk_frozen BK144.out 2
     have hfz13_3 := blk_frozen BK144.out 3
     have hfz13_4 := blk_frozen BK144.out 4
     go_wp2
     repeat (go_quiet (fail); try go_wp2)
     go_meet
     case rel => exact ⟨_, (true), Z122, H', ⟨Z118⟩, ⟨Z1⟩, ⟨Z64⟩⟩
    rw [if_neg c12] at H
    have c12b0 : decide (((rd_T42 l0 x5_1).f1) < 6) = false := decide_eq_false c12
    clear c12
    have H' := Aside0.mk H
    clear H
    have hcz14_0 : w6.cell? ⟨gb144, 0, none⟩ = some (.int .i64 0) := (blk_cell BK144.out 0).trans rfl
    have hcz14_1 : w6.cell? ⟨gb144, 1, none⟩ = some (.int .i64 0) := (blk_cell BK144.out 1).trans rfl
    have hcz14_2 : w6.cell? ⟨gb144, 2, none⟩ = some (.int .i64 0) := (blk_cell BK144.out 2).trans rfl
    have hcz14_3 : w6.cell? ⟨gb144, 3, none⟩ = some (.int .i64 0) := (blk_cell BK144.out 3).trans rfl
    have hcz14_4 : w6.cell? ⟨gb144, 4, none⟩ = some (.string (⟨#[]⟩ : ByteArray)) := (blk_cell BK144.out 4).trans rfl
    have hfz14_0 := blk_frozen BK144.out 0
    have hfz14_1 := blk_frozen BK144.out 1
    have hfz14_2 := blk_frozen BK144.out 2
    have hfz14_3 := blk_frozen BK144.out 3
    have hfz14_4 := blk_frozen BK144.out 4
    go_wp2
    repeat (go_quiet (fail); try go_wp2)
    go_meet
    case rel => exact ⟨_, (decide (((rd_T42 l0 x5_1).f1) > 11)), Z122, H', ⟨Z118⟩, ⟨Z1⟩, ⟨Z64⟩⟩
   case rest =>
    clear HC5
    try clear c1
    try clear p1
    try clear q1
    try clear hx1
    try clear p2
    try clear c3
    try clear c3b0
    try clear c4
    try clear c4b0
    try clear c7
    try clear c8
    try clear c8b0
    try clear c10
    try clear c10b0
    try clear c12
    try clear c12b0
    try clear p14
    try clear q14
    try clear hx14
    try clear hcz11_0
    try clear hcz11_1
    try clear hcz11_2
    try clear hcz11_3
    try clear hcz11_4
    try clear hcz13_0
    try clear hcz13_1
    try clear hcz13_2
    try clear hcz13_3
    try clear hcz13_4
    try clear hcz14_0
    try clear hcz14_1
    try clear hcz14_2
    try clear hcz14_3
    try clear hcz14_4
    try clear hcz7_0
    try clear hcz7_1
    try clear hcz7_2
    try clear hcz7_3
    try clear hcz7_4
    try clear hcz9_0
    try clear hcz9_1
    try clear hcz9_2
    try clear hcz9_3
    try clear hcz9_4
    try clear hfz11_0
    try clear hfz11_1
    try clear hfz11_2
    try clear hfz11_3
    try clear hfz11_4
    try clear hfz13_0
    try clear hfz13_1
    try clear hfz13_2
    try clear hfz13_3
    try clear hfz13_4
    try clear hfz14_0
    try clear hfz14_1
    try clear hfz14_2
    try clear hfz14_3
    try clear hfz14_4
    try clear hfz7_0
    try clear hfz7_1
    try clear hfz7_2
    try clear hfz7_3
    try clear hfz7_4
    try clear hfz9_0
    try clear hfz9_1
    try clear hfz9_2
    try clear hfz9_3
    try clear hfz9_4
    try clear hx143_0
    try clear hx143_1
    try clear hx143_2
    try clear hx143_3
    try clear hx143_4
    try clear p143
    try clear p2
    try clear q143
    obtain ⟨kq, x37_4, rfl, HA, HJ4, BK144, HB⟩ := hcut
    cases kq with
    | zero => exact absurd HA.out (by simp [alumref20_checks.j1])
    | succ kj4 =>
     have H := HA.out
     clear HA
     simp only [alumref20_checks.j1] at H
     by_cases c15 : x37_4 = true
     ·subst c15
      have H1 : (some 1) = some r := by rw [if_pos rfl] at H; exact H
      clear H
      have H := H1
      clear H1
      obtain rfl := Option.some.inj H
      go_wp2
      repeat (go_quiet (fail); try go_wp2)
      go_ret
      exact ⟨Z112, Z64⟩
     replace c15 := Bool.eq_false_iff.mpr c15
     subst c15
     have H1 : ((alumref20_Valid.f ((rd_T42 l0 x5_1).f2.f0) ((rd_T42 l0 x5_1).f2.f1) ((rd_T42 l0 x5_1).f2.f2)).bind fun t145 => (if t145 = true then (if 0 ≤ ((rd_T42 l0 x5_1).f0) then (if ((rd_T42 l0 x5_1).f0) < (l1.length : Int) then (if ((rd_T42 l0 x5_1).f2.f0) = ((rd_T56 l1 ((rd_T42 l0 x5_1).f0)).f1) then (alumref20_checks.l0 kj4 l0 l1 (wrap64 (x5_1 + 1))) else (some 7)) else (none)) else (none)) else (some 7))) = some r := by rw [if_neg (show ¬ (false = true) by decide)] at H; exact H
     clear H
     have H := H1
     clear H1
     replace H := Option.bind_eq_some_iff.mp H
     obtain ⟨t145, A160, H⟩ := H
     replace H : (if t145 = true then (if 0 ≤ ((rd_T42 l0 x5_1).f0) then (if ((rd_T42 l0 x5_1).f0) < (l1.length : Int) then (if ((rd_T42 l0 x5_1).f2.f0) = ((rd_T56 l1 ((rd_T42 l0 x5_1).f0)).f1) then (alumref20_checks.l0 kj4 l0 l1 (wrap64 (x5_1 + 1))) else (some 7)) else (none)) else (none)) else (some 7)) = some r := H
     have A16 := Aside0.mk A160
     clear A160
     by_cases c17 : t145 = true
     rotate_left
     ·replace c17 := Bool.eq_false_iff.mpr c17
      subst c17
      have H1 : (some 7) = some r := by rw [if_neg (show ¬ (false = true) by decide)] at H; exact H
      clear H
      have H := H1
      clear H1
      obtain rfl := Option.some.inj H
      have hcz27_0 : wc.cell? ⟨gb144, 0, none⟩ = some (.int .i64 ((rd_T42 l0 x5_1).f0)) := (blk_cell BK144.out 0).trans rfl
      have hcz27_1 : wc.cell? ⟨gb144, 1, none⟩ = some (.int .i64 ((rd_T42 l0 x5_1).f1)) := (blk_cell BK144.out 1).trans rfl
      have hcz27_2 : wc.cell? ⟨gb144, 2, none⟩ = some (.int .i64 ((rd_T42 l0 x5_1).f2.f0)) := (blk_cell BK144.out 2).trans rfl
      have hcz27_3 : wc.cell? ⟨gb144, 3, none⟩ = some (.int .i64 ((rd_T42 l0 x5_1).f2.f1)) := (blk_cell BK144.out 3).trans rfl
      have hcz27_4 : wc.cell? ⟨gb144, 4, none⟩ = some (.string ((rd_T42 l0 x5_1).f2.f2)) := (blk_cell BK144.out 4).trans rfl
      have hfz27_0 := blk_frozen BK144.out 0
      have hfz27_1 := blk_frozen BK144.out 1
      have hfz27_2 := blk_frozen BK144.out 2
      have hfz27_3 := blk_frozen BK144.out 3
      have hfz27_4 := blk_frozen BK144.out 4
      go_wp2_with (first | (go_at_call 104; (with_reducible refine (alumref20_Valid.calls ((rd_T42 l0 x5_1).f2.f0) ((rd_T42 l0 x5_1).f2.f1) ((rd_T42 l0 x5_1).f2.f2) false _ A16.out).mono ?_); rintro e w28 ⟨rfl, hb⟩; have n0_ := Aside0.mk (blk_below (g := gb144) (o := .cells #[.int .i64 ((rd_T42 l0 x5_1).f0), .int .i64 ((rd_T42 l0 x5_1).f1), .int .i64 ((rd_T42 l0 x5_1).f2.f0), .int .i64 ((rd_T42 l0 x5_1).f2.f1), .string ((rd_T42 l0 x5_1).f2.f2)] 42 (0, 0)) Z85 hb); have n1_ := Aside0.mk (below_step Z52 hb); clear BK144; clear HB; have BK144 := n0_; have HB := n1_; clear n0_ n1_; (try clear hb); (try clear hb2); (try clear hk); (try clear hi)))
      repeat (go_quiet (first | (go_at_call 104; (with_reducible refine (alumref20_Valid.calls ((rd_T42 l0 x5_1).f2.f0) ((rd_T42 l0 x5_1).f2.f1) ((rd_T42 l0 x5_1).f2.f2) false _ A16.out).mono ?_); rintro e w28 ⟨rfl, hb⟩; have n0_ := Aside0.mk (blk_below (g := gb144) (o := .cells #[.int .i64 ((rd_T42 l0 x5_1).f0), .int .i64 ((rd_T42 l0 x5_1).f1), .int .i64 ((rd_T42 l0 x5_1).f2.f0), .int .i64 ((rd_T42 l0 x5_1).f2.f1), .string ((rd_T42 l0 x5_1).f2.f2)] 42 (0, 0)) Z85 hb); have n1_ := Aside0.mk (below_step Z52 hb); clear BK144; clear HB; have BK144 := n0_; have HB := n1_; clear n0_ n1_; (try clear hb); (try clear hb2); (try clear hk); (try clear hi))); try go_wp2_with (first | (go_at_call 104; (with_reducible refine (alumref20_Valid.calls ((rd_T42 l0 x5_1).f2.f0) ((rd_T42 l0 x5_1).f2.f1) ((rd_T42 l0 x5_1).f2.f2) false _ A16.out).mono ?_); rintro e w28 ⟨rfl, hb⟩; have n0_ := Aside0.mk (blk_below (g := gb144) (o := .cells #[.int .i64 ((rd_T42 l0 x5_1).f0), .int .i64 ((rd_T42 l0 x5_1).f1), .int .i64 ((rd_T42 l0 x5_1).f2.f0), .int .i64 ((rd_T42 l0 x5_1).f2.f1), .string ((rd_T42 l0 x5_1).f2.f2)] 42 (0, 0)) Z85 hb); have n1_ := Aside0.mk (below_step Z52 hb); clear BK144; clear HB; have BK144 := n0_; have HB := n1_; clear n0_ n1_; (try clear hb); (try clear hb2); (try clear hk); (try clear hi))))
      go_ret
      exact ⟨Z112, Z64⟩
     subst c17
     have H1 : (if 0 ≤ ((rd_T42 l0 x5_1).f0) then (if ((rd_T42 l0 x5_1).f0) < (l1.length : Int) then (if ((rd_T42 l0 x5_1).f2.f0) = ((rd_T56 l1 ((rd_T42 l0 x5_1).f0)).f1) then (alumref20_checks.l0 kj4 l0 l1 (wrap64 (x5_1 + 1))) else (some 7)) else (none)) else (none)) = some r := by rw [if_pos rfl] at H; exact H
     clear H
     have H := H1
     clear H1
     by_cases c18 : 0 ≤ ((rd_T42 l0 x5_1).f0)
     rotate_left
     ·rw [if_neg c18] at H
      exact absurd H (by simp)
     rw [if_pos c18] at H
     have c18b0 : decide (0 ≤ ((rd_T42 l0 x5_1).f0)) = true := decide_eq_true c18
     clear c18
     by_cases c19 : ((rd_T42 l0 x5_1).f0) < (l1.length : Int)
     rotate_left
     ·rw [if_neg c19] at H
      exact absurd H (by simp)
     rw [if_pos c19] at H
     have c19b0 : decide (((rd_T42 l0 x5_1).f0) < (l1.length : Int)) = true := decide_eq_true c19
     clear c19
     by_cases c20 : ((rd_T42 l0 x5_1).f2.f0) = ((rd_T56 l1 ((rd_T42 l0 x5_1).f0)).f1)
     ·rw [if_pos c20] at H
      have c20b0 : (((rd_T42 l0 x5_1).f2.f0) == ((rd_T56 l1 ((rd_T42 l0 x5_1).f0)).f1)) = true := beq_iff_eq.mpr c20
      have c20b1 : (((rd_T42 l0 x5_1).f2.f0) != ((rd_T56 l1 ((rd_T42 l0 x5_1).f0)).f1)) = false := bne_eq_false_iff_eq.mpr c20
      clear c20
      have H' := Aside0.mk H
      clear H
      have hcz21_0 : wc.cell? ⟨gb144, 0, none⟩ = some (.int .i64 ((rd_T42 l0 x5_1).f0)) := (blk_cell BK144.out 0).trans rfl
      have hcz21_1 : wc.cell? ⟨gb144, 1, none⟩ = some (.int .i64 ((rd_T42 l0 x5_1).f1)) := (blk_cell BK144.out 1).trans rfl
      have hcz21_2 : wc.cell? ⟨gb144, 2, none⟩ = some (.int .i64 ((rd_T42 l0 x5_1).f2.f0)) := (blk_cell BK144.out 2).trans rfl
      have hcz21_3 : wc.cell? ⟨gb144, 3, none⟩ = some (.int .i64 ((rd_T42 l0 x5_1).f2.f1)) := (blk_cell BK144.out 3).trans rfl
      have hcz21_4 : wc.cell? ⟨gb144, 4, none⟩ = some (.string ((rd_T42 l0 x5_1).f2.f2)) := (blk_cell BK144.out 4).trans rfl
      have hfz21_0 := blk_frozen BK144.out 0
      have hfz21_1 := blk_frozen BK144.out 1
      have hfz21_2 := blk_frozen BK144.out 2
      have hfz21_3 := blk_frozen BK144.out 3
      have hfz21_4 := blk_frozen BK144.out 4
      go_wp2_with (first | (go_at_call 104; (with_reducible refine (alumref20_Valid.calls ((rd_T42 l0 x5_1).f2.f0) ((rd_T42 l0 x5_1).f2.f1) ((rd_T42 l0 x5_1).f2.f2) true _ A16.out).mono ?_); rintro e w22 ⟨rfl, hb⟩; have n0_ := Aside0.mk (blk_below (g := gb144) (o := .cells #[.int .i64 ((rd_T42 l0 x5_1).f0), .int .i64 ((rd_T42 l0 x5_1).f1), .int .i64 ((rd_T42 l0 x5_1).f2.f0), .int .i64 ((rd_T42 l0 x5_1).f2.f1), .string ((rd_T42 l0 x5_1).f2.f2)] 42 (0, 0)) Z85 hb); have n1_ := Aside0.mk (below_step Z52 hb); clear BK144; clear HB; have BK144 := n0_; have HB := n1_; clear n0_ n1_; (try clear hb); (try clear hb2); (try clear hk); (try clear hi); have hcz23_0 : w22.cell? ⟨gb144, 0, none⟩ = some (.int .i64 ((rd_T42 l0 x5_1).f0)) := (blk_cell BK144.out 0).trans rfl; have hcz23_1 : w22.cell? ⟨gb144, 1, none⟩ = some (.int .i64 ((rd_T42 l0 x5_1).f1)) := (blk_cell BK144.out 1).trans rfl; have hcz23_2 : w22.cell? ⟨gb144, 2, none⟩ = some (.int .i64 ((rd_T42 l0 x5_1).f2.f0)) := (blk_cell BK144.out 2).trans rfl; have hcz23_3 : w22.cell? ⟨gb144, 3, none⟩ = some (.int .i64 ((rd_T42 l0 x5_1).f2.f1)) := (blk_cell BK144.out 3).trans rfl; have hcz23_4 : w22.cell? ⟨gb144, 4, none⟩ = some (.string ((rd_T42 l0 x5_1).f2.f2)) := (blk_cell BK144.out 4).trans rfl; have hfz23_0 := blk_frozen BK144.out 0; have hfz23_1 := blk_frozen BK144.out 1; have hfz23_2 := blk_frozen BK144.out 2; have hfz23_3 := blk_frozen BK144.out 3; have hfz23_4 := blk_frozen BK144.out 4; have p146 : 0 ≤ (((rd_T42 l0 x5_1).f0) : Int) := of_decide_eq_true Z121; have q146 : ((rd_T42 l0 x5_1).f0) < (l1.length : Int) := of_decide_eq_true Z121; obtain ⟨ad146, e146, hx146_0, hx146_1, hx146_2⟩ := at_T56 HR1.out ((rd_T42 l0 x5_1).f0) p146 q146; cases e146; replace hx146_0 := (HB.out.cell (World.block_lt_of_cell? w _ hx146_0)).trans hx146_0; replace hx146_1 := (HB.out.cell (World.block_lt_of_cell? w _ hx146_1)).trans hx146_1; replace hx146_2 := (HB.out.cell (World.block_lt_of_cell? w _ hx146_2)).trans hx146_2; replace p146 := eq_true p146; replace q146 := eq_true q146))
      repeat (go_quiet (first | (go_at_call 104; (with_reducible refine (alumref20_Valid.calls ((rd_T42 l0 x5_1).f2.f0) ((rd_T42 l0 x5_1).f2.f1) ((rd_T42 l0 x5_1).f2.f2) true _ A16.out).mono ?_); rintro e w22 ⟨rfl, hb⟩; have n0_ := Aside0.mk (blk_below (g := gb144) (o := .cells #[.int .i64 ((rd_T42 l0 x5_1).f0), .int .i64 ((rd_T42 l0 x5_1).f1), .int .i64 ((rd_T42 l0 x5_1).f2.f0), .int .i64 ((rd_T42 l0 x5_1).f2.f1), .string ((rd_T42 l0 x5_1).f2.f2)] 42 (0, 0)) Z85 hb); have n1_ := Aside0.mk (below_step Z52 hb); clear BK144; clear HB; have BK144 := n0_; have HB := n1_; clear n0_ n1_; (try clear hb); (try clear hb2); (try clear hk); (try clear hi); have hcz23_0 : w22.cell? ⟨gb144, 0, none⟩ = some (.int .i64 ((rd_T42 l0 x5_1).f0)) := (blk_cell BK144.out 0).trans rfl; have hcz23_1 : w22.cell? ⟨gb144, 1, none⟩ = some (.int .i64 ((rd_T42 l0 x5_1).f1)) := (blk_cell BK144.out 1).trans rfl; have hcz23_2 : w22.cell? ⟨gb144, 2, none⟩ = some (.int .i64 ((rd_T42 l0 x5_1).f2.f0)) := (blk_cell BK144.out 2).trans rfl; have hcz23_3 : w22.cell? ⟨gb144, 3, none⟩ = some (.int .i64 ((rd_T42 l0 x5_1).f2.f1)) := (blk_cell BK144.out 3).trans rfl; have hcz23_4 : w22.cell? ⟨gb144, 4, none⟩ = some (.string ((rd_T42 l0 x5_1).f2.f2)) := (blk_cell BK144.out 4).trans rfl; have hfz23_0 := blk_frozen BK144.out 0; have hfz23_1 := blk_frozen BK144.out 1; have hfz23_2 := blk_frozen BK144.out 2; have hfz23_3 := blk_frozen BK144.out 3; have hfz23_4 := blk_frozen BK144.out 4; have p146 : 0 ≤ (((rd_T42 l0 x5_1).f0) : Int) := of_decide_eq_true Z121; have q146 : ((rd_T42 l0 x5_1).f0) < (l1.length : Int) := of_decide_eq_true Z121; obtain ⟨ad146, e146, hx146_0, hx146_1, hx146_2⟩ := at_T56 HR1.out ((rd_T42 l0 x5_1).f0) p146 q146; cases e146; replace hx146_0 := (HB.out.cell (World.block_lt_of_cell? w _ hx146_0)).trans hx146_0; replace hx146_1 := (HB.out.cell (World.block_lt_of_cell? w _ hx146_1)).trans hx146_1; replace hx146_2 := (HB.out.cell (World.block_lt_of_cell? w _ hx146_2)).trans hx146_2; replace p146 := eq_true p146; replace q146 := eq_true q146)); try go_wp2_with (first | (go_at_call 104; (with_reducible refine (alumref20_Valid.calls ((rd_T42 l0 x5_1).f2.f0) ((rd_T42 l0 x5_1).f2.f1) ((rd_T42 l0 x5_1).f2.f2) true _ A16.out).mono ?_); rintro e w22 ⟨rfl, hb⟩; have n0_ := Aside0.mk (blk_below (g := gb144) (o := .cells #[.int .i64 ((rd_T42 l0 x5_1).f0), .int .i64 ((rd_T42 l0 x5_1).f1), .int .i64 ((rd_T42 l0 x5_1).f2.f0), .int .i64 ((rd_T42 l0 x5_1).f2.f1), .string ((rd_T42 l0 x5_1).f2.f2)] 42 (0, 0)) Z85 hb); have n1_ := Aside0.mk (below_step Z52 hb); clear BK144; clear HB; have BK144 := n0_; have HB := n1_; clear n0_ n1_; (try clear hb); (try clear hb2); (try clear hk); (try clear hi); have hcz23_0 : w22.cell? ⟨gb144, 0, none⟩ = some (.int .i64 ((rd_T42 l0 x5_1).f0)) := (blk_cell BK144.out 0).trans rfl; have hcz23_1 : w22.cell? ⟨gb144, 1, none⟩ = some (.int .i64 ((rd_T42 l0 x5_1).f1)) := (blk_cell BK144.out 1).trans rfl; have hcz23_2 : w22.cell? ⟨gb144, 2, none⟩ = some (.int .i64 ((rd_T42 l0 x5_1).f2.f0)) := (blk_cell BK144.out 2).trans rfl; have hcz23_3 : w22.cell? ⟨gb144, 3, none⟩ = some (.int .i64 ((rd_T42 l0 x5_1).f2.f1)) := (blk_cell BK144.out 3).trans rfl; have hcz23_4 : w22.cell? ⟨gb144, 4, none⟩ = some (.string ((rd_T42 l0 x5_1).f2.f2)) := (blk_cell BK144.out 4).trans rfl; have hfz23_0 := blk_frozen BK144.out 0; have hfz23_1 := blk_frozen BK144.out 1; have hfz23_2 := blk_frozen BK144.out 2; have hfz23_3 := blk_frozen BK144.out 3; have hfz23_4 := blk_frozen BK144.out 4; have p146 : 0 ≤ (((rd_T42 l0 x5_1).f0) : Int) := of_decide_eq_true Z121; have q146 : ((rd_T42 l0 x5_1).f0) < (l1.length : Int) := of_decide_eq_true Z121; obtain ⟨ad146, e146, hx146_0, hx146_1, hx146_2⟩ := at_T56 HR1.out ((rd_T42 l0 x5_1).f0) p146 q146; cases e146; replace hx146_0 := (HB.out.cell (World.block_lt_of_cell? w _ hx146_0)).trans hx146_0; replace hx146_1 := (HB.out.cell (World.block_lt_of_cell? w _ hx146_1)).trans hx146_1; replace hx146_2 := (HB.out.cell (World.block_lt_of_cell? w _ hx146_2)).trans hx146_2; replace p146 := eq_true p146; replace q146 := eq_true q146)))
      go_roundg kj4
      case measure => have := HK1.out; have := HJ4.out; omega
      case rel => exact ⟨(wrap64 (x5_1 + 1)), Z122, H', ⟨by have := HK1.out; have := HJ4.out; omega⟩, ⟨Z64⟩⟩
     rw [if_neg c20] at H
     have c20b0 : (((rd_T42 l0 x5_1).f2.f0) == ((rd_T56 l1 ((rd_T42 l0 x5_1).f0)).f1)) = false := beq_eq_false_iff_ne.mpr c20
     have c20b1 : (((rd_T42 l0 x5_1).f2.f0) != ((rd_T56 l1 ((rd_T42 l0 x5_1).f0)).f1)) = true := bne_iff_ne.mpr c20
     obtain rfl := Option.some.inj H
     have hcz24_0 : wc.cell? ⟨gb144, 0, none⟩ = some (.int .i64 ((rd_T42 l0 x5_1).f0)) := (blk_cell BK144.out 0).trans rfl
     have hcz24_1 : wc.cell? ⟨gb144, 1, none⟩ = some (.int .i64 ((rd_T42 l0 x5_1).f1)) := (blk_cell BK144.out 1).trans rfl
     have hcz24_2 : wc.cell? ⟨gb144, 2, none⟩ = some (.int .i64 ((rd_T42 l0 x5_1).f2.f0)) := (blk_cell BK144.out 2).trans rfl
     have hcz24_3 : wc.cell? ⟨gb144, 3, none⟩ = some (.int .i64 ((rd_T42 l0 x5_1).f2.f1)) := (blk_cell BK144.out 3).trans rfl
     have hcz24_4 : wc.cell? ⟨gb144, 4, none⟩ = some (.string ((rd_T42 l0 x5_1).f2.f2)) := (blk_cell BK144.out 4).trans rfl
     have hfz24_0 := blk_frozen BK144.out 0
     have hfz24_1 := blk_frozen BK144.out 1
     have hfz24_2 := blk_frozen BK144.out 2
     have hfz24_3 := blk_frozen BK144.out 3
     have hfz24_4 := blk_frozen BK144.out 4
     go_wp2_with (first | (go_at_call 104; (with_reducible refine (alumref20_Valid.calls ((rd_T42 l0 x5_1).f2.f0) ((rd_T42 l0 x5_1).f2.f1) ((rd_T42 l0 x5_1).f2.f2) true _ A16.out).mono ?_); rintro e w25 ⟨rfl, hb⟩; have n0_ := Aside0.mk (blk_below (g := gb144) (o := .cells #[.int .i64 ((rd_T42 l0 x5_1).f0), .int .i64 ((rd_T42 l0 x5_1).f1), .int .i64 ((rd_T42 l0 x5_1).f2.f0), .int .i64 ((rd_T42 l0 x5_1).f2.f1), .string ((rd_T42 l0 x5_1).f2.f2)] 42 (0, 0)) Z85 hb); have n1_ := Aside0.mk (below_step Z52 hb); clear BK144; clear HB; have BK144 := n0_; have HB := n1_; clear n0_ n1_; (try clear hb); (try clear hb2); (try clear hk); (try clear hi); have hcz26_0 : w25.cell? ⟨gb144, 0, none⟩ = some (.int .i64 ((rd_T42 l0 x5_1).f0)) := (blk_cell BK144.out 0).trans rfl; have hcz26_1 : w25.cell? ⟨gb144, 1, none⟩ = some (.int .i64 ((rd_T42 l0 x5_1).f1)) := (blk_cell BK144.out 1).trans rfl; have hcz26_2 : w25.cell? ⟨gb144, 2, none⟩ = some (.int .i64 ((rd_T42 l0 x5_1).f2.f0)) := (blk_cell BK144.out 2).trans rfl; have hcz26_3 : w25.cell? ⟨gb144, 3, none⟩ = some (.int .i64 ((rd_T42 l0 x5_1).f2.f1)) := (blk_cell BK144.out 3).trans rfl; have hcz26_4 : w25.cell? ⟨gb144, 4, none⟩ = some (.string ((rd_T42 l0 x5_1).f2.f2)) := (blk_cell BK144.out 4).trans rfl; have hfz26_0 := blk_frozen BK144.out 0; have hfz26_1 := blk_frozen BK144.out 1; have hfz26_2 := blk_frozen BK144.out 2; have hfz26_3 := blk_frozen BK144.out 3; have hfz26_4 := blk_frozen BK144.out 4; have p146 : 0 ≤ (((rd_T42 l0 x5_1).f0) : Int) := of_decide_eq_true Z121; have q146 : ((rd_T42 l0 x5_1).f0) < (l1.length : Int) := of_decide_eq_true Z121; obtain ⟨ad146, e146, hx146_0, hx146_1, hx146_2⟩ := at_T56 HR1.out ((rd_T42 l0 x5_1).f0) p146 q146; cases e146; replace hx146_0 := (HB.out.cell (World.block_lt_of_cell? w _ hx146_0)).trans hx146_0; replace hx146_1 := (HB.out.cell (World.block_lt_of_cell? w _ hx146_1)).trans hx146_1; replace hx146_2 := (HB.out.cell (World.block_lt_of_cell? w _ hx146_2)).trans hx146_2; replace p146 := eq_true p146; replace q146 := eq_true q146))
     repeat (go_quiet (first | (go_at_call 104; (with_reducible refine (alumref20_Valid.calls ((rd_T42 l0 x5_1).f2.f0) ((rd_T42 l0 x5_1).f2.f1) ((rd_T42 l0 x5_1).f2.f2) true _ A16.out).mono ?_); rintro e w25 ⟨rfl, hb⟩; have n0_ := Aside0.mk (blk_below (g := gb144) (o := .cells #[.int .i64 ((rd_T42 l0 x5_1).f0), .int .i64 ((rd_T42 l0 x5_1).f1), .int .i64 ((rd_T42 l0 x5_1).f2.f0), .int .i64 ((rd_T42 l0 x5_1).f2.f1), .string ((rd_T42 l0 x5_1).f2.f2)] 42 (0, 0)) Z85 hb); have n1_ := Aside0.mk (below_step Z52 hb); clear BK144; clear HB; have BK144 := n0_; have HB := n1_; clear n0_ n1_; (try clear hb); (try clear hb2); (try clear hk); (try clear hi); have hcz26_0 : w25.cell? ⟨gb144, 0, none⟩ = some (.int .i64 ((rd_T42 l0 x5_1).f0)) := (blk_cell BK144.out 0).trans rfl; have hcz26_1 : w25.cell? ⟨gb144, 1, none⟩ = some (.int .i64 ((rd_T42 l0 x5_1).f1)) := (blk_cell BK144.out 1).trans rfl; have hcz26_2 : w25.cell? ⟨gb144, 2, none⟩ = some (.int .i64 ((rd_T42 l0 x5_1).f2.f0)) := (blk_cell BK144.out 2).trans rfl; have hcz26_3 : w25.cell? ⟨gb144, 3, none⟩ = some (.int .i64 ((rd_T42 l0 x5_1).f2.f1)) := (blk_cell BK144.out 3).trans rfl; have hcz26_4 : w25.cell? ⟨gb144, 4, none⟩ = some (.string ((rd_T42 l0 x5_1).f2.f2)) := (blk_cell BK144.out 4).trans rfl; have hfz26_0 := blk_frozen BK144.out 0; have hfz26_1 := blk_frozen BK144.out 1; have hfz26_2 := blk_frozen BK144.out 2; have hfz26_3 := blk_frozen BK144.out 3; have hfz26_4 := blk_frozen BK144.out 4; have p146 : 0 ≤ (((rd_T42 l0 x5_1).f0) : Int) := of_decide_eq_true Z121; have q146 : ((rd_T42 l0 x5_1).f0) < (l1.length : Int) := of_decide_eq_true Z121; obtain ⟨ad146, e146, hx146_0, hx146_1, hx146_2⟩ := at_T56 HR1.out ((rd_T42 l0 x5_1).f0) p146 q146; cases e146; replace hx146_0 := (HB.out.cell (World.block_lt_of_cell? w _ hx146_0)).trans hx146_0; replace hx146_1 := (HB.out.cell (World.block_lt_of_cell? w _ hx146_1)).trans hx146_1; replace hx146_2 := (HB.out.cell (World.block_lt_of_cell? w _ hx146_2)).trans hx146_2; replace p146 := eq_true p146; replace q146 := eq_true q146)); try go_wp2_with (first | (go_at_call 104; (with_reducible refine (alumref20_Valid.calls ((rd_T42 l0 x5_1).f2.f0) ((rd_T42 l0 x5_1).f2.f1) ((rd_T42 l0 x5_1).f2.f2) true _ A16.out).mono ?_); rintro e w25 ⟨rfl, hb⟩; have n0_ := Aside0.mk (blk_below (g := gb144) (o := .cells #[.int .i64 ((rd_T42 l0 x5_1).f0), .int .i64 ((rd_T42 l0 x5_1).f1), .int .i64 ((rd_T42 l0 x5_1).f2.f0), .int .i64 ((rd_T42 l0 x5_1).f2.f1), .string ((rd_T42 l0 x5_1).f2.f2)] 42 (0, 0)) Z85 hb); have n1_ := Aside0.mk (below_step Z52 hb); clear BK144; clear HB; have BK144 := n0_; have HB := n1_; clear n0_ n1_; (try clear hb); (try clear hb2); (try clear hk); (try clear hi); have hcz26_0 : w25.cell? ⟨gb144, 0, none⟩ = some (.int .i64 ((rd_T42 l0 x5_1).f0)) := (blk_cell BK144.out 0).trans rfl; have hcz26_1 : w25.cell? ⟨gb144, 1, none⟩ = some (.int .i64 ((rd_T42 l0 x5_1).f1)) := (blk_cell BK144.out 1).trans rfl; have hcz26_2 : w25.cell? ⟨gb144, 2, none⟩ = some (.int .i64 ((rd_T42 l0 x5_1).f2.f0)) := (blk_cell BK144.out 2).trans rfl; have hcz26_3 : w25.cell? ⟨gb144, 3, none⟩ = some (.int .i64 ((rd_T42 l0 x5_1).f2.f1)) := (blk_cell BK144.out 3).trans rfl; have hcz26_4 : w25.cell? ⟨gb144, 4, none⟩ = some (.string ((rd_T42 l0 x5_1).f2.f2)) := (blk_cell BK144.out 4).trans rfl; have hfz26_0 := blk_frozen BK144.out 0; have hfz26_1 := blk_frozen BK144.out 1; have hfz26_2 := blk_frozen BK144.out 2; have hfz26_3 := blk_frozen BK144.out 3; have hfz26_4 := blk_frozen BK144.out 4; have p146 : 0 ≤ (((rd_T42 l0 x5_1).f0) : Int) := of_decide_eq_true Z121; have q146 : ((rd_T42 l0 x5_1).f0) < (l1.length : Int) := of_decide_eq_true Z121; obtain ⟨ad146, e146, hx146_0, hx146_1, hx146_2⟩ := at_T56 HR1.out ((rd_T42 l0 x5_1).f0) p146 q146; cases e146; replace hx146_0 := (HB.out.cell (World.block_lt_of_cell? w _ hx146_0)).trans hx146_0; replace hx146_1 := (HB.out.cell (World.block_lt_of_cell? w _ hx146_1)).trans hx146_1; replace hx146_2 := (HB.out.cell (World.block_lt_of_cell? w _ hx146_2)).trans hx146_2; replace p146 := eq_true p146; replace q146 := eq_true q146)))
     go_ret
     exact ⟨Z112, Z64⟩
mutual
def alumref20_columns.l0 : Nat → List (S56) → Int → Option (Int)
 | 0, _, _ => none
 | k + 1, x0, x3 => if x3 < (x0.length : Int) then (if 0 ≤ x3 then ((alumref20_Name.f k ((rd_T56 x0 x3).f0)).bind fun t127 => (if t127 = true then (alumref20_columns.l1 k x0 x3 0) else (some 5))) else (none)) else (some 0)
def alumref20_columns.l1 : Nat → List (S56) → Int → Int → Option (Int)
 | 0, _, _, _ => none
 | k + 1, x0, x3, x5 => if x5 < x3 then (if 0 ≤ x5 then (if x5 < (x0.length : Int) then (if 0 ≤ x3 then (if x3 < (x0.length : Int) then (if ((rd_T56 x0 x5).f0).toList = ((rd_T56 x0 x3).f0).toList then (some 6) else (alumref20_columns.l1 k x0 x3 (wrap64 (x5 + 1)))) else (none)) else (none)) else (none)) else (none)) else (if 0 ≤ x3 then (if x3 < (x0.length : Int) then (if ((rd_T56 x0 x3).f1) < 1 then (some 7) else (if ((rd_T56 x0 x3).f1) > 3 then (some 7) else (alumref20_columns.l0 k x0 (wrap64 (x3 + 1))))) else (none)) else (none))
end
def alumref20_columns.f (k : Nat) (l0 : List (S56)) : Option (Int) := alumref20_columns.l0 k l0 0
set_option maxHeartbeats 8000000 in
set_option maxRecDepth 100000 in
theorem alumref20_columns.calls (k : Nat) (A0 : Option Addr) (c0 : Nat) (l0 : List (S56)) (r : Int) (w : World) (hr0 : Kd.C k56 w A0 l0.length l0) (hc0 : l0.length ≤ c0) (h : alumref20_columns.f k l0 = some r) :
  Calls Try.prog 76 #[.slice A0 l0.length c0] w fun e w' => e = .returned (.int .i64 r) ∧ Below w.heap.size w w' := by
 have HR0 := Aside0.mk hr0
 have HC0 := Aside0.mk hc0
 clear hr0 hc0
 have HB := Aside0.mk (Below.refl w.heap.size w)
 have H : (alumref20_columns.l0 k l0 0) = some r := h
 clear h
 have H' := Aside0.mk H
 clear H
 go_enter Try.func76, Try.ntmps76
 go_wp2
 repeat (go_quiet (fail); try go_wp2)
 go_loopg [3] k (fun kq v3 w' => ∃ (x3_1 : Int), v3 = .int .i64 x3_1 ∧ Aside0 (alumref20_columns.l0 kq l0 x3_1 = some r) ∧ Aside0 (kq ≤ k) ∧ Aside0 (Below w.heap.size w w'))
 case atStart => exact ⟨(0), Z122, H', ⟨Nat.le_refl _⟩, ⟨Z70⟩⟩
 case round =>
  clear H'
  obtain ⟨x3_1, rfl, HA, HK1, HB⟩ := hrel
  cases gk with
  | zero => exact absurd HA.out (by simp [alumref20_columns.l0])
  | succ k1 =>
   have H := HA.out
   clear HA
   simp only [alumref20_columns.l0] at H
   by_cases c2 : x3_1 < (l0.length : Int)
   rotate_left
   ·rw [if_neg c2] at H
    have c2b0 : decide (x3_1 < (l0.length : Int)) = false := decide_eq_false c2
    clear c2
    obtain rfl := Option.some.inj H
    go_wp2
    repeat (go_quiet (fail); try go_wp2)
    go_ret
    exact ⟨Z112, Z70⟩
   rw [if_pos c2] at H
   have c2b0 : decide (x3_1 < (l0.length : Int)) = true := decide_eq_true c2
   clear c2
   by_cases c3 : 0 ≤ x3_1
   rotate_left
   ·rw [if_neg c3] at H
    exact absurd H (by simp)
   rw [if_pos c3] at H
   have c3b0 : decide (0 ≤ x3_1) = true := decide_eq_true c3
   clear c3
   replace H := Option.bind_eq_some_iff.mp H
   obtain ⟨t127, A40, H⟩ := H
   replace H : (if t127 = true then (alumref20_columns.l1 k1 l0 x3_1 0) else (some 5)) = some r := H
   have A4 := Aside0.mk A40
   clear A40
   by_cases c5 : t127 = true
   rotate_left
   ·replace c5 := Bool.eq_false_iff.mpr c5
    subst c5
    have H1 : (some 5) = some r := by rw [if_neg (show ¬ (false = true) by decide)] at H; exact H
    clear H
    have H := H1
    clear H1
    obtain rfl := Option.some.inj H
    have p126 : 0 ≤ (x3_1 : Int) := of_decide_eq_true Z121
    have q126 : x3_1 < (l0.length : Int) := of_decide_eq_true Z121
    obtain ⟨ad126, e126, hx126_0, hx126_1, hx126_2⟩ := at_T56 HR0.out x3_1 p126 q126
    cases e126
    replace hx126_0 := (HB.out.cell (World.block_lt_of_cell? w _ hx126_0)).trans hx126_0
    replace hx126_1 := (HB.out.cell (World.block_lt_of_cell? w _ hx126_1)).trans hx126_1
    replace hx126_2 := (HB.out.cell (World.block_lt_of_cell? w _ hx126_2)).trans hx126_2
    replace p126 := eq_true p126
    replace q126 := eq_true q126
    go_wp2_with (first | (go_at_call 24; (with_reducible refine (alumref20_Name.calls k1 ((rd_T56 l0 x3_1).f0) false _ A4.out).mono ?_); rintro e w17 ⟨rfl, hb⟩; have n0_ := Aside0.mk (below_step Z67 hb); clear HB; have HB := n0_; clear n0_; (try clear hb); (try clear hb2); (try clear hk); (try clear hi)))
    repeat (go_quiet (first | (go_at_call 24; (with_reducible refine (alumref20_Name.calls k1 ((rd_T56 l0 x3_1).f0) false _ A4.out).mono ?_); rintro e w17 ⟨rfl, hb⟩; have n0_ := Aside0.mk (below_step Z67 hb); clear HB; have HB := n0_; clear n0_; (try clear hb); (try clear hb2); (try clear hk); (try clear hi))); try go_wp2_with (first | (go_at_call 24; (with_reducible refine (alumref20_Name.calls k1 ((rd_T56 l0 x3_1).f0) false _ A4.out).mono ?_); rintro e w17 ⟨rfl, hb⟩; have n0_ := Aside0.mk (below_step Z67 hb); clear HB; have HB := n0_; clear n0_; (try clear hb); (try clear hb2); (try clear hk); (try clear hi))))
    go_ret
    exact ⟨Z112, Z70⟩
   subst c5
   have H1 : (alumref20_columns.l1 k1 l0 x3_1 0) = some r := by rw [if_pos rfl] at H; exact H
   clear H
   have H := H1
   clear H1
   have H' := Aside0.mk H
   clear H
   have p126 : 0 ≤ (x3_1 : Int) := of_decide_eq_true Z121
   have q126 : x3_1 < (l0.length : Int) := of_decide_eq_true Z121
   obtain ⟨ad126, e126, hx126_0, hx126_1, hx126_2⟩ := at_T56 HR0.out x3_1 p126 q126
   cases e126
   replace hx126_0 := (HB.out.cell (World.block_lt_of_cell? w _ hx126_0)).trans hx126_0
   replace hx126_1 := (HB.out.cell (World.block_lt_of_cell? w _ hx126_1)).trans hx126_1
   replace hx126_2 := (HB.out.cell (World.block_lt_of_cell? w _ hx126_2)).trans hx126_2
   replace p126 := eq_true p126
   replace q126 := eq_true q126
   go_wp2_with (first | (go_at_call 24; (with_reducible refine (alumref20_Name.calls k1 ((rd_T56 l0 x3_1).f0) true _ A4.out).mono ?_); rintro e w6 ⟨rfl, hb⟩; have n0_ := Aside0.mk (below_step Z67 hb); clear HB; have HB := n0_; clear n0_; (try clear hb); (try clear hb2); (try clear hk); (try clear hi)))
   repeat (go_quiet (first | (go_at_call 24; (with_reducible refine (alumref20_Name.calls k1 ((rd_T56 l0 x3_1).f0) true _ A4.out).mono ?_); rintro e w6 ⟨rfl, hb⟩; have n0_ := Aside0.mk (below_step Z67 hb); clear HB; have HB := n0_; clear n0_; (try clear hb); (try clear hb2); (try clear hk); (try clear hi))); try go_wp2_with (first | (go_at_call 24; (with_reducible refine (alumref20_Name.calls k1 ((rd_T56 l0 x3_1).f0) true _ A4.out).mono ?_); rintro e w6 ⟨rfl, hb⟩; have n0_ := Aside0.mk (below_step Z67 hb); clear HB; have HB := n0_; clear n0_; (try clear hb); (try clear hb2); (try clear hk); (try clear hi))))
   go_loopg [5] k1 (fun kq v5 w' => ∃ (x5_2 : Int), v5 = .int .i64 x5_2 ∧ Aside0 (alumref20_columns.l1 kq l0 x3_1 x5_2 = some r) ∧ Aside0 (kq ≤ k1) ∧ Aside0 (Below w.heap.size w w'))
   case atStart => exact ⟨(0), Z122, H', ⟨Nat.le_refl _⟩, ⟨Z70⟩⟩
   case round =>
    clear H'
    try clear p1
    try clear q1
    try clear hx1
    try clear c2
    try clear c2b0
    try clear p2
    try clear c3
    try clear c3b0
    try clear c5
    try clear hx126_0
    try clear hx126_1
    try clear hx126_2
    try clear p126
    try clear q126
    obtain ⟨x5_2, rfl, HA, HK2, HB⟩ := hrel
    cases gk with
    | zero => exact absurd HA.out (by simp [alumref20_columns.l1])
    | succ k2 =>
     have H := HA.out
     clear HA
     simp only [alumref20_columns.l1] at H
     by_cases c7 : x5_2 < x3_1
     ·rw [if_pos c7] at H
      have c7b0 : decide (x5_2 < x3_1) = true := decide_eq_true c7
      clear c7
      by_cases c8 : 0 ≤ x5_2
      rotate_left
      ·rw [if_neg c8] at H
       exact absurd H (by simp)
      rw [if_pos c8] at H
      have c8b0 : decide (0 ≤ x5_2) = true := decide_eq_true c8
      clear c8
      by_cases c9 : x5_2 < (l0.length : Int)
      rotate_left
      ·rw [if_neg c9] at H
       exact absurd H (by simp)
      rw [if_pos c9] at H
      have c9b0 : decide (x5_2 < (l0.length : Int)) = true := decide_eq_true c9
      clear c9
      by_cases c10 : 0 ≤ x3_1
      rotate_left
      ·rw [if_neg c10] at H
       exact absurd H (by simp)
      rw [if_pos c10] at H
      have c10b0 : decide (0 ≤ x3_1) = true := decide_eq_true c10
      clear c10
      by_cases c11 : x3_1 < (l0.length : Int)
      rotate_left
      ·rw [if_neg c11] at H
       exact absurd H (by simp)
      rw [if_pos c11] at H
      have c11b0 : decide (x3_1 < (l0.length : Int)) = true := decide_eq_true c11
      clear c11
      by_cases c12 : ((rd_T56 l0 x5_2).f0).toList = ((rd_T56 l0 x3_1).f0).toList
      ·rw [if_pos c12] at H
       have c12b0 : (((rd_T56 l0 x5_2).f0).toList == ((rd_T56 l0 x3_1).f0).toList) = true := beq_iff_eq.mpr c12
       have c12b1 : (((rd_T56 l0 x5_2).f0).toList != ((rd_T56 l0 x3_1).f0).toList) = false := bne_eq_false_iff_eq.mpr c12
       clear c12
       obtain rfl := Option.some.inj H
       have p128 : 0 ≤ (x5_2 : Int) := of_decide_eq_true Z121
       have q128 : x5_2 < (l0.length : Int) := of_decide_eq_true Z121
       obtain ⟨ad128, e128, hx128_0, hx128_1, hx128_2⟩ := at_T56 HR0.out x5_2 p128 q128
       obtain rfl : ad126 = ad128 := (by injection e128)
       replace hx128_0 := (HB.out.cell (World.block_lt_of_cell? w _ hx128_0)).trans hx128_0
       replace hx128_1 := (HB.out.cell (World.block_lt_of_cell? w _ hx128_1)).trans hx128_1
       replace hx128_2 := (HB.out.cell (World.block_lt_of_cell? w _ hx128_2)).trans hx128_2
       replace p128 := eq_true p128
       replace q128 := eq_true q128
       have p129 : 0 ≤ (x3_1 : Int) := of_decide_eq_true Z121
       have q129 : x3_1 < (l0.length : Int) := of_decide_eq_true Z121
       obtain ⟨ad129, e129, hx129_0, hx129_1, hx129_2⟩ := at_T56 HR0.out x3_1 p129 q129
       obtain rfl : ad126 = ad129 := (by injection e129)
       replace hx129_0 := (HB.out.cell (World.block_lt_of_cell? w _ hx129_0)).trans hx129_0
       replace hx129_1 := (HB.out.cell (World.block_lt_of_cell? w _ hx129_1)).trans hx129_1
       replace hx129_2 := (HB.out.cell (World.block_lt_of_cell? w _ hx129_2)).trans hx129_2
       replace p129 := eq_true p129
       replace q129 := eq_true q129
       go_wp2
       repeat (go_quiet (fail); try go_wp2)
       go_ret
       exact ⟨Z112, Z70⟩
      rw [if_neg c12] at H
      have c12b0 : (((rd_T56 l0 x5_2).f0).toList == ((rd_T56 l0 x3_1).f0).toList) = false := beq_eq_false_iff_ne.mpr c12
      have c12b1 : (((rd_T56 l0 x5_2).f0).toList != ((rd_T56 l0 x3_1).f0).toList) = true := bne_iff_ne.mpr c12
      have H' := Aside0.mk H
      clear H
      have p128 : 0 ≤ (x5_2 : Int) := of_decide_eq_true Z121
      have q128 : x5_2 < (l0.length : Int) := of_decide_eq_true Z121
      obtain ⟨ad128, e128, hx128_0, hx128_1, hx128_2⟩ := at_T56 HR0.out x5_2 p128 q128
      obtain rfl : ad126 = ad128 := (by injection e128)
      replace hx128_0 := (HB.out.cell (World.block_lt_of_cell? w _ hx128_0)).trans hx128_0
      replace hx128_1 := (HB.out.cell (World.block_lt_of_cell? w _ hx128_1)).trans hx128_1
      replace hx128_2 := (HB.out.cell (World.block_lt_of_cell? w _ hx128_2)).trans hx128_2
      replace p128 := eq_true p128
      replace q128 := eq_true q128
      have p129 : 0 ≤ (x3_1 : Int) := of_decide_eq_true Z121
      have q129 : x3_1 < (l0.length : Int) := of_decide_eq_true Z121
      obtain ⟨ad129, e129, hx129_0, hx129_1, hx129_2⟩ := at_T56 HR0.out x3_1 p129 q129
      obtain rfl : ad126 = ad129 := (by injection e129)
      replace hx129_0 := (HB.out.cell (World.block_lt_of_cell? w _ hx129_0)).trans hx129_0
      replace hx129_1 := (HB.out.cell (World.block_lt_of_cell? w _ hx129_1)).trans hx129_1
      replace hx129_2 := (HB.out.cell (World.block_lt_of_cell? w _ hx129_2)).trans hx129_2
      replace p129 := eq_true p129
      replace q129 := eq_true q129
      go_wp2
      repeat (go_quiet (fail); try go_wp2)
      go_roundg k2
      case measure => have := HK1.out; have := HK2.out; omega
      case rel => exact ⟨(wrap64 (x5_2 + 1)), Z122, H', ⟨Z124⟩, ⟨Z70⟩⟩
     rw [if_neg c7] at H
     have c7b0 : decide (x5_2 < x3_1) = false := decide_eq_false c7
     clear c7
     by_cases c13 : 0 ≤ x3_1
     rotate_left
     ·rw [if_neg c13] at H
      exact absurd H (by simp)
     rw [if_pos c13] at H
     have c13b0 : decide (0 ≤ x3_1) = true := decide_eq_true c13
     clear c13
     by_cases c14 : x3_1 < (l0.length : Int)
     rotate_left
     ·rw [if_neg c14] at H
      exact absurd H (by simp)
     rw [if_pos c14] at H
     have c14b0 : decide (x3_1 < (l0.length : Int)) = true := decide_eq_true c14
     clear c14
     by_cases c15 : ((rd_T56 l0 x3_1).f1) < 1
     ·rw [if_pos c15] at H
      have c15b0 : decide (((rd_T56 l0 x3_1).f1) < 1) = true := decide_eq_true c15
      clear c15
      obtain rfl := Option.some.inj H
      have p130 : 0 ≤ (x3_1 : Int) := of_decide_eq_true Z121
      have q130 : x3_1 < (l0.length : Int) := of_decide_eq_true Z121
      obtain ⟨ad130, e130, hx130_0, hx130_1, hx130_2⟩ := at_T56 HR0.out x3_1 p130 q130
      obtain rfl : ad126 = ad130 := (by injection e130)
      replace hx130_0 := (HB.out.cell (World.block_lt_of_cell? w _ hx130_0)).trans hx130_0
      replace hx130_1 := (HB.out.cell (World.block_lt_of_cell? w _ hx130_1)).trans hx130_1
      replace hx130_2 := (HB.out.cell (World.block_lt_of_cell? w _ hx130_2)).trans hx130_2
      replace p130 := eq_true p130
      replace q130 := eq_true q130
      go_wp2
      repeat (go_quiet (fail); try go_wp2)
      go_ret
      exact ⟨Z112, Z70⟩
     rw [if_neg c15] at H
     have c15b0 : decide (((rd_T56 l0 x3_1).f1) < 1) = false := decide_eq_false c15
     clear c15
     by_cases c16 : ((rd_T56 l0 x3_1).f1) > 3
     ·rw [if_pos c16] at H
      have c16b0 : decide (3 < ((rd_T56 l0 x3_1).f1)) = true := decide_eq_true c16
      clear c16
      obtain rfl := Option.some.inj H
      have p130 : 0 ≤ (x3_1 : Int) := of_decide_eq_true Z121
      have q130 : x3_1 < (l0.length : Int) := of_decide_eq_true Z121
      obtain ⟨ad130, e130, hx130_0, hx130_1, hx130_2⟩ := at_T56 HR0.out x3_1 p130 q130
      obtain rfl : ad126 = ad130 := (by injection e130)
      replace hx130_0 := (HB.out.cell (World.block_lt_of_cell? w _ hx130_0)).trans hx130_0
      replace hx130_1 := (HB.out.cell (World.block_lt_of_cell? w _ hx130_1)).trans hx130_1
      replace hx130_2 := (HB.out.cell (World.block_lt_of_cell? w _ hx130_2)).trans hx130_2
      replace p130 := eq_true p130
      replace q130 := eq_true q130
      have p131 : 0 ≤ (x3_1 : Int) := of_decide_eq_true Z121
      have q131 : x3_1 < (l0.length : Int) := of_decide_eq_true Z121
      obtain ⟨ad131, e131, hx131_0, hx131_1, hx131_2⟩ := at_T56 HR0.out x3_1 p131 q131
      obtain rfl : ad126 = ad131 := (by injection e131)
      replace hx131_0 := (HB.out.cell (World.block_lt_of_cell? w _ hx131_0)).trans hx131_0
      replace hx131_1 := (HB.out.cell (World.block_lt_of_cell? w _ hx131_1)).trans hx131_1
      replace hx131_2 := (HB.out.cell (World.block_lt_of_cell? w _ hx131_2)).trans hx131_2
      replace p131 := eq_true p131
      replace q131 := eq_true q131
      go_wp2
      repeat (go_quiet (fail); try go_wp2)
      go_ret
      exact ⟨Z112, Z70⟩
     rw [if_neg c16] at H
     have c16b0 : decide (3 < ((rd_T56 l0 x3_1).f1)) = false := decide_eq_false c16
     clear c16
     have H' := Aside0.mk H
     clear H
     have p130 : 0 ≤ (x3_1 : Int) := of_decide_eq_true Z121
     have q130 : x3_1 < (l0.length : Int) := of_decide_eq_true Z121
     obtain ⟨ad130, e130, hx130_0, hx130_1, hx130_2⟩ := at_T56 HR0.out x3_1 p130 q130
     obtain rfl : ad126 = ad130 := (by injection e130)
     replace hx130_0 := (HB.out.cell (World.block_lt_of_cell? w _ hx130_0)).trans hx130_0
     replace hx130_1 := (HB.out.cell (World.block_lt_of_cell? w _ hx130_1)).trans hx130_1
     replace hx130_2 := (HB.out.cell (World.block_lt_of_cell? w _ hx130_2)).trans hx130_2
     replace p130 := eq_true p130
     replace q130 := eq_true q130
     have p131 : 0 ≤ (x3_1 : Int) := of_decide_eq_true Z121
     have q131 : x3_1 < (l0.length : Int) := of_decide_eq_true Z121
     obtain ⟨ad131, e131, hx131_0, hx131_1, hx131_2⟩ := at_T56 HR0.out x3_1 p131 q131
     obtain rfl : ad126 = ad131 := (by injection e131)
     replace hx131_0 := (HB.out.cell (World.block_lt_of_cell? w _ hx131_0)).trans hx131_0
     replace hx131_1 := (HB.out.cell (World.block_lt_of_cell? w _ hx131_1)).trans hx131_1
     replace hx131_2 := (HB.out.cell (World.block_lt_of_cell? w _ hx131_2)).trans hx131_2
     replace p131 := eq_true p131
     replace q131 := eq_true q131
     go_wp2
     repeat (go_quiet (fail); try go_wp2)
     go_roundg k2
     case measure => have := HK1.out; have := HK2.out; omega
     case rel => exact ⟨(wrap64 (x3_1 + 1)), Z122, H', ⟨Z124⟩, ⟨Z70⟩⟩
mutual
def alumref20_indexes.l0 : Nat → List (S65) → Int → Int → Option (Int)
 | 0, _, _, _ => none
 | k + 1, x0, x1, x5 => if x5 < (x0.length : Int) then (if 0 ≤ x5 then ((alumref20_Name.f k ((rd_T65 x0 x5).f0)).bind fun t137 => (if t137 = true then (alumref20_indexes.l1 k x0 x1 x5 0) else (some 5))) else (none)) else (some 0)
def alumref20_indexes.l1 : Nat → List (S65) → Int → Int → Int → Option (Int)
 | 0, _, _, _, _ => none
 | k + 1, x0, x1, x5, x7 => if x7 < x5 then (if 0 ≤ x7 then (if x7 < (x0.length : Int) then (if 0 ≤ x5 then (if x5 < (x0.length : Int) then (if ((rd_T65 x0 x7).f0).toList = ((rd_T65 x0 x5).f0).toList then (some 6) else (alumref20_indexes.l1 k x0 x1 x5 (wrap64 (x7 + 1)))) else (none)) else (none)) else (none)) else (none)) else (if 0 ≤ x5 then (if x5 < (x0.length : Int) then ((alumref20_places.f k ((rd_T65 x0 x5).f1) x1).bind fun t141 => (if t141 = true then (alumref20_indexes.l0 k x0 x1 (wrap64 (x5 + 1))) else (some 1))) else (none)) else (none))
end
def alumref20_indexes.f (k : Nat) (l0 : List (S65)) (a1 : Int) : Option (Int) := alumref20_indexes.l0 k l0 a1 0
set_option maxHeartbeats 8000000 in
set_option maxRecDepth 100000 in
theorem alumref20_indexes.calls (k : Nat) (A0 : Option Addr) (c0 : Nat) (l0 : List (S65)) (a1 : Int) (r : Int) (w : World) (hr0 : Kd.C k65 w A0 l0.length l0) (hc0 : l0.length ≤ c0) (h : alumref20_indexes.f k l0 a1 = some r) :
  Calls Try.prog 77 #[.slice A0 l0.length c0, .int .i64 a1] w fun e w' => e = .returned (.int .i64 r) ∧ Below w.heap.size w w' := by
 have HR0 := Aside0.mk hr0
 have HC0 := Aside0.mk hc0
 clear hr0 hc0
 have HB := Aside0.mk (Below.refl w.heap.size w)
 have H : (alumref20_indexes.l0 k l0 a1 0) = some r := h
 clear h
 have H' := Aside0.mk H
 clear H
 go_enter Try.func77, Try.ntmps77
 go_wp2
 repeat (go_quiet (fail); try go_wp2)
 go_loopg [5] k (fun kq v5 w' => ∃ (x5_1 : Int), v5 = .int .i64 x5_1 ∧ Aside0 (alumref20_indexes.l0 kq l0 a1 x5_1 = some r) ∧ Aside0 (kq ≤ k) ∧ Aside0 (Below w.heap.size w w'))
 case atStart => exact ⟨(0), Z122, H', ⟨Nat.le_refl _⟩, ⟨Z70⟩⟩
 case round =>
  clear H'
  try clear p2
  obtain ⟨x5_1, rfl, HA, HK1, HB⟩ := hrel
  cases gk with
  | zero => exact absurd HA.out (by simp [alumref20_indexes.l0])
  | succ k1 =>
   have H := HA.out
   clear HA
   simp only [alumref20_indexes.l0] at H
   by_cases c3 : x5_1 < (l0.length : Int)
   rotate_left
   ·rw [if_neg c3] at H
    have c3b0 : decide (x5_1 < (l0.length : Int)) = false := decide_eq_false c3
    clear c3
    obtain rfl := Option.some.inj H
    go_wp2
    repeat (go_quiet (fail); try go_wp2)
    go_ret
    exact ⟨Z112, Z70⟩
   rw [if_pos c3] at H
   have c3b0 : decide (x5_1 < (l0.length : Int)) = true := decide_eq_true c3
   clear c3
   by_cases c4 : 0 ≤ x5_1
   rotate_left
   ·rw [if_neg c4] at H
    exact absurd H (by simp)
   rw [if_pos c4] at H
   have c4b0 : decide (0 ≤ x5_1) = true := decide_eq_true c4
   clear c4
   replace H := Option.bind_eq_some_iff.mp H
   obtain ⟨t137, A50, H⟩ := H
   replace H : (if t137 = true then (alumref20_indexes.l1 k1 l0 a1 x5_1 0) else (some 5)) = some r := H
   have A5 := Aside0.mk A50
   clear A50
   by_cases c6 : t137 = true
   rotate_left
   ·replace c6 := Bool.eq_false_iff.mpr c6
    subst c6
    have H1 : (some 5) = some r := by rw [if_neg (show ¬ (false = true) by decide)] at H; exact H
    clear H
    have H := H1
    clear H1
    obtain rfl := Option.some.inj H
    have p136 : 0 ≤ (x5_1 : Int) := of_decide_eq_true Z121
    have q136 : x5_1 < (l0.length : Int) := of_decide_eq_true Z121
    obtain ⟨ad136, A136_1, c136_1, e136, hx136_0, hx136_1, hx136_2, hl136_1, hi136_1⟩ := at_T65 HR0.out x5_1 p136 q136
    cases e136
    replace hx136_0 := (HB.out.cell (World.block_lt_of_cell? w _ hx136_0)).trans hx136_0
    replace hx136_1 := (HB.out.cell (World.block_lt_of_cell? w _ hx136_1)).trans hx136_1
    replace hx136_2 := (HB.out.cell (World.block_lt_of_cell? w _ hx136_2)).trans hx136_2
    have HR136_1 := Aside0.mk hi136_1
    have HC136_1 := Aside0.mk hl136_1
    clear hi136_1 hl136_1
    replace p136 := eq_true p136
    replace q136 := eq_true q136
    go_wp2_with (first | (go_at_call 24; (with_reducible refine (alumref20_Name.calls k1 ((rd_T65 l0 x5_1).f0) false _ A5.out).mono ?_); rintro e w18 ⟨rfl, hb⟩; have n0_ := Aside0.mk (below_step Z67 hb); clear HB; have HB := n0_; clear n0_; (try clear hb); (try clear hb2); (try clear hk); (try clear hi)))
    repeat (go_quiet (first | (go_at_call 24; (with_reducible refine (alumref20_Name.calls k1 ((rd_T65 l0 x5_1).f0) false _ A5.out).mono ?_); rintro e w18 ⟨rfl, hb⟩; have n0_ := Aside0.mk (below_step Z67 hb); clear HB; have HB := n0_; clear n0_; (try clear hb); (try clear hb2); (try clear hk); (try clear hi))); try go_wp2_with (first | (go_at_call 24; (with_reducible refine (alumref20_Name.calls k1 ((rd_T65 l0 x5_1).f0) false _ A5.out).mono ?_); rintro e w18 ⟨rfl, hb⟩; have n0_ := Aside0.mk (below_step Z67 hb); clear HB; have HB := n0_; clear n0_; (try clear hb); (try clear hb2); (try clear hk); (try clear hi))))
    go_ret
    exact ⟨Z112, Z70⟩
   subst c6
   have H1 : (alumref20_indexes.l1 k1 l0 a1 x5_1 0) = some r := by rw [if_pos rfl] at H; exact H
   clear H
   have H := H1
   clear H1
   have H' := Aside0.mk H
   clear H
   have p136 : 0 ≤ (x5_1 : Int) := of_decide_eq_true Z121
   have q136 : x5_1 < (l0.length : Int) := of_decide_eq_true Z121
   obtain ⟨ad136, A136_1, c136_1, e136, hx136_0, hx136_1, hx136_2, hl136_1, hi136_1⟩ := at_T65 HR0.out x5_1 p136 q136
   cases e136
   replace hx136_0 := (HB.out.cell (World.block_lt_of_cell? w _ hx136_0)).trans hx136_0
   replace hx136_1 := (HB.out.cell (World.block_lt_of_cell? w _ hx136_1)).trans hx136_1
   replace hx136_2 := (HB.out.cell (World.block_lt_of_cell? w _ hx136_2)).trans hx136_2
   have HR136_1 := Aside0.mk hi136_1
   have HC136_1 := Aside0.mk hl136_1
   clear hi136_1 hl136_1
   replace p136 := eq_true p136
   replace q136 := eq_true q136
   go_wp2_with (first | (go_at_call 24; (with_reducible refine (alumref20_Name.calls k1 ((rd_T65 l0 x5_1).f0) true _ A5.out).mono ?_); rintro e w7 ⟨rfl, hb⟩; have n0_ := Aside0.mk (below_step Z67 hb); clear HB; have HB := n0_; clear n0_; (try clear hb); (try clear hb2); (try clear hk); (try clear hi)))
   repeat (go_quiet (first | (go_at_call 24; (with_reducible refine (alumref20_Name.calls k1 ((rd_T65 l0 x5_1).f0) true _ A5.out).mono ?_); rintro e w7 ⟨rfl, hb⟩; have n0_ := Aside0.mk (below_step Z67 hb); clear HB; have HB := n0_; clear n0_; (try clear hb); (try clear hb2); (try clear hk); (try clear hi))); try go_wp2_with (first | (go_at_call 24; (with_reducible refine (alumref20_Name.calls k1 ((rd_T65 l0 x5_1).f0) true _ A5.out).mono ?_); rintro e w7 ⟨rfl, hb⟩; have n0_ := Aside0.mk (below_step Z67 hb); clear HB; have HB := n0_; clear n0_; (try clear hb); (try clear hb2); (try clear hk); (try clear hi))))
   go_loopg [7] k1 (fun kq v7 w' => ∃ (x7_2 : Int), v7 = .int .i64 x7_2 ∧ Aside0 (alumref20_indexes.l1 kq l0 a1 x5_1 x7_2 = some r) ∧ Aside0 (kq ≤ k1) ∧ Aside0 (Below w.heap.size w w'))
   case atStart => exact ⟨(0), Z122, H', ⟨Nat.le_refl _⟩, ⟨Z70⟩⟩
   case round =>
    clear H'
    try clear c1
    try clear p1
    try clear q1
    try clear hx1
    try clear p2
    try clear c3
    try clear c3b0
    try clear c4
    try clear c4b0
    try clear c6
    try clear c7
    try clear hx136_0
    try clear hx136_1
    try clear hx136_2
    try clear p136
    try clear p2
    try clear q136
    obtain ⟨x7_2, rfl, HA, HK2, HB⟩ := hrel
    cases gk with
    | zero => exact absurd HA.out (by simp [alumref20_indexes.l1])
    | succ k2 =>
     have H := HA.out
     clear HA
     simp only [alumref20_indexes.l1] at H
     by_cases c8 : x7_2 < x5_1
     rotate_left
     ·rw [if_neg c8] at H
      have c8b0 : decide (x7_2 < x5_1) = false := decide_eq_false c8
      clear c8
      by_cases c14 : 0 ≤ x5_1
      ·rw [if_pos c14] at H
       have c14b0 : decide (0 ≤ x5_1) = true := decide_eq_true c14
       clear c14
       by_cases c15 : x5_1 < (l0.length : Int)
       ·rw [if_pos c15] at H
        have c15b0 : decide (x5_1 < (l0.length : Int)) = true := decide_eq_true c15
        clear c15
        replace H := Option.bind_eq_some_iff.mp H
        obtain ⟨t141, A160, H⟩ := H
        replace H : (if t141 = true then (alumref20_indexes.l0 k2 l0 a1 (wrap64 (x5_1 + 1))) else (some 1)) = some r := H
        have A16 := Aside0.mk A160
        clear A160
        by_cases c17 : t141 = true
        ·subst c17
         have H1 : (alumref20_indexes.l0 k2 l0 a1 (wrap64 (x5_1 + 1))) = some r := by rw [if_pos rfl] at H; exact H
         clear H
         have H := H1
         clear H1
         have H' := Aside0.mk H
         clear H
         have p140 : 0 ≤ (x5_1 : Int) := of_decide_eq_true Z121
         have q140 : x5_1 < (l0.length : Int) := of_decide_eq_true Z121
         obtain ⟨ad140, A140_1, c140_1, e140, hx140_0, hx140_1, hx140_2, hl140_1, hi140_1⟩ := at_T65 HR0.out x5_1 p140 q140
         obtain rfl : ad136 = ad140 := (by injection e140)
         replace hx140_0 := (HB.out.cell (World.block_lt_of_cell? w _ hx140_0)).trans hx140_0
         replace hx140_1 := (HB.out.cell (World.block_lt_of_cell? w _ hx140_1)).trans hx140_1
         replace hx140_2 := (HB.out.cell (World.block_lt_of_cell? w _ hx140_2)).trans hx140_2
         have HR140_1 := Aside0.mk hi140_1
         have HC140_1 := Aside0.mk hl140_1
         clear hi140_1 hl140_1
         replace p140 := eq_true p140
         replace q140 := eq_true q140
         go_wp2_with (first | (go_at_call 126; (with_reducible refine (alumref20_places.calls k2 _ _ ((rd_T65 l0 x5_1).f1) a1 true _ ?side1 ?side2 A16.out).mono ?_); (case side1 => repeat (first | exact (Kd.C_below HR140_1.out HB.out) | (with_reducible refine Kd.C_alloc ?_ _) | (with_reducible refine Kd.C_drewN ?_ _) | (with_reducible refine Kd.C_drew ?_))); (case side2 => exact HC140_1.out); rintro e w' ⟨rfl, ⟨nd, rfl⟩⟩; (try first | exact ⟨rfl, _, World.drewN_drewN _ _ _⟩ | exact ⟨rfl, _, Eq.trans (World.drewN_drewN _ _ _) (congrArg (World.drewN _) (Nat.add_assoc _ _ _))⟩)))
         repeat (go_quiet (first | (go_at_call 126; (with_reducible refine (alumref20_places.calls k2 _ _ ((rd_T65 l0 x5_1).f1) a1 true _ ?side1 ?side2 A16.out).mono ?_); (case side1 => repeat (first | exact (Kd.C_below HR140_1.out HB.out) | (with_reducible refine Kd.C_alloc ?_ _) | (with_reducible refine Kd.C_drewN ?_ _) | (with_reducible refine Kd.C_drew ?_))); (case side2 => exact HC140_1.out); rintro e w' ⟨rfl, ⟨nd, rfl⟩⟩; (try first | exact ⟨rfl, _, World.drewN_drewN _ _ _⟩ | exact ⟨rfl, _, Eq.trans (World.drewN_drewN _ _ _) (congrArg (World.drewN _) (Nat.add_assoc _ _ _))⟩))); try go_wp2_with (first | (go_at_call 126; (with_reducible refine (alumref20_places.calls k2 _ _ ((rd_T65 l0 x5_1).f1) a1 true _ ?side1 ?side2 A16.out).mono ?_); (case side1 => repeat (first | exact (Kd.C_below HR140_1.out HB.out) | (with_reducible refine Kd.C_alloc ?_ _) | (with_reducible refine Kd.C_drewN ?_ _) | (with_reducible refine Kd.C_drew ?_))); (case side2 => exact HC140_1.out); rintro e w' ⟨rfl, ⟨nd, rfl⟩⟩; (try first | exact ⟨rfl, _, World.drewN_drewN _ _ _⟩ | exact ⟨rfl, _, Eq.trans (World.drewN_drewN _ _ _) (congrArg (World.drewN _) (Nat.add_assoc _ _ _))⟩))))
         go_roundg k2
         case measure => have := HK1.out; have := HK2.out; omega
         case rel => exact ⟨(wrap64 (x5_1 + 1)), Z122, H', ⟨Z124⟩, ⟨Z70⟩⟩
        ·replace c17 := Bool.eq_false_iff.mpr c17
         subst c17
         have H1 : (some 1) = some r := by rw [if_neg (show ¬ (false = true) by decide)] at H; exact H
         clear H
         have H := H1
         clear H1
         obtain rfl := Option.some.inj H
         have p140 : 0 ≤ (x5_1 : Int) := of_decide_eq_true Z121
         have q140 : x5_1 < (l0.length : Int) := of_decide_eq_true Z121
         obtain ⟨ad140, A140_1, c140_1, e140, hx140_0, hx140_1, hx140_2, hl140_1, hi140_1⟩ := at_T65 HR0.out x5_1 p140 q140
         obtain rfl : ad136 = ad140 := (by injection e140)
         replace hx140_0 := (HB.out.cell (World.block_lt_of_cell? w _ hx140_0)).trans hx140_0
         replace hx140_1 := (HB.out.cell (World.block_lt_of_cell? w _ hx140_1)).trans hx140_1
         replace hx140_2 := (HB.out.cell (World.block_lt_of_cell? w _ hx140_2)).trans hx140_2
         have HR140_1 := Aside0.mk hi140_1
         have HC140_1 := Aside0.mk hl140_1
         clear hi140_1 hl140_1
         replace p140 := eq_true p140
         replace q140 := eq_true q140
         go_wp2_with (first | (go_at_call 126; (with_reducible refine (alumref20_places.calls k2 _ _ ((rd_T65 l0 x5_1).f1) a1 false _ ?side1 ?side2 A16.out).mono ?_); (case side1 => repeat (first | exact (Kd.C_below HR140_1.out HB.out) | (with_reducible refine Kd.C_alloc ?_ _) | (with_reducible refine Kd.C_drewN ?_ _) | (with_reducible refine Kd.C_drew ?_))); (case side2 => exact HC140_1.out); rintro e w' ⟨rfl, ⟨nd, rfl⟩⟩; (try first | exact ⟨rfl, _, World.drewN_drewN _ _ _⟩ | exact ⟨rfl, _, Eq.trans (World.drewN_drewN _ _ _) (congrArg (World.drewN _) (Nat.add_assoc _ _ _))⟩)))
         repeat (go_quiet (first | (go_at_call 126; (with_reducible refine (alumref20_places.calls k2 _ _ ((rd_T65 l0 x5_1).f1) a1 false _ ?side1 ?side2 A16.out).mono ?_); (case side1 => repeat (first | exact (Kd.C_below HR140_1.out HB.out) | (with_reducible refine Kd.C_alloc ?_ _) | (with_reducible refine Kd.C_drewN ?_ _) | (with_reducible refine Kd.C_drew ?_))); (case side2 => exact HC140_1.out); rintro e w' ⟨rfl, ⟨nd, rfl⟩⟩; (try first | exact ⟨rfl, _, World.drewN_drewN _ _ _⟩ | exact ⟨rfl, _, Eq.trans (World.drewN_drewN _ _ _) (congrArg (World.drewN _) (Nat.add_assoc _ _ _))⟩))); try go_wp2_with (first | (go_at_call 126; (with_reducible refine (alumref20_places.calls k2 _ _ ((rd_T65 l0 x5_1).f1) a1 false _ ?side1 ?side2 A16.out).mono ?_); (case side1 => repeat (first | exact (Kd.C_below HR140_1.out HB.out) | (with_reducible refine Kd.C_alloc ?_ _) | (with_reducible refine Kd.C_drewN ?_ _) | (with_reducible refine Kd.C_drew ?_))); (case side2 => exact HC140_1.out); rintro e w' ⟨rfl, ⟨nd, rfl⟩⟩; (try first | exact ⟨rfl, _, World.drewN_drewN _ _ _⟩ | exact ⟨rfl, _, Eq.trans (World.drewN_drewN _ _ _) (congrArg (World.drewN _) (Nat.add_assoc _ _ _))⟩))))
         go_ret
         exact ⟨Z112, Z70⟩
       ·rw [if_neg c15] at H
        exact absurd H (by simp)
      ·rw [if_neg c14] at H
       exact absurd H (by simp)
     rw [if_pos c8] at H
     have c8b0 : decide (x7_2 < x5_1) = true := decide_eq_true c8
     clear c8
     by_cases c9 : 0 ≤ x7_2
     rotate_left
     ·rw [if_neg c9] at H
      exact absurd H (by simp)
     rw [if_pos c9] at H
     have c9b0 : decide (0 ≤ x7_2) = true := decide_eq_true c9
     clear c9
     by_cases c10 : x7_2 < (l0.length : Int)
     rotate_left
     ·rw [if_neg c10] at H
      exact absurd H (by simp)
     rw [if_pos c10] at H
     have c10b0 : decide (x7_2 < (l0.length : Int)) = true := decide_eq_true c10
     clear c10
     by_cases c11 : 0 ≤ x5_1
     rotate_left
     ·rw [if_neg c11] at H
      exact absurd H (by simp)
     rw [if_pos c11] at H
     have c11b0 : decide (0 ≤ x5_1) = true := decide_eq_true c11
     clear c11
     by_cases c12 : x5_1 < (l0.length : Int)
     rotate_left
     ·rw [if_neg c12] at H
      exact absurd H (by simp)
     rw [if_pos c12] at H
     have c12b0 : decide (x5_1 < (l0.length : Int)) = true := decide_eq_true c12
     clear c12
     by_cases c13 : ((rd_T65 l0 x7_2).f0).toList = ((rd_T65 l0 x5_1).f0).toList
     ·rw [if_pos c13] at H
      have c13b0 : (((rd_T65 l0 x7_2).f0).toList == ((rd_T65 l0 x5_1).f0).toList) = true := beq_iff_eq.mpr c13
      have c13b1 : (((rd_T65 l0 x7_2).f0).toList != ((rd_T65 l0 x5_1).f0).toList) = false := bne_eq_false_iff_eq.mpr c13
      clear c13
      obtain rfl := Option.some.inj H
      have p138 : 0 ≤ (x7_2 : Int) := of_decide_eq_true Z121
      have q138 : x7_2 < (l0.length : Int) := of_decide_eq_true Z121
      obtain ⟨ad138, A138_1, c138_1, e138, hx138_0, hx138_1, hx138_2, hl138_1, hi138_1⟩ := at_T65 HR0.out x7_2 p138 q138
      obtain rfl : ad136 = ad138 := (by injection e138)
      replace hx138_0 := (HB.out.cell (World.block_lt_of_cell? w _ hx138_0)).trans hx138_0
      replace hx138_1 := (HB.out.cell (World.block_lt_of_cell? w _ hx138_1)).trans hx138_1
      replace hx138_2 := (HB.out.cell (World.block_lt_of_cell? w _ hx138_2)).trans hx138_2
      have HR138_1 := Aside0.mk hi138_1
      have HC138_1 := Aside0.mk hl138_1
      clear hi138_1 hl138_1
      replace p138 := eq_true p138
      replace q138 := eq_true q138
      have p139 : 0 ≤ (x5_1 : Int) := of_decide_eq_true Z121
      have q139 : x5_1 < (l0.length : Int) := of_decide_eq_true Z121
      obtain ⟨ad139, A139_1, c139_1, e139, hx139_0, hx139_1, hx139_2, hl139_1, hi139_1⟩ := at_T65 HR0.out x5_1 p139 q139
      obtain rfl : ad136 = ad139 := (by injection e139)
      replace hx139_0 := (HB.out.cell (World.block_lt_of_cell? w _ hx139_0)).trans hx139_0
      replace hx139_1 := (HB.out.cell (World.block_lt_of_cell? w _ hx139_1)).trans hx139_1
      replace hx139_2 := (HB.out.cell (World.block_lt_of_cell? w _ hx139_2)).trans hx139_2
      have HR139_1 := Aside0.mk hi139_1
      have HC139_1 := Aside0.mk hl139_1
      clear hi139_1 hl139_1
      replace p139 := eq_true p139
      replace q139 := eq_true q139
      go_wp2
      repeat (go_quiet (fail); try go_wp2)
      go_ret
      exact ⟨Z112, Z70⟩
     rw [if_neg c13] at H
     have c13b0 : (((rd_T65 l0 x7_2).f0).toList == ((rd_T65 l0 x5_1).f0).toList) = false := beq_eq_false_iff_ne.mpr c13
     have c13b1 : (((rd_T65 l0 x7_2).f0).toList != ((rd_T65 l0 x5_1).f0).toList) = true := bne_iff_ne.mpr c13
     have H' := Aside0.mk H
     clear H
     have p138 : 0 ≤ (x7_2 : Int) := of_decide_eq_true Z121
     have q138 : x7_2 < (l0.length : Int) := of_decide_eq_true Z121
     obtain ⟨ad138, A138_1, c138_1, e138, hx138_0, hx138_1, hx138_2, hl138_1, hi138_1⟩ := at_T65 HR0.out x7_2 p138 q138
     obtain rfl : ad136 = ad138 := (by injection e138)
     replace hx138_0 := (HB.out.cell (World.block_lt_of_cell? w _ hx138_0)).trans hx138_0
     replace hx138_1 := (HB.out.cell (World.block_lt_of_cell? w _ hx138_1)).trans hx138_1
     replace hx138_2 := (HB.out.cell (World.block_lt_of_cell? w _ hx138_2)).trans hx138_2
     have HR138_1 := Aside0.mk hi138_1
     have HC138_1 := Aside0.mk hl138_1
     clear hi138_1 hl138_1
     replace p138 := eq_true p138
     replace q138 := eq_true q138
     have p139 : 0 ≤ (x5_1 : Int) := of_decide_eq_true Z121
     have q139 : x5_1 < (l0.length : Int) := of_decide_eq_true Z121
     obtain ⟨ad139, A139_1, c139_1, e139, hx139_0, hx139_1, hx139_2, hl139_1, hi139_1⟩ := at_T65 HR0.out x5_1 p139 q139
     obtain rfl : ad136 = ad139 := (by injection e139)
     replace hx139_0 := (HB.out.cell (World.block_lt_of_cell? w _ hx139_0)).trans hx139_0
     replace hx139_1 := (HB.out.cell (World.block_lt_of_cell? w _ hx139_1)).trans hx139_1
     replace hx139_2 := (HB.out.cell (World.block_lt_of_cell? w _ hx139_2)).trans hx139_2
     have HR139_1 := Aside0.mk hi139_1
     have HC139_1 := Aside0.mk hl139_1
     clear hi139_1 hl139_1
     replace p139 := eq_true p139
     replace q139 := eq_true q139
     go_wp2
     repeat (go_quiet (fail); try go_wp2)
     go_roundg k2
     case measure => have := HK1.out; have := HK2.out; omega
     case rel => exact ⟨(wrap64 (x7_2 + 1)), Z122, H', ⟨Z124⟩, ⟨Z70⟩⟩
end Go.Proofs.Ytkopbaikmlajmaa.Q
