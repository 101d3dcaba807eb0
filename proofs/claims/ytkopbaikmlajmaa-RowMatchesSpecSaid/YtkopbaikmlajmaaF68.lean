import Derived.Test.YtkopbaikmlajmaaZ
import Derived.Test.YtkopbaikmlajmaaK
namespace Go.Proofs.Ytkopbaikmlajmaa.Q
open Go.RowKit Go.Proofs.YtkopbaikmlajmaaW.PrintWords Go.Proofs.YtkopbaikmlajmaaW.PrintLast Go.Proofs.YtkopbaikmlajmaaW.PrintMore
attribute [local go_sem] max2_int min2_int max_two min_two max_three min_three max_four min_four
set_option linter.unusedVariables false
set_option linter.unusedSimpArgs false

theorem Z117 {P : Prop} (h : P := by have := HJ1.out; first | omega | exact Nat.le_refl _) : P := h
mutual
def schema_reserved.j0 : Nat → ByteArray → Bool → Option (Bool)
 | 0, _, _ => none
 | k + 1, x3, x4 => if x4 = true then (some true) else (if x3.toList = ([103, 114, 111, 117, 112] : List UInt8) then (schema_reserved.j1 k x3 (x3.toList == ([103, 114, 111, 117, 112] : List UInt8))) else (if x3.toList = ([105, 110, 100, 101, 120] : List UInt8) then (schema_reserved.j1 k x3 (x3.toList == ([105, 110, 100, 101, 120] : List UInt8))) else (if x3.toList = ([105, 110, 115, 101, 114, 116] : List UInt8) then (schema_reserved.j1 k x3 (x3.toList == ([105, 110, 115, 101, 114, 116] : List UInt8))) else (if x3.toList = ([105, 110, 116] : List UInt8) then (schema_reserved.j1 k x3 (x3.toList == ([105, 110, 116] : List UInt8))) else (if x3.toList = ([105, 110, 116, 111] : List UInt8) then (schema_reserved.j1 k x3 (x3.toList == ([105, 110, 116, 111] : List UInt8))) else (if x3.toList = ([105, 115] : List UInt8) then (schema_reserved.j1 k x3 (x3.toList == ([105, 115] : List UInt8))) else (if x3.toList = ([106, 111, 105, 110] : List UInt8) then (schema_reserved.j1 k x3 (x3.toList == ([106, 111, 105, 110] : List UInt8))) else (if x3.toList = ([107, 101, 121] : List UInt8) then (schema_reserved.j1 k x3 (x3.toList == ([107, 101, 121] : List UInt8))) else (if x3.toList = ([108, 105, 109, 105, 116] : List UInt8) then (schema_reserved.j1 k x3 (x3.toList == ([108, 105, 109, 105, 116] : List UInt8))) else (if x3.toList = ([109, 97, 120] : List UInt8) then (schema_reserved.j1 k x3 (x3.toList == ([109, 97, 120] : List UInt8))) else (if x3.toList = ([109, 105, 110] : List UInt8) then (schema_reserved.j1 k x3 (x3.toList == ([109, 105, 110] : List UInt8))) else (if x3.toList = ([110, 111, 116] : List UInt8) then (schema_reserved.j1 k x3 (x3.toList == ([110, 111, 116] : List UInt8))) else (if x3.toList = ([110, 117, 108, 108] : List UInt8) then (schema_reserved.j1 k x3 (x3.toList == ([110, 117, 108, 108] : List UInt8))) else (if x3.toList = ([111, 110] : List UInt8) then (schema_reserved.j1 k x3 (x3.toList == ([111, 110] : List UInt8))) else (if x3.toList = ([111, 110, 108, 121] : List UInt8) then (schema_reserved.j1 k x3 (x3.toList == ([111, 110, 108, 121] : List UInt8))) else (if x3.toList = ([111, 114] : List UInt8) then (schema_reserved.j1 k x3 (x3.toList == ([111, 114] : List UInt8))) else (if x3.toList = ([111, 114, 100, 101, 114] : List UInt8) then (schema_reserved.j1 k x3 (x3.toList == ([111, 114, 100, 101, 114] : List UInt8))) else (if x3.toList = ([114, 101, 97, 100] : List UInt8) then (schema_reserved.j1 k x3 (x3.toList == ([114, 101, 97, 100] : List UInt8))) else (if x3.toList = ([114, 101, 108, 101, 97, 115, 101] : List UInt8) then (schema_reserved.j1 k x3 (x3.toList == ([114, 101, 108, 101, 97, 115, 101] : List UInt8))) else (schema_reserved.j1 k x3 (x3.toList == ([114, 111, 108, 108, 98, 97, 99, 107] : List UInt8))))))))))))))))))))))
def schema_reserved.j1 : Nat → ByteArray → Bool → Option (Bool)
 | 0, _, _ => none
 | k + 1, x3, x23 => if x23 = true then (some true) else (if x3.toList = ([115, 97, 118, 101, 112, 111, 105, 110, 116] : List UInt8) then (some true) else (if x3.toList = ([115, 101, 108, 101, 99, 116] : List UInt8) then (some true) else (if x3.toList = ([115, 101, 114, 105, 97, 108, 105, 122, 97, 98, 108, 101] : List UInt8) then (some true) else (if x3.toList = ([115, 101, 116] : List UInt8) then (some true) else (if x3.toList = ([115, 117, 109] : List UInt8) then (some true) else (if x3.toList = ([116, 97, 98, 108, 101] : List UInt8) then (some true) else (if x3.toList = ([116, 101, 120, 116] : List UInt8) then (some true) else (if x3.toList = ([116, 111] : List UInt8) then (some true) else (if x3.toList = ([116, 114, 117, 101] : List UInt8) then (some true) else (if x3.toList = ([117, 110, 105, 113, 117, 101] : List UInt8) then (some true) else (if x3.toList = ([117, 112, 100, 97, 116, 101] : List UInt8) then (some true) else (if x3.toList = ([118, 97, 108, 117, 101, 115] : List UInt8) then (some true) else (if x3.toList = ([119, 104, 101, 114, 101] : List UInt8) then (some true) else (some false))))))))))))))
end
def schema_reserved.f (k : Nat) (a0 : ByteArray) : Option (Bool) := if a0.toList = ([97, 100, 100] : List UInt8) then (schema_reserved.j0 k a0 (a0.toList == ([97, 100, 100] : List UInt8))) else (if a0.toList = ([97, 110, 100] : List UInt8) then (schema_reserved.j0 k a0 (a0.toList == ([97, 110, 100] : List UInt8))) else (if a0.toList = ([97, 115] : List UInt8) then (schema_reserved.j0 k a0 (a0.toList == ([97, 115] : List UInt8))) else (if a0.toList = ([97, 115, 99] : List UInt8) then (schema_reserved.j0 k a0 (a0.toList == ([97, 115, 99] : List UInt8))) else (if a0.toList = ([98, 101, 103, 105, 110] : List UInt8) then (schema_reserved.j0 k a0 (a0.toList == ([98, 101, 103, 105, 110] : List UInt8))) else (if a0.toList = ([98, 111, 111, 108] : List UInt8) then (schema_reserved.j0 k a0 (a0.toList == ([98, 111, 111, 108] : List UInt8))) else (if a0.toList = ([98, 121] : List UInt8) then (schema_reserved.j0 k a0 (a0.toList == ([98, 121] : List UInt8))) else (if a0.toList = ([99, 104, 101, 99, 107] : List UInt8) then (schema_reserved.j0 k a0 (a0.toList == ([99, 104, 101, 99, 107] : List UInt8))) else (if a0.toList = ([99, 111, 108, 117, 109, 110] : List UInt8) then (schema_reserved.j0 k a0 (a0.toList == ([99, 111, 108, 117, 109, 110] : List UInt8))) else (if a0.toList = ([99, 111, 109, 109, 105, 116] : List UInt8) then (schema_reserved.j0 k a0 (a0.toList == ([99, 111, 109, 109, 105, 116] : List UInt8))) else (if a0.toList = ([99, 111, 117, 110, 116] : List UInt8) then (schema_reserved.j0 k a0 (a0.toList == ([99, 111, 117, 110, 116] : List UInt8))) else (if a0.toList = ([99, 114, 101, 97, 116, 101] : List UInt8) then (schema_reserved.j0 k a0 (a0.toList == ([99, 114, 101, 97, 116, 101] : List UInt8))) else (if a0.toList = ([100, 101, 108, 101, 116, 101] : List UInt8) then (schema_reserved.j0 k a0 (a0.toList == ([100, 101, 108, 101, 116, 101] : List UInt8))) else (if a0.toList = ([100, 101, 115, 99] : List UInt8) then (schema_reserved.j0 k a0 (a0.toList == ([100, 101, 115, 99] : List UInt8))) else (if a0.toList = ([100, 105, 115, 116, 105, 110, 99, 116] : List UInt8) then (schema_reserved.j0 k a0 (a0.toList == ([100, 105, 115, 116, 105, 110, 99, 116] : List UInt8))) else (if a0.toList = ([100, 114, 111, 112] : List UInt8) then (schema_reserved.j0 k a0 (a0.toList == ([100, 114, 111, 112] : List UInt8))) else (if a0.toList = ([102, 97, 108, 115, 101] : List UInt8) then (schema_reserved.j0 k a0 (a0.toList == ([102, 97, 108, 115, 101] : List UInt8))) else (schema_reserved.j0 k a0 (a0.toList == ([102, 114, 111, 109] : List UInt8)))))))))))))))))))
set_option maxHeartbeats 8000000 in
set_option maxRecDepth 100000 in
theorem schema_reserved.calls (k : Nat) (a0 : ByteArray) (r : Bool) (w : World) (h : schema_reserved.f k a0 = some r) :
  Calls Try.prog 68 #[.string a0] w fun e w' => e = .returned (.bool r) ∧ Drawn0 w w' := by
 have H : (if a0.toList = ([97, 100, 100] : List UInt8) then (schema_reserved.j0 k a0 (a0.toList == ([97, 100, 100] : List UInt8))) else (if a0.toList = ([97, 110, 100] : List UInt8) then (schema_reserved.j0 k a0 (a0.toList == ([97, 110, 100] : List UInt8))) else (if a0.toList = ([97, 115] : List UInt8) then (schema_reserved.j0 k a0 (a0.toList == ([97, 115] : List UInt8))) else (if a0.toList = ([97, 115, 99] : List UInt8) then (schema_reserved.j0 k a0 (a0.toList == ([97, 115, 99] : List UInt8))) else (if a0.toList = ([98, 101, 103, 105, 110] : List UInt8) then (schema_reserved.j0 k a0 (a0.toList == ([98, 101, 103, 105, 110] : List UInt8))) else (if a0.toList = ([98, 111, 111, 108] : List UInt8) then (schema_reserved.j0 k a0 (a0.toList == ([98, 111, 111, 108] : List UInt8))) else (if a0.toList = ([98, 121] : List UInt8) then (schema_reserved.j0 k a0 (a0.toList == ([98, 121] : List UInt8))) else (if a0.toList = ([99, 104, 101, 99, 107] : List UInt8) then (schema_reserved.j0 k a0 (a0.toList == ([99, 104, 101, 99, 107] : List UInt8))) else (if a0.toList = ([99, 111, 108, 117, 109, 110] : List UInt8) then (schema_reserved.j0 k a0 (a0.toList == ([99, 111, 108, 117, 109, 110] : List UInt8))) else (if a0.toList = ([99, 111, 109, 109, 105, 116] : List UInt8) then (schema_reserved.j0 k a0 (a0.toList == ([99, 111, 109, 109, 105, 116] : List UInt8))) else (if a0.toList = ([99, 111, 117, 110, 116] : List UInt8) then (schema_reserved.j0 k a0 (a0.toList == ([99, 111, 117, 110, 116] : List UInt8))) else (if a0.toList = ([99, 114, 101, 97, 116, 101] : List UInt8) then (schema_reserved.j0 k a0 (a0.toList == ([99, 114, 101, 97, 116, 101] : List UInt8))) else (if a0.toList = ([100, 101, 108, 101, 116, 101] : List UInt8) then (schema_reserved.j0 k a0 (a0.toList == ([100, 101, 108, 101, 116, 101] : List UInt8))) else (if a0.toList = ([100, 101, 115, 99] : List UInt8) then (schema_reserved.j0 k a0 (a0.toList == ([100, 101, 115, 99] : List UInt8))) else (if a0.toList = ([100, 105, 115, 116, 105, 110, 99, 116] : List UInt8) then (schema_reserved.j0 k a0 (a0.toList == ([100, 105, 115, 116, 105, 110, 99, 116] : List UInt8))) else (if a0.toList = ([100, 114, 111, 112] : List UInt8) then (schema_reserved.j0 k a0 (a0.toList == ([100, 114, 111, 112] : List UInt8))) else (if a0.toList = ([102, 97, 108, 115, 101] : List UInt8) then (schema_reserved.j0 k a0 (a0.toList == ([102, 97, 108, 115, 101] : List UInt8))) else (schema_reserved.j0 k a0 (a0.toList == ([102, 114, 111, 109] : List UInt8)))))))))))))))))))) = some r := h
 clear h
 have HC2 := Aside0.mk H
 clear H
 go_enter Try.func68, Try.ntmps68
 go_upto_if 4 with (fail)
 go_cut [4] (fun v4 wc => ∃ (kq : Nat) (x4_1 : Bool), v4 = .bool x4_1 ∧ Aside0 (schema_reserved.j0 kq a0 x4_1 = some r) ∧ Aside0 (kq ≤ k) ∧ Drawn0 w wc)
 case first =>
  have H := HC2.out
  clear HC2
  by_cases c3 : a0.toList = ([97, 100, 100] : List UInt8)
  ·rw [if_pos c3] at H
   have c3b0 : (a0.toList == ([97, 100, 100] : List UInt8)) = true := beq_iff_eq.mpr c3
   have c3b1 : (a0.toList != ([97, 100, 100] : List UInt8)) = false := bne_eq_false_iff_eq.mpr c3
   clear c3
   (first | rw [c3b0] | (simp only [i64_w, i32_w]; rw [c3b0]) | skip)
   have H' := Aside0.mk H
   clear H
   go_wp2
   go_meet
   case rel => exact ⟨_, ((a0.toList == ([97, 100, 100] : List UInt8))), Z122, H', ⟨Z128⟩, Z115⟩
  rw [if_neg c3] at H
  have c3b0 : (a0.toList == ([97, 100, 100] : List UInt8)) = false := beq_eq_false_iff_ne.mpr c3
  have c3b1 : (a0.toList != ([97, 100, 100] : List UInt8)) = true := bne_iff_ne.mpr c3
  (first | rw [c3b0] | (simp only [i64_w, i32_w]; rw [c3b0]) | skip)
  by_cases c4 : a0.toList = ([97, 110, 100] : List UInt8)
  ·rw [if_pos c4] at H
   have c4b0 : (a0.toList == ([97, 110, 100] : List UInt8)) = true := beq_iff_eq.mpr c4
   have c4b1 : (a0.toList != ([97, 110, 100] : List UInt8)) = false := bne_eq_false_iff_eq.mpr c4
   clear c4
   have H' := Aside0.mk H
   clear H
   go_wp2
   go_meet
   case rel => exact ⟨_, ((a0.toList == ([97, 110, 100] : List UInt8))), Z122, H', ⟨Z128⟩, Z115⟩
  rw [if_neg c4] at H
  have c4b0 : (a0.toList == ([97, 110, 100] : List UInt8)) = false := beq_eq_false_iff_ne.mpr c4
  have c4b1 : (a0.toList != ([97, 110, 100] : List UInt8)) = true := bne_iff_ne.mpr c4
  by_cases c5 : a0.toList = ([97, 115] : List UInt8)
  ·rw [if_pos c5] at H
   have c5b0 : (a0.toList == ([97, 115] : List UInt8)) = true := beq_iff_eq.mpr c5
   have c5b1 : (a0.toList != ([97, 115] : List UInt8)) = false := bne_eq_false_iff_eq.mpr c5
   clear c5
   have H' := Aside0.mk H
   clear H
   go_wp2
   go_meet
   case rel => exact ⟨_, ((a0.toList == ([97, 115] : List UInt8))), Z122, H', ⟨Z128⟩, Z115⟩
  rw [if_neg c5] at H
  have c5b0 : (a0.toList == ([97, 115] : List UInt8)) = false := beq_eq_false_iff_ne.mpr c5
  have c5b1 : (a0.toList != ([97, 115] : List UInt8)) = true := bne_iff_ne.mpr c5
  by_cases c6 : a0.toList = ([97, 115, 99] : List UInt8)
  ·rw [if_pos c6] at H
   have c6b0 : (a0.toList == ([97, 115, 99] : List UInt8)) = true := beq_iff_eq.mpr c6
   have c6b1 : (a0.toList != ([97, 115, 99] : List UInt8)) = false := bne_eq_false_iff_eq.mpr c6
   clear c6
   have H' := Aside0.mk H
   clear H
   go_wp2
   go_meet
   case rel => exact ⟨_, ((a0.toList == ([97, 115, 99] : List UInt8))), Z122, H', ⟨Z128⟩, Z115⟩
  rw [if_neg c6] at H
  have c6b0 : (a0.toList == ([97, 115, 99] : List UInt8)) = false := beq_eq_false_iff_ne.mpr c6
  have c6b1 : (a0.toList != ([97, 115, 99] : List UInt8)) = true := bne_iff_ne.mpr c6
  by_cases c7 : a0.toList = ([98, 101, 103, 105, 110] : List UInt8)
  ·rw [if_pos c7] at H
   have c7b0 : (a0.toList == ([98, 101, 103, 105, 110] : List UInt8)) = true := beq_iff_eq.mpr c7
   have c7b1 : (a0.toList != ([98, 101, 103, 105, 110] : List UInt8)) = false := bne_eq_false_iff_eq.mpr c7
   clear c7
   have H' := Aside0.mk H
   clear H
   go_wp2
   go_meet
   case rel => exact ⟨_, ((a0.toList == ([98, 101, 103, 105, 110] : List UInt8))), Z122, H', ⟨Z128⟩, Z115⟩
  rw [if_neg c7] at H
  have c7b0 : (a0.toList == ([98, 101, 103, 105, 110] : List UInt8)) = false := beq_eq_false_iff_ne.mpr c7
  have c7b1 : (a0.toList != ([98, 101, 103, 105, 110] : List UInt8)) = true := bne_iff_ne.mpr c7
  by_cases c8 : a0.toList = ([98, 111, 111, 108] : List UInt8)
  ·rw [if_pos c8] at H
   have c8b0 : (a0.toList == ([98, 111, 111, 108] : List UInt8)) = true := beq_iff_eq.mpr c8
   have c8b1 : (a0.toList != ([98, 111, 111, 108] : List UInt8)) = false := bne_eq_false_iff_eq.mpr c8
   clear c8
   have H' := Aside0.mk H
   clear H
   go_wp2
   go_meet
   case rel => exact ⟨_, ((a0.toList == ([98, 111, 111, 108] : List UInt8))), Z122, H', ⟨Z128⟩, Z115⟩
  rw [if_neg c8] at H
  have c8b0 : (a0.toList == ([98, 111, 111, 108] : List UInt8)) = false := beq_eq_false_iff_ne.mpr c8
  have c8b1 : (a0.toList != ([98, 111, 111, 108] : List UInt8)) = true := bne_iff_ne.mpr c8
  by_cases c9 : a0.toList = ([98, 121] : List UInt8)
  ·rw [if_pos c9] at H
   have c9b0 : (a0.toList == ([98, 121] : List UInt8)) = true := beq_iff_eq.mpr c9
   have c9b1 : (a0.toList != ([98, 121] : List UInt8)) = false := bne_eq_false_iff_eq.mpr c9
   clear c9
   have H' := Aside0.mk H
   clear H
   go_wp2
   go_meet
   case rel => exact ⟨_, ((a0.toList == ([98, 121] : List UInt8))), Z122, H', ⟨Z128⟩, Z115⟩
  rw [if_neg c9] at H
  have c9b0 : (a0.toList == ([98, 121] : List UInt8)) = false := beq_eq_false_iff_ne.mpr c9
  have c9b1 : (a0.toList != ([98, 121] : List UInt8)) = true := bne_iff_ne.mpr c9
  by_cases c10 : a0.toList = ([99, 104, 101, 99, 107] : List UInt8)
  ·rw [if_pos c10] at H
   have c10b0 : (a0.toList == ([99, 104, 101, 99, 107] : List UInt8)) = true := beq_iff_eq.mpr c10
   have c10b1 : (a0.toList != ([99, 104, 101, 99, 107] : List UInt8)) = false := bne_eq_false_iff_eq.mpr c10
   clear c10
   have H' := Aside0.mk H
   clear H
   go_wp2
   go_meet
   case rel => exact ⟨_, ((a0.toList == ([99, 104, 101, 99, 107] : List UInt8))), Z122, H', ⟨Z128⟩, Z115⟩
  rw [if_neg c10] at H
  have c10b0 : (a0.toList == ([99, 104, 101, 99, 107] : List UInt8)) = false := beq_eq_false_iff_ne.mpr c10
  have c10b1 : (a0.toList != ([99, 104, 101, 99, 107] : List UInt8)) = true := bne_iff_ne.mpr c10
  by_cases c11 : a0.toList = ([99, 111, 108, 117, 109, 110] : List UInt8)
  ·rw [if_pos c11] at H
   have c11b0 : (a0.toList == ([99, 111, 108, 117, 109, 110] : List UInt8)) = true := beq_iff_eq.mpr c11
   have c11b1 : (a0.toList != ([99, 111, 108, 117, 109, 110] : List UInt8)) = false := bne_eq_false_iff_eq.mpr c11
   clear c11
   have H' := Aside0.mk H
   clear H
   go_wp2
   go_meet
   case rel => exact ⟨_, ((a0.toList == ([99, 111, 108, 117, 109, 110] : List UInt8))), Z122, H', ⟨Z128⟩, Z115⟩
  rw [if_neg c11] at H
  have c11b0 : (a0.toList == ([99, 111, 108, 117, 109, 110] : List UInt8)) = false := beq_eq_false_iff_ne.mpr c11
  have c11b1 : (a0.toList != ([99, 111, 108, 117, 109, 110] : List UInt8)) = true := bne_iff_ne.mpr c11
  by_cases c12 : a0.toList = ([99, 111, 109, 109, 105, 116] : List UInt8)
  ·rw [if_pos c12] at H
   have c12b0 : (a0.toList == ([99, 111, 109, 109, 105, 116] : List UInt8)) = true := beq_iff_eq.mpr c12
   have c12b1 : (a0.toList != ([99, 111, 109, 109, 105, 116] : List UInt8)) = false := bne_eq_false_iff_eq.mpr c12
   clear c12
   have H' := Aside0.mk H
   clear H
   go_wp2
   go_meet
   case rel => exact ⟨_, ((a0.toList == ([99, 111, 109, 109, 105, 116] : List UInt8))), Z122, H', ⟨Z128⟩, Z115⟩
  rw [if_neg c12] at H
  have c12b0 : (a0.toList == ([99, 111, 109, 109, 105, 116] : List UInt8)) = false := beq_eq_false_iff_ne.mpr c12
  have c12b1 : (a0.toList != ([99, 111, 109, 109, 105, 116] : List UInt8)) = true := bne_iff_ne.mpr c12
  by_cases c13 : a0.toList = ([99, 111, 117, 110, 116] : List UInt8)
  ·rw [if_pos c13] at H
   have c13b0 : (a0.toList == ([99, 111, 117, 110, 116] : List UInt8)) = true := beq_iff_eq.mpr c13
   have c13b1 : (a0.toList != ([99, 111, 117, 110, 116] : List UInt8)) = false := bne_eq_false_iff_eq.mpr c13
   clear c13
   have H' := Aside0.mk H
   clear H
   go_wp2
   go_meet
   case rel => exact ⟨_, ((a0.toList == ([99, 111, 117, 110, 116] : List UInt8))), Z122, H', ⟨Z128⟩, Z115⟩
  rw [if_neg c13] at H
  have c13b0 : (a0.toList == ([99, 111, 117, 110, 116] : List UInt8)) = false := beq_eq_false_iff_ne.mpr c13
  have c13b1 : (a0.toList != ([99, 111, 117, 110, 116] : List UInt8)) = true := bne_iff_ne.mpr c13
  by_cases c14 : a0.toList = ([99, 114, 101, 97, 116, 101] : List UInt8)
  ·rw [if_pos c14] at H
   have c14b0 : (a0.toList == ([99, 114, 101, 97, 116, 101] : List UInt8)) = true := beq_iff_eq.mpr c14
   have c14b1 : (a0.toList != ([99, 114, 101, 97, 116, 101] : List UInt8)) = false := bne_eq_false_iff_eq.mpr c14
   clear c14
   have H' := Aside0.mk H
   clear H
   go_wp2
   go_meet
   case rel => exact ⟨_, ((a0.toList == ([99, 114, 101, 97, 116, 101] : List UInt8))), Z122, H', ⟨Z128⟩, Z115⟩
  rw [if_neg c14] at H
  have c14b0 : (a0.toList == ([99, 114, 101, 97, 116, 101] : List UInt8)) = false := beq_eq_false_iff_ne.mpr c14
  have c14b1 : (a0.toList != ([99, 114, 101, 97, 116, 101] : List UInt8)) = true := bne_iff_ne.mpr c14
  by_cases c15 : a0.toList = ([100, 101, 108, 101, 116, 101] : List UInt8)
  ·rw [if_pos c15] at H
   have c15b0 : (a0.toList == ([100, 101, 108, 101, 116, 101] : List UInt8)) = true := beq_iff_eq.mpr c15
   have c15b1 : (a0.toList != ([100, 101, 108, 101, 116, 101] : List UInt8)) = false := bne_eq_false_iff_eq.mpr c15
   clear c15
   have H' := Aside0.mk H
   clear H
   go_wp2
   go_meet
   case rel => exact ⟨_, ((a0.toList == ([100, 101, 108, 101, 116, 101] : List UInt8))), Z122, H', ⟨Z128⟩, Z115⟩
  rw [if_neg c15] at H
  have c15b0 : (a0.toList == ([100, 101, 108, 101, 116, 101] : List UInt8)) = false := beq_eq_false_iff_ne.mpr c15
  have c15b1 : (a0.toList != ([100, 101, 108, 101, 116, 101] : List UInt8)) = true := bne_iff_ne.mpr c15
  by_cases c16 : a0.toList = ([100, 101, 115, 99] : List UInt8)
  ·rw [if_pos c16] at H
   have c16b0 : (a0.toList == ([100, 101, 115, 99] : List UInt8)) = true := beq_iff_eq.mpr c16
   have c16b1 : (a0.toList != ([100, 101, 115, 99] : List UInt8)) = false := bne_eq_false_iff_eq.mpr c16
   clear c16
   have H' := Aside0.mk H
   clear H
   go_wp2
   go_meet
   case rel => exact ⟨_, ((a0.toList == ([100, 101, 115, 99] : List UInt8))), Z122, H', ⟨Z128⟩, Z115⟩
  rw [if_neg c16] at H
  have c16b0 : (a0.toList == ([100, 101, 115, 99] : List UInt8)) = false := beq_eq_false_iff_ne.mpr c16
  have c16b1 : (a0.toList != ([100, 101, 115, 99] : List UInt8)) = true := bne_iff_ne.mpr c16
  by_cases c17 : a0.toList = ([100, 105, 115, 116, 105, 110, 99, 116] : List UInt8)
  ·rw [if_pos c17] at H
   have c17b0 : (a0.toList == ([100, 105, 115, 116, 105, 110, 99, 116] : List UInt8)) = true := beq_iff_eq.mpr c17
   have c17b1 : (a0.toList != ([100, 105, 115, 116, 105, 110, 99, 116] : List UInt8)) = false := bne_eq_false_iff_eq.mpr c17
   clear c17
   have H' := Aside0.mk H
   clear H
   go_wp2
   go_meet
   case rel => exact ⟨_, ((a0.toList == ([100, 105, 115, 116, 105, 110, 99, 116] : List UInt8))), Z122, H', ⟨Z128⟩, Z115⟩
  rw [if_neg c17] at H
  have c17b0 : (a0.toList == ([100, 105, 115, 116, 105, 110, 99, 116] : List UInt8)) = false := beq_eq_false_iff_ne.mpr c17
  have c17b1 : (a0.toList != ([100, 105, 115, 116, 105, 110, 99, 116] : List UInt8)) = true := bne_iff_ne.mpr c17
  by_cases c18 : a0.toList = ([100, 114, 111, 112] : List UInt8)
  ·rw [if_pos c18] at H
   have c18b0 : (a0.toList == ([100, 114, 111, 112] : List UInt8)) = true := beq_iff_eq.mpr c18
   have c18b1 : (a0.toList != ([100, 114, 111, 112] : List UInt8)) = false := bne_eq_false_iff_eq.mpr c18
   clear c18
   have H' := Aside0.mk H
   clear H
   go_wp2
   go_meet
   case rel => exact ⟨_, ((a0.toList == ([100, 114, 111, 112] : List UInt8))), Z122, H', ⟨Z128⟩, Z115⟩
  rw [if_neg c18] at H
  have c18b0 : (a0.toList == ([100, 114, 111, 112] : List UInt8)) = false := beq_eq_false_iff_ne.mpr c18
  have c18b1 : (a0.toList != ([100, 114, 111, 112] : List UInt8)) = true := bne_iff_ne.mpr c18
  by_cases c19 : a0.toList = ([102, 97, 108, 115, 101] : List UInt8)
  ·rw [if_pos c19] at H
   have c19b0 : (a0.toList == ([102, 97, 108, 115, 101] : List UInt8)) = true := beq_iff_eq.mpr c19
   have c19b1 : (a0.toList != ([102, 97, 108, 115, 101] : List UInt8)) = false := bne_eq_false_iff_eq.mpr c19
   clear c19
   have H' := Aside0.mk H
   clear H
   go_wp2
   go_meet
   case rel => exact ⟨_, ((a0.toList == ([102, 97, 108, 115, 101] : List UInt8))), Z122, H', ⟨Z128⟩, Z115⟩
  rw [if_neg c19] at H
  have c19b0 : (a0.toList == ([102, 97, 108, 115, 101] : List UInt8)) = false := beq_eq_false_iff_ne.mpr c19
  have c19b1 : (a0.toList != ([102, 97, 108, 115, 101] : List UInt8)) = true := bne_iff_ne.mpr c19
  have H' := Aside0.mk H
  clear H
  go_wp2
  go_meet
  case rel => exact ⟨_, ((a0.toList == ([102, 114, 111, 109] : List UInt8))), Z122, H', ⟨Z128⟩, Z115⟩
 case rest =>
  clear HC2
  try clear c1
  try clear p2
  try clear c3
  try clear c3b0
  try clear c3b1
  try clear c4
  try clear c4b0
  try clear c4b1
  try clear c5
  try clear c5b0
  try clear c5b1
  try clear c6
  try clear c6b0
  try clear c6b1
  try clear c7
  try clear c7b0
  try clear c7b1
  try clear c8
  try clear c8b0
  try clear c8b1
  try clear c9
  try clear c9b0
  try clear c9b1
  try clear c10
  try clear c10b0
  try clear c10b1
  try clear c11
  try clear c11b0
  try clear c11b1
  try clear c12
  try clear c12b0
  try clear c12b1
  try clear c13
  try clear c13b0
  try clear c13b1
  try clear c14
  try clear c14b0
  try clear c14b1
  try clear c15
  try clear c15b0
  try clear c15b1
  try clear c16
  try clear c16b0
  try clear c16b1
  try clear c17
  try clear c17b0
  try clear c17b1
  try clear c18
  try clear c18b0
  try clear c18b1
  try clear c19
  try clear c19b0
  try clear c19b1
  obtain ⟨kq, x4_1, rfl, HA, HJ1, ⟨mc1, rfl⟩⟩ := hcut
  cases kq with
  | zero => exact absurd HA.out (by simp [schema_reserved.j0])
  | succ kj1 =>
   have H := HA.out
   clear HA
   simp only [schema_reserved.j0] at H
   by_cases c20 : x4_1 = true
   ·subst c20
    have H1 : (some true) = some r := by rw [if_pos rfl] at H; exact H
    clear H
    have H := H1
    clear H1
    obtain rfl := Option.some.inj H
    go_wp2
    go_ret
    exact ⟨Z123, Z115⟩
   replace c20 := Bool.eq_false_iff.mpr c20
   subst c20
   have H1 : (if a0.toList = ([103, 114, 111, 117, 112] : List UInt8) then (schema_reserved.j1 kj1 a0 (a0.toList == ([103, 114, 111, 117, 112] : List UInt8))) else (if a0.toList = ([105, 110, 100, 101, 120] : List UInt8) then (schema_reserved.j1 kj1 a0 (a0.toList == ([105, 110, 100, 101, 120] : List UInt8))) else (if a0.toList = ([105, 110, 115, 101, 114, 116] : List UInt8) then (schema_reserved.j1 kj1 a0 (a0.toList == ([105, 110, 115, 101, 114, 116] : List UInt8))) else (if a0.toList = ([105, 110, 116] : List UInt8) then (schema_reserved.j1 kj1 a0 (a0.toList == ([105, 110, 116] : List UInt8))) else (if a0.toList = ([105, 110, 116, 111] : List UInt8) then (schema_reserved.j1 kj1 a0 (a0.toList == ([105, 110, 116, 111] : List UInt8))) else (if a0.toList = ([105, 115] : List UInt8) then (schema_reserved.j1 kj1 a0 (a0.toList == ([105, 115] : List UInt8))) else (if a0.toList = ([106, 111, 105, 110] : List UInt8) then (schema_reserved.j1 kj1 a0 (a0.toList == ([106, 111, 105, 110] : List UInt8))) else (if a0.toList = ([107, 101, 121] : List UInt8) then (schema_reserved.j1 kj1 a0 (a0.toList == ([107, 101, 121] : List UInt8))) else (if a0.toList = ([108, 105, 109, 105, 116] : List UInt8) then (schema_reserved.j1 kj1 a0 (a0.toList == ([108, 105, 109, 105, 116] : List UInt8))) else (if a0.toList = ([109, 97, 120] : List UInt8) then (schema_reserved.j1 kj1 a0 (a0.toList == ([109, 97, 120] : List UInt8))) else (if a0.toList = ([109, 105, 110] : List UInt8) then (schema_reserved.j1 kj1 a0 (a0.toList == ([109, 105, 110] : List UInt8))) else (if a0.toList = ([110, 111, 116] : List UInt8) then (schema_reserved.j1 kj1 a0 (a0.toList == ([110, 111, 116] : List UInt8))) else (if a0.toList = ([110, 117, 108, 108] : List UInt8) then (schema_reserved.j1 kj1 a0 (a0.toList == ([110, 117, 108, 108] : List UInt8))) else (if a0.toList = ([111, 110] : List UInt8) then (schema_reserved.j1 kj1 a0 (a0.toList == ([111, 110] : List UInt8))) else (if a0.toList = ([111, 110, 108, 121] : List UInt8) then (schema_reserved.j1 kj1 a0 (a0.toList == ([111, 110, 108, 121] : List UInt8))) else (if a0.toList = ([111, 114] : List UInt8) then (schema_reserved.j1 kj1 a0 (a0.toList == ([111, 114] : List UInt8))) else (if a0.toList = ([111, 114, 100, 101, 114] : List UInt8) then (schema_reserved.j1 kj1 a0 (a0.toList == ([111, 114, 100, 101, 114] : List UInt8))) else (if a0.toList = ([114, 101, 97, 100] : List UInt8) then (schema_reserved.j1 kj1 a0 (a0.toList == ([114, 101, 97, 100] : List UInt8))) else (if a0.toList = ([114, 101, 108, 101, 97, 115, 101] : List UInt8) then (schema_reserved.j1 kj1 a0 (a0.toList == ([114, 101, 108, 101, 97, 115, 101] : List UInt8))) else (schema_reserved.j1 kj1 a0 (a0.toList == ([114, 111, 108, 108, 98, 97, 99, 107] : List UInt8)))))))))))))))))))))) = some r := by rw [if_neg (show ¬ (false = true) by decide)] at H; exact H
   clear H
   have H := H1
   clear H1
   have HC21 := Aside0.mk H
   clear H
   go_upto_if 23 with (fail)
   go_cut [23] (fun v23 wc => ∃ (kq : Nat) (x23_20 : Bool), v23 = .bool x23_20 ∧ Aside0 (schema_reserved.j1 kq a0 x23_20 = some r) ∧ Aside0 (kq ≤ kj1) ∧ Drawn0 w wc)
   case first =>
    have H := HC21.out
    clear HC21
    by_cases c22 : a0.toList = ([103, 114, 111, 117, 112] : List UInt8)
    ·rw [if_pos c22] at H
     have c22b0 : (a0.toList == ([103, 114, 111, 117, 112] : List UInt8)) = true := beq_iff_eq.mpr c22
     have c22b1 : (a0.toList != ([103, 114, 111, 117, 112] : List UInt8)) = false := bne_eq_false_iff_eq.mpr c22
     clear c22
     (first | rw [c22b0] | (simp only [i64_w, i32_w]; rw [c22b0]) | skip)
     have H' := Aside0.mk H
     clear H
     go_wp2
     go_meet
     case rel => exact ⟨_, ((a0.toList == ([103, 114, 111, 117, 112] : List UInt8))), Z122, H', ⟨Z117⟩, Z115⟩
    rw [if_neg c22] at H
    have c22b0 : (a0.toList == ([103, 114, 111, 117, 112] : List UInt8)) = false := beq_eq_false_iff_ne.mpr c22
    have c22b1 : (a0.toList != ([103, 114, 111, 117, 112] : List UInt8)) = true := bne_iff_ne.mpr c22
    (first | rw [c22b0] | (simp only [i64_w, i32_w]; rw [c22b0]) | skip)
    by_cases c23 : a0.toList = ([105, 110, 100, 101, 120] : List UInt8)
    ·rw [if_pos c23] at H
     have c23b0 : (a0.toList == ([105, 110, 100, 101, 120] : List UInt8)) = true := beq_iff_eq.mpr c23
     have c23b1 : (a0.toList != ([105, 110, 100, 101, 120] : List UInt8)) = false := bne_eq_false_iff_eq.mpr c23
     clear c23
     have H' := Aside0.mk H
     clear H
     go_wp2
     go_meet
     case rel => exact ⟨_, ((a0.toList == ([105, 110, 100, 101, 120] : List UInt8))), Z122, H', ⟨Z117⟩, Z115⟩
    rw [if_neg c23] at H
    have c23b0 : (a0.toList == ([105, 110, 100, 101, 120] : List UInt8)) = false := beq_eq_false_iff_ne.mpr c23
    have c23b1 : (a0.toList != ([105, 110, 100, 101, 120] : List UInt8)) = true := bne_iff_ne.mpr c23
    by_cases c24 : a0.toList = ([105, 110, 115, 101, 114, 116] : List UInt8)
    ·rw [if_pos c24] at H
     have c24b0 : (a0.toList == ([105, 110, 115, 101, 114, 116] : List UInt8)) = true := beq_iff_eq.mpr c24
     have c24b1 : (a0.toList != ([105, 110, 115, 101, 114, 116] : List UInt8)) = false := bne_eq_false_iff_eq.mpr c24
     clear c24
     have H' := Aside0.mk H
     clear H
     go_wp2
     go_meet
     case rel => exact ⟨_, ((a0.toList == ([105, 110, 115, 101, 114, 116] : List UInt8))), Z122, H', ⟨Z117⟩, Z115⟩
    rw [if_neg c24] at H
    have c24b0 : (a0.toList == ([105, 110, 115, 101, 114, 116] : List UInt8)) = false := beq_eq_false_iff_ne.mpr c24
    have c24b1 : (a0.toList != ([105, 110, 115, 101, 114, 116] : List UInt8)) = true := bne_iff_ne.mpr c24
    by_cases c25 : a0.toList = ([105, 110, 116] : List UInt8)
    ·rw [if_pos c25] at H
     have c25b0 : (a0.toList == ([105, 110, 116] : List UInt8)) = true := beq_iff_eq.mpr c25
     have c25b1 : (a0.toList != ([105, 110, 116] : List UInt8)) = false := bne_eq_false_iff_eq.mpr c25
     clear c25
     have H' := Aside0.mk H
     clear H
     go_wp2
     go_meet
     case rel => exact ⟨_, ((a0.toList == ([105, 110, 116] : List UInt8))), Z122, H', ⟨Z117⟩, Z115⟩
    rw [if_neg c25] at H
    have c25b0 : (a0.toList == ([105, 110, 116] : List UInt8)) = false := beq_eq_false_iff_ne.mpr c25
    have c25b1 : (a0.toList != ([105, 110, 116] : List UInt8)) = true := bne_iff_ne.mpr c25
    by_cases c26 : a0.toList = ([105, 110, 116, 111] : List UInt8)
    ·rw [if_pos c26] at H
     have c26b0 : (a0.toList == ([105, 110, 116, 111] : List UInt8)) = true := beq_iff_eq.mpr c26
     have c26b1 : (a0.toList != ([105, 110, 116, 111] : List UInt8)) = false := bne_eq_false_iff_eq.mpr c26
     clear c26
     have H' := Aside0.mk H
     clear H
     go_wp2
     go_meet
     case rel => exact ⟨_, ((a0.toList == ([105, 110, 116, 111] : List UInt8))), Z122, H', ⟨Z117⟩, Z115⟩
    rw [if_neg c26] at H
    have c26b0 : (a0.toList == ([105, 110, 116, 111] : List UInt8)) = false := beq_eq_false_iff_ne.mpr c26
    have c26b1 : (a0.toList != ([105, 110, 116, 111] : List UInt8)) = true := bne_iff_ne.mpr c26
    by_cases c27 : a0.toList = ([105, 115] : List UInt8)
    ·rw [if_pos c27] at H
     have c27b0 : (a0.toList == ([105, 115] : List UInt8)) = true := beq_iff_eq.mpr c27
     have c27b1 : (a0.toList != ([105, 115] : List UInt8)) = false := bne_eq_false_iff_eq.mpr c27
     clear c27
     have H' := Aside0.mk H
     clear H
     go_wp2
     go_meet
     case rel => exact ⟨_, ((a0.toList == ([105, 115] : List UInt8))), Z122, H', ⟨Z117⟩, Z115⟩
    rw [if_neg c27] at H
    have c27b0 : (a0.toList == ([105, 115] : List UInt8)) = false := beq_eq_false_iff_ne.mpr c27
    have c27b1 : (a0.toList != ([105, 115] : List UInt8)) = true := bne_iff_ne.mpr c27
    by_cases c28 : a0.toList = ([106, 111, 105, 110] : List UInt8)
    ·rw [if_pos c28] at H
     have c28b0 : (a0.toList == ([106, 111, 105, 110] : List UInt8)) = true := beq_iff_eq.mpr c28
     have c28b1 : (a0.toList != ([106, 111, 105, 110] : List UInt8)) = false := bne_eq_false_iff_eq.mpr c28
     clear c28
     have H' := Aside0.mk H
     clear H
     go_wp2
     go_meet
     case rel => exact ⟨_, ((a0.toList == ([106, 111, 105, 110] : List UInt8))), Z122, H', ⟨Z117⟩, Z115⟩
    rw [if_neg c28] at H
    have c28b0 : (a0.toList == ([106, 111, 105, 110] : List UInt8)) = false := beq_eq_false_iff_ne.mpr c28
    have c28b1 : (a0.toList != ([106, 111, 105, 110] : List UInt8)) = true := bne_iff_ne.mpr c28
    by_cases c29 : a0.toList = ([107, 101, 121] : List UInt8)
    ·rw [if_pos c29] at H
     have c29b0 : (a0.toList == ([107, 101, 121] : List UInt8)) = true := beq_iff_eq.mpr c29
     have c29b1 : (a0.toList != ([107, 101, 121] : List UInt8)) = false := bne_eq_false_iff_eq.mpr c29
     clear c29
     have H' := Aside0.mk H
     clear H
     go_wp2
     go_meet
     case rel => exact ⟨_, ((a0.toList == ([107, 101, 121] : List UInt8))), Z122, H', ⟨Z117⟩, Z115⟩
    rw [if_neg c29] at H
    have c29b0 : (a0.toList == ([107, 101, 121] : List UInt8)) = false := beq_eq_false_iff_ne.mpr c29
    have c29b1 : (a0.toList != ([107, 101, 121] : List UInt8)) = true := bne_iff_ne.mpr c29
    by_cases c30 : a0.toList = ([108, 105, 109, 105, 116] : List UInt8)
    ·rw [if_pos c30] at H
     have c30b0 : (a0.toList == ([108, 105, 109, 105, 116] : List UInt8)) = true := beq_iff_eq.mpr c30
     have c30b1 : (a0.toList != ([108, 105, 109, 105, 116] : List UInt8)) = false := bne_eq_false_iff_eq.mpr c30
     clear c30
     have H' := Aside0.mk H
     clear H
     go_wp2
     go_meet
     case rel => exact ⟨_, ((a0.toList == ([108, 105, 109, 105, 116] : List UInt8))), Z122, H', ⟨Z117⟩, Z115⟩
    rw [if_neg c30] at H
    have c30b0 : (a0.toList == ([108, 105, 109, 105, 116] : List UInt8)) = false := beq_eq_false_iff_ne.mpr c30
    have c30b1 : (a0.toList != ([108, 105, 109, 105, 116] : List UInt8)) = true := bne_iff_ne.mpr c30
    by_cases c31 : a0.toList = ([109, 97, 120] : List UInt8)
    ·rw [if_pos c31] at H
     have c31b0 : (a0.toList == ([109, 97, 120] : List UInt8)) = true := beq_iff_eq.mpr c31
     have c31b1 : (a0.toList != ([109, 97, 120] : List UInt8)) = false := bne_eq_false_iff_eq.mpr c31
     clear c31
     have H' := Aside0.mk H
     clear H
     go_wp2
     go_meet
     case rel => exact ⟨_, ((a0.toList == ([109, 97, 120] : List UInt8))), Z122, H', ⟨Z117⟩, Z115⟩
    rw [if_neg c31] at H
    have c31b0 : (a0.toList == ([109, 97, 120] : List UInt8)) = false := beq_eq_false_iff_ne.mpr c31
    have c31b1 : (a0.toList != ([109, 97, 120] : List UInt8)) = true := bne_iff_ne.mpr c31
    by_cases c32 : a0.toList = ([109, 105, 110] : List UInt8)
    ·rw [if_pos c32] at H
     have c32b0 : (a0.toList == ([109, 105, 110] : List UInt8)) = true := beq_iff_eq.mpr c32
     have c32b1 : (a0.toList != ([109, 105, 110] : List UInt8)) = false := bne_eq_false_iff_eq.mpr c32
     clear c32
     have H' := Aside0.mk H
     clear H
     go_wp2
     go_meet
     case rel => exact ⟨_, ((a0.toList == ([109, 105, 110] : List UInt8))), Z122, H', ⟨Z117⟩, Z115⟩
    rw [if_neg c32] at H
    have c32b0 : (a0.toList == ([109, 105, 110] : List UInt8)) = false := beq_eq_false_iff_ne.mpr c32
    have c32b1 : (a0.toList != ([109, 105, 110] : List UInt8)) = true := bne_iff_ne.mpr c32
    by_cases c33 : a0.toList = ([110, 111, 116] : List UInt8)
    ·rw [if_pos c33] at H
     have c33b0 : (a0.toList == ([110, 111, 116] : List UInt8)) = true := beq_iff_eq.mpr c33
     have c33b1 : (a0.toList != ([110, 111, 116] : List UInt8)) = false := bne_eq_false_iff_eq.mpr c33
     clear c33
     have H' := Aside0.mk H
     clear H
     go_wp2
     go_meet
     case rel => exact ⟨_, ((a0.toList == ([110, 111, 116] : List UInt8))), Z122, H', ⟨Z117⟩, Z115⟩
    rw [if_neg c33] at H
    have c33b0 : (a0.toList == ([110, 111, 116] : List UInt8)) = false := beq_eq_false_iff_ne.mpr c33
    have c33b1 : (a0.toList != ([110, 111, 116] : List UInt8)) = true := bne_iff_ne.mpr c33
    by_cases c34 : a0.toList = ([110, 117, 108, 108] : List UInt8)
    ·rw [if_pos c34] at H
     have c34b0 : (a0.toList == ([110, 117, 108, 108] : List UInt8)) = true := beq_iff_eq.mpr c34
     have c34b1 : (a0.toList != ([110, 117, 108, 108] : List UInt8)) = false := bne_eq_false_iff_eq.mpr c34
     clear c34
     have H' := Aside0.mk H
     clear H
     go_wp2
     go_meet
     case rel => exact ⟨_, ((a0.toList == ([110, 117, 108, 108] : List UInt8))), Z122, H', ⟨Z117⟩, Z115⟩
    rw [if_neg c34] at H
    have c34b0 : (a0.toList == ([110, 117, 108, 108] : List UInt8)) = false := beq_eq_false_iff_ne.mpr c34
    have c34b1 : (a0.toList != ([110, 117, 108, 108] : List UInt8)) = true := bne_iff_ne.mpr c34
    by_cases c35 : a0.toList = ([111, 110] : List UInt8)
    ·rw [if_pos c35] at H
     have c35b0 : (a0.toList == ([111, 110] : List UInt8)) = true := beq_iff_eq.mpr c35
     have c35b1 : (a0.toList != ([111, 110] : List UInt8)) = false := bne_eq_false_iff_eq.mpr c35
     clear c35
     have H' := Aside0.mk H
     clear H
     go_wp2
     go_meet
     case rel => exact ⟨_, ((a0.toList == ([111, 110] : List UInt8))), Z122, H', ⟨Z117⟩, Z115⟩
    rw [if_neg c35] at H
    have c35b0 : (a0.toList == ([111, 110] : List UInt8)) = false := beq_eq_false_iff_ne.mpr c35
    have c35b1 : (a0.toList != ([111, 110] : List UInt8)) = true := bne_iff_ne.mpr c35
    by_cases c36 : a0.toList = ([111, 110, 108, 121] : List UInt8)
    ·rw [if_pos c36] at H
     have c36b0 : (a0.toList == ([111, 110, 108, 121] : List UInt8)) = true := beq_iff_eq.mpr c36
     have c36b1 : (a0.toList != ([111, 110, 108, 121] : List UInt8)) = false := bne_eq_false_iff_eq.mpr c36
     clear c36
     have H' := Aside0.mk H
     clear H
     go_wp2
     go_meet
     case rel => exact ⟨_, ((a0.toList == ([111, 110, 108, 121] : List UInt8))), Z122, H', ⟨Z117⟩, Z115⟩
    rw [if_neg c36] at H
    have c36b0 : (a0.toList == ([111, 110, 108, 121] : List UInt8)) = false := beq_eq_false_iff_ne.mpr c36
    have c36b1 : (a0.toList != ([111, 110, 108, 121] : List UInt8)) = true := bne_iff_ne.mpr c36
    by_cases c37 : a0.toList = ([111, 114] : List UInt8)
    ·rw [if_pos c37] at H
     have c37b0 : (a0.toList == ([111, 114] : List UInt8)) = true := beq_iff_eq.mpr c37
     have c37b1 : (a0.toList != ([111, 114] : List UInt8)) = false := bne_eq_false_iff_eq.mpr c37
     clear c37
     have H' := Aside0.mk H
     clear H
     go_wp2
     go_meet
     case rel => exact ⟨_, ((a0.toList == ([111, 114] : List UInt8))), Z122, H', ⟨Z117⟩, Z115⟩
    rw [if_neg c37] at H
    have c37b0 : (a0.toList == ([111, 114] : List UInt8)) = false := beq_eq_false_iff_ne.mpr c37
    have c37b1 : (a0.toList != ([111, 114] : List UInt8)) = true := bne_iff_ne.mpr c37
    by_cases c38 : a0.toList = ([111, 114, 100, 101, 114] : List UInt8)
    ·rw [if_pos c38] at H
     have c38b0 : (a0.toList == ([111, 114, 100, 101, 114] : List UInt8)) = true := beq_iff_eq.mpr c38
     have c38b1 : (a0.toList != ([111, 114, 100, 101, 114] : List UInt8)) = false := bne_eq_false_iff_eq.mpr c38
     clear c38
     have H' := Aside0.mk H
     clear H
     go_wp2
     go_meet
     case rel => exact ⟨_, ((a0.toList == ([111, 114, 100, 101, 114] : List UInt8))), Z122, H', ⟨Z117⟩, Z115⟩
    rw [if_neg c38] at H
    have c38b0 : (a0.toList == ([111, 114, 100, 101, 114] : List UInt8)) = false := beq_eq_false_iff_ne.mpr c38
    have c38b1 : (a0.toList != ([111, 114, 100, 101, 114] : List UInt8)) = true := bne_iff_ne.mpr c38
    by_cases c39 : a0.toList = ([114, 101, 97, 100] : List UInt8)
    ·rw [if_pos c39] at H
     have c39b0 : (a0.toList == ([114, 101, 97, 100] : List UInt8)) = true := beq_iff_eq.mpr c39
     have c39b1 : (a0.toList != ([114, 101, 97, 100] : List UInt8)) = false := bne_eq_false_iff_eq.mpr c39
     clear c39
     have H' := Aside0.mk H
     clear H
     go_wp2
     go_meet
     case rel => exact ⟨_, ((a0.toList == ([114, 101, 97, 100] : List UInt8))), Z122, H', ⟨Z117⟩, Z115⟩
    rw [if_neg c39] at H
    have c39b0 : (a0.toList == ([114, 101, 97, 100] : List UInt8)) = false := beq_eq_false_iff_ne.mpr c39
    have c39b1 : (a0.toList != ([114, 101, 97, 100] : List UInt8)) = true := bne_iff_ne.mpr c39
    by_cases c40 : a0.toList = ([114, 101, 108, 101, 97, 115, 101] : List UInt8)
    ·rw [if_pos c40] at H
     have c40b0 : (a0.toList == ([114, 101, 108, 101, 97, 115, 101] : List UInt8)) = true := beq_iff_eq.mpr c40
     have c40b1 : (a0.toList != ([114, 101, 108, 101, 97, 115, 101] : List UInt8)) = false := bne_eq_false_iff_eq.mpr c40
     clear c40
     have H' := Aside0.mk H
     clear H
     go_wp2
     go_meet
     case rel => exact ⟨_, ((a0.toList == ([114, 101, 108, 101, 97, 115, 101] : List UInt8))), Z122, H', ⟨Z117⟩, Z115⟩
    rw [if_neg c40] at H
    have c40b0 : (a0.toList == ([114, 101, 108, 101, 97, 115, 101] : List UInt8)) = false := beq_eq_false_iff_ne.mpr c40
    have c40b1 : (a0.toList != ([114, 101, 108, 101, 97, 115, 101] : List UInt8)) = true := bne_iff_ne.mpr c40
    have H' := Aside0.mk H
    clear H
    go_wp2
    go_meet
    case rel => exact ⟨_, ((a0.toList == ([114, 111, 108, 108, 98, 97, 99, 107] : List UInt8))), Z122, H', ⟨Z117⟩, Z115⟩
   case rest =>
    clear HC21
    try clear c1
    try clear c2
    try clear p2
    try clear c3
    try clear c3b0
    try clear c3b1
    try clear c4
    try clear c4b0
    try clear c4b1
    try clear c5
    try clear c5b0
    try clear c5b1
    try clear c6
    try clear c6b0
    try clear c6b1
    try clear c7
    try clear c7b0
    try clear c7b1
    try clear c8
    try clear c8b0
    try clear c8b1
    try clear c9
    try clear c9b0
    try clear c9b1
    try clear c10
    try clear c10b0
    try clear c10b1
    try clear c11
    try clear c11b0
    try clear c11b1
    try clear c12
    try clear c12b0
    try clear c12b1
    try clear c13
    try clear c13b0
    try clear c13b1
    try clear c14
    try clear c14b0
    try clear c14b1
    try clear c15
    try clear c15b0
    try clear c15b1
    try clear c16
    try clear c16b0
    try clear c16b1
    try clear c17
    try clear c17b0
    try clear c17b1
    try clear c18
    try clear c18b0
    try clear c18b1
    try clear c19
    try clear c19b0
    try clear c19b1
    try clear c20
    try clear c22
    try clear c22b0
    try clear c22b1
    try clear c23
    try clear c23b0
    try clear c23b1
    try clear c24
    try clear c24b0
    try clear c24b1
    try clear c25
    try clear c25b0
    try clear c25b1
    try clear c26
    try clear c26b0
    try clear c26b1
    try clear c27
    try clear c27b0
    try clear c27b1
    try clear c28
    try clear c28b0
    try clear c28b1
    try clear c29
    try clear c29b0
    try clear c29b1
    try clear c30
    try clear c30b0
    try clear c30b1
    try clear c31
    try clear c31b0
    try clear c31b1
    try clear c32
    try clear c32b0
    try clear c32b1
    try clear c33
    try clear c33b0
    try clear c33b1
    try clear c34
    try clear c34b0
    try clear c34b1
    try clear c35
    try clear c35b0
    try clear c35b1
    try clear c36
    try clear c36b0
    try clear c36b1
    try clear c37
    try clear c37b0
    try clear c37b1
    try clear c38
    try clear c38b0
    try clear c38b1
    try clear c39
    try clear c39b0
    try clear c39b1
    try clear c40
    try clear c40b0
    try clear c40b1
    try clear p2
    obtain ⟨kq, x23_20, rfl, HA, HJ20, ⟨mc20, rfl⟩⟩ := hcut
    cases kq with
    | zero => exact absurd HA.out (by simp [schema_reserved.j1])
    | succ kj20 =>
     have H := HA.out
     clear HA
     simp only [schema_reserved.j1] at H
     by_cases c41 : x23_20 = true
     ·subst c41
      have H1 : (some true) = some r := by rw [if_pos rfl] at H; exact H
      clear H
      have H := H1
      clear H1
      obtain rfl := Option.some.inj H
      go_wp2
      go_ret
      exact ⟨Z123, Z115⟩
     replace c41 := Bool.eq_false_iff.mpr c41
     subst c41
     have H1 : (if a0.toList = ([115, 97, 118, 101, 112, 111, 105, 110, 116] : List UInt8) then (some true) else (if a0.toList = ([115, 101, 108, 101, 99, 116] : List UInt8) then (some true) else (if a0.toList = ([115, 101, 114, 105, 97, 108, 105, 122, 97, 98, 108, 101] : List UInt8) then (some true) else (if a0.toList = ([115, 101, 116] : List UInt8) then (some true) else (if a0.toList = ([115, 117, 109] : List UInt8) then (some true) else (if a0.toList = ([116, 97, 98, 108, 101] : List UInt8) then (some true) else (if a0.toList = ([116, 101, 120, 116] : List UInt8) then (some true) else (if a0.toList = ([116, 111] : List UInt8) then (some true) else (if a0.toList = ([116, 114, 117, 101] : List UInt8) then (some true) else (if a0.toList = ([117, 110, 105, 113, 117, 101] : List UInt8) then (some true) else (if a0.toList = ([117, 112, 100, 97, 116, 101] : List UInt8) then (some true) else (if a0.toList = ([118, 97, 108, 117, 101, 115] : List UInt8) then (some true) else (if a0.toList = ([119, 104, 101, 114, 101] : List UInt8) then (some true) else (some false)))))))))))))) = some r := by rw [if_neg (show ¬ (false = true) by decide)] at H; exact H
     clear H
     have H := H1
     clear H1
     by_cases c42 : a0.toList = ([115, 97, 118, 101, 112, 111, 105, 110, 116] : List UInt8)
     ·rw [if_pos c42] at H
      have c42b0 : (a0.toList == ([115, 97, 118, 101, 112, 111, 105, 110, 116] : List UInt8)) = true := beq_iff_eq.mpr c42
      have c42b1 : (a0.toList != ([115, 97, 118, 101, 112, 111, 105, 110, 116] : List UInt8)) = false := bne_eq_false_iff_eq.mpr c42
      clear c42
      obtain rfl := Option.some.inj H
      go_wp2
      go_ret
      exact ⟨Z123, Z115⟩
     rw [if_neg c42] at H
     have c42b0 : (a0.toList == ([115, 97, 118, 101, 112, 111, 105, 110, 116] : List UInt8)) = false := beq_eq_false_iff_ne.mpr c42
     have c42b1 : (a0.toList != ([115, 97, 118, 101, 112, 111, 105, 110, 116] : List UInt8)) = true := bne_iff_ne.mpr c42
     by_cases c43 : a0.toList = ([115, 101, 108, 101, 99, 116] : List UInt8)
     ·rw [if_pos c43] at H
      have c43b0 : (a0.toList == ([115, 101, 108, 101, 99, 116] : List UInt8)) = true := beq_iff_eq.mpr c43
      have c43b1 : (a0.toList != ([115, 101, 108, 101, 99, 116] : List UInt8)) = false := bne_eq_false_iff_eq.mpr c43
      clear c43
      obtain rfl := Option.some.inj H
      go_wp2
      go_ret
      exact ⟨Z123, Z115⟩
     rw [if_neg c43] at H
     have c43b0 : (a0.toList == ([115, 101, 108, 101, 99, 116] : List UInt8)) = false := beq_eq_false_iff_ne.mpr c43
     have c43b1 : (a0.toList != ([115, 101, 108, 101, 99, 116] : List UInt8)) = true := bne_iff_ne.mpr c43
     by_cases c44 : a0.toList = ([115, 101, 114, 105, 97, 108, 105, 122, 97, 98, 108, 101] : List UInt8)
     ·rw [if_pos c44] at H
      have c44b0 : (a0.toList == ([115, 101, 114, 105, 97, 108, 105, 122, 97, 98, 108, 101] : List UInt8)) = true := beq_iff_eq.mpr c44
      have c44b1 : (a0.toList != ([115, 101, 114, 105, 97, 108, 105, 122, 97, 98, 108, 101] : List UInt8)) = false := bne_eq_false_iff_eq.mpr c44
      clear c44
      obtain rfl := Option.some.inj H
      go_wp2
      go_ret
      exact ⟨Z123, Z115⟩
     rw [if_neg c44] at H
     have c44b0 : (a0.toList == ([115, 101, 114, 105, 97, 108, 105, 122, 97, 98, 108, 101] : List UInt8)) = false := beq_eq_false_iff_ne.mpr c44
     have c44b1 : (a0.toList != ([115, 101, 114, 105, 97, 108, 105, 122, 97, 98, 108, 101] : List UInt8)) = true := bne_iff_ne.mpr c44
     by_cases c45 : a0.toList = ([115, 101, 116] : List UInt8)
     ·rw [if_pos c45] at H
      have c45b0 : (a0.toList == ([115, 101, 116] : List UInt8)) = true := beq_iff_eq.mpr c45
      have c45b1 : (a0.toList != ([115, 101, 116] : List UInt8)) = false := bne_eq_false_iff_eq.mpr c45
      clear c45
      obtain rfl := Option.some.inj H
      go_wp2
      go_ret
      exact ⟨Z123, Z115⟩
     rw [if_neg c45] at H
     have c45b0 : (a0.toList == ([115, 101, 116] : List UInt8)) = false := beq_eq_false_iff_ne.mpr c45
     have c45b1 : (a0.toList != ([115, 101, 116] : List UInt8)) = true := bne_iff_ne.mpr c45
     by_cases c46 : a0.toList = ([115, 117, 109] : List UInt8)
     ·rw [if_pos c46] at H
      have c46b0 : (a0.toList == ([115, 117, 109] : List UInt8)) = true := beq_iff_eq.mpr c46
      have c46b1 : (a0.toList != ([115, 117, 109] : List UInt8)) = false := bne_eq_false_iff_eq.mpr c46
      clear c46
      obtain rfl := Option.some.inj H
      go_wp2
      go_ret
      exact ⟨Z123, Z115⟩
     rw [if_neg c46] at H
     have c46b0 : (a0.toList == ([115, 117, 109] : List UInt8)) = false := beq_eq_false_iff_ne.mpr c46
     have c46b1 : (a0.toList != ([115, 117, 109] : List UInt8)) = true := bne_iff_ne.mpr c46
     by_cases c47 : a0.toList = ([116, 97, 98, 108, 101] : List UInt8)
     ·rw [if_pos c47] at H
      have c47b0 : (a0.toList == ([116, 97, 98, 108, 101] : List UInt8)) = true := beq_iff_eq.mpr c47
      have c47b1 : (a0.toList != ([116, 97, 98, 108, 101] : List UInt8)) = false := bne_eq_false_iff_eq.mpr c47
      clear c47
      obtain rfl := Option.some.inj H
      go_wp2
      go_ret
      exact ⟨Z123, Z115⟩
     rw [if_neg c47] at H
     have c47b0 : (a0.toList == ([116, 97, 98, 108, 101] : List UInt8)) = false := beq_eq_false_iff_ne.mpr c47
     have c47b1 : (a0.toList != ([116, 97, 98, 108, 101] : List UInt8)) = true := bne_iff_ne.mpr c47
     by_cases c48 : a0.toList = ([116, 101, 120, 116] : List UInt8)
     ·rw [if_pos c48] at H
      have c48b0 : (a0.toList == ([116, 101, 120, 116] : List UInt8)) = true := beq_iff_eq.mpr c48
      have c48b1 : (a0.toList != ([116, 101, 120, 116] : List UInt8)) = false := bne_eq_false_iff_eq.mpr c48
      clear c48
      obtain rfl := Option.some.inj H
      go_wp2
      go_ret
      exact ⟨Z123, Z115⟩
     rw [if_neg c48] at H
     have c48b0 : (a0.toList == ([116, 101, 120, 116] : List UInt8)) = false := beq_eq_false_iff_ne.mpr c48
     have c48b1 : (a0.toList != ([116, 101, 120, 116] : List UInt8)) = true := bne_iff_ne.mpr c48
     by_cases c49 : a0.toList = ([116, 111] : List UInt8)
     ·rw [if_pos c49] at H
      have c49b0 : (a0.toList == ([116, 111] : List UInt8)) = true := beq_iff_eq.mpr c49
      have c49b1 : (a0.toList != ([116, 111] : List UInt8)) = false := bne_eq_false_iff_eq.mpr c49
      clear c49
      obtain rfl := Option.some.inj H
      go_wp2
      go_ret
      exact ⟨Z123, Z115⟩
     rw [if_neg c49] at H
     have c49b0 : (a0.toList == ([116, 111] : List UInt8)) = false := beq_eq_false_iff_ne.mpr c49
     have c49b1 : (a0.toList != ([116, 111] : List UInt8)) = true := bne_iff_ne.mpr c49
     by_cases c50 : a0.toList = ([116, 114, 117, 101] : List UInt8)
     ·rw [if_pos c50] at H
      have c50b0 : (a0.toList == ([116, 114, 117, 101] : List UInt8)) = true := beq_iff_eq.mpr c50
      have c50b1 : (a0.toList != ([116, 114, 117, 101] : List UInt8)) = false := bne_eq_false_iff_eq.mpr c50
      clear c50
      obtain rfl := Option.some.inj H
      go_wp2
      go_ret
      exact ⟨Z123, Z115⟩
     rw [if_neg c50] at H
     have c50b0 : (a0.toList == ([116, 114, 117, 101] : List UInt8)) = false := beq_eq_false_iff_ne.mpr c50
     have c50b1 : (a0.toList != ([116, 114, 117, 101] : List UInt8)) = true := bne_iff_ne.mpr c50
     by_cases c51 : a0.toList = ([117, 110, 105, 113, 117, 101] : List UInt8)
     ·rw [if_pos c51] at H
      have c51b0 : (a0.toList == ([117, 110, 105, 113, 117, 101] : List UInt8)) = true := beq_iff_eq.mpr c51
      have c51b1 : (a0.toList != ([117, 110, 105, 113, 117, 101] : List UInt8)) = false := bne_eq_false_iff_eq.mpr c51
      clear c51
      obtain rfl := Option.some.inj H
      go_wp2
      go_ret
      exact ⟨Z123, Z115⟩
     rw [if_neg c51] at H
     have c51b0 : (a0.toList == ([117, 110, 105, 113, 117, 101] : List UInt8)) = false := beq_eq_false_iff_ne.mpr c51
     have c51b1 : (a0.toList != ([117, 110, 105, 113, 117, 101] : List UInt8)) = true := bne_iff_ne.mpr c51
     by_cases c52 : a0.toList = ([117, 112, 100, 97, 116, 101] : List UInt8)
     ·rw [if_pos c52] at H
      have c52b0 : (a0.toList == ([117, 112, 100, 97, 116, 101] : List UInt8)) = true := beq_iff_eq.mpr c52
      have c52b1 : (a0.toList != ([117, 112, 100, 97, 116, 101] : List UInt8)) = false := bne_eq_false_iff_eq.mpr c52
      clear c52
      obtain rfl := Option.some.inj H
      go_wp2
      go_ret
      exact ⟨Z123, Z115⟩
     rw [if_neg c52] at H
     have c52b0 : (a0.toList == ([117, 112, 100, 97, 116, 101] : List UInt8)) = false := beq_eq_false_iff_ne.mpr c52
     have c52b1 : (a0.toList != ([117, 112, 100, 97, 116, 101] : List UInt8)) = true := bne_iff_ne.mpr c52
     by_cases c53 : a0.toList = ([118, 97, 108, 117, 101, 115] : List UInt8)
     ·rw [if_pos c53] at H
      have c53b0 : (a0.toList == ([118, 97, 108, 117, 101, 115] : List UInt8)) = true := beq_iff_eq.mpr c53
      have c53b1 : (a0.toList != ([118, 97, 108, 117, 101, 115] : List UInt8)) = false := bne_eq_false_iff_eq.mpr c53
      clear c53
      obtain rfl := Option.some.inj H
      go_wp2
      go_ret
      exact ⟨Z123, Z115⟩
     rw [if_neg c53] at H
     have c53b0 : (a0.toList == ([118, 97, 108, 117, 101, 115] : List UInt8)) = false := beq_eq_false_iff_ne.mpr c53
     have c53b1 : (a0.toList != ([118, 97, 108, 117, 101, 115] : List UInt8)) = true := bne_iff_ne.mpr c53
     by_cases c54 : a0.toList = ([119, 104, 101, 114, 101] : List UInt8)
     ·rw [if_pos c54] at H
      have c54b0 : (a0.toList == ([119, 104, 101, 114, 101] : List UInt8)) = true := beq_iff_eq.mpr c54
      have c54b1 : (a0.toList != ([119, 104, 101, 114, 101] : List UInt8)) = false := bne_eq_false_iff_eq.mpr c54
      clear c54
      obtain rfl := Option.some.inj H
      go_wp2
      go_ret
      exact ⟨Z123, Z115⟩
     rw [if_neg c54] at H
     have c54b0 : (a0.toList == ([119, 104, 101, 114, 101] : List UInt8)) = false := beq_eq_false_iff_ne.mpr c54
     have c54b1 : (a0.toList != ([119, 104, 101, 114, 101] : List UInt8)) = true := bne_iff_ne.mpr c54
     obtain rfl := Option.some.inj H
     go_wp2
     go_ret
     exact ⟨Z123, Z115⟩

end Go.Proofs.Ytkopbaikmlajmaa.Q
