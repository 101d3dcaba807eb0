import Derived.Test.YtkopbaikmlajmaaZ
import Derived.Test.YtkopbaikmlajmaaHA
namespace Go.Proofs.Ytkopbaikmlajmaa.Q
open Go.RowKit Go.Proofs.YtkopbaikmlajmaaW.PrintWords Go.Proofs.YtkopbaikmlajmaaW.PrintLast Go.Proofs.YtkopbaikmlajmaaW.PrintMore
set_option linter.unusedVariables false
set_option linter.unusedSimpArgs false
theorem c119 (v : Int) (w : World) : Calls Try.prog 119 #[.int .u8 v] w fun e w' => e = .returned (.bool (v != 0)) ∧ w = w' := by
 go_enter Try.func119, Try.ntmps119
 go_wp2
 go_ret
 exact ⟨rfl, rfl⟩
set_option maxHeartbeats 400000 in
set_option maxRecDepth 100000 in
theorem c141 (A : Option Addr) (n c : Nat) (l : List Int) (w : World) (hl1 : Kd.C (Kd.int .u8) w A n l) :
  Calls Try.prog 141 #[.slice A n c, .func (.func 119) #[] #[]] w fun e w' => e = .returned (.int .i64 (ixOf (fun x => x != 0) l)) ∧ w' = w := by
 have hn : l.length = n := hl1.1
 have hm : n ≤ 9223372036854775807 := hl1.2.1
 have HL := Aside0.mk hl1
 have HN := Aside0.mk hn
 clear hl1 hn
 go_enter Try.func141, Try.ntmps141
 go_wp2_with fail
 go_loop [8] (fun v => ∃ k : Nat, k ≤ n ∧ v = .int .i64 k ∧ Aside0 (∀ j, j < k → (fun x : Int => x != 0) (l.getD j 0) = false)) (fun v => n - (intOf v).toNat)
 case atStart => exact ⟨0, Nat.zero_le _, rfl, ⟨fun j hj => by omega⟩⟩
 case round =>
  obtain ⟨k, hk, rfl, HA⟩ := hrel
  by_cases hlt : k < n
  rotate_left
  ·obtain rfl : k = n := by omega
   go_wp2_with fail
   go_ret
   exact ⟨by rw [ixOf_none (fun x : Int => x != 0) l 0 (fun j hj => HA.out j Z133)]; rfl, rfl⟩
  obtain ⟨ad, rfl, hc0⟩ := Kd.at_int HL.out (k : Int) (by omega) (by omega)
  simp only [Int.toNat_natCast] at hc0
  have hr : rd l (k : Int) = l.getD k 0 := by unfold rd; rw [Int.toNat_natCast]
  cases hq : (rd l (k : Int) != 0) with
  | true =>
   have HQ := Aside0.mk hq
   have HR := Aside0.mk hr
   clear hq hr
   go_wp2_with (go_at_call 119; refine (c119 (rd l k) _).mono ?_; rw [HQ.out]; rintro e w' ⟨rfl, rfl⟩)
   go_ret
   exact ⟨by rw [ixOf_hit (fun x : Int => x != 0) l k 0 Z133 HA.out (by rw [← HR.out]; exact HQ.out)]; rfl, rfl⟩
  | false =>
   have HQ := Aside0.mk hq
   have HR := Aside0.mk hr
   clear hq hr
   go_wp2_with (go_at_call 119; refine (c119 (rd l k) _).mono ?_; rw [HQ.out]; rintro e w' ⟨rfl, rfl⟩)
   go_round
   case rel =>
    refine ⟨k + 1, by omega, by go_num, ⟨fun j hj => ?_⟩⟩
    rcases Nat.lt_succ_iff_lt_or_eq.1 hj with h | rfl
    ·exact HA.out j h
    rw [← HR.out]; exact HQ.out
   case measure => simp [intOf]; omega
def slices_ContainsFunc_byte.f (l : List Int) (_ : Unit) : Option Bool := some (l.any (fun x => x != 0))
theorem ixOf_nonneg' {α : Type} (p : α → Bool) (l : List α) : decide (0 ≤ ixOf p l) = l.any p := by
 unfold ixOf
 cases h : l.findIdx? p with
 | none =>
  rw [List.findIdx?_eq_none_iff] at h
  have : l.any p = false := by rw [List.any_eq_false]; exact fun x hx => by simp [h x hx]
  rw [this]; rfl
 | some k =>
  rw [List.findIdx?_eq_some_iff_getElem] at h
  obtain ⟨hk, h1, _⟩ := h
  have : l.any p = true := by rw [List.any_eq_true]; exact ⟨l[k], List.getElem_mem hk, h1⟩
  rw [this]; simp
set_option maxHeartbeats 400000 in
theorem slices_ContainsFunc_byte.calls (A0 : Option Addr) (c0 : Nat) (l0 : List Int) (a1 : Unit) (r : Bool) (w : World) (hr0 : Kd.C (Kd.int .u8) w A0 l0.length l0) (hc0 : l0.length ≤ c0) (h : slices_ContainsFunc_byte.f l0 a1 = some r) :
  Calls Try.prog 118 #[.slice A0 l0.length c0, .func (.func 119) #[] #[]] w fun e w' => e = .returned (.bool r) ∧ Drawn0 w w' := by
 have HR := Aside0.mk (Option.some.inj h)
 have H := Aside0.mk (c141 A0 l0.length c0 l0 w hr0)
 clear hr0 hc0 h
 go_enter Try.func118, Try.ntmps118
 go_wp2_with (go_at_call 141; refine H.out.mono ?_; rintro e w' ⟨rfl, rfl⟩)
 go_ret
 exact ⟨by rw [← HR.out, ← ixOf_nonneg']; rfl, Drawn0.refl _⟩
end Go.Proofs.Ytkopbaikmlajmaa.Q
