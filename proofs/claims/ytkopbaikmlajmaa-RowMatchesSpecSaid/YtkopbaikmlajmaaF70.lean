import Derived.Test.YtkopbaikmlajmaaZ
import Derived.Test.YtkopbaikmlajmaaHA
namespace Go.Proofs.Ytkopbaikmlajmaa.Q
open Go.RowKit Go.Proofs.YtkopbaikmlajmaaW.PrintWords Go.Proofs.YtkopbaikmlajmaaW.PrintLast Go.Proofs.YtkopbaikmlajmaaW.PrintMore
set_option linter.unusedVariables false
set_option linter.unusedSimpArgs false

theorem c71 (x y : S56)  (w : World) :
  Calls Try.prog 71 #[.agg #[.string x.f0, .int .i64 x.f1, .bool x.f2], .agg #[.string y.f0, .int .i64 y.f1, .bool y.f2]] w fun e w' => e = .returned (.bool (x.f0.toList == y.f0.toList)) ∧ Below w.heap.size w w' := by
 have hu := Try.underlying56
 go_enter Try.func71, Try.ntmps71
 go_wp2
 go_ret
 exact ⟨rfl, ((Below.refl _ _).alloc (Nat.le_refl _) _).alloc (by simp) _⟩

set_option maxHeartbeats 400000 in
set_option maxRecDepth 100000 in
theorem c122 (x : S56)  (p1 p2 p3 : Addr) (A : Option Addr) (n c : Nat) (l : List S56) (i : Nat) (w : World) (h1 : w.cell? p1 = some (.func (.func 71) #[] #[])) (h2 : w.cell? p2 = some (.slice A n c)) (h3 : w.cell? p3 = some (.int .i64 i)) (hl : Kd.C k56 w A n l) (hi : i < n) :
  Calls Try.prog 122 #[.agg #[.string x.f0, .int .i64 x.f1, .bool x.f2], .pointer (some p1), .pointer (some p2), .pointer (some p3)] w fun e w' => e = .returned (.bool (x.f0.toList == (rd_T56 l i).f0.toList)) ∧ Below w.heap.size w w' := by
 have hu := Try.underlying56
 obtain ⟨ad, rfl, hc0, hc1, hc2⟩ := at_T56 hl (i : Int) (by omega) (by omega)
 simp only [Int.toNat_natCast] at hc0 hc1 hc2
 go_enter Try.func122, Try.ntmps122
 go_wp2_with fail
 obtain ⟨w0, hw0⟩ : ∃ w0, w0 = w.alloc (.cells #[.string x.f0, .int .i64 x.f1, .bool x.f2] 56) := ⟨_, rfl⟩
 have hb0 : Below w.heap.size w w0 := hw0 ▸ below_al w _
 replace h1 := keep hb0 h1
 replace h2 := keep hb0 h2
 replace h3 := keep hb0 h3
 replace hc0 := keep hb0 hc0
 replace hc1 := keep hb0 hc1
 replace hc2 := keep hb0 hc2
 have hx0 : w0.cell? ⟨w.heap.size, 0, none⟩ = some (.string x.f0) := by rw [hw0]; simp [go_sem]
 have hx1 : w0.cell? ⟨w.heap.size, 1, none⟩ = some (.int .i64 x.f1) := by rw [hw0]; simp [go_sem]
 have hx2 : w0.cell? ⟨w.heap.size, 2, none⟩ = some (.bool x.f2) := by rw [hw0]; simp [go_sem]
 rw [← hw0]
 have HB := Aside0.mk hb0
 clear hw0 hb0
 refine region_tail 6 (by kernel_rfl) (by kernel_rfl) ?_
 rintro w1 hw1
 have hb1 : Below w0.heap.size w0 w1 := hw1 ▸ below_dr w0
 replace h1 := keep hb1 h1
 replace h2 := keep hb1 h2
 replace h3 := keep hb1 h3
 replace hc0 := keep hb1 hc0
 replace hc1 := keep hb1 hc1
 replace hc2 := keep hb1 hc2
 replace hx0 := keep hb1 hx0
 replace hx1 := keep hb1 hx1
 replace hx2 := keep hb1 hx2
 have HB1 := Aside0.mk (below_step HB.out hb1)
 clear hw1 hb1 HB
 simp only [List.take_succ_cons, List.take_zero, List.drop_succ_cons, List.drop_zero]
 repeat still_step
 refine wpStill_nil ?_
 go_wp2_with (go_at_call 71; refine (c71 x (rd_T56 l i) _).mono ?_; rintro e w' ⟨rfl, hb⟩)
 go_ret
 exact ⟨rfl, below_step HB1.out hb⟩

set_option maxHeartbeats 400000 in
set_option maxRecDepth 100000 in
theorem c94a (A : Option Addr) (n c : Nat) (l : List S56) (p1 p2 p3 : Addr) (A2 : Option Addr) (n2 c2 : Nat) (l2 : List S56) (i : Nat) (w : World) (hl1 : Kd.C k56 w A n l) (h1 : w.cell? p1 = some (.func (.func 71) #[] #[])) (h2 : w.cell? p2 = some (.slice A2 n2 c2)) (h3 : w.cell? p3 = some (.int .i64 i)) (hl2 : Kd.C k56 w A2 n2 l2) (hi : i < n2) :
  Calls Try.prog 94 #[.slice A n c, .func (.func 122) #[] #[.pointer (some p1), .pointer (some p2), .pointer (some p3)]] w fun e w' => e = .returned (.int .i64 (ixOf (fun x => x.f0.toList == (rd_T56 l2 i).f0.toList) l)) ∧ Below w.heap.size w w' := by
 have hu := Try.underlying56
 have hn : l.length = n := hl1.1
 have hm : n ≤ 9223372036854775807 := hl1.2.1
 have HL := Aside0.mk hl1
 have HL2 := Aside0.mk hl2
 have H1 := Aside0.mk h1
 have H2 := Aside0.mk h2
 have H3 := Aside0.mk h3
 have HN := Aside0.mk hn
 clear hl1 hl2 h1 h2 h3 hn
 go_enter Try.func94, Try.ntmps94
 go_wp2_with fail
 go_loopw [8] (fun v wr => ∃ k : Nat, k ≤ n ∧ v = .int .i64 k ∧ Aside0 (∀ j, j < k → (fun x : S56 => x.f0.toList == (rd_T56 l2 i).f0.toList) (l.getD j z56) = false) ∧ Aside0 (Below w.heap.size w wr)) (fun v _ => n - (intOf v).toNat)
 case atStart => exact ⟨0, Nat.zero_le _, rfl, ⟨fun j hj => by omega⟩, ⟨Below.refl _ _⟩⟩
 case round =>
  obtain ⟨k, hk, rfl, HA, HB⟩ := hrel
  by_cases hlt : k < n
  ·obtain ⟨ad, rfl, hc0, hc1, hc2⟩ := at_T56 HL.out (k : Int) (by omega) (by omega)
   simp only [Int.toNat_natCast] at hc0 hc1 hc2
   replace hc0 := keep HB.out hc0
   replace hc1 := keep HB.out hc1
   replace hc2 := keep HB.out hc2
   cases hq : ((rd_T56 l k).f0.toList == (rd_T56 l2 i).f0.toList) with
   | true =>
    have HQ := Aside0.mk hq
    clear hq
    go_wp2_with (go_at_call 122; refine (c122 (rd_T56 l k) p1 p2 p3 A2 n2 c2 l2 i _ (keep HB.out H1.out) (keep HB.out H2.out) (keep HB.out H3.out) (Kd.C_below HL2.out HB.out) hi).mono ?_; rw [HQ.out]; rintro e w' ⟨rfl, hb⟩)
    go_ret
    exact ⟨by rw [ixOf_hit (fun x : S56 => x.f0.toList == (rd_T56 l2 i).f0.toList) l k z56 Z133 HA.out HQ.out]; rfl, below_step HB.out hb⟩
   | false =>
    have HQ := Aside0.mk hq
    clear hq
    go_wp2_with (go_at_call 122; refine (c122 (rd_T56 l k) p1 p2 p3 A2 n2 c2 l2 i _ (keep HB.out H1.out) (keep HB.out H2.out) (keep HB.out H3.out) (Kd.C_below HL2.out HB.out) hi).mono ?_; rw [HQ.out]; rintro e w' ⟨rfl, hb⟩)
    go_roundw
    case rel =>
     refine ⟨k + 1, by omega, by go_num, ⟨fun j hj => ?_⟩, ⟨below_step HB.out hb⟩⟩
     rcases Nat.lt_succ_iff_lt_or_eq.1 hj with h | rfl
     ·exact HA.out j h
     exact HQ.out
    case measure => simp [intOf]; omega
  obtain rfl : k = n := by omega
  go_wp2_with fail
  go_ret
  exact ⟨by rw [ixOf_none (fun x : S56 => x.f0.toList == (rd_T56 l2 i).f0.toList) l z56 (fun j hj => HA.out j Z133)]; rfl, HB.out⟩

set_option maxHeartbeats 400000 in
theorem c121a (A : Option Addr) (n c : Nat) (l : List S56) (p1 p2 p3 : Addr) (A2 : Option Addr) (n2 c2 : Nat) (l2 : List S56) (i : Nat) (w : World) (hl1 : Kd.C k56 w A n l) (h1 : w.cell? p1 = some (.func (.func 71) #[] #[])) (h2 : w.cell? p2 = some (.slice A2 n2 c2)) (h3 : w.cell? p3 = some (.int .i64 i)) (hl2 : Kd.C k56 w A2 n2 l2) (hi : i < n2) :
  Calls Try.prog 121 #[.slice A n c, .func (.func 122) #[] #[.pointer (some p1), .pointer (some p2), .pointer (some p3)]] w fun e w' => e = .returned (.bool (decide (0 ≤ ixOf (fun x => x.f0.toList == (rd_T56 l2 i).f0.toList) l))) ∧ Below w.heap.size w w' := by
 have H := Aside0.mk (c94a A n c l p1 p2 p3 A2 n2 c2 l2 i w hl1 h1 h2 h3 hl2 hi)
 clear hl1 h1 h2 h3 hl2
 go_enter Try.func121, Try.ntmps121
 go_wp2_with (go_at_call 94; refine H.out.mono ?_; rintro e w' ⟨rfl, hb⟩)
 go_ret
 exact ⟨rfl, hb⟩

def schema_repeated_Column.f (l : List S56) (i : Int) (_ : Unit) : Option Bool := if 0 ≤ i ∧ i < l.length then some (decide (0 ≤ ixOf (fun x : S56 => x.f0.toList == (rd_T56 l i).f0.toList) (l.take i.toNat))) else none

set_option maxHeartbeats 400000 in
set_option maxRecDepth 100000 in
theorem schema_repeated_Column.calls (A0 : Option Addr) (c0 : Nat) (l0 : List S56) (a1 : Int) (a2 : Unit) (r : Bool) (w : World) (hr0 : Kd.C k56 w A0 l0.length l0) (hc0 : l0.length ≤ c0) (h : schema_repeated_Column.f l0 a1 a2 = some r) :
  Calls Try.prog 70 #[.slice A0 l0.length c0, .int .i64 a1, .func (.func 71) #[] #[]] w fun e w' => e = .returned (.bool r) ∧ Below w.heap.size w w' := by
 unfold schema_repeated_Column.f at h
 split at h
 case isFalse => cases h
 case isTrue hb =>
 obtain ⟨hb1, hb2⟩ := hb
 obtain ⟨i, rfl⟩ := Int.eq_ofNat_of_zero_le hb1
 have hi : i < l0.length := by omega
 have HR := Aside0.mk (Option.some.inj h)
 clear h hb1 hb2
 have HL := Aside0.mk hr0
 clear hr0
 go_enter Try.func70, Try.ntmps70
 have hp : Kd.C k56 w A0 i (l0.take i) := by
  have := Kd.C_take HL.out (m := i) (by omega)
  rwa [show (l0.take i).length = i by simp; omega] at this
 have h1 : (((w.alloc (.cells #[.slice A0 l0.length c0] 24)).alloc (.cells #[.int .i64 i] 3)).alloc (.cells #[.func (.func 71) #[] #[]] 85)).cell? ⟨w.heap.size + 1 + 1, 0, none⟩ = some (.func (.func 71) #[] #[]) := by simp [go_sem]
 have h2 : (((w.alloc (.cells #[.slice A0 l0.length c0] 24)).alloc (.cells #[.int .i64 i] 3)).alloc (.cells #[.func (.func 71) #[] #[]] 85)).cell? ⟨w.heap.size, 0, none⟩ = some (.slice A0 l0.length c0) := by simp [go_sem]
 have h3 : (((w.alloc (.cells #[.slice A0 l0.length c0] 24)).alloc (.cells #[.int .i64 i] 3)).alloc (.cells #[.func (.func 71) #[] #[]] 85)).cell? ⟨w.heap.size + 1, 0, none⟩ = some (.int .i64 i) := by simp [go_sem]
 have hb : Below w.heap.size w (((w.alloc (.cells #[.slice A0 l0.length c0] 24)).alloc (.cells #[.int .i64 i] 3)).alloc (.cells #[.func (.func 71) #[] #[]] 85)) := below_alloc (below_alloc (below_al w _) _) _
 have H := Aside0.mk (c121a A0 i c0 (l0.take i) _ _ _ A0 l0.length c0 l0 i _ (Kd.C_below hp hb) h1 h2 h3 (Kd.C_below HL.out hb) hi)
 have HB := Aside0.mk hb
 clear h1 h2 h3 hb hp
 go_wp2_with (go_at_call 121; refine H.out.mono ?_; rintro e w' ⟨rfl, hb⟩)
 go_ret
 exact ⟨by rw [← HR.out]; rfl, below_step HB.out hb⟩

theorem c73 (x y : S65) (Ax : Option Addr) (cx : Nat) (Ay : Option Addr) (cy : Nat) (w : World) :
  Calls Try.prog 73 #[.agg #[.string x.f0, .slice Ax x.f1.length cx, .bool x.f2], .agg #[.string y.f0, .slice Ay y.f1.length cy, .bool y.f2]] w fun e w' => e = .returned (.bool (x.f0.toList == y.f0.toList)) ∧ Below w.heap.size w w' := by
 have hu := Try.underlying65
 go_enter Try.func73, Try.ntmps73
 go_wp2
 go_ret
 exact ⟨rfl, ((Below.refl _ _).alloc (Nat.le_refl _) _).alloc (by simp) _⟩

set_option maxHeartbeats 400000 in
set_option maxRecDepth 100000 in
theorem c124 (x : S65) (Ax : Option Addr) (cx : Nat) (p1 p2 p3 : Addr) (A : Option Addr) (n c : Nat) (l : List S65) (i : Nat) (w : World) (h1 : w.cell? p1 = some (.func (.func 73) #[] #[])) (h2 : w.cell? p2 = some (.slice A n c)) (h3 : w.cell? p3 = some (.int .i64 i)) (hl : Kd.C k65 w A n l) (hi : i < n) :
  Calls Try.prog 124 #[.agg #[.string x.f0, .slice Ax x.f1.length cx, .bool x.f2], .pointer (some p1), .pointer (some p2), .pointer (some p3)] w fun e w' => e = .returned (.bool (x.f0.toList == (rd_T65 l i).f0.toList)) ∧ Below w.heap.size w w' := by
 have hu := Try.underlying65
 obtain ⟨ad, B1, d1, rfl, hc0, hc1, hc2, -, -⟩ := at_T65 hl (i : Int) (by omega) (by omega)
 simp only [Int.toNat_natCast] at hc0 hc1 hc2
 go_enter Try.func124, Try.ntmps124
 go_wp2_with fail
 obtain ⟨w0, hw0⟩ : ∃ w0, w0 = w.alloc (.cells #[.string x.f0, .slice Ax x.f1.length cx, .bool x.f2] 65) := ⟨_, rfl⟩
 have hb0 : Below w.heap.size w w0 := hw0 ▸ below_al w _
 replace h1 := keep hb0 h1
 replace h2 := keep hb0 h2
 replace h3 := keep hb0 h3
 replace hc0 := keep hb0 hc0
 replace hc1 := keep hb0 hc1
 replace hc2 := keep hb0 hc2
 have hx0 : w0.cell? ⟨w.heap.size, 0, none⟩ = some (.string x.f0) := by rw [hw0]; simp [go_sem]
 have hx1 : w0.cell? ⟨w.heap.size, 1, none⟩ = some (.slice Ax x.f1.length cx) := by rw [hw0]; simp [go_sem]
 have hx2 : w0.cell? ⟨w.heap.size, 2, none⟩ = some (.bool x.f2) := by rw [hw0]; simp [go_sem]
 rw [← hw0]
 have HB := Aside0.mk hb0
 clear hw0 hb0
 refine region_tail 6 (by kernel_rfl) (by kernel_rfl) ?_
 rintro w1 hw1
 have hb1 : Below w0.heap.size w0 w1 := hw1 ▸ below_dr w0
 replace h1 := keep hb1 h1
 replace h2 := keep hb1 h2
 replace h3 := keep hb1 h3
 replace hc0 := keep hb1 hc0
 replace hc1 := keep hb1 hc1
 replace hc2 := keep hb1 hc2
 replace hx0 := keep hb1 hx0
 replace hx1 := keep hb1 hx1
 replace hx2 := keep hb1 hx2
 have HB1 := Aside0.mk (below_step HB.out hb1)
 clear hw1 hb1 HB
 simp only [List.take_succ_cons, List.take_zero, List.drop_succ_cons, List.drop_zero]
 repeat still_step
 refine wpStill_nil ?_
 go_wp2_with (go_at_call 73; refine (c73 x (rd_T65 l i) Ax cx B1 d1 _).mono ?_; rintro e w' ⟨rfl, hb⟩)
 go_ret
 exact ⟨rfl, below_step HB1.out hb⟩

set_option maxHeartbeats 400000 in
set_option maxRecDepth 100000 in
theorem c96a (A : Option Addr) (n c : Nat) (l : List S65) (p1 p2 p3 : Addr) (A2 : Option Addr) (n2 c2 : Nat) (l2 : List S65) (i : Nat) (w : World) (hl1 : Kd.C k65 w A n l) (h1 : w.cell? p1 = some (.func (.func 73) #[] #[])) (h2 : w.cell? p2 = some (.slice A2 n2 c2)) (h3 : w.cell? p3 = some (.int .i64 i)) (hl2 : Kd.C k65 w A2 n2 l2) (hi : i < n2) :
  Calls Try.prog 96 #[.slice A n c, .func (.func 124) #[] #[.pointer (some p1), .pointer (some p2), .pointer (some p3)]] w fun e w' => e = .returned (.int .i64 (ixOf (fun x => x.f0.toList == (rd_T65 l2 i).f0.toList) l)) ∧ Below w.heap.size w w' := by
 have hu := Try.underlying65
 have hn : l.length = n := hl1.1
 have hm : n ≤ 9223372036854775807 := hl1.2.1
 have HL := Aside0.mk hl1
 have HL2 := Aside0.mk hl2
 have H1 := Aside0.mk h1
 have H2 := Aside0.mk h2
 have H3 := Aside0.mk h3
 have HN := Aside0.mk hn
 clear hl1 hl2 h1 h2 h3 hn
 go_enter Try.func96, Try.ntmps96
 go_wp2_with fail
 go_loopw [8] (fun v wr => ∃ k : Nat, k ≤ n ∧ v = .int .i64 k ∧ Aside0 (∀ j, j < k → (fun x : S65 => x.f0.toList == (rd_T65 l2 i).f0.toList) (l.getD j z65) = false) ∧ Aside0 (Below w.heap.size w wr)) (fun v _ => n - (intOf v).toNat)
 case atStart => exact ⟨0, Nat.zero_le _, rfl, ⟨fun j hj => by omega⟩, ⟨Below.refl _ _⟩⟩
 case round =>
  obtain ⟨k, hk, rfl, HA, HB⟩ := hrel
  by_cases hlt : k < n
  ·obtain ⟨ad, B1, d1, rfl, hc0, hc1, hc2, -, -⟩ := at_T65 HL.out (k : Int) (by omega) (by omega)
   simp only [Int.toNat_natCast] at hc0 hc1 hc2
   replace hc0 := keep HB.out hc0
   replace hc1 := keep HB.out hc1
   replace hc2 := keep HB.out hc2
   cases hq : ((rd_T65 l k).f0.toList == (rd_T65 l2 i).f0.toList) with
   | true =>
    have HQ := Aside0.mk hq
    clear hq
    go_wp2_with (go_at_call 124; refine (c124 (rd_T65 l k) B1 d1 p1 p2 p3 A2 n2 c2 l2 i _ (keep HB.out H1.out) (keep HB.out H2.out) (keep HB.out H3.out) (Kd.C_below HL2.out HB.out) hi).mono ?_; rw [HQ.out]; rintro e w' ⟨rfl, hb⟩)
    go_ret
    exact ⟨by rw [ixOf_hit (fun x : S65 => x.f0.toList == (rd_T65 l2 i).f0.toList) l k z65 Z133 HA.out HQ.out]; rfl, below_step HB.out hb⟩
   | false =>
    have HQ := Aside0.mk hq
    clear hq
    go_wp2_with (go_at_call 124; refine (c124 (rd_T65 l k) B1 d1 p1 p2 p3 A2 n2 c2 l2 i _ (keep HB.out H1.out) (keep HB.out H2.out) (keep HB.out H3.out) (Kd.C_below HL2.out HB.out) hi).mono ?_; rw [HQ.out]; rintro e w' ⟨rfl, hb⟩)
    go_roundw
    case rel =>
     refine ⟨k + 1, by omega, by go_num, ⟨fun j hj => ?_⟩, ⟨below_step HB.out hb⟩⟩
     rcases Nat.lt_succ_iff_lt_or_eq.1 hj with h | rfl
     ·exact HA.out j h
     exact HQ.out
    case measure => simp [intOf]; omega
  obtain rfl : k = n := by omega
  go_wp2_with fail
  go_ret
  exact ⟨by rw [ixOf_none (fun x : S65 => x.f0.toList == (rd_T65 l2 i).f0.toList) l z65 (fun j hj => HA.out j Z133)]; rfl, HB.out⟩

set_option maxHeartbeats 400000 in
theorem c123a (A : Option Addr) (n c : Nat) (l : List S65) (p1 p2 p3 : Addr) (A2 : Option Addr) (n2 c2 : Nat) (l2 : List S65) (i : Nat) (w : World) (hl1 : Kd.C k65 w A n l) (h1 : w.cell? p1 = some (.func (.func 73) #[] #[])) (h2 : w.cell? p2 = some (.slice A2 n2 c2)) (h3 : w.cell? p3 = some (.int .i64 i)) (hl2 : Kd.C k65 w A2 n2 l2) (hi : i < n2) :
  Calls Try.prog 123 #[.slice A n c, .func (.func 124) #[] #[.pointer (some p1), .pointer (some p2), .pointer (some p3)]] w fun e w' => e = .returned (.bool (decide (0 ≤ ixOf (fun x => x.f0.toList == (rd_T65 l2 i).f0.toList) l))) ∧ Below w.heap.size w w' := by
 have H := Aside0.mk (c96a A n c l p1 p2 p3 A2 n2 c2 l2 i w hl1 h1 h2 h3 hl2 hi)
 clear hl1 h1 h2 h3 hl2
 go_enter Try.func123, Try.ntmps123
 go_wp2_with (go_at_call 96; refine H.out.mono ?_; rintro e w' ⟨rfl, hb⟩)
 go_ret
 exact ⟨rfl, hb⟩

def schema_repeated_Index.f (l : List S65) (i : Int) (_ : Unit) : Option Bool := if 0 ≤ i ∧ i < l.length then some (decide (0 ≤ ixOf (fun x : S65 => x.f0.toList == (rd_T65 l i).f0.toList) (l.take i.toNat))) else none

set_option maxHeartbeats 400000 in
set_option maxRecDepth 100000 in
theorem schema_repeated_Index.calls (A0 : Option Addr) (c0 : Nat) (l0 : List S65) (a1 : Int) (a2 : Unit) (r : Bool) (w : World) (hr0 : Kd.C k65 w A0 l0.length l0) (hc0 : l0.length ≤ c0) (h : schema_repeated_Index.f l0 a1 a2 = some r) :
  Calls Try.prog 72 #[.slice A0 l0.length c0, .int .i64 a1, .func (.func 73) #[] #[]] w fun e w' => e = .returned (.bool r) ∧ Below w.heap.size w w' := by
 unfold schema_repeated_Index.f at h
 split at h
 case isFalse => cases h
 case isTrue hb =>
 obtain ⟨hb1, hb2⟩ := hb
 obtain ⟨i, rfl⟩ := Int.eq_ofNat_of_zero_le hb1
 have hi : i < l0.length := by omega
 have HR := Aside0.mk (Option.some.inj h)
 clear h hb1 hb2
 have HL := Aside0.mk hr0
 clear hr0
 go_enter Try.func72, Try.ntmps72
 have hp : Kd.C k65 w A0 i (l0.take i) := by
  have := Kd.C_take HL.out (m := i) (by omega)
  rwa [show (l0.take i).length = i by simp; omega] at this
 have h1 : (((w.alloc (.cells #[.slice A0 l0.length c0] 25)).alloc (.cells #[.int .i64 i] 3)).alloc (.cells #[.func (.func 73) #[] #[]] 87)).cell? ⟨w.heap.size + 1 + 1, 0, none⟩ = some (.func (.func 73) #[] #[]) := by simp [go_sem]
 have h2 : (((w.alloc (.cells #[.slice A0 l0.length c0] 25)).alloc (.cells #[.int .i64 i] 3)).alloc (.cells #[.func (.func 73) #[] #[]] 87)).cell? ⟨w.heap.size, 0, none⟩ = some (.slice A0 l0.length c0) := by simp [go_sem]
 have h3 : (((w.alloc (.cells #[.slice A0 l0.length c0] 25)).alloc (.cells #[.int .i64 i] 3)).alloc (.cells #[.func (.func 73) #[] #[]] 87)).cell? ⟨w.heap.size + 1, 0, none⟩ = some (.int .i64 i) := by simp [go_sem]
 have hb : Below w.heap.size w (((w.alloc (.cells #[.slice A0 l0.length c0] 25)).alloc (.cells #[.int .i64 i] 3)).alloc (.cells #[.func (.func 73) #[] #[]] 87)) := below_alloc (below_alloc (below_al w _) _) _
 have H := Aside0.mk (c123a A0 i c0 (l0.take i) _ _ _ A0 l0.length c0 l0 i _ (Kd.C_below hp hb) h1 h2 h3 (Kd.C_below HL.out hb) hi)
 have HB := Aside0.mk hb
 clear h1 h2 h3 hb hp
 go_wp2_with (go_at_call 123; refine H.out.mono ?_; rintro e w' ⟨rfl, hb⟩)
 go_ret
 exact ⟨by rw [← HR.out]; rfl, below_step HB.out hb⟩
end Go.Proofs.Ytkopbaikmlajmaa.Q
