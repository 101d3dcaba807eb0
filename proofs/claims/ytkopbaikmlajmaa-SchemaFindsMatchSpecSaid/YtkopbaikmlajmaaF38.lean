/- schema.Column and schema.Index (functions 38 and 40 of the seat): the first place with a name; for tables whose slices can be read. -/
import Derived.Test.YtkopbaikmlajmaaHA
import Derived.Test.YtkopbaikmlajmaaF70
namespace Go.Proofs.Ytkopbaikmlajmaa.Q
open Go.RowKit Go.Proofs.YtkopbaikmlajmaaW.PrintWords Go.Proofs.YtkopbaikmlajmaaW.PrintLast Go.Proofs.YtkopbaikmlajmaaW.PrintMore
set_option linter.unusedSimpArgs false
set_option linter.unusedVariables false

set_option maxHeartbeats 400000 in
set_option maxRecDepth 100000 in
theorem c95 (x : S56) (p1 : Addr) (name : ByteArray) (w : World) (h1 : w.cell? p1 = some (.string name)) :
    Calls Try.prog 95 #[.agg #[.string x.f0, .int .i64 x.f1, .bool x.f2], .pointer (some p1)] w fun e w' => e = .returned (.bool (x.f0.toList == name.toList)) ∧ Below w.heap.size w w' := by
  have hu := Try.underlying56
  go_enter Try.func95, Try.ntmps95
  have h2 := keep_al h1 (.cells #[.string x.f0, .int .i64 x.f1, .bool x.f2] 56)
  clear h1
  go_wp2_with fail
  go_ret
  exact ⟨rfl, below_al w _⟩

set_option maxHeartbeats 400000 in
set_option maxRecDepth 100000 in
theorem c94b (A : Option Addr) (n c : Nat) (l : List S56) (p1 : Addr) (name : ByteArray) (w : World) (hl1 : Kd.C k56 w A n l) (h1 : w.cell? p1 = some (.string name)) :
    Calls Try.prog 94 #[.slice A n c, .func (.func 95) #[] #[.pointer (some p1)]] w fun e w' => e = .returned (.int .i64 (ixOf (fun x => x.f0.toList == name.toList) l)) ∧ Below w.heap.size w w' := by
  have hu := Try.underlying56
  have hn : l.length = n := hl1.1
  have hm : n ≤ 9223372036854775807 := hl1.2.1
  have HL := Aside0.mk hl1
  have H1 := Aside0.mk h1
  have HN := Aside0.mk hn
  clear hl1 h1 hn
  go_enter Try.func94, Try.ntmps94
  go_wp2_with fail
  go_loopw [8] (fun v wr => ∃ k : Nat, k ≤ n ∧ v = .int .i64 k ∧ Aside0 (∀ j, j < k → (fun x : S56 => x.f0.toList == name.toList) (l.getD j z56) = false) ∧ Aside0 (Below w.heap.size w wr)) (fun v _ => n - (intOf v).toNat)
  case atStart => exact ⟨0, Nat.zero_le _, rfl, ⟨fun j hj => by omega⟩, ⟨Below.refl _ _⟩⟩
  case round =>
    obtain ⟨k, hk, rfl, HA, HB⟩ := hrel
    by_cases hlt : k < n
    · obtain ⟨ad, rfl, hc0, hc1, hc2⟩ := at_T56 HL.out (k : Int) (by omega) (by omega)
      simp only [Int.toNat_natCast] at hc0 hc1 hc2
      replace hc0 := keep HB.out hc0
      replace hc1 := keep HB.out hc1
      replace hc2 := keep HB.out hc2
      cases hq : ((rd_T56 l k).f0.toList == name.toList) with
      | true =>
        have HQ := Aside0.mk hq
        clear hq
        go_wp2_with (go_at_call 95; refine (c95 (rd_T56 l k) p1 name _ (keep HB.out H1.out)).mono ?_; rw [HQ.out]; rintro e w' ⟨rfl, hb⟩)
        go_ret
        exact ⟨by rw [ixOf_hit (fun x : S56 => x.f0.toList == name.toList) l k z56 (by have := HN.out; omega) HA.out HQ.out]; rfl, below_step HB.out hb⟩
      | false =>
        have HQ := Aside0.mk hq
        clear hq
        go_wp2_with (go_at_call 95; refine (c95 (rd_T56 l k) p1 name _ (keep HB.out H1.out)).mono ?_; rw [HQ.out]; rintro e w' ⟨rfl, hb⟩)
        go_roundw
        case rel =>
          refine ⟨k + 1, by omega, by go_num, ⟨fun j hj => ?_⟩, ⟨below_step HB.out hb⟩⟩
          rcases Nat.lt_succ_iff_lt_or_eq.1 hj with h | rfl
          · exact HA.out j h
          · exact HQ.out
        case measure => simp [intOf]; omega
    · obtain rfl : k = n := by omega
      go_wp2_with fail
      go_ret
      exact ⟨by rw [ixOf_none (fun x : S56 => x.f0.toList == name.toList) l z56 (fun j hj => HA.out j (by have := HN.out; omega))]; rfl, HB.out⟩

/-- The first place with a name. -/
def at56 (l : List S56) (name : ByteArray) : Int := ixOf (fun x => x.f0.toList == name.toList) l
theorem at56_ge (l : List S56) (name : ByteArray) : -1 ≤ at56 l name := by
  unfold at56 ixOf
  split <;> omega
def schema_Column.f (_ : ByteArray) (cs : List S56) (xs : List S65) (_ : List S42) (name : ByteArray) : Option (Int × Bool) := some (max 0 (at56 cs name), decide (0 ≤ at56 cs name))
set_option maxHeartbeats 400000 in
set_option maxRecDepth 100000 in
theorem schema_Column.calls (a0_0 : ByteArray) (A0_1 : Option Addr) (c0_1 : Nat) (l0_1 : List S56) (A0_2 : Option Addr) (c0_2 : Nat) (l0_2 : List S65) (A0_3 : Option Addr) (c0_3 : Nat) (l0_3 : List S42) (a1 : ByteArray) (r1 : Int) (r2 : Bool) (w : World) (hr0_1 : Kd.C k56 w A0_1 l0_1.length l0_1) (hc0_1 : l0_1.length ≤ c0_1) (hr0_2 : Kd.C k65 w A0_2 l0_2.length l0_2) (hc0_2 : l0_2.length ≤ c0_2) (hr0_3 : Kd.C k42 w A0_3 l0_3.length l0_3) (hc0_3 : l0_3.length ≤ c0_3) (h : schema_Column.f a0_0 l0_1 l0_2 l0_3 a1 = some (r1, r2)) :
    Calls Try.prog 38 #[.agg #[.string a0_0, .slice A0_1 l0_1.length c0_1, .slice A0_2 l0_2.length c0_2, .slice A0_3 l0_3.length c0_3], .string a1] w fun e w' => e = .returned (.tuple #[.int .i64 r1, .bool r2]) ∧ Below w.heap.size w w' := by
  have hu := Try.underlying28
  have hu2 := Try.underlying24
  have HR := Aside0.mk (Option.some.inj h)
  have HL := Aside0.mk hr0_1
  clear h hr0_1 hr0_2 hr0_3
  go_enter Try.func38, Try.ntmps38
  go_wp2_with fail
  obtain ⟨w0, hw0⟩ : ∃ w0, w0 = (w.alloc (.cells #[.string a0_0, .slice A0_1 l0_1.length c0_1, .slice A0_2 l0_2.length c0_2, .slice A0_3 l0_3.length c0_3] 28)).alloc (.cells #[.string a1] 9) := ⟨_, rfl⟩
  have hb0 : Below w.heap.size w w0 := hw0 ▸ below_step (below_al w _) (below_al _ _)
  have b1 : w0.cell? ⟨w.heap.size, 1, none⟩ = some (.slice A0_1 l0_1.length c0_1) := by rw [hw0]; simp [go_sem]
  have b2 : w0.cell? ⟨w.heap.size + 1, 0, none⟩ = some (.string a1) := by rw [hw0]; simp [go_sem]
  have B2 := Aside0.mk b2
  rw [← hw0]
  have HB := Aside0.mk hb0
  clear hw0 hb0 b2
  replace HL := Aside0.mk (Kd.C_below HL.out HB.out)
  have hg := at56_ge l0_1 a1
  have HI := Aside0.mk (c94b A0_1 l0_1.length c0_1 l0_1 _ a1 w0 HL.out B2.out)
  obtain ⟨q, hq⟩ : ∃ q, q = at56 l0_1 a1 := ⟨_, rfl⟩
  rw [show ixOf (fun x => x.f0.toList == a1.toList) l0_1 = q from hq.symm] at HI
  rw [← hq] at HR hg
  clear hq
  go_wp2_with (go_at_call 94; refine HI.out.mono ?_; rintro e w' ⟨rfl, hb⟩)
  all_goals
    go_ret2
    refine ⟨?_, below_step HB.out hb⟩
    have he := HR.out
    simp only [Prod.mk.injEq] at he
    obtain ⟨rfl, rfl⟩ := he
    first | (rw [Int.max_eq_left (by omega)]; rfl) | (rw [Int.max_eq_right (by omega)]; rfl)

set_option maxHeartbeats 400000 in
set_option maxRecDepth 100000 in
theorem c97 (x : S65) (Ax : Option Addr) (cx : Nat) (p1 : Addr) (name : ByteArray) (w : World) (h1 : w.cell? p1 = some (.string name)) :
    Calls Try.prog 97 #[.agg #[.string x.f0, .slice Ax x.f1.length cx, .bool x.f2], .pointer (some p1)] w fun e w' => e = .returned (.bool (x.f0.toList == name.toList)) ∧ Below w.heap.size w w' := by
  have hu := Try.underlying65
  go_enter Try.func97, Try.ntmps97
  have h2 := keep_al h1 (.cells #[.string x.f0, .slice Ax x.f1.length cx, .bool x.f2] 65)
  clear h1
  go_wp2_with fail
  go_ret
  exact ⟨rfl, below_al w _⟩

set_option maxHeartbeats 400000 in
set_option maxRecDepth 100000 in
theorem c96b (A : Option Addr) (n c : Nat) (l : List S65) (p1 : Addr) (name : ByteArray) (w : World) (hl1 : Kd.C k65 w A n l) (h1 : w.cell? p1 = some (.string name)) :
    Calls Try.prog 96 #[.slice A n c, .func (.func 97) #[] #[.pointer (some p1)]] w fun e w' => e = .returned (.int .i64 (ixOf (fun x => x.f0.toList == name.toList) l)) ∧ Below w.heap.size w w' := by
  have hu := Try.underlying65
  have hn : l.length = n := hl1.1
  have hm : n ≤ 9223372036854775807 := hl1.2.1
  have HL := Aside0.mk hl1
  have H1 := Aside0.mk h1
  have HN := Aside0.mk hn
  clear hl1 h1 hn
  go_enter Try.func96, Try.ntmps96
  go_wp2_with fail
  go_loopw [8] (fun v wr => ∃ k : Nat, k ≤ n ∧ v = .int .i64 k ∧ Aside0 (∀ j, j < k → (fun x : S65 => x.f0.toList == name.toList) (l.getD j z65) = false) ∧ Aside0 (Below w.heap.size w wr)) (fun v _ => n - (intOf v).toNat)
  case atStart => exact ⟨0, Nat.zero_le _, rfl, ⟨fun j hj => by omega⟩, ⟨Below.refl _ _⟩⟩
  case round =>
    obtain ⟨k, hk, rfl, HA, HB⟩ := hrel
    by_cases hlt : k < n
    · obtain ⟨ad, B1, d1, rfl, hc0, hc1, hc2, -, -⟩ := at_T65 HL.out (k : Int) (by omega) (by omega)
      simp only [Int.toNat_natCast] at hc0 hc1 hc2
      replace hc0 := keep HB.out hc0
      replace hc1 := keep HB.out hc1
      replace hc2 := keep HB.out hc2
      cases hq : ((rd_T65 l k).f0.toList == name.toList) with
      | true =>
        have HQ := Aside0.mk hq
        clear hq
        go_wp2_with (go_at_call 97; refine (c97 (rd_T65 l k) B1 d1 p1 name _ (keep HB.out H1.out)).mono ?_; rw [HQ.out]; rintro e w' ⟨rfl, hb⟩)
        go_ret
        exact ⟨by rw [ixOf_hit (fun x : S65 => x.f0.toList == name.toList) l k z65 (by have := HN.out; omega) HA.out HQ.out]; rfl, below_step HB.out hb⟩
      | false =>
        have HQ := Aside0.mk hq
        clear hq
        go_wp2_with (go_at_call 97; refine (c97 (rd_T65 l k) B1 d1 p1 name _ (keep HB.out H1.out)).mono ?_; rw [HQ.out]; rintro e w' ⟨rfl, hb⟩)
        go_roundw
        case rel =>
          refine ⟨k + 1, by omega, by go_num, ⟨fun j hj => ?_⟩, ⟨below_step HB.out hb⟩⟩
          rcases Nat.lt_succ_iff_lt_or_eq.1 hj with h | rfl
          · exact HA.out j h
          · exact HQ.out
        case measure => simp [intOf]; omega
    · obtain rfl : k = n := by omega
      go_wp2_with fail
      go_ret
      exact ⟨by rw [ixOf_none (fun x : S65 => x.f0.toList == name.toList) l z65 (fun j hj => HA.out j (by have := HN.out; omega))]; rfl, HB.out⟩

/-- The first place with a name. -/
def at65 (l : List S65) (name : ByteArray) : Int := ixOf (fun x => x.f0.toList == name.toList) l
theorem at65_ge (l : List S65) (name : ByteArray) : -1 ≤ at65 l name := by
  unfold at65 ixOf
  split <;> omega
def schema_Index.f (_ : ByteArray) (cs : List S56) (xs : List S65) (_ : List S42) (name : ByteArray) : Option (Int × Bool) := some (max 0 (at65 xs name), decide (0 ≤ at65 xs name))
set_option maxHeartbeats 400000 in
set_option maxRecDepth 100000 in
theorem schema_Index.calls (a0_0 : ByteArray) (A0_1 : Option Addr) (c0_1 : Nat) (l0_1 : List S56) (A0_2 : Option Addr) (c0_2 : Nat) (l0_2 : List S65) (A0_3 : Option Addr) (c0_3 : Nat) (l0_3 : List S42) (a1 : ByteArray) (r1 : Int) (r2 : Bool) (w : World) (hr0_1 : Kd.C k56 w A0_1 l0_1.length l0_1) (hc0_1 : l0_1.length ≤ c0_1) (hr0_2 : Kd.C k65 w A0_2 l0_2.length l0_2) (hc0_2 : l0_2.length ≤ c0_2) (hr0_3 : Kd.C k42 w A0_3 l0_3.length l0_3) (hc0_3 : l0_3.length ≤ c0_3) (h : schema_Index.f a0_0 l0_1 l0_2 l0_3 a1 = some (r1, r2)) :
    Calls Try.prog 40 #[.agg #[.string a0_0, .slice A0_1 l0_1.length c0_1, .slice A0_2 l0_2.length c0_2, .slice A0_3 l0_3.length c0_3], .string a1] w fun e w' => e = .returned (.tuple #[.int .i64 r1, .bool r2]) ∧ Below w.heap.size w w' := by
  have hu := Try.underlying28
  have hu2 := Try.underlying25
  have HR := Aside0.mk (Option.some.inj h)
  have HL := Aside0.mk hr0_2
  clear h hr0_1 hr0_2 hr0_3
  go_enter Try.func40, Try.ntmps40
  go_wp2_with fail
  obtain ⟨w0, hw0⟩ : ∃ w0, w0 = (w.alloc (.cells #[.string a0_0, .slice A0_1 l0_1.length c0_1, .slice A0_2 l0_2.length c0_2, .slice A0_3 l0_3.length c0_3] 28)).alloc (.cells #[.string a1] 9) := ⟨_, rfl⟩
  have hb0 : Below w.heap.size w w0 := hw0 ▸ below_step (below_al w _) (below_al _ _)
  have b1 : w0.cell? ⟨w.heap.size, 2, none⟩ = some (.slice A0_2 l0_2.length c0_2) := by rw [hw0]; simp [go_sem]
  have b2 : w0.cell? ⟨w.heap.size + 1, 0, none⟩ = some (.string a1) := by rw [hw0]; simp [go_sem]
  have B2 := Aside0.mk b2
  rw [← hw0]
  have HB := Aside0.mk hb0
  clear hw0 hb0 b2
  replace HL := Aside0.mk (Kd.C_below HL.out HB.out)
  have hg := at65_ge l0_2 a1
  have HI := Aside0.mk (c96b A0_2 l0_2.length c0_2 l0_2 _ a1 w0 HL.out B2.out)
  obtain ⟨q, hq⟩ : ∃ q, q = at65 l0_2 a1 := ⟨_, rfl⟩
  rw [show ixOf (fun x => x.f0.toList == a1.toList) l0_2 = q from hq.symm] at HI
  rw [← hq] at HR hg
  clear hq
  go_wp2_with (go_at_call 96; refine HI.out.mono ?_; rintro e w' ⟨rfl, hb⟩)
  all_goals
    go_ret2
    refine ⟨?_, below_step HB.out hb⟩
    have he := HR.out
    simp only [Prod.mk.injEq] at he
    obtain ⟨rfl, rfl⟩ := he
    first | (rw [Int.max_eq_left (by omega)]; rfl) | (rw [Int.max_eq_right (by omega)]; rfl)
end Go.Proofs.Ytkopbaikmlajmaa.Q
