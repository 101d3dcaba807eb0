import Derived.Test.YtkopbaikmlajmaaZ
import Derived.Test.YtkopbaikmlajmaaSA
import Derived.Test.YtkopbaikmlajmaaF70
namespace Go.Proofs.Ytkopbaikmlajmaa.Q
open Go.RowKit Go.Proofs.YtkopbaikmlajmaaW.PrintWords Go.Proofs.YtkopbaikmlajmaaW.PrintLast Go.Proofs.YtkopbaikmlajmaaW.PrintMore
set_option linter.unusedVariables false
set_option linter.unusedSimpArgs false

theorem Z135 {P : Prop} (h : P := by rw [HQ1.out]; simp) : P := h
theorem Z93 {P : Prop} (h : P := by rw [checkE_cols HQ.out HL.out (by rw [firstE_hit _ _ k hlt HA.out (by rw [hE]; decide), hE]) (by decide)]; rfl) : P := h
theorem Z86 {P : Prop} (h : P := by rw [checkE_cols HQ.out HL.out (by rw [firstE_hit _ _ k hlt HA.out (by rw [hE.out]; decide), hE.out]) (by decide)]; rfl) : P := h
theorem Z72 {P : Prop} (h : P := by rw [checkE_idx HQ.out HL.out HF.out HX.out (by rw [firstE_hit _ _ k hlt HA.out (by rw [hE]; decide), hE]) (by decide)]; rfl) : P := h
theorem Z71 {P : Prop} (h : P := by rw [checkE_idx HQ.out HL.out HF.out HX.out (by rw [firstE_hit _ _ k hlt HA.out (by rw [hE.out]; decide), hE.out]) (by decide)]; rfl) : P := h
theorem Z69 {P : Prop} (h : P := by rw [checkE_chk HQ.out HL.out HF.out HX.out HG.out HY.out (by rw [firstE_hit _ _ k hlt HA.out (by rw [hE.out]; decide), hE.out])]; rfl) : P := h
theorem checkE_cols {nm : ByteArray} {cs : List S56} {xs : List S65} {ks : List S42} {e : Int} (h1 : nameB nm = true) (h2 : ¬ (cs.length = 0 ∨ 8 < cs.length)) (h3 : firstE (colE cs) cs.length = e) (h4 : e ≠ 0) : checkE nm cs xs ks = e := by
 unfold checkE
 rw [if_neg Z136, if_neg h2, if_pos (by rw [h3]; exact h4), h3]
theorem checkE_idx2 {nm : ByteArray} {cs : List S56} {xs : List S65} {ks : List S42} (h1 : nameB nm = true) (h2 : ¬ (cs.length = 0 ∨ 8 < cs.length)) (h3 : firstE (colE cs) cs.length = 0) (h4 : 4 < xs.length) : checkE nm cs xs ks = 2 := by
 unfold checkE
 rw [if_neg Z136, if_neg h2, if_neg (by rw [h3]; simp), if_pos h4]
theorem checkE_idx {nm : ByteArray} {cs : List S56} {xs : List S65} {ks : List S42} {e : Int} (h1 : nameB nm = true) (h2 : ¬ (cs.length = 0 ∨ 8 < cs.length)) (h3 : firstE (colE cs) cs.length = 0) (h4 : ¬ 4 < xs.length) (h5 : firstE (idxE xs cs.length) xs.length = e) (h6 : e ≠ 0) : checkE nm cs xs ks = e := by
 unfold checkE
 rw [if_neg Z136, if_neg h2, if_neg (by rw [h3]; simp), if_neg h4, if_pos (by rw [h5]; exact h6), h5]
theorem checkE_chk2 {nm : ByteArray} {cs : List S56} {xs : List S65} {ks : List S42} (h1 : nameB nm = true) (h2 : ¬ (cs.length = 0 ∨ 8 < cs.length)) (h3 : firstE (colE cs) cs.length = 0) (h4 : ¬ 4 < xs.length) (h5 : firstE (idxE xs cs.length) xs.length = 0) (h6 : 4 < ks.length) : checkE nm cs xs ks = 2 := by
 unfold checkE
 rw [if_neg Z136, if_neg h2, if_neg (by rw [h3]; simp), if_neg h4, if_neg (by rw [h5]; simp), if_pos h6]
theorem checkE_chk {nm : ByteArray} {cs : List S56} {xs : List S65} {ks : List S42} {e : Int} (h1 : nameB nm = true) (h2 : ¬ (cs.length = 0 ∨ 8 < cs.length)) (h3 : firstE (colE cs) cs.length = 0) (h4 : ¬ 4 < xs.length) (h5 : firstE (idxE xs cs.length) xs.length = 0) (h6 : ¬ 4 < ks.length) (h7 : firstE (chkE ks cs) ks.length = e) : checkE nm cs xs ks = e := by
 unfold checkE
 rw [if_neg Z136, if_neg h2, if_neg (by rw [h3]; simp), if_neg h4, if_neg (by rw [h5]; simp), if_neg h6, h7]
theorem repC_eq (cs : List S56) (k : Nat) (hk : k < cs.length) : schema_repeated_Column.f cs k () = some (dupC cs k) := by
 unfold schema_repeated_Column.f dupC
 rw [if_pos (by omega), Int.toNat_natCast]
theorem repI_eq (cs : List S65) (k : Nat) (hk : k < cs.length) : schema_repeated_Index.f cs k () = some (dupI cs k) := by
 unfold schema_repeated_Index.f dupI
 rw [if_pos (by omega), Int.toNat_natCast]
set_option maxHeartbeats 2000000 in
set_option maxRecDepth 100000 in
theorem c26 (nm : ByteArray) (A1 : Option Addr) (c1 : Nat) (cs : List S56) (A2 : Option Addr) (c2 : Nat) (xs : List S65) (A3 : Option Addr) (c3 : Nat) (ks : List S42) (w : World) (hr1 : Kd.C k56 w A1 cs.length cs) (hc1 : cs.length ≤ c1) (hr2 : Kd.C k65 w A2 xs.length xs) (hc2 : xs.length ≤ c2) (hr3 : Kd.C k42 w A3 ks.length ks) (hc3 : ks.length ≤ c3) :
  Calls Try.prog 26 #[.agg #[.string nm, .slice A1 cs.length c1, .slice A2 xs.length c2, .slice A3 ks.length c3]] w fun e w' => e = .returned (.int .i64 (checkE nm cs xs ks)) ∧ Below w.heap.size w w' := by
 have hu28 := Try.underlying28
 have hu56 := Try.underlying56
 have hu65 := Try.underlying65
 have hu42 := Try.underlying42
 have hu40 := Try.underlying40
 have m1 : cs.length ≤ 9223372036854775807 := hr1.2.1
 have m2 : xs.length ≤ 9223372036854775807 := hr2.2.1
 have m3 : ks.length ≤ 9223372036854775807 := hr3.2.1
 have R1 := Aside0.mk hr1
 have R2 := Aside0.mk hr2
 have R3 := Aside0.mk hr3
 have C1 := Aside0.mk hc1
 have C2 := Aside0.mk hc2
 have C3 := Aside0.mk hc3
 clear hr1 hr2 hr3 hc1 hc2 hc3
 go_enter Try.func26, Try.ntmps26
 go_wp2_with fail
 obtain ⟨w0, hw0⟩ : ∃ w0, w0 = w.alloc (.cells #[.string nm, .slice A1 cs.length c1, .slice A2 xs.length c2, .slice A3 ks.length c3] 28) := ⟨_, rfl⟩
 have HB0 : Aside0 (Below w.heap.size w w0) := ⟨hw0 ▸ below_al w _⟩
 have b1 : w0.cell? ⟨w.heap.size, 1, none⟩ = some (.slice A1 cs.length c1) := by rw [hw0]; simp [go_sem]
 have b2 : w0.cell? ⟨w.heap.size, 2, none⟩ = some (.slice A2 xs.length c2) := by rw [hw0]; simp [go_sem]
 have b3 : w0.cell? ⟨w.heap.size, 3, none⟩ = some (.slice A3 ks.length c3) := by rw [hw0]; simp [go_sem]
 rw [← hw0]
 have B1 := Aside0.mk b1
 have B2 := Aside0.mk b2
 have B3 := Aside0.mk b3
 replace R1 := Aside0.mk (Kd.C_below R1.out HB0.out)
 replace R2 := Aside0.mk (Kd.C_below R2.out HB0.out)
 replace R3 := Aside0.mk (Kd.C_below R3.out HB0.out)
 clear hw0 b1 b2 b3
 generalize hB : w.heap.size = B at *
 cases hq : nameB nm with
 | false =>
  have HQ := Aside0.mk hq
  clear hq
  refine (c23 nm _).mono ?_
  rw [HQ.out]
  rintro e wa ⟨rfl, hb⟩
  go_wp2_with fail
  go_ret
  exact ⟨by unfold checkE; rw [if_pos HQ.out]; rfl, hB ▸ below_step (hB.symm ▸ HB0.out) hb⟩
 | true =>
 have HQ := Aside0.mk hq
 clear hq
 refine (c23 nm _).mono ?_
 rw [HQ.out]
 rintro e wa ⟨rfl, hb⟩
 have b1 := keep hb B1.out
 have HBa := Aside0.mk hb
 clear hb
 by_cases hlen : cs.length = 0 ∨ 8 < cs.length
 ·have HL := Aside0.mk hlen
  rcases hlen with h | h
  ·have h0 : ((cs.length : Int) == 0) = true := beq_iff_eq.2 (by omega)
   go_wp2_with fail
   go_ret
   exact ⟨by unfold checkE; rw [if_neg (by rw [HQ.out]; simp), if_pos HL.out]; rfl, hB ▸ below_step (hB.symm ▸ HB0.out) HBa.out⟩
  have h0 : ((cs.length : Int) == 0) = false := beq_eq_false_iff_ne.2 (by omega)
  have h8 : decide ((8 : Int) < (cs.length : Int)) = true := by simp; omega
  have h9 : decide (8 < cs.length) = true := by simp; omega
  go_wp2_with fail
  go_ret
  exact ⟨by unfold checkE; rw [if_neg (by rw [HQ.out]; simp), if_pos HL.out]; rfl, hB ▸ below_step (hB.symm ▸ HB0.out) HBa.out⟩
 have HL := Aside0.mk hlen
 have h0 : ((cs.length : Int) == 0) = false := beq_eq_false_iff_ne.2 (by omega)
 have h8 : decide ((8 : Int) < (cs.length : Int)) = false := by simp; omega
 have h9 : decide (8 < cs.length) = false := by simp; omega
 clear hlen
 go_wp2_with fail
 clear h0 h8 h9
 trace "here"
 go_loopw [28] (fun v wr => ∃ k : Nat, k ≤ cs.length ∧ v = .int .i64 k ∧ Aside0 (∀ j, j < k → colE cs j = 0) ∧ Aside0 (Below w0.heap.size w0 wr)) (fun v _ => cs.length - (intOf v).toNat)
 case atStart => exact ⟨0, Nat.zero_le _, rfl, ⟨fun j hj => by omega⟩, ⟨HBa.out⟩⟩
 case round =>
  obtain ⟨k, hk, rfl, HA, HB⟩ := hrel
  by_cases hlt : k < cs.length
  ·obtain ⟨ad, rfl, hc0, hc1, hc2⟩ := at_T56 R1.out (k : Int) (by omega) (by omega)
   simp only [Int.toNat_natCast] at hc0 hc1 hc2
   replace hc0 := keep HB.out hc0
   replace hc1 := keep HB.out hc1
   replace hc2 := keep HB.out hc2
   go_wp2_with fail
   clear hc0 hc1 hc2
   obtain ⟨w1, hw1⟩ : ∃ w1, w1 = wr.alloc (.cells #[.string (rd_T56 cs k).f0, .int .i64 (rd_T56 cs k).f1, .bool (rd_T56 cs k).f2] 56) := ⟨_, rfl⟩
   have hb1 : Below wr.heap.size wr w1 := hw1 ▸ below_al wr _
   have e1 : w1.cell? ⟨wr.heap.size, 1, none⟩ = some (.int .i64 (rd_T56 cs k).f1) := by rw [hw1]; simp [go_sem]
   rw [← hw1]
   have E1 := Aside0.mk e1
   have HB1 := Aside0.mk (below_step HB.out hb1)
   clear hw1 hb1 e1
   cases hq : nameB (rd_T56 cs k).f0 with
   | false =>
    have HQ1 := Aside0.mk hq
    clear hq
    refine (c23 _ _).mono ?_
    rw [HQ1.out]
    rintro e wb ⟨rfl, hb⟩
    go_wp2_with fail
    go_ret
    have hE : colE cs k = 5 := by unfold colE; rw [if_pos HQ1.out]
    exact ⟨Z93, hB ▸ below_step (hB.symm ▸ HB0.out) (below_step HB1.out hb)⟩
   | true =>
   have HQ1 := Aside0.mk hq
   clear hq
   refine (c23 _ _).mono ?_
   rw [HQ1.out]
   rintro e wb ⟨rfl, hb⟩
   have HB2 := Aside0.mk (below_step HB1.out hb)
   replace E1 := Aside0.mk (keep hb E1.out)
   clear hb
   have b1 := keep HB2.out B1.out
   go_wp2_with fail
   cases hd : dupC cs k with
   | true =>
    have HD := Aside0.mk hd
    clear hd
    refine (schema_repeated_Column.calls (some ad) c1 cs k () true _ (Kd.C_below R1.out HB2.out) C1.out (by rw [repC_eq cs k hlt, HD.out])).mono ?_
    rintro e wc ⟨rfl, hb⟩
    go_wp2_with fail
    go_ret
    have hE : colE cs k = 6 := by unfold colE; rw [if_neg Z135, if_pos HD.out]
    exact ⟨Z93, hB ▸ below_step (hB.symm ▸ HB0.out) (below_step HB2.out hb)⟩
   | false =>
   have HD := Aside0.mk hd
   clear hd
   refine (schema_repeated_Column.calls (some ad) c1 cs k () false _ (Kd.C_below R1.out HB2.out) C1.out (by rw [repC_eq cs k hlt, HD.out])).mono ?_
   rintro e wc ⟨rfl, hb⟩
   have HB3 := Aside0.mk (below_step HB2.out hb)
   have e1 := keep hb E1.out
   clear hb b1
   by_cases hkd : (rd_T56 cs k).f1 < 1 ∨ 3 < (rd_T56 cs k).f1
   ·have hE : Aside0 (colE cs k = 7) := ⟨by unfold colE; rw [if_neg Z135, if_neg (by rw [HD.out]; simp), if_pos hkd]⟩
    rcases hkd with h | h
    ·have h1 : decide ((rd_T56 cs k).f1 < 1) = true := decide_eq_true h
     go_wp2_with fail
     go_ret
     exact ⟨Z86, hB ▸ below_step (hB.symm ▸ HB0.out) HB3.out⟩
    have h1 : decide ((rd_T56 cs k).f1 < 1) = false := decide_eq_false (by omega)
    have h2 : decide (3 < (rd_T56 cs k).f1) = true := decide_eq_true h
    go_wp2_with fail
    go_ret
    exact ⟨Z86, hB ▸ below_step (hB.symm ▸ HB0.out) HB3.out⟩
   have hE : Aside0 (colE cs k = 0) := ⟨by unfold colE; rw [if_neg Z135, if_neg (by rw [HD.out]; simp), if_neg hkd]⟩
   have h1 : decide ((rd_T56 cs k).f1 < 1) = false := decide_eq_false (by omega)
   have h2 : decide (3 < (rd_T56 cs k).f1) = false := decide_eq_false (by omega)
   clear hkd
   go_wp2_with fail
   go_roundw
   case rel => exact ⟨k + 1, by omega, by go_num, ⟨fun j hj => (Nat.lt_succ_iff_lt_or_eq.1 hj).elim (HA.out j) (fun e => e ▸ hE.out)⟩, ⟨HB3.out⟩⟩
   case measure => simp [intOf]; omega
  obtain rfl : k = cs.length := by omega
  have b2 := keep HB.out B2.out
  have HF := Aside0.mk (firstE_none (colE cs) cs.length HA.out)
  have HBa := HB
  clear HB HA hk hlt
  by_cases hx : 4 < xs.length
  ·have h1 : decide ((4 : Int) < (xs.length : Int)) = true := decide_eq_true (by omega)
   have h2 : decide (4 < xs.length) = true := decide_eq_true (by omega)
   have HX := Aside0.mk hx
   clear hx
   go_wp2_with fail
   go_ret
   exact ⟨by rw [checkE_idx2 HQ.out HL.out HF.out HX.out]; rfl, hB ▸ below_step (hB.symm ▸ HB0.out) HBa.out⟩
  have h1 : decide ((4 : Int) < (xs.length : Int)) = false := decide_eq_false (by omega)
  have h2 : decide (4 < xs.length) = false := decide_eq_false (by omega)
  have HX := Aside0.mk hx
  clear hx
  go_wp2_with fail
  clear h1 h2 b2
  go_loopw [60] (fun v wr => ∃ k : Nat, k ≤ xs.length ∧ v = .int .i64 k ∧ Aside0 (∀ j, j < k → idxE xs cs.length j = 0) ∧ Aside0 (Below w0.heap.size w0 wr)) (fun v _ => xs.length - (intOf v).toNat)
  case atStart => exact ⟨0, Nat.zero_le _, rfl, ⟨fun j hj => by omega⟩, ⟨HBa.out⟩⟩
  case round =>
   clear HBa
   obtain ⟨k, hk, rfl, HA, HB⟩ := hrel
   by_cases hlt : k < xs.length
   ·obtain ⟨ad, Ax, cx, rfl, hc0, hc1, hc2, hcx, hrx⟩ := at_T65 R2.out (k : Int) (by omega) (by omega)
    simp only [Int.toNat_natCast] at hc0 hc1 hc2
    replace hc0 := keep HB.out hc0
    replace hc1 := keep HB.out hc1
    replace hc2 := keep HB.out hc2
    have HRX := Aside0.mk hrx
    have HCX := Aside0.mk hcx
    clear hrx hcx
    go_wp2_with fail
    clear hc0 hc1 hc2
    obtain ⟨w1, hw1⟩ : ∃ w1, w1 = wr.alloc (.cells #[.string (rd_T65 xs k).f0, .slice Ax (rd_T65 xs k).f1.length cx, .bool (rd_T65 xs k).f2] 65) := ⟨_, rfl⟩
    have hb1 : Below wr.heap.size wr w1 := hw1 ▸ below_al wr _
    have e1 : w1.cell? ⟨wr.heap.size, 1, none⟩ = some (.slice Ax (rd_T65 xs k).f1.length cx) := by rw [hw1]; simp [go_sem]
    rw [← hw1]
    have E1 := Aside0.mk e1
    have HB1 := Aside0.mk (below_step HB.out hb1)
    clear hw1 hb1 e1
    cases hq : nameB (rd_T65 xs k).f0 with
    | false =>
     have HQ1 := Aside0.mk hq
     clear hq
     refine (c23 _ _).mono ?_
     rw [HQ1.out]
     rintro e wb ⟨rfl, hb⟩
     go_wp2_with fail
     go_ret
     have hE : idxE xs cs.length k = 5 := by unfold idxE; rw [if_pos HQ1.out]
     exact ⟨Z72, hB ▸ below_step (hB.symm ▸ HB0.out) (below_step HB1.out hb)⟩
    | true =>
    have HQ1 := Aside0.mk hq
    clear hq
    refine (c23 _ _).mono ?_
    rw [HQ1.out]
    rintro e wb ⟨rfl, hb⟩
    have HB2 := Aside0.mk (below_step HB1.out hb)
    replace E1 := Aside0.mk (keep hb E1.out)
    clear hb
    have b2 := keep HB2.out B2.out
    go_wp2_with fail
    cases hd : dupI xs k with
    | true =>
     have HD := Aside0.mk hd
     clear hd
     refine (schema_repeated_Index.calls (some ad) c2 xs k () true _ (Kd.C_below R2.out HB2.out) C2.out (by rw [repI_eq xs k hlt, HD.out])).mono ?_
     rintro e wc ⟨rfl, hb⟩
     go_wp2_with fail
     go_ret
     have hE : idxE xs cs.length k = 6 := by unfold idxE; rw [if_neg Z135, if_pos HD.out]
     exact ⟨Z72, hB ▸ below_step (hB.symm ▸ HB0.out) (below_step HB2.out hb)⟩
    | false =>
    have HD := Aside0.mk hd
    clear hd
    refine (schema_repeated_Index.calls (some ad) c2 xs k () false _ (Kd.C_below R2.out HB2.out) C2.out (by rw [repI_eq xs k hlt, HD.out])).mono ?_
    rintro e wc ⟨rfl, hb⟩
    have HB3 := Aside0.mk (below_step HB2.out hb)
    have e1 := keep hb E1.out
    clear hb b2 E1
    have E1 := Aside0.mk e1
    have b1 := keep HB3.out B1.out
    have mx : (rd_T65 xs k).f1.length ≤ 9223372036854775807 := HRX.out.2.1
    by_cases hkd : (rd_T65 xs k).f1.length = 0 ∨ cs.length < (rd_T65 xs k).f1.length
    ·have hE : Aside0 (idxE xs cs.length k = 1) := ⟨by unfold idxE; rw [if_neg Z135, if_neg (by rw [HD.out]; simp), if_pos hkd]⟩
     rcases hkd with h | h
     ·have h1 : (((rd_T65 xs k).f1.length : Int) == 0) = true := beq_iff_eq.2 (by omega)
      go_wp2_with fail
      go_ret
      exact ⟨Z71, hB ▸ below_step (hB.symm ▸ HB0.out) HB3.out⟩
     have h1 : (((rd_T65 xs k).f1.length : Int) == 0) = false := beq_eq_false_iff_ne.2 (by omega)
     have h2 : decide (cs.length < (rd_T65 xs k).f1.length) = true := decide_eq_true h
     have h3 : decide ((cs.length : Int) < ((rd_T65 xs k).f1.length : Int)) = true := decide_eq_true (by omega)
     go_wp2_with fail
     go_ret
     exact ⟨Z71, hB ▸ below_step (hB.symm ▸ HB0.out) HB3.out⟩
    have h1 : (((rd_T65 xs k).f1.length : Int) == 0) = false := beq_eq_false_iff_ne.2 (by omega)
    have h2 : decide (cs.length < (rd_T65 xs k).f1.length) = false := decide_eq_false (by omega)
    have h3 : decide ((cs.length : Int) < ((rd_T65 xs k).f1.length : Int)) = false := decide_eq_false (by omega)
    have HK := Aside0.mk hkd
    clear hkd
    go_wp2_with fail
    clear h1 h2 h3 b1 e1
    go_loopw [92] (fun v wq => ∃ j : Nat, j ≤ (rd_T65 xs k).f1.length ∧ v = .int .i64 j ∧ Aside0 (∀ i, i < j → badP (rd_T65 xs k).f1 cs.length i = false) ∧ Aside0 (Below wc.heap.size wc wq)) (fun v _ => (rd_T65 xs k).f1.length - (intOf v).toNat)
    case atStart => exact ⟨0, Nat.zero_le _, rfl, ⟨fun j hj => by omega⟩, ⟨Below.refl _ _⟩⟩
    case round =>
     obtain ⟨j, hj, rfl, HAj, HBj⟩ := hrel
     have HB4 := Aside0.mk (below_step HB3.out HBj.out)
     by_cases hjl : j < (rd_T65 xs k).f1.length
     rotate_left
     ·obtain rfl : j = (rd_T65 xs k).f1.length := by omega
      have hE : Aside0 (idxE xs cs.length k = 0) := ⟨by unfold idxE; rw [if_neg Z135, if_neg (by rw [HD.out]; simp), if_neg HK.out, if_neg]; rw [Bool.not_eq_true, List.any_eq_false]; exact fun i hi => by rw [HAj.out i (List.mem_range.1 hi)]; simp⟩
      go_wp2_with fail
      go_roundw
      case rel => exact ⟨k + 1, by omega, by go_num, ⟨fun j hj => (Nat.lt_succ_iff_lt_or_eq.1 hj).elim (HA.out j) (fun e => e ▸ hE.out)⟩, ⟨HB4.out⟩⟩
      case measure => simp [intOf]; omega
     obtain ⟨ax, rfl, hx0⟩ := Kd.at_int HRX.out (j : Int) (by omega) (by omega)
     simp only [Int.toNat_natCast] at hx0
     replace hx0 := keep HB4.out hx0
     have b1 := keep HB4.out B1.out
     have e1 := keep HBj.out E1.out
     have hB' : ∀ (b : Bool), badP (rd_T65 xs k).f1 cs.length j = b → Aside0 (badP (rd_T65 xs k).f1 cs.length j = b) := fun b h => ⟨h⟩
     have bE : ∀ (_ : badP (rd_T65 xs k).f1 cs.length j = true), idxE xs cs.length k = 1 := fun h => by
      unfold idxE
      rw [if_neg Z135, if_neg (by rw [HD.out]; simp), if_neg HK.out, if_pos]
      rw [List.any_eq_true]
      exact ⟨j, List.mem_range.2 hjl, h⟩
     have BE := Aside0.mk bE
     clear bE hB'
     by_cases g1 : rd (rd_T65 xs k).f1 j < 0
     ·have h1 : decide (rd (rd_T65 xs k).f1 j < 0) = true := decide_eq_true g1
      have hE : Aside0 (idxE xs cs.length k = 1) := ⟨BE.out (by unfold badP; rw [h1]; rfl)⟩
      go_wp2_with fail
      go_ret
      exact ⟨Z71, hB ▸ below_step (hB.symm ▸ HB0.out) HB4.out⟩
     have h1 : decide (rd (rd_T65 xs k).f1 j < 0) = false := decide_eq_false g1
     by_cases g2 : (cs.length : Int) ≤ rd (rd_T65 xs k).f1 j
     ·have h2 : decide ((cs.length : Int) ≤ rd (rd_T65 xs k).f1 j) = true := decide_eq_true g2
      have hE : Aside0 (idxE xs cs.length k = 1) := ⟨BE.out (by unfold badP; rw [h2]; simp)⟩
      go_wp2_with fail
      go_ret
      exact ⟨Z71, hB ▸ below_step (hB.symm ▸ HB0.out) HB4.out⟩
     have h2 : decide ((cs.length : Int) ≤ rd (rd_T65 xs k).f1 j) = false := decide_eq_false g2
     have HT : Aside0 (∀ w, Below w0.heap.size w0 w → Calls Try.prog 74 #[.slice (some ax) j cx, .int .i64 (rd (rd_T65 xs k).f1 j)] w fun e w' => e = .returned (.bool (((rd_T65 xs k).f1.take j).contains (rd (rd_T65 xs k).f1 j))) ∧ Drawn0 w w') := ⟨fun w hw => by
      have := Kd.C_take (Kd.C_below HRX.out hw) (m := j) (by omega)
      have hl : ((rd_T65 xs k).f1.take j).length = j := by simp; omega
      have h := c74 (some ax) cx _ (rd (rd_T65 xs k).f1 j) w this (by have := HCX.out; omega)
      rw [hl] at h
      exact h⟩
     have hjc : j ≤ cx := by have := HCX.out; omega
     cases g3 : ((rd_T65 xs k).f1.take j).contains (rd (rd_T65 xs k).f1 j) with
     | true =>
      have hE : Aside0 (idxE xs cs.length k = 1) := ⟨BE.out (by unfold badP; rw [g3]; simp)⟩
      have G3 := Aside0.mk g3
      clear g3
      go_wp2_with (go_at_call 74; refine (HT.out _ HB4.out).mono ?_; rw [G3.out]; rintro e w' ⟨rfl, ⟨nd, rfl⟩⟩)
      go_ret
      exact ⟨Z71, hB ▸ below_step (hB.symm ▸ HB0.out) (pw_below_drewN HB4.out _)⟩
     | false =>
      have hE : Aside0 (badP (rd_T65 xs k).f1 cs.length j = false) := ⟨by unfold badP; rw [g3, h1, h2]; rfl⟩
      have G3 := Aside0.mk g3
      clear g3
      go_wp2_with (go_at_call 74; refine (HT.out _ HB4.out).mono ?_; rw [G3.out]; rintro e w' ⟨rfl, ⟨nd, rfl⟩⟩)
      go_roundw
      case rel => exact ⟨j + 1, by omega, by go_num, ⟨fun i hi => (Nat.lt_succ_iff_lt_or_eq.1 hi).elim (HAj.out i) (fun e => e ▸ hE.out)⟩, ⟨pw_below_drewN HBj.out _⟩⟩
      case measure => simp [intOf]; omega
   obtain rfl : k = xs.length := by omega
   have b3 := keep HB.out B3.out
   have HG := Aside0.mk (firstE_none (idxE xs cs.length) xs.length HA.out)
   have HBa := HB
   clear HB HA hk hlt
   by_cases hy : 4 < ks.length
   ·have h1 : decide ((4 : Int) < (ks.length : Int)) = true := decide_eq_true (by omega)
    have h2 : decide (4 < ks.length) = true := decide_eq_true (by omega)
    have HY := Aside0.mk hy
    clear hy
    go_wp2_with fail
    go_ret
    exact ⟨by rw [checkE_chk2 HQ.out HL.out HF.out HX.out HG.out HY.out]; rfl, hB ▸ below_step (hB.symm ▸ HB0.out) HBa.out⟩
   have h1 : decide ((4 : Int) < (ks.length : Int)) = false := decide_eq_false (by omega)
   have h2 : decide (4 < ks.length) = false := decide_eq_false (by omega)
   have HY := Aside0.mk hy
   clear hy
   go_wp2_with fail
   clear h1 h2 b3
   go_loopw [123] (fun v wr => ∃ k : Nat, k ≤ ks.length ∧ v = .int .i64 k ∧ Aside0 (∀ j, j < k → chkE ks cs j = 0) ∧ Aside0 (Below w0.heap.size w0 wr)) (fun v _ => ks.length - (intOf v).toNat)
   case atStart => exact ⟨0, Nat.zero_le _, rfl, ⟨fun j hj => by omega⟩, ⟨HBa.out⟩⟩
   case round =>
    clear HBa
    obtain ⟨k, hk, rfl, HA, HB⟩ := hrel
    by_cases hlt : k < ks.length
    rotate_left
    ·obtain rfl : k = ks.length := by omega
     have HZ := Aside0.mk (firstE_none (chkE ks cs) ks.length HA.out)
     go_wp2_with fail
     go_ret
     exact ⟨by rw [checkE_chk HQ.out HL.out HF.out HX.out HG.out HY.out HZ.out]; rfl, hB ▸ below_step (hB.symm ▸ HB0.out) HB.out⟩
    obtain ⟨ad, rfl, hc0, hc1, hc2, hc3, hc4⟩ := at_T42 R3.out (k : Int) (by omega) (by omega)
    simp only [Int.toNat_natCast] at hc0 hc1 hc2 hc3 hc4
    replace hc0 := keep HB.out hc0
    replace hc1 := keep HB.out hc1
    replace hc2 := keep HB.out hc2
    replace hc3 := keep HB.out hc3
    replace hc4 := keep HB.out hc4
    have b1 := fun o => keep_al (keep HB.out B1.out) o
    by_cases hbad : (rd_T42 ks k).f0 < 0 ∨ (cs.length : Int) ≤ (rd_T42 ks k).f0 ∨ (rd_T42 ks k).f1 < 6 ∨ 11 < (rd_T42 ks k).f1
    ·have hE : Aside0 (chkE ks cs k = 1) := ⟨by unfold chkE; rw [if_pos hbad]⟩
     by_cases g1 : (rd_T42 ks k).f0 < 0
     ·have h1 : decide ((rd_T42 ks k).f0 < 0) = true := decide_eq_true g1
      clear hbad
      go_wp2_with fail
      go_ret
      exact ⟨Z69, hB ▸ below_step (hB.symm ▸ HB0.out) (below_alloc HB.out _)⟩
     have h1 : decide ((rd_T42 ks k).f0 < 0) = false := decide_eq_false g1
     by_cases g2 : (cs.length : Int) ≤ (rd_T42 ks k).f0
     ·have h2 : decide ((cs.length : Int) ≤ (rd_T42 ks k).f0) = true := decide_eq_true g2
      clear hbad
      go_wp2_with fail
      go_ret
      exact ⟨Z69, hB ▸ below_step (hB.symm ▸ HB0.out) (below_alloc HB.out _)⟩
     have h2 : decide ((cs.length : Int) ≤ (rd_T42 ks k).f0) = false := decide_eq_false g2
     by_cases g3 : (rd_T42 ks k).f1 < 6
     ·have h3 : decide ((rd_T42 ks k).f1 < 6) = true := decide_eq_true g3
      clear hbad
      go_wp2_with fail
      go_ret
      exact ⟨Z69, hB ▸ below_step (hB.symm ▸ HB0.out) (below_alloc HB.out _)⟩
     have h3 : decide ((rd_T42 ks k).f1 < 6) = false := decide_eq_false g3
     have g4 : 11 < (rd_T42 ks k).f1 := by omega
     have h4 : decide (11 < (rd_T42 ks k).f1) = true := decide_eq_true g4
     clear hbad
     go_wp2_with fail
     go_ret
     exact ⟨Z69, hB ▸ below_step (hB.symm ▸ HB0.out) (below_alloc HB.out _)⟩
    have h1 : decide ((rd_T42 ks k).f0 < 0) = false := decide_eq_false (by omega)
    have h2 : decide ((cs.length : Int) ≤ (rd_T42 ks k).f0) = false := decide_eq_false (by omega)
    have h3 : decide ((rd_T42 ks k).f1 < 6) = false := decide_eq_false (by omega)
    have h4 : decide (11 < (rd_T42 ks k).f1) = false := decide_eq_false (by omega)
    have hp0 : 0 ≤ (rd_T42 ks k).f0 := by omega
    have hp1 : (rd_T42 ks k).f0 < (cs.length : Int) := by omega
    have HNB := Aside0.mk hbad
    clear hbad
    go_wp2_with fail
    clear hc0 hc1 hc2 hc3 hc4 h1 h2 h3 h4 b1
    obtain ⟨w1, hw1⟩ : ∃ w1, w1 = wr.alloc (.cells #[.int .i64 (rd_T42 ks k).f0, .int .i64 (rd_T42 ks k).f1, .int .i64 (rd_T42 ks k).f2.f0, .int .i64 (rd_T42 ks k).f2.f1, .string (rd_T42 ks k).f2.f2] 42) := ⟨_, rfl⟩
    have hb1 : Below wr.heap.size wr w1 := hw1 ▸ below_al wr _
    have e0 : w1.cell? ⟨wr.heap.size, 0, none⟩ = some (.int .i64 (rd_T42 ks k).f0) := by rw [hw1]; simp [go_sem]
    have e2 : w1.cell? ⟨wr.heap.size, 2, none⟩ = some (.int .i64 (rd_T42 ks k).f2.f0) := by rw [hw1]; simp [go_sem]
    have e3 : w1.cell? ⟨wr.heap.size, 3, none⟩ = some (.int .i64 (rd_T42 ks k).f2.f1) := by rw [hw1]; simp [go_sem]
    have e4 : w1.cell? ⟨wr.heap.size, 4, none⟩ = some (.string (rd_T42 ks k).f2.f2) := by rw [hw1]; simp [go_sem]
    rw [← hw1]
    have HB1 := Aside0.mk (below_step HB.out hb1)
    clear hw1 hb1
    have b1 := keep HB1.out B1.out
    obtain ⟨ac, rfl, hd0, hd1, hd2⟩ := at_T56 R1.out (rd_T42 ks k).f0 hp0 hp1
    replace hd1 := keep HB1.out hd1
    clear hd0 hd2
    refine region_mid 5 (by kernel_rfl) (by kernel_rfl) ?_
    rintro w2 hw2 KK hKK
    simp only [List.drop_succ_cons, List.drop_zero] at hKK
    have HKK := Aside0.mk hKK
    clear hKK
    have hb2 : Below w1.heap.size w1 w2 := hw2 ▸ below_dr w1
    have E0 := Aside0.mk (keep hb2 e0)
    replace e2 := keep hb2 e2
    replace e3 := keep hb2 e3
    replace e4 := keep hb2 e4
    have E2 := Aside0.mk e2
    have BB := Aside0.mk (keep hb2 b1)
    have D1 := Aside0.mk (keep hb2 hd1)
    have HB2 := Aside0.mk (below_step HB1.out hb2)
    clear hw2 hb2 b1 hd1 e0
    simp only [List.take_succ_cons, List.take_zero, List.drop_succ_cons, List.drop_zero]
    cases hv : validB (rd_T42 ks k).f2 with
    | false =>
     have HV := Aside0.mk hv
     clear hv
     go_wp2_with (go_at_call 75; refine (c75 (rd_T42 ks k).f2 _).mono ?_; rw [HV.out]; rintro e w3 ⟨rfl, hb⟩)
     with_reducible refine HKK.out _ _ ?_
     iterate 12 (with_reducible refine wpStill_step (fun K hK => ?_); go_simp; with_reducible refine hK _ ?_; clear hK K)
     with_reducible refine wpStill_nil ?_
     go_wp2_with fail
     go_ret
     have hE : chkE ks cs k = 7 := by unfold chkE; rw [if_neg HNB.out, if_pos (Or.inl HV.out)]
     exact ⟨by rw [checkE_chk HQ.out HL.out HF.out HX.out HG.out HY.out (by rw [firstE_hit _ _ k hlt HA.out (by rw [hE]; decide), hE])]; rfl, hB ▸ below_step (hB.symm ▸ HB0.out) (below_step HB2.out hb)⟩
    | true =>
     have HV := Aside0.mk hv
     clear hv
     by_cases hk7 : (rd_T42 ks k).f2.f0 = (rd_T56 cs (rd_T42 ks k).f0).f1
     ·have k1 : ((rd_T42 ks k).f2.f0 != (rd_T56 cs (rd_T42 ks k).f0).f1) = false := bne_eq_false_iff_eq.2 hk7
      have hE : Aside0 (chkE ks cs k = 0) := ⟨by unfold chkE; rw [if_neg HNB.out, if_neg (by rw [HV.out]; simp [hk7])]⟩
      clear hk7
      go_wp2_with (go_at_call 75; refine (c75 (rd_T42 ks k).f2 _).mono ?_; rw [HV.out]; rintro e w3 ⟨rfl, hb⟩)
      have f0 := keep hb E0.out
      have f2 := keep hb E2.out
      have fb := keep hb BB.out
      have fd := keep hb D1.out
      have HB3 := Aside0.mk (below_step HB2.out hb)
      clear hb
      with_reducible refine HKK.out _ _ ?_
      iterate 12 (with_reducible refine wpStill_step (fun K hK => ?_); go_simp; with_reducible refine hK _ ?_; clear hK K)
      with_reducible refine wpStill_nil ?_
      go_wp2_with fail
      go_roundw
      case rel => exact ⟨k + 1, by omega, by go_num, ⟨fun j hj => (Nat.lt_succ_iff_lt_or_eq.1 hj).elim (HA.out j) (fun e => e ▸ hE.out)⟩, ⟨HB3.out⟩⟩
      case measure => simp [intOf]; omega
     have k1 : ((rd_T42 ks k).f2.f0 != (rd_T56 cs (rd_T42 ks k).f0).f1) = true := bne_iff_ne.2 hk7
     have hE : Aside0 (chkE ks cs k = 7) := ⟨by unfold chkE; rw [if_neg HNB.out, if_pos (Or.inr hk7)]⟩
     clear hk7
     go_wp2_with (go_at_call 75; refine (c75 (rd_T42 ks k).f2 _).mono ?_; rw [HV.out]; rintro e w3 ⟨rfl, hb⟩)
     have f0 := keep hb E0.out
     have f2 := keep hb E2.out
     have fb := keep hb BB.out
     have fd := keep hb D1.out
     have HB3 := Aside0.mk (below_step HB2.out hb)
     clear hb
     with_reducible refine HKK.out _ _ ?_
     iterate 12 (with_reducible refine wpStill_step (fun K hK => ?_); go_simp; with_reducible refine hK _ ?_; clear hK K)
     with_reducible refine wpStill_nil ?_
     go_wp2_with fail
     go_ret
     exact ⟨Z69, hB ▸ below_step (hB.symm ▸ HB0.out) HB3.out⟩
end Go.Proofs.Ytkopbaikmlajmaa.Q
