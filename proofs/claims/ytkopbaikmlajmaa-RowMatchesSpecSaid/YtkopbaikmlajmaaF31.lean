import Derived.Test.YtkopbaikmlajmaaZ
import Derived.Test.YtkopbaikmlajmaaSA
import Derived.Test.YtkopbaikmlajmaaF26
import Derived.Test.YtkopbaikmlajmaaFA
namespace Go.Proofs.Ytkopbaikmlajmaa.Q
open Go.RowKit Go.Proofs.YtkopbaikmlajmaaW.PrintWords Go.Proofs.YtkopbaikmlajmaaW.PrintLast Go.Proofs.YtkopbaikmlajmaaW.PrintMore
set_option linter.unusedVariables false
set_option linter.unusedSimpArgs false
attribute [local go_sem high] eqA40

theorem fitsE_check {nm : ByteArray} {cs : List S56} {xs : List S65} {ks : List S42} {r : List S40} (h : checkE nm cs xs ks ≠ 0) : fitsE nm cs xs ks r = checkE nm cs xs ks := by unfold fitsE; rw [if_pos h]
theorem fitsE_len {nm : ByteArray} {cs : List S56} {xs : List S65} {ks : List S42} {r : List S40} (h : checkE nm cs xs ks = 0) (h2 : r.length ≠ cs.length) : fitsE nm cs xs ks r = 1 := by unfold fitsE; rw [if_neg (by rw [h]; simp), if_pos h2]
theorem fitsE_vals {nm : ByteArray} {cs : List S56} {xs : List S65} {ks : List S42} {r : List S40} {e : Int} (h : checkE nm cs xs ks = 0) (h2 : r.length = cs.length) (h3 : firstE (fitE cs r) r.length = e) (h4 : e ≠ 0) : fitsE nm cs xs ks r = e := by unfold fitsE; rw [if_neg (by rw [h]; simp), if_neg (by rw [h2]; simp), if_pos (by rw [h3]; exact h4), h3]
theorem fitsE_checks {nm : ByteArray} {cs : List S56} {xs : List S65} {ks : List S42} {r : List S40} {e : Int} (h : checkE nm cs xs ks = 0) (h2 : r.length = cs.length) (h3 : firstE (fitE cs r) r.length = 0) (h4 : firstE (chkH ks r) ks.length = e) : fitsE nm cs xs ks r = e := by unfold fitsE; rw [if_neg (by rw [h]; simp), if_neg (by rw [h2]; simp), if_neg (by rw [h3]; simp), h4]

set_option maxHeartbeats 2000000 in
set_option maxRecDepth 100000 in
theorem c31 (nm : ByteArray) (A1 : Option Addr) (c1 : Nat) (cs : List S56) (A2 : Option Addr) (c2 : Nat) (xs : List S65) (A3 : Option Addr) (c3 : Nat) (ks : List S42) (A4 : Option Addr) (c4 : Nat) (r : List S40) (w : World) (hr1 : Kd.C k56 w A1 cs.length cs) (hc1 : cs.length ≤ c1) (hr2 : Kd.C k65 w A2 xs.length xs) (hc2 : xs.length ≤ c2) (hr3 : Kd.C k42 w A3 ks.length ks) (hc3 : ks.length ≤ c3) (hr4 : Kd.C k40 w A4 r.length r) (hc4 : r.length ≤ c4) :
  Calls Try.prog 31 #[.agg #[.string nm, .slice A1 cs.length c1, .slice A2 xs.length c2, .slice A3 ks.length c3], .slice A4 r.length c4] w fun e w' => e = .returned (.int .i64 (fitsE nm cs xs ks r)) ∧ Below w.heap.size w w' := by
 have hu28 := Try.underlying28
 have hu56 := Try.underlying56
 have hu42 := Try.underlying42
 have hu40 := Try.underlying40
 have m3 : ks.length ≤ 9223372036854775807 := hr3.2.1
 have m4 : r.length ≤ 9223372036854775807 := hr4.2.1
 have R1 := Aside0.mk hr1
 have R2 := Aside0.mk hr2
 have R3 := Aside0.mk hr3
 have R4 := Aside0.mk hr4
 have C1 := Aside0.mk hc1
 have C2 := Aside0.mk hc2
 have C3 := Aside0.mk hc3
 have C4 := Aside0.mk hc4
 clear hr1 hr2 hr3 hr4 hc1 hc2 hc3 hc4
 go_enter Try.func31, Try.ntmps31
 go_wp2_with fail
 obtain ⟨w0, hw0⟩ : ∃ w0, w0 = w.alloc (.cells #[.string nm, .slice A1 cs.length c1, .slice A2 xs.length c2, .slice A3 ks.length c3] 28) := ⟨_, rfl⟩
 have HB0 : Aside0 (Below w.heap.size w w0) := ⟨hw0 ▸ below_al w _⟩
 have b1 : w0.cell? ⟨w.heap.size, 1, none⟩ = some (.slice A1 cs.length c1) := by rw [hw0]; simp [go_sem]
 have b3 : w0.cell? ⟨w.heap.size, 3, none⟩ = some (.slice A3 ks.length c3) := by rw [hw0]; simp [go_sem]
 rw [← hw0]
 have B1 := Aside0.mk b1
 have B3 := Aside0.mk b3
 replace R1 := Aside0.mk (Kd.C_below R1.out HB0.out)
 replace R2 := Aside0.mk (Kd.C_below R2.out HB0.out)
 replace R3 := Aside0.mk (Kd.C_below R3.out HB0.out)
 replace R4 := Aside0.mk (Kd.C_below R4.out HB0.out)
 clear hw0 b1 b3
 refine (c26 nm A1 c1 cs A2 c2 xs A3 c3 ks _ R1.out C1.out R2.out C2.out R3.out C3.out).mono ?_
 by_cases hce : checkE nm cs xs ks ≠ 0
 ·have HF := Aside0.mk (fitsE_check (r := r) hce)
  have he : (checkE nm cs xs ks != 0) = true := bne_iff_ne.2 hce
  clear hce
  rintro e wa ⟨rfl, hb⟩
  go_wp2_with fail
  go_ret
  exact ⟨by rw [HF.out]; rfl, below_step HB0.out hb⟩
 replace hce := Decidable.not_not.1 hce
 rw [hce]
 rintro e wa ⟨rfl, hb⟩
 have HC := Aside0.mk hce
 clear hce
 have b1 := keep hb B1.out
 have b3 := keep hb B3.out
 have HBa := Aside0.mk hb
 clear hb
 by_cases hlen : r.length ≠ cs.length
 ·have h1 : ((r.length : Int) != (cs.length : Int)) = true := bne_iff_ne.2 (by omega)
  have h2 : (r.length != cs.length) = true := bne_iff_ne.2 hlen
  have HL := Aside0.mk hlen
  clear hlen
  go_wp2_with fail
  go_ret
  exact ⟨by rw [fitsE_len HC.out HL.out]; rfl, below_step HB0.out HBa.out⟩
 replace hlen := Decidable.not_not.1 hlen
 have h1 : ((r.length : Int) != (cs.length : Int)) = false := bne_eq_false_iff_eq.2 (by omega)
 have h2 : (r.length != cs.length) = false := bne_eq_false_iff_eq.2 hlen
 have HL := Aside0.mk hlen
 clear hlen
 go_wp2_with fail
 clear h1 h2 b1 b3
 go_loopw [24] (fun v wr => ∃ k : Nat, k ≤ r.length ∧ v = .int .i64 k ∧ Aside0 (∀ j, j < k → fitE cs r j = 0) ∧ Aside0 (Below w0.heap.size w0 wr)) (fun v _ => r.length - (intOf v).toNat)
 case atStart => exact ⟨0, Nat.zero_le _, rfl, ⟨fun j hj => by omega⟩, ⟨HBa.out⟩⟩
 case round =>
  clear HBa
  obtain ⟨k, hk, rfl, HA, HB⟩ := hrel
  by_cases hlt : k < r.length
  ·have hkc : k < cs.length := by rw [← HL.out]; exact hlt
   obtain ⟨ad, rfl, hc0, hc1, hc2⟩ := at_T40 R4.out (k : Int) (by omega) (by omega)
   obtain ⟨ac, rfl, hd0, hd1, hd2⟩ := at_T56 R1.out (k : Int) (by omega) (by omega)
   simp only [Int.toNat_natCast] at hc0 hc1 hc2 hd0 hd1 hd2
   replace hc0 := keep HB.out hc0
   replace hc1 := keep HB.out hc1
   replace hc2 := keep HB.out hc2
   replace hd1 := fun o => keep_al (keep HB.out hd1) o
   replace hd2 := fun o => keep_al (keep HB.out hd2) o
   have b1 := fun o => keep_al (keep HB.out B1.out) o
   clear hd0
   cases hn : isNull (rd_T40 r k) with
   | true =>
    have hn2 := hn
    unfold isNull at hn2
    cases hz : (rd_T56 cs k).f2 with
    | true =>
     have hE : Aside0 (fitE cs r k = 0) := ⟨by unfold fitE; rw [if_pos hn, if_pos hz]⟩
     clear hn
     go_wp2_with fail
     go_roundw
     case rel => exact ⟨k + 1, by omega, by go_num, ⟨fun j hj => (Nat.lt_succ_iff_lt_or_eq.1 hj).elim (HA.out j) (fun e => e ▸ hE.out)⟩, ⟨below_alloc HB.out _⟩⟩
     case measure => simp [intOf]; omega
    | false =>
     have hE : Aside0 (fitE cs r k = 200) := ⟨by unfold fitE; rw [if_pos hn, if_neg (by rw [hz]; simp)]⟩
     clear hn
     go_wp2_with fail
     go_ret
     exact ⟨Z88, below_step HB0.out (below_alloc HB.out _)⟩
   | false =>
    have hn2 := hn
    unfold isNull at hn2
    have HN := Aside0.mk hn
    clear hn
    go_wp2_with fail
    clear hn2 hc0 hc1 hc2 hd2
    obtain ⟨w1, hw1⟩ : ∃ w1, w1 = wr.alloc (.cells #[.int .i64 (rd_T40 r k).f0, .int .i64 (rd_T40 r k).f1, .string (rd_T40 r k).f2] 40) := ⟨_, rfl⟩
    have hb1 : Below wr.heap.size wr w1 := hw1 ▸ below_al wr _
    have e0 : w1.cell? ⟨wr.heap.size, 0, none⟩ = some (.int .i64 (rd_T40 r k).f0) := by rw [hw1]; simp [go_sem]
    have e1 : w1.cell? ⟨wr.heap.size, 1, none⟩ = some (.int .i64 (rd_T40 r k).f1) := by rw [hw1]; simp [go_sem]
    have e2 : w1.cell? ⟨wr.heap.size, 2, none⟩ = some (.string (rd_T40 r k).f2) := by rw [hw1]; simp [go_sem]
    rw [← hw1] 
    replace b1 := b1 (.cells #[.int .i64 (rd_T40 r k).f0, .int .i64 (rd_T40 r k).f1, .string (rd_T40 r k).f2] 40)
    replace hd1 := hd1 (.cells #[.int .i64 (rd_T40 r k).f0, .int .i64 (rd_T40 r k).f1, .string (rd_T40 r k).f2] 40)
    rw [← hw1] at b1 hd1
    have HB1 := Aside0.mk (below_step HB.out hb1)
    clear hw1 hb1
    refine region_mid 4 (by kernel_rfl) (by kernel_rfl) ?_
    rintro w2 hw2 KK hKK
    simp only [List.drop_succ_cons, List.drop_zero] at hKK
    have HKK := Aside0.mk hKK
    clear hKK
    have hb2 : Below w1.heap.size w1 w2 := hw2 ▸ below_dr w1
    replace e0 := keep hb2 e0
    replace e1 := keep hb2 e1
    replace e2 := keep hb2 e2
    have E0 := Aside0.mk e0
    have BB := Aside0.mk (keep hb2 b1)
    have D1 := Aside0.mk (keep hb2 hd1)
    have HB2 := Aside0.mk (below_step HB1.out hb2)
    clear hw2 hb2 b1 hd1
    simp only [List.take_succ_cons, List.take_zero]
    cases hv : validB (rd_T40 r k) with
    | false =>
     have hE : Aside0 (fitE cs r k = 7) := ⟨by unfold fitE; rw [if_neg (by rw [HN.out]; simp), if_pos (Or.inl hv)]⟩
     have HV := Aside0.mk hv
     clear hv
     go_wp2_with (go_at_call 75; refine (c75 (rd_T40 r k) _).mono ?_; rw [HV.out]; rintro e w3 ⟨rfl, hb⟩)
     with_reducible refine HKK.out _ _ ?_
     iterate 10 (with_reducible refine wpStill_step (fun K hK => ?_); go_simp; with_reducible refine hK _ ?_; clear hK K)
     with_reducible refine wpStill_nil ?_
     go_wp2_with fail
     go_ret
     exact ⟨Z88, below_step HB0.out (below_step HB2.out hb)⟩
    | true =>
     have HV := Aside0.mk hv
     by_cases hk7 : (rd_T40 r k).f0 = (rd_T56 cs k).f1
     ·have k1 : ((rd_T40 r k).f0 != (rd_T56 cs k).f1) = false := bne_eq_false_iff_eq.2 hk7
      have hE : Aside0 (fitE cs r k = 0) := ⟨by unfold fitE; rw [if_neg (by rw [HN.out]; simp), if_neg (by rw [hv]; simp [hk7])]⟩
      clear hk7 hv
      go_wp2_with (go_at_call 75; refine (c75 (rd_T40 r k) _).mono ?_; rw [HV.out]; rintro e w3 ⟨rfl, hb⟩)
      have f0 := keep hb E0.out
      have fb := keep hb BB.out
      have fd := keep hb D1.out
      have HB3 := Aside0.mk (below_step HB2.out hb)
      clear hb
      with_reducible refine HKK.out _ _ ?_
      iterate 10 (with_reducible refine wpStill_step (fun K hK => ?_); go_simp; with_reducible refine hK _ ?_; clear hK K)
      with_reducible refine wpStill_nil ?_
      go_wp2_with fail
      go_roundw
      case rel => exact ⟨k + 1, by omega, by go_num, ⟨fun j hj => (Nat.lt_succ_iff_lt_or_eq.1 hj).elim (HA.out j) (fun e => e ▸ hE.out)⟩, ⟨HB3.out⟩⟩
      case measure => simp [intOf]; omega
     have k1 : ((rd_T40 r k).f0 != (rd_T56 cs k).f1) = true := bne_iff_ne.2 hk7
     have hE : Aside0 (fitE cs r k = 7) := ⟨by unfold fitE; rw [if_neg (by rw [HN.out]; simp), if_pos (Or.inr hk7)]⟩
     clear hk7 hv
     go_wp2_with (go_at_call 75; refine (c75 (rd_T40 r k) _).mono ?_; rw [HV.out]; rintro e w3 ⟨rfl, hb⟩)
     have f0 := keep hb E0.out
     have fb := keep hb BB.out
     have fd := keep hb D1.out
     have HB3 := Aside0.mk (below_step HB2.out hb)
     clear hb
     with_reducible refine HKK.out _ _ ?_
     iterate 10 (with_reducible refine wpStill_step (fun K hK => ?_); go_simp; with_reducible refine hK _ ?_; clear hK K)
     with_reducible refine wpStill_nil ?_
     go_wp2_with fail
     go_ret
     exact ⟨Z88, below_step HB0.out HB3.out⟩
  obtain rfl : k = r.length := by omega
  have HF := Aside0.mk (firstE_none (fitE cs r) r.length HA.out)
  have b3 := keep HB.out B3.out
  have HBa := HB
  clear HB HA hk hlt
  go_wp2_with fail
  clear b3
  go_loopw [57] (fun v wr => ∃ k : Nat, k ≤ ks.length ∧ v = .int .i64 k ∧ Aside0 (∀ j, j < k → chkH ks r j = 0) ∧ Aside0 (Below w0.heap.size w0 wr)) (fun v _ => ks.length - (intOf v).toNat)
  case atStart => exact ⟨0, Nat.zero_le _, rfl, ⟨fun j hj => by omega⟩, ⟨HBa.out⟩⟩
  case round =>
   clear HBa
   obtain ⟨k, hk, rfl, HA, HB⟩ := hrel
   by_cases hlt : k < ks.length
   ·obtain ⟨hp0, hp1⟩ := check_col HC.out k hlt
    have hp2 : (rd_T42 ks k).f0 < (r.length : Int) := by have := HL.out; omega
    obtain ⟨ad, rfl, hc0, hc1, hc2, hc3, hc4⟩ := at_T42 R3.out (k : Int) (by omega) (by omega)
    obtain ⟨ar, rfl, hd0, hd1, hd2⟩ := at_T40 R4.out (rd_T42 ks k).f0 hp0 hp2
    simp only [Int.toNat_natCast] at hc0 hc1 hc2 hc3 hc4
    replace hc0 := keep HB.out hc0
    replace hc1 := keep HB.out hc1
    replace hc2 := keep HB.out hc2
    replace hc3 := keep HB.out hc3
    replace hc4 := keep HB.out hc4
    replace hd0 := fun o => keep_al (keep HB.out hd0) o
    replace hd1 := fun o => keep_al (keep HB.out hd1) o
    replace hd2 := fun o => keep_al (keep HB.out hd2) o
    clear hp1
    go_wp2_with fail
    clear hc0 hc1 hc2 hc3 hc4 hd0 hd1 hd2
    obtain ⟨w1, hw1⟩ : ∃ w1, w1 = (wr.alloc (.cells #[.int .i64 (rd_T42 ks k).f0, .int .i64 (rd_T42 ks k).f1, .int .i64 (rd_T42 ks k).f2.f0, .int .i64 (rd_T42 ks k).f2.f1, .string (rd_T42 ks k).f2.f2] 42)).alloc (.cells #[.int .i64 (rd_T40 r (rd_T42 ks k).f0).f0, .int .i64 (rd_T40 r (rd_T42 ks k).f0).f1, .string (rd_T40 r (rd_T42 ks k).f0).f2] 40) := ⟨_, rfl⟩
    have e1 : w1.cell? ⟨wr.heap.size, 1, none⟩ = some (.int .i64 (rd_T42 ks k).f1) := by rw [hw1]; simp [go_sem]
    have e2 : w1.cell? ⟨wr.heap.size, 2, none⟩ = some (.int .i64 (rd_T42 ks k).f2.f0) := by rw [hw1]; simp [go_sem]
    have e3 : w1.cell? ⟨wr.heap.size, 3, none⟩ = some (.int .i64 (rd_T42 ks k).f2.f1) := by rw [hw1]; simp [go_sem]
    have e4 : w1.cell? ⟨wr.heap.size, 4, none⟩ = some (.string (rd_T42 ks k).f2.f2) := by rw [hw1]; simp [go_sem]
    have e5 : w1.cell? ⟨wr.heap.size + 1, 0, none⟩ = some (.int .i64 (rd_T40 r (rd_T42 ks k).f0).f0) := by rw [hw1]; simp [go_sem]
    have e6 : w1.cell? ⟨wr.heap.size + 1, 1, none⟩ = some (.int .i64 (rd_T40 r (rd_T42 ks k).f0).f1) := by rw [hw1]; simp [go_sem]
    have e7 : w1.cell? ⟨wr.heap.size + 1, 2, none⟩ = some (.string (rd_T40 r (rd_T42 ks k).f0).f2) := by rw [hw1]; simp [go_sem]
    rw [← hw1]
    have HB1 : Aside0 (Below w0.heap.size w0 w1) := ⟨hw1 ▸ below_alloc (below_alloc HB.out _) _⟩
    clear hw1
    by_cases hnull : (rd_T40 r (rd_T42 ks k).f0).f0 = 0
    ·have k1 : ((rd_T40 r (rd_T42 ks k).f0).f0 != 0) = false := bne_eq_false_iff_eq.2 hnull
     have hE : Aside0 (chkH ks r k = 0) := ⟨by unfold chkH; rw [if_neg (by simp [hnull])]⟩
     clear hnull
     refine region_reads (by kernel_rfl) (by kernel_rfl) ?_
     rintro w2 hw2
     have hb2 : Below w1.heap.size w1 w2 := hw2 ▸ below_dr w1
     replace e5 := keep hb2 e5
     have HB2 := Aside0.mk (below_step HB1.out hb2)
     clear hw2 hb2 e1 e2 e3 e4 e6 e7
     iterate 13 (with_reducible refine wpStill_step (fun K hK => ?_); go_simp; with_reducible refine hK _ ?_; clear hK K)
     with_reducible refine wpStill_nil ?_
     go_wp2_with fail
     go_roundw
     case rel => exact ⟨k + 1, by omega, by go_num, ⟨fun j hj => (Nat.lt_succ_iff_lt_or_eq.1 hj).elim (HA.out j) (fun e => e ▸ hE.out)⟩, ⟨HB2.out⟩⟩
     case measure => simp [intOf]; omega
    have k1 : ((rd_T40 r (rd_T42 ks k).f0).f0 != 0) = true := bne_iff_ne.2 hnull
    cases hh : holdsB (rd_T42 ks k).f1 (cmpV (rd_T40 r (rd_T42 ks k).f0) (rd_T42 ks k).f2) with
    | true =>
     have hE : Aside0 (chkH ks r k = 0) := ⟨by unfold chkH; rw [if_neg (by rw [hh]; simp)]⟩
     have HH := Aside0.mk hh
     clear hh hnull
     go_region_held3 (fun w' => w'.cell? ⟨wr.heap.size, 1, none⟩ = some (.int .i64 (rd_T42 ks k).f1) ∧ w'.cell? ⟨wr.heap.size, 2, none⟩ = some (.int .i64 (rd_T42 ks k).f2.f0) ∧ w'.cell? ⟨wr.heap.size, 3, none⟩ = some (.int .i64 (rd_T42 ks k).f2.f1) ∧ w'.cell? ⟨wr.heap.size, 4, none⟩ = some (.string (rd_T42 ks k).f2.f2) ∧ w'.cell? ⟨wr.heap.size + 1, 0, none⟩ = some (.int .i64 (rd_T40 r (rd_T42 ks k).f0).f0) ∧ w'.cell? ⟨wr.heap.size + 1, 1, none⟩ = some (.int .i64 (rd_T40 r (rd_T42 ks k).f0).f1) ∧ w'.cell? ⟨wr.heap.size + 1, 2, none⟩ = some (.string (rd_T40 r (rd_T42 ks k).f0).f2) ∧ Below w1.heap.size w1 w') (first | exact ⟨e1, e2, e3, e4, e5, e6, e7, below_dr w1⟩ | exact ⟨keep hb e1, keep hb e2, keep hb e3, keep hb e4, keep hb e5, keep hb e6, keep hb e7, below_step (below_dr w1) hb⟩ | (obtain ⟨z1, z2, z3, z4, z5, z6, z7, z8⟩ := ‹_ ∧ _ ∧ _ ∧ _ ∧ _ ∧ _ ∧ _ ∧ _›; exact ⟨z1, z2, z3, z4, z5, z6, z7, pw_below_drewN z8 _⟩) | go_keep) (first | (go_at_call 86; refine (c86 (rd_T40 r (rd_T42 ks k).f0) (rd_T42 ks k).f2 _).mono ?_; rintro e w' ⟨rfl, hb⟩) | (go_at_call 85; refine (c85 _ _ _).mono ?_; rw [HH.out]; rintro e w' ⟨rfl, ⟨nd, rfl⟩⟩))
     obtain ⟨-, -, -, -, -, -, -, z8⟩ := ‹_ ∧ _ ∧ _ ∧ _ ∧ _ ∧ _ ∧ _ ∧ _›
     have HB2 := Aside0.mk (below_step HB1.out z8)
     clear e1 e2 e3 e4 e5 e6 e7 hb z8
     go_wp2_with fail
     go_roundw
     case rel => exact ⟨k + 1, by omega, by go_num, ⟨fun j hj => (Nat.lt_succ_iff_lt_or_eq.1 hj).elim (HA.out j) (fun e => e ▸ hE.out)⟩, ⟨HB2.out⟩⟩
     case measure => simp [intOf]; omega
    | false =>
     have hE : Aside0 (chkH ks r k = 201) := ⟨by unfold chkH; rw [if_pos ⟨hnull, hh⟩]⟩
     have HH := Aside0.mk hh
     clear hh hnull
     go_region_held3 (fun w' => w'.cell? ⟨wr.heap.size, 1, none⟩ = some (.int .i64 (rd_T42 ks k).f1) ∧ w'.cell? ⟨wr.heap.size, 2, none⟩ = some (.int .i64 (rd_T42 ks k).f2.f0) ∧ w'.cell? ⟨wr.heap.size, 3, none⟩ = some (.int .i64 (rd_T42 ks k).f2.f1) ∧ w'.cell? ⟨wr.heap.size, 4, none⟩ = some (.string (rd_T42 ks k).f2.f2) ∧ w'.cell? ⟨wr.heap.size + 1, 0, none⟩ = some (.int .i64 (rd_T40 r (rd_T42 ks k).f0).f0) ∧ w'.cell? ⟨wr.heap.size + 1, 1, none⟩ = some (.int .i64 (rd_T40 r (rd_T42 ks k).f0).f1) ∧ w'.cell? ⟨wr.heap.size + 1, 2, none⟩ = some (.string (rd_T40 r (rd_T42 ks k).f0).f2) ∧ Below w1.heap.size w1 w') (first | exact ⟨e1, e2, e3, e4, e5, e6, e7, below_dr w1⟩ | exact ⟨keep hb e1, keep hb e2, keep hb e3, keep hb e4, keep hb e5, keep hb e6, keep hb e7, below_step (below_dr w1) hb⟩ | (obtain ⟨z1, z2, z3, z4, z5, z6, z7, z8⟩ := ‹_ ∧ _ ∧ _ ∧ _ ∧ _ ∧ _ ∧ _ ∧ _›; exact ⟨z1, z2, z3, z4, z5, z6, z7, pw_below_drewN z8 _⟩) | go_keep) (first | (go_at_call 86; refine (c86 (rd_T40 r (rd_T42 ks k).f0) (rd_T42 ks k).f2 _).mono ?_; rintro e w' ⟨rfl, hb⟩) | (go_at_call 85; refine (c85 _ _ _).mono ?_; rw [HH.out]; rintro e w' ⟨rfl, ⟨nd, rfl⟩⟩))
     obtain ⟨-, -, -, -, -, -, -, z8⟩ := ‹_ ∧ _ ∧ _ ∧ _ ∧ _ ∧ _ ∧ _ ∧ _›
     have HB2 := Aside0.mk (below_step HB1.out z8)
     clear e1 e2 e3 e4 e5 e6 e7 hb z8
     go_wp2_with fail
     go_ret
     exact ⟨by rw [fitsE_checks HC.out HL.out HF.out (by rw [firstE_hit _ _ k hlt HA.out (by rw [hE.out]; decide), hE.out])]; rfl, below_step HB0.out HB2.out⟩
   obtain rfl : k = ks.length := by omega
   have HZ := Aside0.mk (firstE_none (chkH ks r) ks.length HA.out)
   go_wp2_with fail
   go_ret
   exact ⟨by rw [fitsE_checks HC.out HL.out HF.out HZ.out]; rfl, below_step HB0.out HB.out⟩

def schema_Fits.f (a0_0 : ByteArray) (l0_1 : List S56) (l0_2 : List S65) (l0_3 : List S42) (l1 : List S40) : Option Int := some (fitsE a0_0 l0_1 l0_2 l0_3 l1)
theorem schema_Fits.calls (a0_0 : ByteArray) (A0_1 : Option Addr) (c0_1 : Nat) (l0_1 : List S56) (A0_2 : Option Addr) (c0_2 : Nat) (l0_2 : List S65) (A0_3 : Option Addr) (c0_3 : Nat) (l0_3 : List S42) (A1 : Option Addr) (c1 : Nat) (l1 : List S40) (r : Int) (w : World) (hr0_1 : Kd.C k56 w A0_1 l0_1.length l0_1) (hc0_1 : l0_1.length ≤ c0_1) (hr0_2 : Kd.C k65 w A0_2 l0_2.length l0_2) (hc0_2 : l0_2.length ≤ c0_2) (hr0_3 : Kd.C k42 w A0_3 l0_3.length l0_3) (hc0_3 : l0_3.length ≤ c0_3) (hr1 : Kd.C k40 w A1 l1.length l1) (hc1 : l1.length ≤ c1) (h : schema_Fits.f a0_0 l0_1 l0_2 l0_3 l1 = some r) :
  Calls Try.prog 31 #[.agg #[.string a0_0, .slice A0_1 l0_1.length c0_1, .slice A0_2 l0_2.length c0_2, .slice A0_3 l0_3.length c0_3], .slice A1 l1.length c1] w fun e w' => e = .returned (.int .i64 r) ∧ Below w.heap.size w w' := by
 obtain rfl := Option.some.inj h
 exact c31 a0_0 A0_1 c0_1 l0_1 A0_2 c0_2 l0_2 A0_3 c0_3 l0_3 A1 c1 l1 w hr0_1 hc0_1 hr0_2 hc0_2 hr0_3 hc0_3 hr1 hc1
end Go.Proofs.Ytkopbaikmlajmaa.Q
