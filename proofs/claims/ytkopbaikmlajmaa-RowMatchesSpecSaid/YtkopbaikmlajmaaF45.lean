import Derived.Test.YtkopbaikmlajmaaZ
import Derived.Test.YtkopbaikmlajmaaF31
import Derived.Test.YtkopbaikmlajmaaG27
import Derived.Test.YtkopbaikmlajmaaF105
namespace Go.Proofs.Ytkopbaikmlajmaa.Q
open Go.RowKit Go.Proofs.YtkopbaikmlajmaaW.PrintWords Go.Proofs.YtkopbaikmlajmaaW.PrintLast Go.Proofs.YtkopbaikmlajmaaW.PrintMore
set_option linter.unusedVariables false
set_option linter.unusedSimpArgs false
attribute [local go_sem high] eqA40
theorem c104 (v : S40) (w : World) : Calls Try.prog 104 #[.agg #[.int .i64 v.f0, .int .i64 v.f1, .string v.f2]] w fun e w' => e = .returned (.bool (validN v)) ∧ Below w.heap.size w w' :=
 alumref20_Valid.calls _ _ _ _ w (Valid_ref v)
theorem c105 (op : Int) (a b : S40) (w : World) : Calls Try.prog 105 #[.int .i64 op, .agg #[.int .i64 a.f0, .int .i64 a.f1, .string a.f2], .agg #[.int .i64 b.f0, .int .i64 b.f1, .string b.f2]] w fun e w' => e = .returned (.bool (holdsB op (cmpV a b))) ∧ Below w.heap.size w w' := by
 refine alumref20_Holds.calls _ _ _ _ _ _ _ _ w ?_
 unfold alumref20_Holds.f alumref20_Compare.f holdsB
 rw [Option.bind_some]
 repeat' split
 all_goals rfl
set_option maxHeartbeats 2000000 in
set_option maxRecDepth 100000 in
theorem c45 (nm : ByteArray) (A1 : Option Addr) (c1 : Nat) (cs : List S56) (A2 : Option Addr) (c2 : Nat) (xs : List S65) (A3 : Option Addr) (c3 : Nat) (ks : List S42) (A4 : Option Addr) (c4 : Nat) (r : List S40) (w : World) (hr1 : Kd.C k56 w A1 cs.length cs) (hc1 : cs.length ≤ c1) (hr2 : Kd.C k65 w A2 xs.length xs) (hc2 : xs.length ≤ c2) (hr3 : Kd.C k42 w A3 ks.length ks) (hc3 : ks.length ≤ c3) (hr4 : Kd.C k40 w A4 r.length r) (hc4 : r.length ≤ c4) :
  Calls Try.prog 45 #[.agg #[.string nm, .slice A1 cs.length c1, .slice A2 xs.length c2, .slice A3 ks.length c3], .slice A4 r.length c4] w fun e w' => e = .returned (.int .i64 (fitsE nm cs xs ks r)) ∧ Below w.heap.size w w' := by
 have hu28 := Try.underlying28
 have hu56 := Try.underlying56
 have hu42 := Try.underlying42
 have hu40 := Try.underlying40
 have m3 : ks.length ≤ 9223372036854775807 := hr3.2.1
 have m4 : r.length ≤ 9223372036854775807 := hr4.2.1
 have R1 := Aside0.mk hr1
 have R2 := Aside0.mk hr2
 have R3 := Aside0.mk hr3
 have R4 := Aside0.mk hr4
 have C1 := Aside0.mk hc1
 have C2 := Aside0.mk hc2
 have C3 := Aside0.mk hc3
 have C4 := Aside0.mk hc4
 clear hr1 hr2 hr3 hr4 hc1 hc2 hc3 hc4
 go_enter Try.func45, Try.ntmps45
 go_wp2_with fail
 obtain ⟨w0, hw0⟩ : ∃ w0, w0 = w.alloc (.cells #[.string nm, .slice A1 cs.length c1, .slice A2 xs.length c2, .slice A3 ks.length c3] 28) := ⟨_, rfl⟩
 have HB0 : Aside0 (Below w.heap.size w w0) := ⟨hw0 ▸ below_al w _⟩
 have b1 : w0.cell? ⟨w.heap.size, 1, none⟩ = some (.slice A1 cs.length c1) := by rw [hw0]; simp [go_sem]
 have b3 : w0.cell? ⟨w.heap.size, 3, none⟩ = some (.slice A3 ks.length c3) := by rw [hw0]; simp [go_sem]
 rw [← hw0]
 have B1 := Aside0.mk b1
 have B3 := Aside0.mk b3
 replace R1 := Aside0.mk (Kd.C_below R1.out HB0.out)
 replace R2 := Aside0.mk (Kd.C_below R2.out HB0.out)
 replace R3 := Aside0.mk (Kd.C_below R3.out HB0.out)
 replace R4 := Aside0.mk (Kd.C_below R4.out HB0.out)
 clear hw0 b1 b3
 refine (c27 nm A1 c1 cs A2 c2 xs A3 c3 ks _ R1.out C1.out R2.out C2.out R3.out C3.out).mono ?_
 by_cases hce : checkE nm cs xs ks ≠ 0
 ·have HF := Aside0.mk (fitsE_check (r := r) hce)
  have he : (checkE nm cs xs ks != 0) = true := bne_iff_ne.2 hce
  clear hce
  rintro e wa ⟨rfl, hb⟩
  go_wp2_with fail
  go_ret
  exact ⟨by rw [HF.out]; rfl, below_step HB0.out hb⟩
 replace hce := Decidable.not_not.1 hce
 rw [hce]
 rintro e wa ⟨rfl, hb⟩
 have HC := Aside0.mk hce
 clear hce
 have b1 := keep hb B1.out
 have b3 := keep hb B3.out
 have HBa := Aside0.mk hb
 clear hb
 by_cases hlen : r.length ≠ cs.length
 ·have h1 : ((r.length : Int) != (cs.length : Int)) = true := bne_iff_ne.2 (by omega)
  have h2 : (r.length != cs.length) = true := bne_iff_ne.2 hlen
  have HL := Aside0.mk hlen
  clear hlen
  go_wp2_with fail
  go_ret
  exact ⟨by rw [fitsE_len HC.out HL.out]; rfl, below_step HB0.out HBa.out⟩
 replace hlen := Decidable.not_not.1 hlen
 have h1 : ((r.length : Int) != (cs.length : Int)) = false := bne_eq_false_iff_eq.2 (by omega)
 have h2 : (r.length != cs.length) = false := bne_eq_false_iff_eq.2 hlen
 have HL := Aside0.mk hlen
 clear hlen
 go_wp2_with fail
 clear h1 h2 b1 b3
 go_loopw [6] (fun v wr => ∃ k : Nat, k ≤ r.length ∧ v = .int .i64 k ∧ Aside0 (∀ j, j < k → fitE cs r j = 0) ∧ Aside0 (Below w0.heap.size w0 wr)) (fun v _ => r.length - (intOf v).toNat)
 case atStart => exact ⟨0, Nat.zero_le _, rfl, ⟨fun j hj => by omega⟩, ⟨HBa.out⟩⟩
 case round =>
  clear HBa
  obtain ⟨k, hk, rfl, HA, HB⟩ := hrel
  by_cases hlt : k < r.length
  ·have hkc : k < cs.length := by rw [← HL.out]; exact hlt
   obtain ⟨ad, rfl, hc0, hc1, hc2⟩ := at_T40 R4.out (k : Int) (by omega) (by omega)
   obtain ⟨ac, rfl, hd0, hd1, hd2⟩ := at_T56 R1.out (k : Int) (by omega) (by omega)
   simp only [Int.toNat_natCast] at hc0 hc1 hc2 hd0 hd1 hd2
   replace hc0 := keep HB.out hc0
   replace hc1 := keep HB.out hc1
   replace hc2 := keep HB.out hc2
   have E0 := Aside0.mk hc0
   have D1 := Aside0.mk (keep HB.out hd1)
   replace hd2 := keep HB.out hd2
   have b1 := keep HB.out B1.out
   have BB := Aside0.mk b1
   clear hd0 hd1
   cases hn : isNull (rd_T40 r k) with
   | true =>
    have hn2 := hn
    unfold isNull at hn2
    cases hz : (rd_T56 cs k).f2 with
    | true =>
     have hE : Aside0 (fitE cs r k = 0) := ⟨by unfold fitE; rw [if_pos hn, if_pos hz]⟩
     have HV : Aside0 (validN (rd_T40 r k) = true) := ⟨by unfold validN; rw [hn]; rfl⟩
     clear hn
     go_wp2_with (go_at_call 104; refine (c104 (rd_T40 r k) _).mono ?_; rw [HV.out]; rintro e w3 ⟨rfl, hb⟩)
     have HB3 := Aside0.mk (below_step HB.out hb)
     clear hb hn2 hc0 hc1 hc2 hd2 b1
     refine region_reads (by kernel_rfl) (by kernel_rfl) ?_
     rintro w4 hw4
     have HB4 := Aside0.mk (show Below w0.heap.size w0 w4 from below_step HB3.out (hw4 ▸ below_dr w3))
     clear hw4
     iterate 20 (with_reducible refine wpStill_step (fun K hK => ?_); go_simp; (first | with_reducible refine hK _ ?_ | (rw [if_neg (by simp [undef])]; with_reducible refine hK _ ?_)); clear hK K)
     with_reducible refine wpStill_nil ?_
     go_wp2_with fail
     go_roundw
     case rel => exact ⟨k + 1, by omega, by go_num, ⟨fun j hj => (Nat.lt_succ_iff_lt_or_eq.1 hj).elim (HA.out j) (fun e => e ▸ hE.out)⟩, ⟨HB4.out⟩⟩
     case measure => simp [intOf]; omega
    | false =>
     have hE : Aside0 (fitE cs r k = 200) := ⟨by unfold fitE; rw [if_pos hn, if_neg (by rw [hz]; simp)]⟩
     clear hn
     go_wp2_with fail
     go_ret
     exact ⟨Z88, below_step HB0.out HB.out⟩
   | false =>
    have hn2 := hn
    unfold isNull at hn2
    have HN := Aside0.mk hn
    cases hv : validB (rd_T40 r k) with
    | false =>
     have hE : Aside0 (fitE cs r k = 7) := ⟨by unfold fitE; rw [if_neg (by rw [hn]; simp), if_pos (Or.inl hv)]⟩
     have HV : Aside0 (validN (rd_T40 r k) = false) := ⟨by unfold validN; rw [hn, hv]; rfl⟩
     clear hn hv
     go_wp2_with (go_at_call 104; refine (c104 (rd_T40 r k) _).mono ?_; rw [HV.out]; rintro e w3 ⟨rfl, hb⟩)
     have HB3 := Aside0.mk (below_step HB.out hb)
     clear hb hn2 hc0 hc1 hc2 hd2 b1
     refine region_reads (by kernel_rfl) (by kernel_rfl) ?_
     rintro w4 hw4
     have HB4 := Aside0.mk (show Below w0.heap.size w0 w4 from below_step HB3.out (hw4 ▸ below_dr w3))
     clear hw4
     iterate 20 (with_reducible refine wpStill_step (fun K hK => ?_); go_simp; (first | with_reducible refine hK _ ?_ | (rw [if_neg (by simp [undef])]; with_reducible refine hK _ ?_)); clear hK K)
     with_reducible refine wpStill_nil ?_
     go_wp2_with fail
     go_ret
     exact ⟨Z88, below_step HB0.out HB4.out⟩
    | true =>
     have HV : Aside0 (validN (rd_T40 r k) = true) := ⟨by unfold validN; rw [hv]; simp⟩
     by_cases hk7 : (rd_T40 r k).f0 = (rd_T56 cs k).f1
     ·have k1 : ((rd_T40 r k).f0 != (rd_T56 cs k).f1) = false := bne_eq_false_iff_eq.2 hk7
      have hE : Aside0 (fitE cs r k = 0) := ⟨by unfold fitE; rw [if_neg (by rw [hn]; simp), if_neg (by rw [hv]; simp [hk7])]⟩
      clear hk7 hv hn
      go_wp2_with (go_at_call 104; refine (c104 (rd_T40 r k) _).mono ?_; rw [HV.out]; rintro e w3 ⟨rfl, hb⟩)
      have HB3 := Aside0.mk (below_step HB.out hb)
      clear hn2 hc0 hc1 hc2 hd2 b1
      refine region_reads (by kernel_rfl) (by kernel_rfl) ?_
      rintro w4 hw4
      have hb4 : Below w3.heap.size w3 w4 := hw4 ▸ below_dr w3
      have f0 := keep hb4 (keep hb E0.out)
      have fb := keep hb4 (keep hb BB.out)
      have fd := keep hb4 (keep hb D1.out)
      have HB4 := Aside0.mk (below_step HB3.out hb4)
      clear hw4 hb hb4
      iterate 20 (with_reducible refine wpStill_step (fun K hK => ?_); go_simp; (first | with_reducible refine hK _ ?_ | (rw [if_neg (by simp [undef])]; with_reducible refine hK _ ?_)); clear hK K)
      with_reducible refine wpStill_nil ?_
      go_wp2_with fail
      go_roundw
      case rel => exact ⟨k + 1, by omega, by go_num, ⟨fun j hj => (Nat.lt_succ_iff_lt_or_eq.1 hj).elim (HA.out j) (fun e => e ▸ hE.out)⟩, ⟨HB4.out⟩⟩
      case measure => simp [intOf]; omega
     have k1 : ((rd_T40 r k).f0 != (rd_T56 cs k).f1) = true := bne_iff_ne.2 hk7
     have hE : Aside0 (fitE cs r k = 7) := ⟨by unfold fitE; rw [if_neg (by rw [hn]; simp), if_pos (Or.inr hk7)]⟩
     clear hk7 hv hn
     go_wp2_with (go_at_call 104; refine (c104 (rd_T40 r k) _).mono ?_; rw [HV.out]; rintro e w3 ⟨rfl, hb⟩)
     have HB3 := Aside0.mk (below_step HB.out hb)
     clear hn2 hc0 hc1 hc2 hd2 b1
     refine region_reads (by kernel_rfl) (by kernel_rfl) ?_
     rintro w4 hw4
     have hb4 : Below w3.heap.size w3 w4 := hw4 ▸ below_dr w3
     have f0 := keep hb4 (keep hb E0.out)
     have fb := keep hb4 (keep hb BB.out)
     have fd := keep hb4 (keep hb D1.out)
     have HB4 := Aside0.mk (below_step HB3.out hb4)
     clear hw4 hb hb4
     iterate 20 (with_reducible refine wpStill_step (fun K hK => ?_); go_simp; (first | with_reducible refine hK _ ?_ | (rw [if_neg (by simp [undef])]; with_reducible refine hK _ ?_)); clear hK K)
     with_reducible refine wpStill_nil ?_
     go_wp2_with fail
     go_ret
     exact ⟨Z88, below_step HB0.out HB4.out⟩
  obtain rfl : k = r.length := by omega
  have HF := Aside0.mk (firstE_none (fitE cs r) r.length HA.out)
  have HBa := HB
  clear HB HA hk hlt
  go_wp2_with fail
  go_loopw [9] (fun v wr => ∃ k : Nat, k ≤ ks.length ∧ v = .int .i64 k ∧ Aside0 (∀ j, j < k → chkH ks r j = 0) ∧ Aside0 (Below w0.heap.size w0 wr)) (fun v _ => ks.length - (intOf v).toNat)
  case atStart => exact ⟨0, Nat.zero_le _, rfl, ⟨fun j hj => by omega⟩, ⟨HBa.out⟩⟩
  case round =>
   clear HBa
   obtain ⟨k, hk, rfl, HA, HB⟩ := hrel
   have b3 := keep HB.out B3.out
   by_cases hlt : k < ks.length
   rotate_left
   ·obtain rfl : k = ks.length := by omega
    have HZ := Aside0.mk (firstE_none (chkH ks r) ks.length HA.out)
    go_wp2_with fail
    go_ret
    exact ⟨by rw [fitsE_checks HC.out HL.out HF.out HZ.out]; rfl, below_step HB0.out HB.out⟩
   obtain ⟨hp0, hp1⟩ := check_col HC.out k hlt
   have hp2 : (rd_T42 ks k).f0 < (r.length : Int) := by have := HL.out; omega
   obtain ⟨ad, rfl, hc0, hc1, hc2, hc3, hc4⟩ := at_T42 R3.out (k : Int) (by omega) (by omega)
   obtain ⟨ar, rfl, hd0, hd1, hd2⟩ := at_T40 R4.out (rd_T42 ks k).f0 hp0 hp2
   simp only [Int.toNat_natCast] at hc0 hc1 hc2 hc3 hc4
   replace hc0 := keep HB.out hc0
   replace hc1 := keep HB.out hc1
   replace hc2 := keep HB.out hc2
   replace hc3 := keep HB.out hc3
   replace hc4 := keep HB.out hc4
   replace hd0 := fun o => keep_al (keep HB.out hd0) o
   replace hd1 := fun o => keep_al (keep HB.out hd1) o
   replace hd2 := fun o => keep_al (keep HB.out hd2) o
   clear hp1
   cases hh : holdsB (rd_T42 ks k).f1 (cmpV (rd_T40 r (rd_T42 ks k).f0) (rd_T42 ks k).f2) with
   | true =>
    have hE : Aside0 (chkH ks r k = 0) := ⟨by unfold chkH; rw [if_neg (by rw [hh]; simp)]⟩
    have HH := Aside0.mk hh
    clear hh
    go_wp2_with fail
    clear hc0 hc1 hc2 hc3 hc4 hd0 hd1 hd2
    obtain ⟨w1, hw1⟩ : ∃ w1, w1 = (wr.alloc (.cells #[.int .i64 (rd_T42 ks k).f0, .int .i64 (rd_T42 ks k).f1, .int .i64 (rd_T42 ks k).f2.f0, .int .i64 (rd_T42 ks k).f2.f1, .string (rd_T42 ks k).f2.f2] 42)).alloc (.cells #[.int .i64 (rd_T40 r (rd_T42 ks k).f0).f0, .int .i64 (rd_T40 r (rd_T42 ks k).f0).f1, .string (rd_T40 r (rd_T42 ks k).f0).f2] 40) := ⟨_, rfl⟩
    have e5 : w1.cell? ⟨wr.heap.size + 1, 0, none⟩ = some (.int .i64 (rd_T40 r (rd_T42 ks k).f0).f0) := by rw [hw1]; simp [go_sem]
    rw [← hw1]
    have HB1 : Aside0 (Below w0.heap.size w0 w1) := ⟨hw1 ▸ below_alloc (below_alloc HB.out _) _⟩
    clear hw1
    refine (c105 (rd_T42 ks k).f1 (rd_T40 r (rd_T42 ks k).f0) (rd_T42 ks k).f2 w1).mono ?_
    rw [HH.out]
    rintro e w2 ⟨rfl, hb⟩
    replace e5 := keep hb e5
    have HB2 := Aside0.mk (below_step HB1.out hb)
    clear hb b3
    by_cases hnull : (rd_T40 r (rd_T42 ks k).f0).f0 = 0
    ·have k1 : ((rd_T40 r (rd_T42 ks k).f0).f0 != 0) = false := bne_eq_false_iff_eq.2 hnull
     clear hnull
     go_wp2_with fail
     go_roundw
     case rel => exact ⟨k + 1, by omega, by go_num, ⟨fun j hj => (Nat.lt_succ_iff_lt_or_eq.1 hj).elim (HA.out j) (fun e => e ▸ hE.out)⟩, ⟨HB2.out⟩⟩
     case measure => simp [intOf]; omega
    have k1 : ((rd_T40 r (rd_T42 ks k).f0).f0 != 0) = true := bne_iff_ne.2 hnull
    clear hnull
    go_wp2_with fail
    go_roundw
    case rel => exact ⟨k + 1, by omega, by go_num, ⟨fun j hj => (Nat.lt_succ_iff_lt_or_eq.1 hj).elim (HA.out j) (fun e => e ▸ hE.out)⟩, ⟨HB2.out⟩⟩
    case measure => simp [intOf]; omega
   | false =>
    have hE : Aside0 ((rd_T40 r (rd_T42 ks k).f0).f0 ≠ 0 → chkH ks r k = 201) := ⟨fun h => by unfold chkH; rw [if_pos ⟨h, hh⟩]⟩
    have hE0 : Aside0 ((rd_T40 r (rd_T42 ks k).f0).f0 = 0 → chkH ks r k = 0) := ⟨fun h => by unfold chkH; rw [if_neg (by simp [h])]⟩
    have HH := Aside0.mk hh
    clear hh
    go_wp2_with fail
    clear hc0 hc1 hc2 hc3 hc4 hd0 hd1 hd2
    obtain ⟨w1, hw1⟩ : ∃ w1, w1 = (wr.alloc (.cells #[.int .i64 (rd_T42 ks k).f0, .int .i64 (rd_T42 ks k).f1, .int .i64 (rd_T42 ks k).f2.f0, .int .i64 (rd_T42 ks k).f2.f1, .string (rd_T42 ks k).f2.f2] 42)).alloc (.cells #[.int .i64 (rd_T40 r (rd_T42 ks k).f0).f0, .int .i64 (rd_T40 r (rd_T42 ks k).f0).f1, .string (rd_T40 r (rd_T42 ks k).f0).f2] 40) := ⟨_, rfl⟩
    have e5 : w1.cell? ⟨wr.heap.size + 1, 0, none⟩ = some (.int .i64 (rd_T40 r (rd_T42 ks k).f0).f0) := by rw [hw1]; simp [go_sem]
    rw [← hw1]
    have HB1 : Aside0 (Below w0.heap.size w0 w1) := ⟨hw1 ▸ below_alloc (below_alloc HB.out _) _⟩
    clear hw1
    refine (c105 (rd_T42 ks k).f1 (rd_T40 r (rd_T42 ks k).f0) (rd_T42 ks k).f2 w1).mono ?_
    rw [HH.out]
    rintro e w2 ⟨rfl, hb⟩
    replace e5 := keep hb e5
    have HB2 := Aside0.mk (below_step HB1.out hb)
    clear hb b3
    by_cases hnull : (rd_T40 r (rd_T42 ks k).f0).f0 = 0
    ·have k1 : ((rd_T40 r (rd_T42 ks k).f0).f0 != 0) = false := bne_eq_false_iff_eq.2 hnull
     have HE := Aside0.mk (hE0.out hnull)
     clear hnull
     go_wp2_with fail
     go_roundw
     case rel => exact ⟨k + 1, by omega, by go_num, ⟨fun j hj => (Nat.lt_succ_iff_lt_or_eq.1 hj).elim (HA.out j) (fun e => e ▸ HE.out)⟩, ⟨HB2.out⟩⟩
     case measure => simp [intOf]; omega
    have k1 : ((rd_T40 r (rd_T42 ks k).f0).f0 != 0) = true := bne_iff_ne.2 hnull
    have HE := Aside0.mk (hE.out hnull)
    clear hnull
    go_wp2_with fail
    go_ret
    exact ⟨by rw [fitsE_checks HC.out HL.out HF.out (by rw [firstE_hit _ _ k hlt HA.out (by rw [HE.out]; decide), HE.out])]; rfl, below_step HB0.out HB2.out⟩
def alumref20_Fits.f (a0_0 : ByteArray) (l0_1 : List S56) (l0_2 : List S65) (l0_3 : List S42) (l1 : List S40) : Option Int := some (fitsE a0_0 l0_1 l0_2 l0_3 l1)
theorem alumref20_Fits.calls (a0_0 : ByteArray) (A0_1 : Option Addr) (c0_1 : Nat) (l0_1 : List S56) (A0_2 : Option Addr) (c0_2 : Nat) (l0_2 : List S65) (A0_3 : Option Addr) (c0_3 : Nat) (l0_3 : List S42) (A1 : Option Addr) (c1 : Nat) (l1 : List S40) (r : Int) (w : World) (hr0_1 : Kd.C k56 w A0_1 l0_1.length l0_1) (hc0_1 : l0_1.length ≤ c0_1) (hr0_2 : Kd.C k65 w A0_2 l0_2.length l0_2) (hc0_2 : l0_2.length ≤ c0_2) (hr0_3 : Kd.C k42 w A0_3 l0_3.length l0_3) (hc0_3 : l0_3.length ≤ c0_3) (hr1 : Kd.C k40 w A1 l1.length l1) (hc1 : l1.length ≤ c1) (h : alumref20_Fits.f a0_0 l0_1 l0_2 l0_3 l1 = some r) :
  Calls Try.prog 45 #[.agg #[.string a0_0, .slice A0_1 l0_1.length c0_1, .slice A0_2 l0_2.length c0_2, .slice A0_3 l0_3.length c0_3], .slice A1 l1.length c1] w fun e w' => e = .returned (.int .i64 r) ∧ Below w.heap.size w w' := by
 obtain rfl := Option.some.inj h
 exact c45 a0_0 A0_1 c0_1 l0_1 A0_2 c0_2 l0_2 A0_3 c0_3 l0_3 A1 c1 l1 w hr0_1 hc0_1 hr0_2 hc0_2 hr0_3 hc0_3 hr1 hc1
end Go.Proofs.Ytkopbaikmlajmaa.Q
