/- trimmed to what these claims' texts use -/
import Derived.Test.YtkopbaikmlajmaaDA
import Derived.Test.YtkopbaikmlajmaaF26
import Derived.Test.YtkopbaikmlajmaaFA
namespace Go.Proofs.Ytkopbaikmlajmaa.Q
open Go.RowKit Go.Proofs.YtkopbaikmlajmaaW.PrintWords Go.Proofs.YtkopbaikmlajmaaW.PrintLast Go.Proofs.YtkopbaikmlajmaaW.PrintMore
set_option linter.unusedVariables false
set_option linter.unusedSimpArgs false

set_option maxHeartbeats 600000 in
set_option maxRecDepth 100000 in
theorem c28 (nm : ByteArray) (A1 : Option Addr) (c1 : Nat) (cs : List S56) (A2 : Option Addr) (c2 : Nat) (xs : List S65) (A3 : Option Addr) (c3 : Nat) (ks : List S42) (w : World) (hr1 : Kd.C k56 w A1 cs.length cs) (hc1 : cs.length ≤ c1) (hr2 : Kd.C k65 w A2 xs.length xs) (hc2 : xs.length ≤ c2) (hr3 : Kd.C k42 w A3 ks.length ks) (hc3 : ks.length ≤ c3) :
  Calls Try.prog 28 #[.agg #[.string nm, .slice A1 cs.length c1, .slice A2 xs.length c2, .slice A3 ks.length c3]] w fun e w' => ∃ v, e = .returned (.tuple #[v, .int .i64 (checkE nm cs xs ks)]) ∧ Kd.R (Kd.int .i64) 3 w' w.heap.size (fun _ => True) v (wordsE nm cs xs ks) ∧ Below w.heap.size w w' := by
 have hu28 := Try.underlying28
 have hu56 := Try.underlying56
 have hu65 := Try.underlying65
 have hu42 := Try.underlying42
 have hu40 := Try.underlying40
 have R1 := Aside0.mk hr1
 have R2 := Aside0.mk hr2
 have R3 := Aside0.mk hr3
 have C1 := Aside0.mk hc1
 have C2 := Aside0.mk hc2
 have C3 := Aside0.mk hc3
 clear hr1 hr2 hr3 hc1 hc2 hc3
 go_enter Try.func28, Try.ntmps28
 go_wp2_with fail
 obtain ⟨w0, hw0⟩ : ∃ w0, w0 = w.alloc (.cells #[.string nm, .slice A1 cs.length c1, .slice A2 xs.length c2, .slice A3 ks.length c3] 28) := ⟨_, rfl⟩
 have HB0 : Aside0 (Below w.heap.size w w0) := ⟨hw0 ▸ below_al w _⟩
 have hb28 : w0.heap[w.heap.size]? = some (.cells #[.string nm, .slice A1 cs.length c1, .slice A2 xs.length c2, .slice A3 ks.length c3] 28 (0, 0)) := by rw [hw0]; exact blk_new w _
 rw [← hw0]
 clear hw0
 refine (c26 nm A1 c1 cs A2 c2 xs A3 c3 ks _ (Kd.C_below R1.out HB0.out) C1.out (Kd.C_below R2.out HB0.out) C2.out (Kd.C_below R3.out HB0.out) C3.out).mono ?_
 by_cases hce : checkE nm cs xs ks ≠ 0
 ·have HF := Aside0.mk hce
  have he : (checkE nm cs xs ks != 0) = true := bne_iff_ne.2 hce
  clear hce
  rintro e wa ⟨rfl, hb⟩
  go_wp2_with fail
  go_ret2
  exact ⟨_, rfl, by unfold wordsE; rw [if_neg HF.out]; exact Kd.R_nil _ _ _ _ _, below_step HB0.out hb⟩
 replace hce := Decidable.not_not.1 hce
 rw [hce]
 rintro e wa ⟨rfl, hb⟩
 have OK := Aside0.mk (okT hce)
 have HW : Aside0 (wordsE nm cs xs ks = wordsL nm cs xs ks) := ⟨by unfold wordsE; rw [if_pos hce]⟩
 have HCE := Aside0.mk hce
 clear hce
 have hba := (hb.block _ (Array.getElem?_eq_some_iff.1 hb28).1).trans hb28
 have HBa := Aside0.mk (below_step HB0.out hb)
 clear hb hb28 HB0
 obtain ⟨n1, n2⟩ := OK.out.nc
 have n3 := OK.out.nx
 have n4 := OK.out.nk
 obtain ⟨n5, n6⟩ := nameB_size OK.out.name
 have b0 := fun o => keep_al (show wa.cell? ⟨w.heap.size, 0, none⟩ = some (.string nm) from blk_cell hba 0) o
 have b1 := fun o => keep_al (show wa.cell? ⟨w.heap.size, 1, none⟩ = some (.slice A1 cs.length c1) from blk_cell hba 1) o
 have b2 := fun o => keep_al (show wa.cell? ⟨w.heap.size, 2, none⟩ = some (.slice A2 xs.length c2) from blk_cell hba 2) o
 have b3 := fun o => keep_al (show wa.cell? ⟨w.heap.size, 3, none⟩ = some (.slice A3 ks.length c3) from blk_cell hba 3) o
 have s1 : IntKind.i64.wrap ((xs.length : Int) * 16) = (xs.length : Int) * 16 := wrap_i64_small _ (by omega) (by omega)
 have s2 : IntKind.i64.wrap ((ks.length : Int) * 256) = (ks.length : Int) * 256 := wrap_i64_small _ (by omega) (by omega)
 have s3 : IntKind.i64.wrap ((nm.size : Int) * 4096) = (nm.size : Int) * 4096 := wrap_i64_small _ (by omega) (by omega)
 have hst0 : St w wa wa.heap.size (wa.alloc (.cells #[.slice none 0 0] 95)) [] := ⟨⟨HBa.out.size, _, blk_new wa _, Kd.R_nil _ _ _ _ _⟩, below_step HBa.out (below_al wa _), KeepT.below (below_al wa _)⟩
 have HST := Aside0.mk hst0
 clear hst0
 go_wp2_with fail
 obtain ⟨wb, hwb⟩ : ∃ wb, wb = wa.alloc (.cells #[.slice none 0 0] 95) := ⟨_, rfl⟩
 have hsz : wa.heap.size + 1 = wb.heap.size := by rw [hwb, World.size_alloc]
 replace HST := Aside0.mk (hwb ▸ HST.out)
 rw [← hwb, hsz]
 clear hwb hsz
 refine (HST.out.add1 (Below.refl _ _) _ (by simp)).mono ?_
 rintro e w1 ⟨rfl, hs1, -⟩
 rw [head_bits _ _ _ _ (by omega) (by omega) (by omega) (by omega)] at hs1
 clear s1 s2 s3 b0 b1 b2 b3 HST
 have b0 := KeepT.cell hs1.keep hba (by decide) (by decide) (show wa.cell? ⟨w.heap.size, 0, none⟩ = some (.string nm) from blk_cell hba 0)
 have HS1 := Aside0.mk hs1
 clear hs1
 go_wp2_with fail
 refine (HS1.out.text nm (by simp) (by omega)).mono ?_
 rintro e w2 ⟨rfl, hs2, -⟩
 clear b0 HS1
 have b1 := KeepT.cell hs2.keep hba (by decide) (by decide) (show wa.cell? ⟨w.heap.size, 1, none⟩ = some (.slice A1 cs.length c1) from blk_cell hba 1)
 have HS2 := Aside0.mk (show St w wa wa.heap.size w2 (headW nm cs xs ks) from hs2)
 clear hs2
 go_wp2_with fail
 clear b1
 go_loopw [50] (fun v wr => ∃ k : Nat, k ≤ cs.length ∧ v = .int .i64 k ∧ Aside0 (St w wa wa.heap.size wr (headW nm cs xs ks ++ (cs.take k).flatMap colW))) (fun v _ => cs.length - (intOf v).toNat)
 case atStart => exact ⟨0, Nat.zero_le _, rfl, ⟨by simpa using HS2.out⟩⟩
 case round =>
  clear HS2
  obtain ⟨k, hk, rfl, HS⟩ := hrel
  by_cases hlt : k < cs.length
  ·obtain ⟨ad, rfl, hc0, hc1, hc2⟩ := at_T56 R1.out (k : Int) (by omega) (by omega)
   simp only [Int.toNat_natCast] at hc0 hc1 hc2
   replace hc0 := keep HS.out.below hc0
   replace hc1 := keep HS.out.below hc1
   replace hc2 := keep HS.out.below hc2
   go_wp2_with fail
   clear hc0 hc1 hc2
   obtain ⟨v1, hv1⟩ : ∃ v1, v1 = wr.alloc (.cells #[.string (rd_T56 cs k).f0, .int .i64 (rd_T56 cs k).f1, .bool (rd_T56 cs k).f2] 56) := ⟨_, rfl⟩
   have hX : v1.heap[wr.heap.size]? = some (.cells #[.string (rd_T56 cs k).f0, .int .i64 (rd_T56 cs k).f1, .bool (rd_T56 cs k).f2] 56 (0, 0)) := by rw [hv1]; exact blk_new wr _
   have hsv : Aside0 (St w wa wa.heap.size v1 (headW nm cs xs ks ++ (cs.take k).flatMap colW)) := ⟨hv1 ▸ HS.out.al _⟩
   rw [← hv1]
   clear hv1
   obtain ⟨q1, q2, q3, q4⟩ := OK.out.col k hlt
   have q5 := nameB_size q1
   have hlt1 := (Array.getElem?_eq_some_iff.1 hX).1
   have hlen : (headW nm cs xs ks ++ (cs.take k).flatMap colW).length ≤ 1000000 := by
    have g1 := OK.out.lenH
    have g2 := OK.out.lenC k hk
    rw [List.length_append]
    omega
   have HLEN := Aside0.mk hlen
   have q6 := trI_range (rd_T56 cs k).f2
   have s1 : IntKind.i64.wrap (trI (rd_T56 cs k).f2 * 4) = trI (rd_T56 cs k).f2 * 4 := wrap_i64_small _ (by omega) (by omega)
   have s2 : IntKind.i64.wrap (((rd_T56 cs k).f0.size : Int) * 8) = ((rd_T56 cs k).f0.size : Int) * 8 := wrap_i64_small _ (by omega) (by omega)
   have hcb := col_bits (rd_T56 cs k).f1 (trI (rd_T56 cs k).f2) ((rd_T56 cs k).f0.size : Int) (by omega) q6 (by omega)
   have HCB := Aside0.mk hcb
   clear hcb hlen q1 q2
   go_region_held3 (fun w' => w'.cell? ⟨wr.heap.size, 0, none⟩ = some (.string (rd_T56 cs k).f0) ∧ w'.cell? ⟨wr.heap.size, 1, none⟩ = some (.int .i64 (rd_T56 cs k).f1) ∧ w'.cell? ⟨wr.heap.size, 2, none⟩ = some (.bool (rd_T56 cs k).f2)) (first | exact bx3 hX | exact bx3 ((Below.heap_alloc _ _ _ hlt1).trans hX) | exact bx3 (hk1.block _ _ _ _ hX (by decide) (by decide)) | go_keep) (first | (go_at_call 81; refine (schema_bit.calls _ _ _ (bit_eq _)).mono ?_; rintro e w' ⟨rfl, ⟨nd, rfl⟩⟩) | (go_at_call 79; refine (hsv.out.add1' (w1 := v1.drewN (1 + nd)) (pw_below_drewN (Below.refl _ v1) _) _ v1.heap.size rfl HLEN.out).mono ?_; rintro e w' ⟨rfl, hs1, hk1⟩))
   rw [HCB.out] at hs1
   have z0 := (bx3 (hk1.block _ _ _ _ hX (by decide) (by decide))).1
   have HS1 := Aside0.mk hs1
   clear hs1 hX hk1 s1 s2 hlt1
   go_wp2_with fail
   refine (HS1.out.text (rd_T56 cs k).f0 (by have := HLEN.out; rw [List.length_append]; simp only [List.length_cons, List.length_nil]; have g1 := OK.out.lenH; have g2 := OK.out.lenC k hk; rw [List.length_append]; omega) (by omega)).mono ?_
   rintro e w3 ⟨rfl, hs3, -⟩
   have HS3 := Aside0.mk hs3
   clear hs3 z0
   go_wp2_with fail
   go_roundw
   case rel => exact ⟨k + 1, by omega, by go_num, ⟨by
    rw [flatMap_take colW cs z56 k hlt, show cs.getD k z56 = rd_T56 cs k by unfold rd_T56; rw [Int.toNat_natCast], show colW (rd_T56 cs k) = [(rd_T56 cs k).f1 + 4 * trI (rd_T56 cs k).f2 + 8 * ((rd_T56 cs k).f0.size : Int)] ++ textW (rd_T56 cs k).f0 from rfl, ← List.append_assoc, ← List.append_assoc]
    exact HS3.out⟩⟩
   case measure => simp [intOf]; omega
  ·obtain rfl : k = cs.length := by omega
   rw [List.take_length] at HS
   have b2 := KeepT.cell HS.out.keep hba (by decide) (by decide) (show wa.cell? ⟨w.heap.size, 2, none⟩ = some (.slice A2 xs.length c2) from blk_cell hba 2)
   have HS2 := HS
   clear HS hlt hk
   go_wp2_with fail
   clear b2
   go_loopw [77] (fun v wr => ∃ k : Nat, k ≤ xs.length ∧ v = .int .i64 k ∧ Aside0 (St w wa wa.heap.size wr (headW nm cs xs ks ++ cs.flatMap colW ++ (xs.take k).flatMap idxW))) (fun v _ => xs.length - (intOf v).toNat)
   case atStart => exact ⟨0, Nat.zero_le _, rfl, ⟨by simpa using HS2.out⟩⟩
   case round =>
    clear HS2
    obtain ⟨k, hk, rfl, HS⟩ := hrel
    have hlen : (headW nm cs xs ks ++ cs.flatMap colW ++ (xs.take k).flatMap idxW).length ≤ 1000 := by
     have g1 := OK.out.lenH
     have g2 := OK.out.lenC cs.length (Nat.le_refl _)
     have g3 := OK.out.lenX k hk
     rw [List.take_length] at g2
     rw [List.length_append, List.length_append]
     omega
    have HLEN := Aside0.mk hlen
    clear hlen
    by_cases hlt : k < xs.length
    ·obtain ⟨ad, Ax, cx, rfl, hc0, hc1, hc2, hcx, hrx⟩ := at_T65 R2.out (k : Int) (by omega) (by omega)
     simp only [Int.toNat_natCast] at hc0 hc1 hc2
     replace hc0 := keep HS.out.below hc0
     replace hc1 := keep HS.out.below hc1
     replace hc2 := keep HS.out.below hc2
     obtain ⟨q1, q2, q3, q4, q5⟩ := OK.out.idx k hlt
     have q6 := nameB_size q1
     have Q5 := Aside0.mk q5
     have HRX := Aside0.mk hrx
     clear q5 hrx q1 q2
     go_wp2_with fail
     clear hc0 hc1 hc2
     obtain ⟨v1, hv1⟩ : ∃ v1, v1 = wr.alloc (.cells #[.string (rd_T65 xs k).f0, .slice Ax (rd_T65 xs k).f1.length cx, .bool (rd_T65 xs k).f2] 65) := ⟨_, rfl⟩
     have hX : v1.heap[wr.heap.size]? = some (.cells #[.string (rd_T65 xs k).f0, .slice Ax (rd_T65 xs k).f1.length cx, .bool (rd_T65 xs k).f2] 65 (0, 0)) := by rw [hv1]; exact blk_new wr _
     have hsv : Aside0 (St w wa wa.heap.size v1 (headW nm cs xs ks ++ cs.flatMap colW ++ (xs.take k).flatMap idxW)) := ⟨hv1 ▸ HS.out.al _⟩
     rw [← hv1]
     clear hv1
     obtain ⟨bx, hbx⟩ : ∃ bx, bx = wr.heap.size := ⟨_, rfl⟩
     rw [← hbx] at hX ⊢
     clear hbx
     have HX := Aside0.mk hX
     clear hX
     go_loopw [10, 84] (fun p v wq => ∃ j : Nat, j ≤ (rd_T65 xs k).f1.length ∧ v = .int .i64 j ∧ p = .int .i64 (packI ((rd_T65 xs k).f1.take j)) ∧ wq = v1) (fun _ v _ => (rd_T65 xs k).f1.length - (intOf v).toNat)
     case atStart => exact ⟨0, Nat.zero_le _, rfl, rfl, rfl⟩
     case round =>
      obtain ⟨j, hj, rfl, rfl, rfl⟩ := hrel
      have hpl : ∀ i : Nat, i < (rd_T65 xs k).f1.length → 0 ≤ rd (rd_T65 xs k).f1 (i : Int) ∧ rd (rd_T65 xs k).f1 (i : Int) < 16 := fun i hi => by
       have := Q5.out i hi
       unfold badP at this
       simp only [Bool.or_eq_false_iff, decide_eq_false_iff_not] at this
       omega
      by_cases hjl : j < (rd_T65 xs k).f1.length
      ·obtain ⟨ax, rfl, hx0⟩ := Kd.at_int HRX.out (j : Int) (by omega) (by omega)
       simp only [Int.toNat_natCast] at hx0
       replace hx0 := keep hsv.out.below hx0
       obtain ⟨p0, p1⟩ := pack_range _ j hj (fun i hi => hpl i (by omega))
       obtain ⟨y0, y1⟩ := hpl j hjl
       have hj8 : j < 8 := by omega
       clear hpl
       go_wp2_with fail
       exact ⟨⟨j + 1, by omega, by go_num, congrArg (Value.int IntKind.i64) (pack_bits _ j hjl hj8 p0 p1 y0 y1), trivial⟩, by simp [intOf]; omega⟩
      ·obtain rfl : j = (rd_T65 xs k).f1.length := by omega
       rw [List.take_length]
       clear hpl hjl hj
       have hX := HX.out
       have hlt1 := (Array.getElem?_eq_some_iff.1 hX).1
       have g6 := trI_range (rd_T65 xs k).f2
       have s1 : IntKind.i64.wrap (((rd_T65 xs k).f1.length : Int) * 2) = ((rd_T65 xs k).f1.length : Int) * 2 := wrap_i64_small _ (by omega) (by omega)
       have s2 : IntKind.i64.wrap (((rd_T65 xs k).f0.size : Int) * 32) = ((rd_T65 xs k).f0.size : Int) * 32 := wrap_i64_small _ (by omega) (by omega)
       have HCB := Aside0.mk (idx_bits (trI (rd_T65 xs k).f2) ((rd_T65 xs k).f1.length : Int) ((rd_T65 xs k).f0.size : Int) g6 (by omega) (by omega))
       go_wp2_with fail
       go_region_held3 (fun w' => w'.cell? ⟨bx, 0, none⟩ = some (.string (rd_T65 xs k).f0) ∧ w'.cell? ⟨bx, 1, none⟩ = some (.slice Ax (rd_T65 xs k).f1.length cx) ∧ w'.cell? ⟨bx, 2, none⟩ = some (.bool (rd_T65 xs k).f2)) (first | exact bx3 hX | exact bx3 ((Below.heap_alloc _ _ _ hlt1).trans hX) | exact bx3 (hk1.block _ _ _ _ hX (by decide) (by decide)) | go_keep) (first | (go_at_call 81; refine (schema_bit.calls _ _ _ (bit_eq _)).mono ?_; rintro e w' ⟨rfl, ⟨nd, rfl⟩⟩) | (go_at_call 79; refine (hsv.out.add2' (w1 := wr.drewN (1 + nd)) (pw_below_drewN (Below.refl _ wr) _) _ _ wr.heap.size rfl (by have := HLEN.out; omega)).mono ?_; rintro e w' ⟨rfl, hs1, hk1⟩))
       rw [HCB.out] at hs1
       have z0 := (bx3 (hk1.block _ _ _ _ hX (by decide) (by decide))).1
       have HS1 := Aside0.mk hs1
       clear hs1 hX hk1 s1 s2 hlt1
       go_wp2_with fail
       refine (HS1.out.text (rd_T65 xs k).f0 (by have := HLEN.out; rw [List.length_append]; simp only [List.length_cons, List.length_nil]; omega) (by omega)).mono ?_
       rintro e w3 ⟨rfl, hs3, -⟩
       have HS3 := Aside0.mk hs3
       clear hs3 z0
       go_wp2_with fail
       go_roundw
       case rel => exact ⟨k + 1, by omega, by go_num, ⟨by
        rw [flatMap_take idxW xs z65 k hlt, show xs.getD k z65 = rd_T65 xs k by unfold rd_T65; rw [Int.toNat_natCast], show idxW (rd_T65 xs k) = [trI (rd_T65 xs k).f2 + 2 * ((rd_T65 xs k).f1.length : Int) + 32 * ((rd_T65 xs k).f0.size : Int), packI (rd_T65 xs k).f1] ++ textW (rd_T65 xs k).f0 from rfl, ← List.append_assoc, ← List.append_assoc]
        exact HS3.out⟩⟩
       case measure => simp [intOf]; omega
    ·obtain rfl : k = xs.length := by omega
     rw [List.take_length] at HS
     have b3 := KeepT.cell HS.out.keep hba (by decide) (by decide) (show wa.cell? ⟨w.heap.size, 3, none⟩ = some (.slice A3 ks.length c3) from blk_cell hba 3)
     have HS2 := HS
     clear HS hlt hk HLEN
     go_wp2_with fail
     clear b3
     go_loopw [121] (fun v wr => ∃ k : Nat, k ≤ ks.length ∧ v = .int .i64 k ∧ Aside0 (St w wa wa.heap.size wr (headW nm cs xs ks ++ cs.flatMap colW ++ xs.flatMap idxW ++ (ks.take k).flatMap chkW))) (fun v _ => ks.length - (intOf v).toNat)
     case atStart => exact ⟨0, Nat.zero_le _, rfl, ⟨by simpa using HS2.out⟩⟩
     case round =>
      clear HS2
      obtain ⟨k, hk, rfl, HS⟩ := hrel
      have hlen : (headW nm cs xs ks ++ cs.flatMap colW ++ xs.flatMap idxW ++ (ks.take k).flatMap chkW).length ≤ 1000 := by
       have g1 := OK.out.lenH
       have g2 := OK.out.lenC cs.length (Nat.le_refl _)
       have g3 := OK.out.lenX xs.length (Nat.le_refl _)
       have g4 := OK.out.lenK k hk
       rw [List.take_length] at g2 g3
       rw [List.length_append, List.length_append, List.length_append]
       omega
      have HLEN := Aside0.mk hlen
      clear hlen
      by_cases hlt : k < ks.length
      ·obtain ⟨ad, rfl, hc0, hc1, hc2, hc3, hc4⟩ := at_T42 R3.out (k : Int) (by omega) (by omega)
       simp only [Int.toNat_natCast] at hc0 hc1 hc2 hc3 hc4
       replace hc0 := keep HS.out.below hc0
       replace hc1 := keep HS.out.below hc1
       replace hc2 := keep HS.out.below hc2
       replace hc3 := keep HS.out.below hc3
       replace hc4 := keep HS.out.below hc4
       obtain ⟨q1, q2, q3, q4, q5, -⟩ := OK.out.chk k hlt
       have q6 := validB_text q5
       clear q5
       go_wp2_with fail
       clear hc0 hc1 hc2 hc3 hc4
       obtain ⟨v1, hv1⟩ : ∃ v1, v1 = wr.alloc (.cells #[.int .i64 (rd_T42 ks k).f0, .int .i64 (rd_T42 ks k).f1, .int .i64 (rd_T42 ks k).f2.f0, .int .i64 (rd_T42 ks k).f2.f1, .string (rd_T42 ks k).f2.f2] 42) := ⟨_, rfl⟩
       have hX : v1.heap[wr.heap.size]? = some (.cells #[.int .i64 (rd_T42 ks k).f0, .int .i64 (rd_T42 ks k).f1, .int .i64 (rd_T42 ks k).f2.f0, .int .i64 (rd_T42 ks k).f2.f1, .string (rd_T42 ks k).f2.f2] 42 (0, 0)) := by rw [hv1]; exact blk_new wr _
       have hsv : Aside0 (St w wa wa.heap.size v1 (headW nm cs xs ks ++ cs.flatMap colW ++ xs.flatMap idxW ++ (ks.take k).flatMap chkW)) := ⟨hv1 ▸ HS.out.al _⟩
       have hsz : wr.heap.size + 1 = v1.heap.size := by rw [hv1, World.size_alloc]
       rw [← hv1, hsz]
       clear hv1 hsz
       refine (hsv.out.add1 (Below.refl _ _) _ (by have := HLEN.out; omega)).mono ?_
       rintro e w1 ⟨rfl, hs1, hk1⟩
       rw [chk_bits _ _ (by omega) (by omega)] at hs1
       have HS1 := Aside0.mk hs1
       have hX1 := hk1.block _ _ _ _ hX (by decide) (by decide)
       have HX1 := Aside0.mk hX1
       obtain ⟨z0, z1, z2, z3, z4⟩ := bx5 hX1
       have hrd : Aside0 (ks.getD k z42 = rd_T42 ks k) := ⟨by unfold rd_T42; rw [Int.toNat_natCast]⟩
       clear hX hs1 hk1 hX1 z0 z1
       rcases q6 with ⟨h1, h2, h3, -⟩ | ⟨h1, h2, -⟩ | ⟨h1, -, h3⟩
       ·have e1 : ((rd_T42 ks k).f2.f0 == 1) = true := beq_iff_eq.2 h1
        have s1 : IntKind.i64.wrap ((rd_T42 ks k).f2.f1 + 549755813888) = (rd_T42 ks k).f2.f1 + 549755813888 := wrap_i64_small _ (by omega) (by omega)
        have HV : Aside0 (valW (rd_T42 ks k).f2 = [(rd_T42 ks k).f2.f1 + 549755813888]) := ⟨by unfold valW; rw [if_pos h1]⟩
        clear z4 h1
        go_wp2_with fail
        refine (HS1.out.add1 (Below.refl _ _) _ (by have := HLEN.out; rw [List.length_append]; simp only [List.length_cons, List.length_nil]; omega)).mono ?_
        rintro e w2 ⟨rfl, hs2, -⟩
        have HS2 := Aside0.mk hs2
        clear hs2 z2 z3 s1 e1
        go_wp2_with fail
        go_roundw
        case rel => exact ⟨k + 1, by omega, by go_num, ⟨by
         rw [flatMap_take chkW ks z42 k hlt, hrd.out, show chkW (rd_T42 ks k) = [(rd_T42 ks k).f0 + 16 * (rd_T42 ks k).f1] ++ valW (rd_T42 ks k).f2 from rfl, HV.out, ← List.append_assoc, ← List.append_assoc]
         exact HS2.out⟩⟩
        case measure => simp [intOf]; omega
       ·have e1 : ((rd_T42 ks k).f2.f0 == 1) = false := beq_eq_false_iff_ne.2 (by omega)
        have e2 : ((rd_T42 ks k).f2.f0 == 3) = true := beq_iff_eq.2 h1
        have HV : Aside0 (valW (rd_T42 ks k).f2 = [(rd_T42 ks k).f2.f1]) := ⟨by unfold valW; rw [if_neg (by omega), if_pos h1]⟩
        clear z4 h1 h2
        go_wp2_with fail
        refine (HS1.out.add1 (Below.refl _ _) _ (by have := HLEN.out; rw [List.length_append]; simp only [List.length_cons, List.length_nil]; omega)).mono ?_
        rintro e w2 ⟨rfl, hs2, -⟩
        have HS2 := Aside0.mk hs2
        clear hs2 z2 z3 e2 e1
        go_wp2_with fail
        go_roundw
        case rel => exact ⟨k + 1, by omega, by go_num, ⟨by
         rw [flatMap_take chkW ks z42 k hlt, hrd.out, show chkW (rd_T42 ks k) = [(rd_T42 ks k).f0 + 16 * (rd_T42 ks k).f1] ++ valW (rd_T42 ks k).f2 from rfl, HV.out, ← List.append_assoc, ← List.append_assoc]
         exact HS2.out⟩⟩
        case measure => simp [intOf]; omega
       ·have e1 : ((rd_T42 ks k).f2.f0 == 1) = false := beq_eq_false_iff_ne.2 (by omega)
        have e2 : ((rd_T42 ks k).f2.f0 == 3) = false := beq_eq_false_iff_ne.2 (by omega)
        have HV : Aside0 (valW (rd_T42 ks k).f2 = [((rd_T42 ks k).f2.f2.size : Int)] ++ textW (rd_T42 ks k).f2.f2) := ⟨by unfold valW; rw [if_neg (by omega), if_neg (by omega)]; rfl⟩
        clear h1
        go_wp2_with fail
        refine (HS1.out.add1 (Below.refl _ _) _ (by have := HLEN.out; rw [List.length_append]; simp only [List.length_cons, List.length_nil]; omega)).mono ?_
        rintro e w2 ⟨rfl, hs2, hk2⟩
        have z4' := (bx5 (hk2.block _ _ _ _ HX1.out (by decide) (by decide))).2.2.2.2
        have HS2 := Aside0.mk hs2
        clear hs2 z2 z3 z4 e2 e1 hk2
        go_wp2_with fail
        refine (HS2.out.text (rd_T42 ks k).f2.f2 (by have := HLEN.out; rw [List.length_append, List.length_append]; simp only [List.length_cons, List.length_nil]; omega) (by omega)).mono ?_
        rintro e w3 ⟨rfl, hs3, -⟩
        have HS3 := Aside0.mk hs3
        clear hs3 z4'
        go_wp2_with fail
        go_roundw
        case rel => exact ⟨k + 1, by omega, by go_num, ⟨by
         rw [flatMap_take chkW ks z42 k hlt, hrd.out, show chkW (rd_T42 ks k) = [(rd_T42 ks k).f0 + 16 * (rd_T42 ks k).f1] ++ valW (rd_T42 ks k).f2 from rfl, HV.out, ← List.append_assoc, ← List.append_assoc, ← List.append_assoc]
         exact HS3.out⟩⟩
        case measure => simp [intOf]; omega
      ·obtain rfl : k = ks.length := by omega
       rw [List.take_length] at HS
       obtain ⟨hg, v, hbv, hrv⟩ := HS.out.ws
       have hgc := show wr.cell? ⟨wa.heap.size, 0, none⟩ = some v from blk_cell hbv 0
       have HR := Aside0.mk hrv
       clear hrv hbv
       go_wp2_with fail
       go_ret2
       refine ⟨v, ?_, by rw [HW.out]; exact HR.out, HS.out.below⟩
       rw [HCE.out]
       rfl

end Go.Proofs.Ytkopbaikmlajmaa.Q
