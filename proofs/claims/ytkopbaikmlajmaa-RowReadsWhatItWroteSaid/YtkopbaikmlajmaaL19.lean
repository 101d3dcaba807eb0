/- trimmed to what these claims' texts use -/
import Derived.Test.YtkopbaikmlajmaaM
import Derived.Test.YtkopbaikmlajmaaAP
import Derived.Test.YtkopbaikmlajmaaL21
import Derived.Deep.RegionHeld3
import Derived.Deep.DrawnRows
namespace Go.Proofs.Ytkopbaikmlajmaa.Q
open Go.RowKit Go.Proofs.YtkopbaikmlajmaaW.PrintWords Go.Proofs.YtkopbaikmlajmaaW.PrintLast Go.Proofs.YtkopbaikmlajmaaW.PrintMore
set_option linter.unusedVariables false
set_option linter.unusedSimpArgs false
attribute [local go_sem ↓] Go.wp_at_zero Go.wp_at_succ
theorem row_len {cs : List S56} {r : List S40} (h : FitV cs r) (h8 : r.length ≤ 8) : 1 ≤ (rowW r).length ∧ (rowW r).length ≤ 73 := by
 have := body_len (okR_of h (by omega)) r.length (Nat.le_refl _)
 rw [List.take_length] at this
 unfold rowW
 rw [List.length_cons]
 omega
theorem decR_some {cs : List S56} {l : List Int} {x : List S40} {n : Nat} (h : decE cs l = some (x, n)) : decR cs l = (x, (n : Int), 0) := by unfold decR; rw [h]
theorem decR_none {cs : List S56} {l : List Int} (h : decE cs l = none) : decR cs l = ([], 0, 3) := by unfold decR; rw [h]
set_option maxHeartbeats 1000000 in
set_option maxRecDepth 100000 in
theorem w19 (nm : ByteArray) (A1 : Option Addr) (c1 : Nat) (cs : List S56) (A2 : Option Addr) (c2 : Nat) (xs : List S65) (A3 : Option Addr) (c3 : Nat) (ks : List S42) (A4 : Option Addr) (c4 : Nat) (r : List S40) (A6 : Option Addr) (c6 : Nat) (more : List Int) (cut : Int) (w : World) (hT : Tab w nm A1 c1 cs A2 c2 xs A3 c3 ks) (hr : Kd.C k40 w A4 r.length r) (hc : r.length ≤ c4) (hp : ∀ x, x ∈ r → p40 x) (hr6 : (Kd.int .i64).C w A6 more.length more) (hc6 : more.length ≤ c6) (hp6 : ∀ x, x ∈ more → inI x) (hcut : 0 ≤ cut ∧ cut ≤ 255) :
  Calls Try.prog 19 #[.agg #[.string nm, .slice A1 cs.length c1, .slice A2 xs.length c2, .slice A3 ks.length c3], .slice A4 r.length c4, .slice A6 more.length c6, .int .u8 cut] w fun e w' => e = .returned (.bool true) ∧ Below w.heap.size w w' := by
 have hu28 := Try.underlying28
 have m6 : more.length ≤ 9223372036854775807 := hr6.2.1
 have T := Aside0.mk hT
 have R4 := Aside0.mk hr
 have C4 := Aside0.mk hc
 have R6 := Aside0.mk hr6
 have C6 := Aside0.mk hc6
 have CU := Aside0.mk hcut
 clear hT hr hc hp hr6 hc6 hp6 hcut
 go_enter Try.func19, Try.ntmps19
 go_wp2_with fail
 obtain ⟨w0, hw0⟩ : ∃ w0, w0 = (w.alloc (.cells #[.string nm, .slice A1 cs.length c1, .slice A2 xs.length c2, .slice A3 ks.length c3] 28)).alloc (.cells #[.slice A4 r.length c4] 37) := ⟨_, rfl⟩
 have HB := Aside0.mk (show Below w.heap.size w w0 from hw0 ▸ below_step (below_al w _) (below_al _ _))
 have HT0 := Aside0.mk (show w0.heap[w.heap.size]? = some (.cells #[.string nm, .slice A1 cs.length c1, .slice A2 xs.length c2, .slice A3 ks.length c3] 28 (0, 0)) from hw0 ▸ blk_alloc (blk_new w _) _)
 have HV0 := Aside0.mk (show w0.heap[w.heap.size + 1]? = some (.cells #[.slice A4 r.length c4] 37 (0, 0)) by
  rw [hw0, show w.heap.size + 1 = (w.alloc (.cells #[.string nm, .slice A1 cs.length c1, .slice A2 xs.length c2, .slice A3 ks.length c3] 28)).heap.size by simp]; exact blk_new _ _)
 rw [← hw0]
 clear hw0
 obtain ⟨b, hb⟩ : ∃ b, b = w.heap.size := ⟨_, rfl⟩
 rw [← hb] at HT0 HV0 ⊢
 clear hb
 replace T := Aside0.mk (T.out.below HB.out)
 replace R4 := Aside0.mk (Kd.C_below R4.out HB.out)
 replace R6 := Aside0.mk (Kd.C_below R6.out HB.out)
 refine (c32one nm A1 c1 cs A2 c2 xs A3 c3 ks A4 c4 r w0 (b + 1) T.out HV0.out R4.out C4.out).mono ?_
 rintro e w1 ⟨rfl, hb⟩
 have HC := Aside0.mk hb
 clear hb
 cases hV : valid21 nm cs xs ks [r] with
 | false =>
  go_wp2_with (go_at_call 33; refine (c33 _).mono ?_; rintro e w2 ⟨rfl, hb⟩)
  go_ret
  exact ⟨rfl, below_step HB.out (below_step HC.out hb)⟩
 | true =>
 clear hV
 by_cases hlen : 20 < more.length
 ·have h1 : decide ((20 : Int) < (more.length : Int)) = true := decide_eq_true (by omega)
  have h2 : decide (20 < more.length) = true := decide_eq_true (by omega)
  go_wp2_with (go_at_call 33; refine (c33 _).mono ?_; rintro e w2 ⟨rfl, hb⟩)
  go_ret
  exact ⟨rfl, below_step HB.out (below_step HC.out hb)⟩
 have h1 : decide ((20 : Int) < (more.length : Int)) = false := decide_eq_false (by omega)
 have h2 : decide (20 < more.length) = false := decide_eq_false (by omega)
 have HL := Aside0.mk (show more.length ≤ 20 by omega)
 clear hlen m6
 have hT := (HC.out.block _ (Array.getElem?_eq_some_iff.1 HT0.out).1).trans HT0.out
 have t0 := show w1.cell? ⟨b, 0, none⟩ = some (.string nm) from blk_cell hT 0
 have t1 := show w1.cell? ⟨b, 1, none⟩ = some (.slice A1 cs.length c1) from blk_cell hT 1
 have t2 := show w1.cell? ⟨b, 2, none⟩ = some (.slice A2 xs.length c2) from blk_cell hT 2
 have t3 := show w1.cell? ⟨b, 3, none⟩ = some (.slice A3 ks.length c3) from blk_cell hT 3
 clear hT
 go_wp2_with fail
 clear t0 t1 t2 t3 h1 h2
 refine (c42 nm A1 c1 cs A2 c2 xs A3 c3 ks A4 c4 r w1 (T.out.below HC.out) (Kd.C_below R4.out HC.out) C4.out).mono ?_
 by_cases hf : fitsE nm cs xs ks r = 0
 case neg =>
  have he : encR nm cs xs ks r = ([], fitsE nm cs xs ks r) := by unfold encR; rw [if_neg hf]
  rw [he]
  rintro e w2 ⟨A, c, rfl, _, _, hb⟩
  replace HC := Aside0.mk (below_step HC.out hb)
  have he' : (fitsE nm cs xs ks r != 0) = true := bne_iff_ne.2 hf
  clear hb he hf
  generalize fitsE nm cs xs ks r = q at *
  go_wp2_with (go_at_call 33; refine (c33 _).mono ?_; rintro e w3 ⟨rfl, hb⟩)
  go_ret
  exact ⟨rfl, below_step HB.out (below_step HC.out hb)⟩
 have he : encR nm cs xs ks r = (rowW r, 0) := by unfold encR; rw [if_pos hf]
 rw [he]
 obtain ⟨hck, hlen, hfv⟩ := fitV_of hf
 have n8 := (okT hck).nc
 obtain ⟨hw1, hw73⟩ := row_len hfv (by omega)
 have HD := Aside0.mk (decR_some (decE_row hfv (by omega) (by omega) hlen more))
 have HK := Aside0.mk (fun j hj => decR_none (decE_cut hfv (by omega) (by omega) hlen j hj))
 have HZ := Aside0.mk (fun w h4 hc4 => c59 A4 c4 r w (okR_of hfv (by omega)) h4 hc4)
 have HN := Aside0.mk n8
 have HRL := Aside0.mk hlen
 clear he hck hfv hf n8 hlen
 generalize rowW r = ws at *
 rintro e w2 ⟨A, c, rfl, hla, hCa, hb⟩
 replace HC := Aside0.mk (below_step HC.out hb)
 have LA := Aside0.mk (show ws.length ≤ c from hla)
 have CA := Aside0.mk (show (Kd.int .i64).C w2 A ws.length ws from hCa)
 clear hb hla hCa w1
 have hT := (HC.out.block _ (Array.getElem?_eq_some_iff.1 HT0.out).1).trans HT0.out
 have t0 := show w2.cell? ⟨b, 0, none⟩ = some (.string nm) from blk_cell hT 0
 have t1 := show w2.cell? ⟨b, 1, none⟩ = some (.slice A1 cs.length c1) from blk_cell hT 1
 have t2 := show w2.cell? ⟨b, 2, none⟩ = some (.slice A2 xs.length c2) from blk_cell hT 2
 have t3 := show w2.cell? ⟨b, 3, none⟩ = some (.slice A3 ks.length c3) from blk_cell hT 3
 clear hT
 have f1 : decide (c < ws.length) = false := decide_eq_false (by have := LA.out; omega)
 have f2 : ws.length ≤ c := LA.out
 have HW1 := Aside0.mk hw1
 have HW73 := Aside0.mk hw73
 clear hw1
 go_wp2_with fail
 go_region_held3 (fun w' => w'.cell? ⟨b, 0, none⟩ = some (.string nm) ∧ w'.cell? ⟨b, 1, none⟩ = some (.slice A1 cs.length c1) ∧ w'.cell? ⟨b, 2, none⟩ = some (.slice A2 xs.length c2) ∧ w'.cell? ⟨b, 3, none⟩ = some (.slice A3 ks.length c3))
  (first | (refine ⟨?_, ?_, ?_, ?_⟩ <;> assumption) | go_keep)
  (first
   | ((fail_if_success (have := hb7)); (refine step_append_full (by rfl) (Kd.int .i64) _ _ _ 32 3 (.int .i64 0) 8 (by rfl) Try.underlying32 info3 rfl (by decide) (by decide) A ws A6 c6 more (by rfl) (by rfl) (Kd.C_below CA.out (below_dr _)) (Kd.C_below (Kd.C_below R6.out HC.out) (below_dr _)) (by have := HL.out; omega) ?_; intro l7 A7 c7 w3 e7 hl7 hC7 hb7; have u0 := keep hb7 t0; have u1 := keep hb7 t1; have u2 := keep hb7 t2; have u3 := keep hb7 t3))
   | ((go_at_call 44; refine (c44r nm A1 c1 cs A2 c2 xs A3 c3 ks A7 c7 l7 _ (T.out.below (below_step HC.out (below_step (below_dr w2) hb7))) (by have := HN.out; omega) hC7 hl7 (by rw [e7.out, List.length_append]; have := HL.out; omega)).mono ?_; rw [e7.out, HD.out]; rintro e w4 ⟨A8, c8, rfl, hl8, hC8, hb8⟩; have v0 := keep hb8 u0; have v1 := keep hb8 u1; have v2 := keep hb8 u2; have v3 := keep hb8 u3)))
 replace HC := Aside0.mk (below_step HC.out (below_step (below_dr w2) (below_step hb7 hb8)))
 replace CA := Aside0.mk (Kd.C_below (Kd.C_below (Kd.C_below CA.out (below_dr w2)) hb7) hb8)
 have L8 := Aside0.mk (show r.length ≤ c8 from hl8)
 have C8 := Aside0.mk (show Kd.C k40 w4 A8 r.length r from hC8)
 clear hb7 hb8 hl8 hC8 t0 t1 t2 t3 u0 u1 u2 u3 v0 v1 v2 v3 hC7 hl7 e7 f1 w2 w3
 have g1 : ((ws.length : Int) == 0) = false := beq_eq_false_iff_ne.2 (by have := HW1.out; omega)
 have g2 : (ws.length == 0) = false := beq_eq_false_iff_ne.2 (by have := HW1.out; omega)
 have g3 : decide ((73 : Int) < (ws.length : Int)) = false := decide_eq_false (by omega)
 have g4 : decide (73 < ws.length) = false := decide_eq_false (by omega)
 have g5 : ((ws.length : Int) != (ws.length : Int)) = false := by simp
 go_wp2_with (go_at_call 59; refine (HZ.out _ (Kd.C_below R4.out HC.out) C4.out).mono ?_; rintro e w5 ⟨rfl, hb⟩)
 clear g1 g2 g3 g4 g5
 replace HC := Aside0.mk (below_step HC.out hb)
 replace CA := Aside0.mk (Kd.C_below CA.out hb)
 replace C8 := Aside0.mk (Kd.C_below C8.out hb)
 clear hb
 obtain ⟨cu, rfl⟩ := Int.eq_ofNat_of_zero_le CU.out.1
 have hcu : cu ≤ 255 := by have := CU.out.2; omega
 obtain ⟨j, hj⟩ : ∃ j, j = cu % ws.length := ⟨_, rfl⟩
 have hjw : j < ws.length := by rw [hj]; exact Nat.mod_lt _ (by have := HW1.out; omega)
 have q1 : Int.tmod (cu : Int) (ws.length : Int) = (j : Int) := by rw [Int.tmod_eq_emod_of_nonneg (by omega), hj]; rfl
 have q2 : (cu : Int) % (ws.length : Int) = (j : Int) := by rw [hj]; rfl
 have q3 : ((ws.length : Int) == 0) = false := beq_eq_false_iff_ne.2 (by have := HW1.out; omega)
 have q4 : ¬ (ws.length : Int) = 0 := by have := HW1.out; omega
 have q8 : ¬ ws.length = 0 := by have := HW1.out; omega
 have q9 : (ws.length == 0) = false := beq_eq_false_iff_ne.2 q8
 have q10 : IntKind.i64.wrap (Int.tmod (cu : Int) (ws.length : Int)) = (j : Int) := by rw [q1]; exact wrap_i64_small _ (by omega) (by omega)
 have q11 : IntKind.i64.wrap (cu : Int) = (cu : Int) := wrap_i64_small _ (by omega) (by omega)
 have q12 : IntKind.i64.wrap ((cu : Int) % (ws.length : Int)) = (j : Int) := by rw [q2]; exact wrap_i64_small _ (by omega) (by omega)
 have q5 : j ≤ c := by have := LA.out; omega
 have q6 : (0 : Int) ≤ (j : Int) := by omega
 have q7 : (j : Int) ≤ (c : Int) := by omega
 have hT := (HC.out.block _ (Array.getElem?_eq_some_iff.1 HT0.out).1).trans HT0.out
 have t0 := show w5.cell? ⟨b, 0, none⟩ = some (.string nm) from blk_cell hT 0
 have t1 := show w5.cell? ⟨b, 1, none⟩ = some (.slice A1 cs.length c1) from blk_cell hT 1
 have t2 := show w5.cell? ⟨b, 2, none⟩ = some (.slice A2 xs.length c2) from blk_cell hT 2
 have t3 := show w5.cell? ⟨b, 3, none⟩ = some (.slice A3 ks.length c3) from blk_cell hT 3
 have HJ := Aside0.mk hjw
 have HJ2 := Aside0.mk hj
 have hj2 : (ws.take j).length = j := by rw [List.length_take]; omega
 have HTL := Aside0.mk hj2
 have CT := Aside0.mk (show (Kd.int .i64).C w5 A j (ws.take j) by have := Kd.C_take (m := j) CA.out (by omega); rwa [hj2] at this)
 clear hT hj hjw hcu hj2
 go_wp2_with fail
 go_region_held3 (fun w' => w'.cell? ⟨b, 0, none⟩ = some (.string nm) ∧ w'.cell? ⟨b, 1, none⟩ = some (.slice A1 cs.length c1) ∧ w'.cell? ⟨b, 2, none⟩ = some (.slice A2 xs.length c2) ∧ w'.cell? ⟨b, 3, none⟩ = some (.slice A3 ks.length c3))
  (first | (refine ⟨?_, ?_, ?_, ?_⟩ <;> assumption) | go_keep)
  ((go_at_call 44; have hk := c44r nm A1 c1 cs A2 c2 xs A3 c3 ks A c (ws.take j) w5.drew (T.out.below (below_step HC.out (below_dr w5))) (by have := HN.out; omega) (by rw [HTL.out]; exact Kd.C_below CT.out (below_dr w5)) (by rw [HTL.out]; have := LA.out; have := HJ.out; omega) (by rw [HTL.out]; have := HW73.out; have := HJ.out; omega); rw [HTL.out, HK.out j HJ.out] at hk; refine hk.mono ?_; clear hk; rintro e w6 ⟨A9, c9, rfl, hl9, hC9, hb9⟩; have v0 := keep hb9 t0; have v1 := keep hb9 t1; have v2 := keep hb9 t2; have v3 := keep hb9 t3))
 replace HC := Aside0.mk (below_step HC.out (below_step (below_dr w5) hb9))
 replace C8 := Aside0.mk (Kd.C_below (Kd.C_below C8.out (below_dr w5)) hb9)
 clear hb9 hl9 hC9 t0 t1 t2 t3 v0 v1 v2 v3 q1 q2 q3 q4 q5 q6 q7 q8 q9 q10 q11 q12 CT
 go_wp2_with fail
 refine (c33 _).mono ?_
 rintro e w7 ⟨rfl, hb⟩
 replace HC := Aside0.mk (below_step HC.out hb)
 replace C8 := Aside0.mk (Kd.C_below C8.out hb)
 clear hb
 go_wp2_with fail
 refine (c37same A4 c4 r A8 c8 w7 C8.out L8.out (Kd.C_below R4.out HC.out) C4.out (by have := HN.out; have := HRL.out; omega)).mono ?_
 rintro e w8 ⟨rfl, hb⟩
 replace HC := Aside0.mk (below_step HC.out hb)
 go_wp2_with fail
 go_ret
 exact ⟨rfl, below_step HB.out HC.out⟩
end Go.Proofs.Ytkopbaikmlajmaa.Q
