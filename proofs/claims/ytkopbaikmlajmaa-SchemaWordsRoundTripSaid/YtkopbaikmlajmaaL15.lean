/- trimmed to what these claims' texts use -/
import Derived.Test.YtkopbaikmlajmaaF55
import Derived.Test.YtkopbaikmlajmaaG51
import Derived.Test.YtkopbaikmlajmaaF28
import Derived.Test.YtkopbaikmlajmaaF22
namespace Go.Proofs.Ytkopbaikmlajmaa.Q
open Go.RowKit Go.Proofs.YtkopbaikmlajmaaW.PrintWords Go.Proofs.YtkopbaikmlajmaaW.PrintLast Go.Proofs.YtkopbaikmlajmaaW.PrintMore
set_option linter.unusedVariables false
set_option linter.unusedSimpArgs false
theorem rd_in {l : List Int} {i : Nat} (h : i < l.length) : rd l (i : Int) ∈ l := by
 unfold rd
 rw [Int.toNat_natCast, List.getD_eq_getElem?_getD, List.getElem?_eq_getElem h]
 exact List.getElem_mem h
set_option maxHeartbeats 4000000 in
set_option maxRecDepth 100000 in
theorem w15 (nm : ByteArray) (A1 : Option Addr) (c1 : Nat) (cs : List S56) (A2 : Option Addr) (c2 : Nat) (xs : List S65) (A3 : Option Addr) (c3 : Nat) (ks : List S42) (w : World) (hT : Tab w nm A1 c1 cs A2 c2 xs A3 c3 ks) :
  Calls Try.prog 15 #[.agg #[.string nm, .slice A1 cs.length c1, .slice A2 xs.length c2, .slice A3 ks.length c3]] w fun e w' => e = .returned (.bool true) ∧ Below w.heap.size w w' := by
 have hu28 := Try.underlying28
 have T := Aside0.mk hT
 clear hT
 go_enter Try.func15, Try.ntmps15
 go_wp2_with fail
 obtain ⟨w0, hw0⟩ : ∃ w0, w0 = w.alloc (.cells #[.string nm, .slice A1 cs.length c1, .slice A2 xs.length c2, .slice A3 ks.length c3] 28) := ⟨_, rfl⟩
 have HB := Aside0.mk (show Below w.heap.size w w0 from hw0 ▸ below_al w _)
 have HT0 := Aside0.mk (show w0.heap[w.heap.size]? = some (.cells #[.string nm, .slice A1 cs.length c1, .slice A2 xs.length c2, .slice A3 ks.length c3] 28 (0, 0)) from hw0 ▸ blk_new w _)
 rw [← hw0]
 clear hw0
 obtain ⟨b, hb⟩ : ∃ b, b = w.heap.size := ⟨_, rfl⟩
 rw [← hb] at HT0 ⊢
 clear hb
 replace T := Aside0.mk (T.out.below HB.out)
 refine (c22 w0).mono ?_
 rintro e w1 ⟨rfl, hb⟩
 have HC := Aside0.mk hb
 clear hb
 have hT := blk_below HT0.out HC.out
 have t0 := show w1.cell? ⟨b, 0, none⟩ = some (.string nm) from blk_cell hT 0
 have t1 := show w1.cell? ⟨b, 1, none⟩ = some (.slice A1 cs.length c1) from blk_cell hT 1
 have t2 := show w1.cell? ⟨b, 2, none⟩ = some (.slice A2 xs.length c2) from blk_cell hT 2
 have t3 := show w1.cell? ⟨b, 3, none⟩ = some (.slice A3 ks.length c3) from blk_cell hT 3
 clear hT
 have T1 := T.out.below HC.out
 have H25 := Aside0.mk (c25 nm A1 c1 cs A2 c2 xs A3 c3 ks w1 T1.r1 T1.l1 T1.r2 T1.l2 T1.r3 T1.l3)
 clear T1
 go_wp2_with fail
 clear t0 t1 t2 t3
 refine H25.out.mono ?_
 rintro e w2 ⟨rfl, hb⟩
 replace HC := Aside0.mk (below_step HC.out hb)
 clear hb H25
 cases hV : fewB cs xs ks with
 | false =>
  go_wp2_with fail
  go_ret
  exact ⟨rfl, below_step HB.out HC.out⟩
 | true =>
 clear hV
 have hT := blk_below HT0.out HC.out
 have t0 := show w2.cell? ⟨b, 0, none⟩ = some (.string nm) from blk_cell hT 0
 have t1 := show w2.cell? ⟨b, 1, none⟩ = some (.slice A1 cs.length c1) from blk_cell hT 1
 have t2 := show w2.cell? ⟨b, 2, none⟩ = some (.slice A2 xs.length c2) from blk_cell hT 2
 have t3 := show w2.cell? ⟨b, 3, none⟩ = some (.slice A3 ks.length c3) from blk_cell hT 3
 clear hT
 have T1 := T.out.below HC.out
 have H28 := Aside0.mk (c28 nm A1 c1 cs A2 c2 xs A3 c3 ks w2 T1.r1 T1.l1 T1.r2 T1.l2 T1.r3 T1.l3)
 clear T1
 go_wp2_with fail
 clear t0 t1 t2 t3
 refine H28.out.mono ?_
 rintro e w3 ⟨v, rfl, hRv, hb⟩
 obtain ⟨Aw, cw, rfl, hlw, hCw⟩ := Kd.R_reads hRv
 replace HC := Aside0.mk (below_step HC.out hb)
 have LW := Aside0.mk hlw
 have CW := Aside0.mk hCw
 clear hb H28 hRv hlw hCw
 obtain ⟨ce, hce⟩ : ∃ ce, ce = checkE nm cs xs ks := ⟨_, rfl⟩
 obtain ⟨l, hl⟩ : ∃ l, l = wordsE nm cs xs ks := ⟨_, rfl⟩
 rw [← hl] at LW CW ⊢
 rw [← hce]
 have HCE := Aside0.mk hce
 have HLE := Aside0.mk hl
 clear hce hl
 have hT := blk_below HT0.out HC.out
 have t0 := show w3.cell? ⟨b, 0, none⟩ = some (.string nm) from blk_cell hT 0
 have t1 := show w3.cell? ⟨b, 1, none⟩ = some (.slice A1 cs.length c1) from blk_cell hT 1
 have t2 := show w3.cell? ⟨b, 2, none⟩ = some (.slice A2 xs.length c2) from blk_cell hT 2
 have t3 := show w3.cell? ⟨b, 3, none⟩ = some (.slice A3 ks.length c3) from blk_cell hT 3
 clear hT
 have H26 := Aside0.mk (fun (W : World) (h : Below w0.heap.size w0 W) => c26 nm A1 c1 cs A2 c2 xs A3 c3 ks W (T.out.below h).r1 (T.out.below h).l1 (T.out.below h).r2 (T.out.below h).l2 (T.out.below h).r3 (T.out.below h).l3)
 go_wp2_with fail
 clear t0 t1 t2 t3
 refine (H26.out w3 HC.out).mono ?_
 rw [← HCE.out]
 rintro e w4 ⟨rfl, hb⟩
 replace HC := Aside0.mk (below_step HC.out hb)
 replace CW := Aside0.mk (Kd.C_below CW.out hb)
 clear hb
 have e0 : (ce != ce) = false := by simp
 by_cases hz : ce = 0
 case neg =>
  have e1 : (ce != 0) = true := bne_iff_ne.2 hz
  obtain rfl : l = [] := by rw [HLE.out]; unfold wordsE; rw [if_neg (by rw [← HCE.out]; exact hz)]
  have hT := blk_below HT0.out HC.out
  have t0 := show w4.cell? ⟨b, 0, none⟩ = some (.string nm) from blk_cell hT 0
  have t1 := show w4.cell? ⟨b, 1, none⟩ = some (.slice A1 cs.length c1) from blk_cell hT 1
  have t2 := show w4.cell? ⟨b, 2, none⟩ = some (.slice A2 xs.length c2) from blk_cell hT 2
  have t3 := show w4.cell? ⟨b, 3, none⟩ = some (.slice A3 ks.length c3) from blk_cell hT 3
  clear hT hz
  go_wp2_with fail
  clear t0 t1 t2 t3
  refine (H26.out w4 HC.out).mono ?_
  rw [← HCE.out]
  rintro e w5 ⟨rfl, hb⟩
  replace HC := Aside0.mk (below_step HC.out hb)
  clear hb
  go_wp2_with fail
  go_ret
  exact ⟨rfl, below_step HB.out HC.out⟩
 have e1 : (ce != 0) = false := bne_eq_false_iff_eq.2 hz
 have hck : checkE nm cs xs ks = 0 := by rw [← HCE.out]; exact hz
 have hlw : l = wordsL nm cs xs ks := by rw [HLE.out]; unfold wordsE; rw [if_pos hck]
 have hrg := words_range hck
 rw [← hlw] at hrg
 have hpr : parseR l = (nm, cs, xs, ks, 0) := by unfold parseR; rw [hlw, parse_words hck]
 have HPR := Aside0.mk hpr
 have HRG := Aside0.mk hrg.2
 have hl127 := hrg.1
 clear hz hck hlw hrg hpr HLE H26
 go_wp2_with fail
 clear e0 e1
 go_loopw [6] (fun v6 wq => ∃ i : Nat, i ≤ l.length ∧ v6 = .int .i64 i ∧ Aside0 (Below w4.heap.size w4 wq)) (fun v _ => l.length - (intOf v).toNat)
 case atStart => exact ⟨0, Nat.zero_le _, rfl, ⟨Below.refl _ _⟩⟩
 case round =>
  obtain ⟨i, hi, rfl, HBi⟩ := hrel
  by_cases hlt : i < l.length
  ·obtain ⟨ad, rfl, hx0⟩ := Kd.at_int CW.out (i : Int) (by omega) (by omega)
   simp only [Int.toNat_natCast] at hx0
   obtain ⟨r1, r2⟩ := HRG.out _ (rd_in hlt)
   have x0 := keep HBi.out hx0
   have k1 : decide (rd l (i : Int) < 0) = false := decide_eq_false (by omega)
   have k2 : decide (1099511627775 < rd l (i : Int)) = false := decide_eq_false (by omega)
   clear hx0 r1 r2
   go_wp2_with fail
   go_roundw
   case rel => exact ⟨i + 1, by omega, by go_num, HBi⟩
   case measure => simp [intOf]; omega
  ·obtain rfl : i = l.length := by omega
   replace HC := Aside0.mk (below_step HC.out HBi.out)
   replace CW := Aside0.mk (Kd.C_below CW.out HBi.out)
   clear HBi hi hlt
   go_wp2_with fail
   refine (c55 Aw cw l wr CW.out LW.out (by omega)).mono ?_
   rw [HPR.out]
   rintro e w6 ⟨B1, d1, B2, d2, B3, d3, rfl, ⟨l1, r1⟩, ⟨l2, r2⟩, ⟨l3, r3⟩, hb⟩
   obtain ⟨W, hW⟩ : ∃ W, W = w6.alloc (.cells #[.string nm, .slice B1 cs.length d1, .slice B2 xs.length d2, .slice B3 ks.length d3] 28) := ⟨_, rfl⟩
   have hbw : Below w6.heap.size w6 W := hW ▸ below_al w6 _
   replace HC := Aside0.mk (below_step HC.out (below_step hb hbw))
   have L1 := Aside0.mk (show cs.length ≤ d1 from l1)
   have L2 := Aside0.mk (show xs.length ≤ d2 from l2)
   have L3 := Aside0.mk (show ks.length ≤ d3 from l3)
   have R1 := Aside0.mk (show Kd.C k56 W B1 cs.length cs from Kd.C_below r1 hbw)
   have R2 := Aside0.mk (show Kd.C k65 W B2 xs.length xs from Kd.C_below r2 hbw)
   have R3 := Aside0.mk (show Kd.C k42 W B3 ks.length ks from Kd.C_below r3 hbw)
   have hT := blk_below HT0.out HC.out
   have t0 := show W.cell? ⟨b, 0, none⟩ = some (.string nm) from blk_cell hT 0
   have t1 := show W.cell? ⟨b, 1, none⟩ = some (.slice A1 cs.length c1) from blk_cell hT 1
   have t2 := show W.cell? ⟨b, 2, none⟩ = some (.slice A2 xs.length c2) from blk_cell hT 2
   have t3 := show W.cell? ⟨b, 3, none⟩ = some (.slice A3 ks.length c3) from blk_cell hT 3
   rw [hW] at t0 t1 t2 t3
   have HW := Aside0.mk hW
   have k1 : decide ((l.length : Int) ≤ 127) = true := decide_eq_true (by omega)
   have k2 : decide (l.length ≤ 127) = true := decide_eq_true (by omega)
   clear hb hbw l1 r1 l2 r2 l3 r3 hT hW
   dsimp only
   go_wp2_with fail
   rw [← HW.out]
   have T1 := T.out.below HC.out
   refine (c51same nm B1 d1 cs B2 d2 xs B3 d3 ks A1 c1 A2 c2 A3 c3 W R1.out L1.out R2.out L2.out R3.out L3.out T1.r1 T1.l1 T1.r2 T1.l2 T1.r3 T1.l3).mono ?_
   rintro e w7 ⟨rfl, hb⟩
   replace HC := Aside0.mk (below_step HC.out hb)
   clear hb T1 t0 t1 t2 t3
   go_wp2_with fail
   go_ret
   exact ⟨rfl, below_step HB.out HC.out⟩
end Go.Proofs.Ytkopbaikmlajmaa.Q
