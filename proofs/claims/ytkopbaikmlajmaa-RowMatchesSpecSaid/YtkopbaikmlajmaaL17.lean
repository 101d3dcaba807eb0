import Derived.Test.YtkopbaikmlajmaaZ
import Derived.Test.YtkopbaikmlajmaaM
import Derived.Test.YtkopbaikmlajmaaG114
import Derived.Test.YtkopbaikmlajmaaG58
import Derived.Test.YtkopbaikmlajmaaF57
import Derived.Test.YtkopbaikmlajmaaL21
namespace Go.Proofs.Ytkopbaikmlajmaa.Q
open Go.RowKit Go.Proofs.YtkopbaikmlajmaaW.PrintWords Go.Proofs.YtkopbaikmlajmaaW.PrintLast Go.Proofs.YtkopbaikmlajmaaW.PrintMore
set_option linter.unusedVariables false
set_option linter.unusedSimpArgs false
theorem refEnc_eq (nm : ByteArray) (cs : List S56) (xs : List S65) (ks : List S42) (r : List S40) : Evs (fun k => alumref21_Encode.f k nm cs xs ks r) (encR nm cs xs ks r) := by
 unfold encR
 by_cases h : fitsE nm cs xs ks r = 0
 ·obtain ⟨h1, h2, h3⟩ := fitV_of h
  have n8 := (okT h1).nc
  rw [if_pos h]
  refine ((refWords_eq (okR_of h3 (by omega))).bind (f := fun k t => some (t, (0 : Int))) (Evs.const rfl)).congr (fun k => ?_)
  unfold alumref21_Encode.f alumref20_Fits.f
  rw [Option.bind_some, if_pos h]
 rw [if_neg h]
 refine Evs.all (fun k => ?_)
 unfold alumref21_Encode.f alumref20_Fits.f
 rw [Option.bind_some, if_neg h]
section
variable (nm : ByteArray) (A1 : Option Addr) (c1 : Nat) (cs : List S56) (A2 : Option Addr) (c2 : Nat) (xs : List S65) (A3 : Option Addr) (c3 : Nat) (ks : List S42) (A4 : Option Addr) (c4 : Nat) (r : List S40) (A6 : Option Addr) (c6 : Nat) (l : List Int) (w : World)
theorem c57 (hT : Tab w nm A1 c1 cs A2 c2 xs A3 c3 ks) (h4 : Kd.C k40 w A4 r.length r) (hc4 : r.length ≤ c4) :
  Calls Try.prog 57 #[.agg #[.string nm, .slice A1 cs.length c1, .slice A2 xs.length c2, .slice A3 ks.length c3], .slice A4 r.length c4] w fun e w' => ∃ A c, e = .returned (.tuple #[.slice A (encR nm cs xs ks r).1.length c, .int .i64 (encR nm cs xs ks r).2]) ∧ (encR nm cs xs ks r).1.length ≤ c ∧ (Kd.int .i64).C w' A (encR nm cs xs ks r).1.length (encR nm cs xs ks r).1 ∧ Below w.heap.size w w' := by
 obtain ⟨k, h⟩ := (refEnc_eq nm cs xs ks r).get
 refine (alumref21_Encode.calls k nm A1 c1 cs A2 c2 xs A3 c3 ks A4 c4 r (encR nm cs xs ks r).1 (encR nm cs xs ks r).2 w hT.r1 hT.l1 hT.r2 hT.l2 hT.r3 hT.l3 h4 hc4 h).mono ?_
 rintro e w' ⟨v, rfl, hR, hb⟩
 obtain ⟨A, c, rfl, hl, hC⟩ := Kd.R_reads hR
 exact ⟨A, c, rfl, hl, hC, hb⟩
theorem c58 (hT : Tab w nm A1 c1 cs A2 c2 xs A3 c3 ks) (hm1 : cs.length ≤ 20) (h6 : (Kd.int .i64).C w A6 l.length l) (hc6 : l.length ≤ c6) (hm : l.length ≤ 1000000) :
  Calls Try.prog 58 #[.agg #[.string nm, .slice A1 cs.length c1, .slice A2 xs.length c2, .slice A3 ks.length c3], .slice A6 l.length c6] w fun e w' => ∃ A c, e = .returned (.tuple #[.slice A (decR cs l).1.length c, .int .i64 (decR cs l).2.1, .int .i64 (decR cs l).2.2]) ∧ (decR cs l).1.length ≤ c ∧ Kd.C k40 w' A (decR cs l).1.length (decR cs l).1 ∧ Below w.heap.size w w' := by
 obtain ⟨k, h⟩ := (refDec_eq nm cs xs ks l hm1 hm).get
 refine (alumref21_Decode.calls k nm A1 c1 cs A2 c2 xs A3 c3 ks A6 c6 l (decR cs l).1 (decR cs l).2.1 (decR cs l).2.2 w hT.r1 hT.l1 hT.r2 hT.l2 hT.r3 hT.l3 h6 hc6 h).mono ?_
 rintro e w' ⟨v, rfl, hR, hb⟩
 obtain ⟨A, c, rfl, hl, hC⟩ := Kd.R_reads hR
 exact ⟨A, c, rfl, hl, hC, hb⟩
theorem c60 (hr : OkR r) (h4 : Kd.C k40 w A4 r.length r) (hc4 : r.length ≤ c4) :
  Calls Try.prog 60 #[.slice A4 r.length c4] w fun e w' => e = .returned (.int .i64 ((rowW r).length : Int)) ∧ Below w.heap.size w w' := by
 obtain ⟨k, h⟩ := (refSize_eq hr).get
 exact alumref21_Size.calls k A4 c4 r _ w h4 hc4 h
end
theorem decS_len {cs : List S56} {n u : Nat} {l : List Int} : ∀ (k : Nat) (out : List S40) (i : Nat), decS cs n u l k = some (out, i) → out.length = k
 | 0, out, i, h => by cases h; rfl
 | k + 1, out, i, h => by
  have h' : (decS cs n u l k).bind (fun p => if nullB n u k = true then (if (rd_T56 cs (k : Int)).f2 = true then some (p.1 ++ [⟨0, 0, ⟨#[]⟩⟩], p.2) else none) else (valD (rd_T56 cs (k : Int)).f1 l p.2).map fun q => (p.1 ++ [q.1], q.2)) = some (out, i) := h
  cases hd : decS cs n u l k with
  | none => rw [hd] at h'; cases h'
  | some p =>
   obtain ⟨o, a⟩ := p
   have ih := decS_len k o a hd
   rw [hd, Option.bind_some] at h'
   split at h'
   ·split at h'
    ·cases h'
     rw [List.length_append, ih]
     rfl
    cases h'
   cases hv : valD (rd_T56 cs (k : Int)).f1 l a with
   | none => rw [hv] at h'; cases h'
   | some y =>
    rw [hv, Option.map_some] at h'
    cases h'
    rw [List.length_append, ih]
    rfl
theorem decR_len (cs : List S56) (l : List Int) : (decR cs l).1.length ≤ cs.length := by
 unfold decR
 cases h : decE cs l with
 | none => simp
 | some p =>
  obtain ⟨x, n⟩ := p
  unfold decE at h
  cases hr : rdW l 0 with
  | none => rw [hr] at h; cases h
  | some f =>
   rw [hr, Option.bind_some] at h
   split at h
   ·cases h
   exact Nat.le_of_eq (decS_len _ _ _ h)
set_option maxHeartbeats 4000000 in
set_option maxRecDepth 100000 in
theorem w17 (nm : ByteArray) (A1 : Option Addr) (c1 : Nat) (cs : List S56) (A2 : Option Addr) (c2 : Nat) (xs : List S65) (A3 : Option Addr) (c3 : Nat) (ks : List S42) (A4 : Option Addr) (c4 : Nat) (r : List S40) (A6 : Option Addr) (c6 : Nat) (l : List Int) (w : World) (hT : Tab w nm A1 c1 cs A2 c2 xs A3 c3 ks) (hr : Kd.C k40 w A4 r.length r) (hc : r.length ≤ c4) (hp : ∀ x, x ∈ r → p40 x) (hr6 : (Kd.int .i64).C w A6 l.length l) (hc6 : l.length ≤ c6) (hp6 : ∀ x, x ∈ l → inI x) :
  Calls Try.prog 17 #[.agg #[.string nm, .slice A1 cs.length c1, .slice A2 xs.length c2, .slice A3 ks.length c3], .slice A4 r.length c4, .slice A6 l.length c6] w fun e w' => e = .returned (.bool true) ∧ Below w.heap.size w w' := by
 have hu28 := Try.underlying28
 have m6 : l.length ≤ 9223372036854775807 := hr6.2.1
 have T := Aside0.mk hT
 have R4 := Aside0.mk hr
 have C4 := Aside0.mk hc
 have R6 := Aside0.mk hr6
 have C6 := Aside0.mk hc6
 clear hT hr hc hp hr6 hc6 hp6
 go_enter Try.func17, Try.ntmps17
 go_wp2_with fail
 obtain ⟨w0, hw0⟩ : ∃ w0, w0 = (w.alloc (.cells #[.string nm, .slice A1 cs.length c1, .slice A2 xs.length c2, .slice A3 ks.length c3] 28)).alloc (.cells #[.slice A4 r.length c4] 37) := ⟨_, rfl⟩
 have HB := Aside0.mk (show Below w.heap.size w w0 from hw0 ▸ below_step (below_al w _) (below_al _ _))
 have HT0 := Aside0.mk (show w0.heap[w.heap.size]? = some (.cells #[.string nm, .slice A1 cs.length c1, .slice A2 xs.length c2, .slice A3 ks.length c3] 28 (0, 0)) from hw0 ▸ blk_alloc (blk_new w _) _)
 have HV0 := Aside0.mk (show w0.heap[w.heap.size + 1]? = some (.cells #[.slice A4 r.length c4] 37 (0, 0)) by
  rw [hw0, show w.heap.size + 1 = (w.alloc (.cells #[.string nm, .slice A1 cs.length c1, .slice A2 xs.length c2, .slice A3 ks.length c3] 28)).heap.size by simp]; exact blk_new _ _)
 rw [← hw0]
 clear hw0
 obtain ⟨b, hb⟩ : ∃ b, b = w.heap.size := ⟨_, rfl⟩
 rw [← hb] at HT0 HV0 ⊢
 clear hb
 replace T := Aside0.mk (T.out.below HB.out)
 replace R4 := Aside0.mk (Kd.C_below R4.out HB.out)
 replace R6 := Aside0.mk (Kd.C_below R6.out HB.out)
 refine (c32one nm A1 c1 cs A2 c2 xs A3 c3 ks A4 c4 r w0 (b + 1) T.out HV0.out R4.out C4.out).mono ?_
 rintro e w1 ⟨rfl, hb⟩
 have HC := Aside0.mk hb
 clear hb
 cases hV : valid21 nm cs xs ks [r] with
 | false =>
  go_wp2_with (go_at_call 33; refine (c33 _).mono ?_; rintro e w2 ⟨rfl, hb⟩)
  go_ret
  exact ⟨rfl, below_step HB.out (below_step HC.out hb)⟩
 | true =>
 obtain ⟨_, hck, hall⟩ := valid21_parts hV
 have hok := okR_right (hall r (by simp)).2 (hall r (by simp)).1
 have HOK := Aside0.mk hok
 have HN := Aside0.mk (okT hck).nc
 clear hV hall hck hok
 by_cases hlen : 100 < l.length
 ·have h1 : decide ((100 : Int) < (l.length : Int)) = true := decide_eq_true (by omega)
  have h2 : decide (100 < l.length) = true := decide_eq_true (by omega)
  go_wp2_with (go_at_call 33; refine (c33 _).mono ?_; rintro e w2 ⟨rfl, hb⟩)
  go_ret
  exact ⟨rfl, below_step HB.out (below_step HC.out hb)⟩
 have h1 : decide ((100 : Int) < (l.length : Int)) = false := decide_eq_false (by omega)
 have h2 : decide (100 < l.length) = false := decide_eq_false (by omega)
 have HL := Aside0.mk (show l.length ≤ 100 by omega)
 clear hlen m6
 have HE0 := Aside0.mk (show Below w1.heap.size w1 w1 from Below.refl _ _)
 have hT := (HC.out.block _ (Array.getElem?_eq_some_iff.1 HT0.out).1).trans HT0.out
 have t0 := show w1.cell? ⟨b, 0, none⟩ = some (.string nm) from blk_cell hT 0
 have t1 := show w1.cell? ⟨b, 1, none⟩ = some (.slice A1 cs.length c1) from blk_cell hT 1
 have t2 := show w1.cell? ⟨b, 2, none⟩ = some (.slice A2 xs.length c2) from blk_cell hT 2
 have t3 := show w1.cell? ⟨b, 3, none⟩ = some (.slice A3 ks.length c3) from blk_cell hT 3
 clear hT
 go_wp2_with fail
 clear t0 t1 t2 t3 h1 h2
 refine (c42 nm A1 c1 cs A2 c2 xs A3 c3 ks A4 c4 r w1 (T.out.below HC.out) (Kd.C_below R4.out HC.out) C4.out).mono ?_
 have H57 := Aside0.mk (c57 nm A1 c1 cs A2 c2 xs A3 c3 ks A4 c4 r)
 generalize encR nm cs xs ks r = en at *
 obtain ⟨la, ea⟩ := en
 rintro e w2 ⟨Aa, ca, rfl, hla, hCa, hb⟩
 replace HC := Aside0.mk (below_step HC.out hb)
 have LA := Aside0.mk (show la.length ≤ ca from hla)
 have CA := Aside0.mk (show (Kd.int .i64).C w2 Aa la.length la from hCa)
 clear hb hla hCa HE0 w1
 have hT := (HC.out.block _ (Array.getElem?_eq_some_iff.1 HT0.out).1).trans HT0.out
 have t0 := show w2.cell? ⟨b, 0, none⟩ = some (.string nm) from blk_cell hT 0
 have t1 := show w2.cell? ⟨b, 1, none⟩ = some (.slice A1 cs.length c1) from blk_cell hT 1
 have t2 := show w2.cell? ⟨b, 2, none⟩ = some (.slice A2 xs.length c2) from blk_cell hT 2
 have t3 := show w2.cell? ⟨b, 3, none⟩ = some (.slice A3 ks.length c3) from blk_cell hT 3
 clear hT
 go_wp2_with fail
 clear t0 t1 t2 t3
 refine (H57.out w2 (T.out.below HC.out) (Kd.C_below R4.out HC.out) C4.out).mono ?_
 rintro e w3 ⟨Ab, cb, rfl, hla, hCa, hb⟩
 replace HC := Aside0.mk (below_step HC.out hb)
 replace CA := Aside0.mk (Kd.C_below CA.out hb)
 have LB := Aside0.mk (show la.length ≤ cb from hla)
 have CB := Aside0.mk (show (Kd.int .i64).C w3 Ab la.length la from hCa)
 clear hb hla hCa H57 w2
 have hT := (HC.out.block _ (Array.getElem?_eq_some_iff.1 HT0.out).1).trans HT0.out
 have t0 := show w3.cell? ⟨b, 0, none⟩ = some (.string nm) from blk_cell hT 0
 have t1 := show w3.cell? ⟨b, 1, none⟩ = some (.slice A1 cs.length c1) from blk_cell hT 1
 have t2 := show w3.cell? ⟨b, 2, none⟩ = some (.slice A2 xs.length c2) from blk_cell hT 2
 have t3 := show w3.cell? ⟨b, 3, none⟩ = some (.slice A3 ks.length c3) from blk_cell hT 3
 clear hT
 go_wp2_with fail
 clear t0 t1 t2 t3
 refine (c44r nm A1 c1 cs A2 c2 xs A3 c3 ks A6 c6 l w3 (T.out.below HC.out) Z133 (Kd.C_below R6.out HC.out) C6.out (by have := HL.out; omega)).mono ?_
 have H58 := Aside0.mk (c58 nm A1 c1 cs A2 c2 xs A3 c3 ks A6 c6 l)
 have HXL := Aside0.mk (decR_len cs l)
 generalize decR cs l = de at *
 obtain ⟨x, n, ue⟩ := de
 rintro e w4 ⟨Ax, cx, rfl, hla, hCa, hb⟩
 replace HC := Aside0.mk (below_step HC.out hb)
 replace CA := Aside0.mk (Kd.C_below CA.out hb)
 replace CB := Aside0.mk (Kd.C_below CB.out hb)
 have LX := Aside0.mk (show x.length ≤ cx from hla)
 have CX := Aside0.mk (show Kd.C k40 w4 Ax x.length x from hCa)
 clear hb hla hCa w3
 have hT := (HC.out.block _ (Array.getElem?_eq_some_iff.1 HT0.out).1).trans HT0.out
 have t0 := show w4.cell? ⟨b, 0, none⟩ = some (.string nm) from blk_cell hT 0
 have t1 := show w4.cell? ⟨b, 1, none⟩ = some (.slice A1 cs.length c1) from blk_cell hT 1
 have t2 := show w4.cell? ⟨b, 2, none⟩ = some (.slice A2 xs.length c2) from blk_cell hT 2
 have t3 := show w4.cell? ⟨b, 3, none⟩ = some (.slice A3 ks.length c3) from blk_cell hT 3
 clear hT
 go_wp2_with fail
 clear t0 t1 t2 t3
 refine (H58.out w4 (T.out.below HC.out) Z133 (Kd.C_below R6.out HC.out) C6.out (by have := HL.out; omega)).mono ?_
 rintro e w5 ⟨Ay, cy, rfl, hla, hCa, hb⟩
 replace HC := Aside0.mk (below_step HC.out hb)
 replace CA := Aside0.mk (Kd.C_below CA.out hb)
 replace CB := Aside0.mk (Kd.C_below CB.out hb)
 replace CX := Aside0.mk (Kd.C_below CX.out hb)
 have LY := Aside0.mk (show x.length ≤ cy from hla)
 have CY := Aside0.mk (show Kd.C k40 w5 Ay x.length x from hCa)
 clear hb hla hCa H58 w4
 go_wp2_with fail
 refine (c33 _).mono ?_
 rintro e w6 ⟨rfl, hb⟩
 replace HC := Aside0.mk (below_step HC.out hb)
 replace CA := Aside0.mk (Kd.C_below CA.out hb)
 replace CB := Aside0.mk (Kd.C_below CB.out hb)
 replace CX := Aside0.mk (Kd.C_below CX.out hb)
 replace CY := Aside0.mk (Kd.C_below CY.out hb)
 clear hb w5
 have H59 := Aside0.mk (fun w h4 hc4 => c59 A4 c4 r w HOK.out h4 hc4)
 have H60 := Aside0.mk (fun w h4 hc4 => c60 A4 c4 r w HOK.out h4 hc4)
 generalize (rowW r).length = sz at *
 go_wp2_with fail
 refine (H59.out w6 (Kd.C_below R4.out HC.out) C4.out).mono ?_
 rintro e w7 ⟨rfl, hb⟩
 replace HC := Aside0.mk (below_step HC.out hb)
 replace CA := Aside0.mk (Kd.C_below CA.out hb)
 replace CB := Aside0.mk (Kd.C_below CB.out hb)
 replace CX := Aside0.mk (Kd.C_below CX.out hb)
 replace CY := Aside0.mk (Kd.C_below CY.out hb)
 clear hb w6
 go_wp2_with fail
 refine (H60.out w7 (Kd.C_below R4.out HC.out) C4.out).mono ?_
 rintro e w8 ⟨rfl, hb⟩
 replace HC := Aside0.mk (below_step HC.out hb)
 replace CA := Aside0.mk (Kd.C_below CA.out hb)
 replace CB := Aside0.mk (Kd.C_below CB.out hb)
 replace CX := Aside0.mk (Kd.C_below CX.out hb)
 replace CY := Aside0.mk (Kd.C_below CY.out hb)
 clear hb H59 H60 w7
 go_wp2_with fail
 refine (c30same Ab cb Aa ca la w8 CA.out LA.out CB.out LB.out).mono ?_
 rintro e w9 ⟨rfl, hd⟩
 have hb := hd.below
 replace HC := Aside0.mk (below_step HC.out hb)
 replace CX := Aside0.mk (Kd.C_below CX.out hb)
 replace CY := Aside0.mk (Kd.C_below CY.out hb)
 clear hb hd CA CB w8
 go_wp2_with fail
 refine (c37same Ay cy x Ax cx w9 CX.out LX.out CY.out LY.out (by have := HXL.out; have := HN.out; simp at *; omega)).mono ?_
 rintro e w10 ⟨rfl, hb⟩
 replace HC := Aside0.mk (below_step HC.out hb)
 clear hb CX CY w9
 go_wp2_with fail
 go_ret
 exact ⟨rfl, below_step HB.out HC.out⟩
end Go.Proofs.Ytkopbaikmlajmaa.Q
