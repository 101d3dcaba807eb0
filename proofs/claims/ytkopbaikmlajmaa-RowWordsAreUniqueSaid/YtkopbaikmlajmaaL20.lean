/- trimmed to what these claims' texts use -/
import Derived.Test.YtkopbaikmlajmaaM
import Derived.Test.YtkopbaikmlajmaaL21
import Derived.Test.YtkopbaikmlajmaaG29
import Derived.Deep.DeepCutAuto
namespace Go.Proofs.Ytkopbaikmlajmaa.Q
open Go.RowKit Go.Proofs.YtkopbaikmlajmaaW.PrintWords Go.Proofs.YtkopbaikmlajmaaW.PrintLast Go.Proofs.YtkopbaikmlajmaaW.PrintMore
set_option linter.unusedVariables false
set_option linter.unusedSimpArgs false
theorem c30dec (A : Option Addr) (c : Nat) (l : List Int) (B : Option Addr) (d : Nat) (m : List Int) (w : World) (h6 : (Kd.int .i64).C w A l.length l) (hc6 : l.length ≤ c) (h4 : (Kd.int .i64).C w B m.length m) (hc4 : m.length ≤ d) :
  Calls Try.prog 30 #[.slice A l.length c, .slice B m.length d] w fun e w' => e = .returned (.bool (decide (l = m))) ∧ Drawn0 w w' := by
 obtain ⟨k, h⟩ := (Same_ref l m h6.2.1).get
 exact alumref20_SameInts.calls k A c l B d m _ w h6 hc6 h4 hc4 h
theorem encR_zero {nm : ByteArray} {cs : List S56} {xs : List S65} {ks : List S42} {r : List S40} (h : (encR nm cs xs ks r).2 = 0) : fitsE nm cs xs ks r = 0 ∧ (encR nm cs xs ks r).1 = rowW r := by
 unfold encR at h ⊢
 by_cases hf : fitsE nm cs xs ks r = 0
 ·rw [if_pos hf]; exact ⟨hf, rfl⟩
 ·rw [if_neg hf] at h; exact absurd h hf
theorem encR_two (nm : ByteArray) (cs : List S56) (xs : List S65) (ks : List S42) (r : List S40) : (encR nm cs xs ks r).2 = fitsE nm cs xs ks r := by
 unfold encR
 by_cases hf : fitsE nm cs xs ks r = 0
 ·rw [if_pos hf]; exact hf.symm
 ·rw [if_neg hf]
theorem encR_len (nm : ByteArray) (cs : List S56) (xs : List S65) (ks : List S42) (r : List S40) : (encR nm cs xs ks r).1.length ≤ 1000 := by
 unfold encR
 by_cases hf : fitsE nm cs xs ks r = 0
 ·rw [if_pos hf]
  obtain ⟨a, b, c⟩ := fitV_of hf
  have n8 := (okT a).nc
  have := body_len (okR_of c (by omega)) r.length (Nat.le_refl _)
  rw [List.take_length] at this
  unfold rowW
  rw [List.length_cons]
  omega
 ·rw [if_neg hf]; simp
set_option maxHeartbeats 4000000 in
set_option maxRecDepth 100000 in
theorem w20 (nm : ByteArray) (A1 : Option Addr) (c1 : Nat) (cs : List S56) (A2 : Option Addr) (c2 : Nat) (xs : List S65) (A3 : Option Addr) (c3 : Nat) (ks : List S42) (A4 : Option Addr) (c4 : Nat) (r : List S40) (A5 : Option Addr) (c5 : Nat) (o : List S40) (A6 : Option Addr) (c6 : Nat) (l : List Int) (w : World) (hT : Tab w nm A1 c1 cs A2 c2 xs A3 c3 ks) (hr : Kd.C k40 w A4 r.length r) (hc : r.length ≤ c4) (hp : ∀ x, x ∈ r → p40 x) (hr5 : Kd.C k40 w A5 o.length o) (hc5 : o.length ≤ c5) (hp5 : ∀ x, x ∈ o → p40 x) (hr6 : (Kd.int .i64).C w A6 l.length l) (hc6 : l.length ≤ c6) (hp6 : ∀ x, x ∈ l → inI x) :
  Calls Try.prog 20 #[.agg #[.string nm, .slice A1 cs.length c1, .slice A2 xs.length c2, .slice A3 ks.length c3], .slice A4 r.length c4, .slice A5 o.length c5, .slice A6 l.length c6] w fun e w' => e = .returned (.bool true) ∧ Below w.heap.size w w' := by
 have hu28 := Try.underlying28
 have m6 : l.length ≤ 9223372036854775807 := hr6.2.1
 have T := Aside0.mk hT
 have R4 := Aside0.mk hr
 have C4 := Aside0.mk hc
 have R5 := Aside0.mk hr5
 have C5 := Aside0.mk hc5
 have R6 := Aside0.mk hr6
 have C6 := Aside0.mk hc6
 clear hT hr hc hp hr5 hc5 hp5 hr6 hc6 hp6
 go_enter Try.func20, Try.ntmps20
 go_wp2_with fail
 obtain ⟨w0, hw0⟩ : ∃ w0, w0 = (w.alloc (.cells #[.string nm, .slice A1 cs.length c1, .slice A2 xs.length c2, .slice A3 ks.length c3] 28)).alloc (.cells #[.slice A4 r.length c4, .slice A5 o.length c5] 37) := ⟨_, rfl⟩
 have HB := Aside0.mk (show Below w.heap.size w w0 from hw0 ▸ below_step (below_al w _) (below_al _ _))
 have HT0 := Aside0.mk (show w0.heap[w.heap.size]? = some (.cells #[.string nm, .slice A1 cs.length c1, .slice A2 xs.length c2, .slice A3 ks.length c3] 28 (0, 0)) from hw0 ▸ blk_alloc (blk_new w _) _)
 have HV0 := Aside0.mk (show w0.heap[w.heap.size + 1]? = some (.cells #[.slice A4 r.length c4, .slice A5 o.length c5] 37 (0, 0)) by
  rw [hw0, show w.heap.size + 1 = (w.alloc (.cells #[.string nm, .slice A1 cs.length c1, .slice A2 xs.length c2, .slice A3 ks.length c3] 28)).heap.size by simp]; exact blk_new _ _)
 rw [← hw0]
 clear hw0
 obtain ⟨b, hb⟩ : ∃ b, b = w.heap.size := ⟨_, rfl⟩
 rw [← hb] at HT0 HV0 ⊢
 clear hb
 replace T := Aside0.mk (T.out.below HB.out)
 replace R4 := Aside0.mk (Kd.C_below R4.out HB.out)
 replace R5 := Aside0.mk (Kd.C_below R5.out HB.out)
 replace R6 := Aside0.mk (Kd.C_below R6.out HB.out)
 refine (c32two nm A1 c1 cs A2 c2 xs A3 c3 ks A4 c4 r A5 c5 o (b + 1) w0 T.out HV0.out R4.out C4.out R5.out C5.out).mono ?_
 rintro e w1 ⟨rfl, hb⟩
 have HC := Aside0.mk hb
 clear hb
 cases hV : valid21 nm cs xs ks [r, o] with
 | false =>
  go_wp2_with (go_at_call 33; refine (c33 _).mono ?_; rintro e w2 ⟨rfl, hb⟩)
  go_ret
  exact ⟨rfl, below_step HB.out (below_step HC.out hb)⟩
 | true =>
 obtain ⟨_, hck, hall⟩ := valid21_parts hV
 have HR20 := Aside0.mk ((hall r (by simp)).1)
 have HCK := Aside0.mk hck
 clear hV hall hck
 by_cases hlen : 100 < l.length
 ·have h1 : decide ((100 : Int) < (l.length : Int)) = true := decide_eq_true (by omega)
  have h2 : decide (100 < l.length) = true := decide_eq_true (by omega)
  go_wp2_with (go_at_call 33; refine (c33 _).mono ?_; rintro e w2 ⟨rfl, hb⟩)
  go_ret
  exact ⟨rfl, below_step HB.out (below_step HC.out hb)⟩
 have h1 : decide ((100 : Int) < (l.length : Int)) = false := decide_eq_false (by omega)
 have h2 : decide (100 < l.length) = false := decide_eq_false (by omega)
 have HL := Aside0.mk (show l.length ≤ 100 by omega)
 clear hlen m6
 have hT := (HC.out.block _ (Array.getElem?_eq_some_iff.1 HT0.out).1).trans HT0.out
 have t0 := show w1.cell? ⟨b, 0, none⟩ = some (.string nm) from blk_cell hT 0
 have t1 := show w1.cell? ⟨b, 1, none⟩ = some (.slice A1 cs.length c1) from blk_cell hT 1
 have t2 := show w1.cell? ⟨b, 2, none⟩ = some (.slice A2 xs.length c2) from blk_cell hT 2
 have t3 := show w1.cell? ⟨b, 3, none⟩ = some (.slice A3 ks.length c3) from blk_cell hT 3
 clear hT
 go_wp2_with fail
 clear t0 t1 t2 t3 h1 h2
 refine (c42 nm A1 c1 cs A2 c2 xs A3 c3 ks A4 c4 r w1 (T.out.below HC.out) (Kd.C_below R4.out HC.out) C4.out).mono ?_
 obtain ⟨ca, hca⟩ : ∃ p, p = encR nm cs xs ks r := ⟨_, rfl⟩
 obtain ⟨la, ea⟩ := ca
 have HA := Aside0.mk (fun (h : ea = 0) => by have := encR_zero (r := r) (nm := nm) (cs := cs) (xs := xs) (ks := ks) (by rw [← hca]; exact h); rw [← hca] at this; exact this)
 rw [← hca]
 have hla1 : la.length ≤ 1000 := by have := encR_len nm cs xs ks r; rw [← hca] at this; exact this
 clear hca
 rintro e w2 ⟨Aa, ca, rfl, hla, hCa, hb⟩
 replace HC := Aside0.mk (below_step HC.out hb)
 have LA := Aside0.mk (show la.length ≤ ca from hla)
 have CA := Aside0.mk (show (Kd.int .i64).C w2 Aa la.length la from hCa)
 clear hb hla hCa w1
 have hT := (HC.out.block _ (Array.getElem?_eq_some_iff.1 HT0.out).1).trans HT0.out
 have t0 := show w2.cell? ⟨b, 0, none⟩ = some (.string nm) from blk_cell hT 0
 have t1 := show w2.cell? ⟨b, 1, none⟩ = some (.slice A1 cs.length c1) from blk_cell hT 1
 have t2 := show w2.cell? ⟨b, 2, none⟩ = some (.slice A2 xs.length c2) from blk_cell hT 2
 have t3 := show w2.cell? ⟨b, 3, none⟩ = some (.slice A3 ks.length c3) from blk_cell hT 3
 clear hT
 go_wp2_with fail
 clear t0 t1 t2 t3
 refine (c42 nm A1 c1 cs A2 c2 xs A3 c3 ks A5 c5 o w2 (T.out.below HC.out) (Kd.C_below R5.out HC.out) C5.out).mono ?_
 obtain ⟨cb, hca⟩ : ∃ p, p = encR nm cs xs ks o := ⟨_, rfl⟩
 obtain ⟨lb, eb⟩ := cb
 have HBb := Aside0.mk (fun (h : eb = 0) => by have := encR_zero (r := o) (nm := nm) (cs := cs) (xs := xs) (ks := ks) (by rw [← hca]; exact h); rw [← hca] at this; exact this)
 rw [← hca]
 have hlb1 : lb.length ≤ 1000 := by have := encR_len nm cs xs ks o; rw [← hca] at this; exact this
 clear hca
 rintro e w3 ⟨Ab, cb, rfl, hla, hCa, hb⟩
 replace HC := Aside0.mk (below_step HC.out hb)
 replace CA := Aside0.mk (Kd.C_below CA.out hb)
 have LB := Aside0.mk (show lb.length ≤ cb from hla)
 have CB := Aside0.mk (show (Kd.int .i64).C w3 Ab lb.length lb from hCa)
 clear hb hla hCa w2
 go_upto_region 6 with fail
 go_cut [77] (fun s77 wx => s77 = .bool false ∧ Aside0 (Below w3.heap.size w3 wx))
 case first =>
  by_cases ha : ea = 0
  case neg =>
   have ha' : (ea == 0) = false := beq_eq_false_iff_ne.2 ha
   clear ha
   go_wp2_with fail
   go_meet
   exact ⟨rfl, ⟨Below.refl _ _⟩⟩
  obtain ⟨hfa, hra⟩ := HA.out ha
  subst ha
  by_cases he : eb = 0
  case neg =>
   have ha' : (eb == 0) = false := beq_eq_false_iff_ne.2 he
   clear he hfa hra
   go_wp2_with fail
   go_meet
   exact ⟨rfl, ⟨Below.refl _ _⟩⟩
  obtain ⟨hfb, hrb⟩ := HBb.out he
  subst he
  obtain ⟨p1, p2, p3⟩ := fitV_of hfa
  obtain ⟨p4, p5, p6⟩ := fitV_of hfb
  have n8 := (okT p1).nc
  have HU := Aside0.mk (fun (h1 : la.length ≤ lb.length) (h2 : la = lb.take la.length) => by
   rw [hra, hrb] at h1 h2
   have := rowW_unique p3 p6 (by omega) (by omega) p2 p5 h1 h2
   rw [← hra, ← hrb] at this
   exact this)
  clear hfa hra hfb hrb p1 p2 p3 p4 p5 p6 n8
  by_cases hle : la.length ≤ lb.length
  case neg =>
   have k1 : decide ((la.length : Int) ≤ (lb.length : Int)) = false := decide_eq_false (by omega)
   have k2 : decide (la.length ≤ lb.length) = false := decide_eq_false (by omega)
   clear hle
   go_wp2_with fail
   go_meet
   exact ⟨rfl, ⟨Below.refl _ _⟩⟩
  have k1 : decide ((la.length : Int) ≤ (lb.length : Int)) = true := decide_eq_true (by omega)
  have k2 : decide (la.length ≤ lb.length) = true := decide_eq_true (by omega)
  have k3 : la.length ≤ cb := by have := LB.out; omega
  have HTL := Aside0.mk (show (lb.take la.length).length = la.length by rw [List.length_take]; omega)
  have CT := Aside0.mk (Kd.C_take (m := la.length) CB.out hle)
  have HLE := Aside0.mk hle
  clear hle
  have hk := c30dec Aa ca la Ab cb (lb.take la.length) w3 CA.out LA.out CT.out (by rw [HTL.out]; exact k3)
  rw [HTL.out] at hk
  have HK := Aside0.mk hk
  clear hk
  go_wp2_with fail
  refine HK.out.mono ?_
  rintro e w4 ⟨rfl, hd⟩
  have HX := Aside0.mk hd.below
  clear hd
  by_cases heq : la = lb.take la.length
  case neg =>
   have ke : decide (la = lb.take la.length) = false := decide_eq_false heq
   rw [ke]
   clear heq ke
   go_wp2_with fail
   go_meet
   exact ⟨rfl, HX⟩
  obtain ⟨u1, u2⟩ := HU.out HLE.out heq
  have ke : decide (la = lb.take la.length) = true := decide_eq_true heq
  rw [ke]
  clear heq ke
  have k4 : decide ((la.length : Int) < (lb.length : Int)) = false := decide_eq_false (by omega)
  have k5 : decide (la.length < lb.length) = false := decide_eq_false (by omega)
  subst u2
  have hs := c37same A5 c5 r A4 c4 w4 (Kd.C_below (Kd.C_below R4.out HC.out) HX.out) C4.out (Kd.C_below (Kd.C_below R5.out HC.out) HX.out) C5.out (by have := HR20.out; omega)
  have HSM := Aside0.mk hs
  clear hs u1
  go_wp2_with fail
  refine HSM.out.mono ?_
  rintro e w5 ⟨rfl, hb⟩
  replace HX := Aside0.mk (below_step HX.out hb)
  clear hb
  go_wp2_with fail
  go_meet
  exact ⟨rfl, HX⟩
 case rest =>
  obtain ⟨rfl, HX⟩ := hcut
  replace HC := Aside0.mk (below_step HC.out HX.out)
  clear HX CA CB LA LB HA HBb hla1 hlb1
  have hT := (HC.out.block _ (Array.getElem?_eq_some_iff.1 HT0.out).1).trans HT0.out
  have t0 := show wc.cell? ⟨b, 0, none⟩ = some (.string nm) from blk_cell hT 0
  have t1 := show wc.cell? ⟨b, 1, none⟩ = some (.slice A1 cs.length c1) from blk_cell hT 1
  have t2 := show wc.cell? ⟨b, 2, none⟩ = some (.slice A2 xs.length c2) from blk_cell hT 2
  have t3 := show wc.cell? ⟨b, 3, none⟩ = some (.slice A3 ks.length c3) from blk_cell hT 3
  clear hT
  go_wp2_with fail
  clear t0 t1 t2 t3
  have T1 := T.out.below HC.out
  have n8 := (okT HCK.out).nc
  refine (c44r nm A1 c1 cs A2 c2 xs A3 c3 ks A6 c6 l wc T1 (by omega) (Kd.C_below R6.out HC.out) C6.out (by have := HL.out; omega)).mono ?_
  clear T1
  cases hD : decE cs l with
  | none =>
   have hR : decR cs l = ([], 0, 3) := by unfold decR; rw [hD]
   rw [hR]
   rintro e w5 ⟨A9, c9, rfl, _, _, hb⟩
   replace HC := Aside0.mk (below_step HC.out hb)
   clear hb hR hD n8
   go_wp2_with (go_at_call 33; refine (c33 _).mono ?_; rintro e w6 ⟨rfl, hb⟩)
   go_ret
   exact ⟨rfl, below_step HB.out (below_step HC.out hb)⟩
  | some p =>
   obtain ⟨x, n⟩ := p
   have hR : decR cs l = (x, (n : Int), 0) := by unfold decR; rw [hD]
   rw [hR]
   rintro e w5 ⟨A9, c9, rfl, hl9, hC9, hb⟩
   replace HC := Aside0.mk (below_step HC.out hb)
   have L9 := Aside0.mk (show x.length ≤ c9 from hl9)
   have C9 := Aside0.mk (show Kd.C k40 w5 A9 x.length x from hC9)
   clear hb hl9 hC9 hR wc
   obtain ⟨hjunk, hn1, hnl⟩ := decE_app [] hD
   clear hjunk
   have HSD := Aside0.mk (fun (h : (cs.length : Int) ≤ rd l 0 / 256) => decE_sound (fun i hi => ((okT HCK.out).col i hi).2.2) hD h)
   have hw0 : ∃ f, rdW l 0 = some f := by
    cases hq : rdW l 0 with
    | none => unfold decE at hD; rw [hq] at hD; cases hD
    | some f => exact ⟨f, rfl⟩
   obtain ⟨f, hf⟩ := hw0
   obtain ⟨hl0, hf0, hf1, hf2⟩ := rdW_some hf
   have e1 : decide ((n : Int) < 1) = false := decide_eq_false (by omega)
   have e2 : decide ((l.length : Int) < (n : Int)) = false := decide_eq_false (by omega)
   have e3 : decide (l.length < n) = false := decide_eq_false (by omega)
   have e4 : decide (n < 1) = false := decide_eq_false (by omega)
   have HN1 := Aside0.mk hn1
   have HNL := Aside0.mk hnl
   have HF := Aside0.mk hf2
   have HF0 := Aside0.mk hf0
   have HF1 := Aside0.mk hf1
   have HL0 := Aside0.mk hl0
   have HN8 := Aside0.mk n8
   clear hD hn1 hnl hf hf0 hf1 hf2 hl0 n8
   have hT := (HC.out.block _ (Array.getElem?_eq_some_iff.1 HT0.out).1).trans HT0.out
   have t0 := show w5.cell? ⟨b, 0, none⟩ = some (.string nm) from blk_cell hT 0
   have t1 := show w5.cell? ⟨b, 1, none⟩ = some (.slice A1 cs.length c1) from blk_cell hT 1
   have t2 := show w5.cell? ⟨b, 2, none⟩ = some (.slice A2 xs.length c2) from blk_cell hT 2
   have t3 := show w5.cell? ⟨b, 3, none⟩ = some (.slice A3 ks.length c3) from blk_cell hT 3
   clear hT
   go_wp2_with fail
   clear t0 t1 t2 t3 e1 e2 e3 e4
   refine (c42 nm A1 c1 cs A2 c2 xs A3 c3 ks A9 c9 x w5 (T.out.below HC.out) C9.out L9.out).mono ?_
   obtain ⟨cw, hca⟩ : ∃ p, p = encR nm cs xs ks x := ⟨_, rfl⟩
   obtain ⟨lw, ew⟩ := cw
   have HEW := Aside0.mk (show ew = fitsE nm cs xs ks x by have := encR_two nm cs xs ks x; rw [← hca] at this; exact this)
   have HA := Aside0.mk (fun (h : ew = 0) => by have := encR_zero (r := x) (nm := nm) (cs := cs) (xs := xs) (ks := ks) (by rw [← hca]; exact h); rw [← hca] at this; exact this)
   rw [← hca]
   clear hca
   rintro e w6 ⟨Aw, cw, rfl, hla, hCa, hb⟩
   replace HC := Aside0.mk (below_step HC.out hb)
   have LW := Aside0.mk (show lw.length ≤ cw from hla)
   have CW := Aside0.mk (show (Kd.int .i64).C w6 Aw lw.length lw from hCa)
   clear hb hla hCa C9 L9
   have hT := (HC.out.block _ (Array.getElem?_eq_some_iff.1 HT0.out).1).trans HT0.out
   have t1 := show w6.cell? ⟨b, 1, none⟩ = some (.slice A1 cs.length c1) from blk_cell hT 1
   have HT1 := Aside0.mk t1
   clear hT t1
   obtain ⟨ad, rfl, hx0⟩ := Kd.at_int (Kd.C_below R6.out HC.out) (0 : Int) (by omega) (by have := HL0.out; omega)
   have HX0 := Aside0.mk hx0
   clear hx0
   by_cases h201 : ew = 201
   ·have ke : (ew == 201) = true := beq_iff_eq.2 h201
    clear h201
    go_wp2_with fail
    refine region_reads (by kernel_rfl) (by kernel_rfl) ?_
    rintro w7 hw7
    have HB7 := Aside0.mk (below_step HC.out (hw7 ▸ below_dr _))
    clear hw7
    iterate 12 (with_reducible refine wpStill_step (fun K hK => ?_); go_simp; (first | with_reducible refine hK _ ?_ | (rw [if_neg (by simp [undef])]; with_reducible refine hK _ ?_)); clear hK K)
    with_reducible refine wpStill_nil ?_
    go_wp2_with (go_at_call 33; refine (c33 _).mono ?_; rintro e w8 ⟨rfl, hb⟩)
    go_ret
    exact ⟨rfl, below_step HB.out (below_step HB7.out hb)⟩
   have ke : (ew == 201) = false := beq_eq_false_iff_ne.2 h201
   rw [show rd l 0 = f from HF.out] at HX0 HSD
   have x0 := HX0.out
   rw [show ad.add (Int.toNat 0) = ad by unfold Addr.add; simp] at x0
   have HX1 := Aside0.mk x0
   have f0 := HF0.out
   have f1 := HF1.out
   have e0 : IntKind.i64.wrap (f.tdiv 256) = f / 256 := by rw [Int.tdiv_eq_ediv_of_nonneg f0]; exact wrap_i64_small _ (by omega) (by omega)
   by_cases hq : f / 256 < (cs.length : Int)
   ·have e1 : decide (f / 256 < (cs.length : Int)) = true := decide_eq_true hq
    have l0 := HL0.out
    have l1 : ¬ l = [] := by intro e; rw [e] at l0; simp at l0
    clear hq x0
    go_wp2_with fail
    refine region_reads (by kernel_rfl) (by kernel_rfl) ?_
    rintro w7 hw7
    have HB7 := Aside0.mk (below_step HC.out (hw7 ▸ below_dr _))
    have x0 := show w7.cell? ad = some (.int .i64 f) from hw7 ▸ HX1.out
    have x1 := show w7.cell? (ad.add 0) = some (.int .i64 f) from hw7 ▸ HX0.out
    have t1 := show w7.cell? ⟨b, 1, none⟩ = some (.slice A1 cs.length c1) from hw7 ▸ HT1.out
    clear hw7
    iterate 12 (with_reducible refine wpStill_step (fun K hK => ?_); go_simp; (first | with_reducible refine hK _ ?_ | (rw [if_neg (by simp [undef])]; with_reducible refine hK _ ?_)); clear hK K)
    with_reducible refine wpStill_nil ?_
    go_wp2_with (go_at_call 33; refine (c33 _).mono ?_; rintro e w8 ⟨rfl, hb⟩)
    go_ret
    exact ⟨rfl, below_step HB.out (below_step HB7.out hb)⟩
   have e1 : decide (f / 256 < (cs.length : Int)) = false := decide_eq_false hq
   obtain ⟨s1, s2, s3⟩ := HSD.out (by omega)
   rcases fits_or (nm := nm) (xs := xs) (ks := ks) HCK.out s1 s2 with hf0 | hf0
   case inr => exact absurd (HEW.out.trans hf0) h201
   obtain rfl : ew = 0 := HEW.out.trans hf0
   obtain hlw : lw = rowW x := (HA.out rfl).2
   rw [s3] at hlw
   have HTL := Aside0.mk (show (l.take n).length = n by rw [List.length_take]; have := HNL.out; omega)
   have CT := Aside0.mk (Kd.C_take (m := n) (Kd.C_below R6.out HC.out) HNL.out)
   rw [← hlw] at HTL CT
   have n6 : n ≤ c6 := by have := HNL.out; have := C6.out; omega
   have n7 : (n : Int) ≤ (c6 : Int) := by omega
   have n8' : (0 : Int) ≤ (n : Int) := by omega
   have l0 := HL0.out
   have l1 : ¬ l = [] := by intro e; rw [e] at l0; simp at l0
   clear hq x0 s1 s2 s3 hf0 hlw HA HEW h201
   go_wp2_with fail
   refine region_reads (by kernel_rfl) (by kernel_rfl) ?_
   rintro w7 hw7
   have HB7 := Aside0.mk (below_step HC.out (hw7 ▸ below_dr _))
   have CW7 := Aside0.mk (Kd.C_below CW.out (hw7 ▸ below_dr w6))
   have CT7 := Aside0.mk (Kd.C_below CT.out (hw7 ▸ below_dr w6))
   have x0 := show w7.cell? ad = some (.int .i64 f) from hw7 ▸ HX1.out
   have x1 := show w7.cell? (ad.add 0) = some (.int .i64 f) from hw7 ▸ HX0.out
   have t1 := show w7.cell? ⟨b, 1, none⟩ = some (.slice A1 cs.length c1) from hw7 ▸ HT1.out
   clear hw7
   iterate 12 (with_reducible refine wpStill_step (fun K hK => ?_); go_simp; (first | with_reducible refine hK _ ?_ | (rw [if_neg (by simp [undef])]; with_reducible refine hK _ ?_)); clear hK K)
   with_reducible refine wpStill_nil ?_
   clear x0 x1 t1 ke e0 e1 f0 f1 l0 l1
   go_wp2_with fail
   refine (c33 _).mono ?_
   rintro e w8 ⟨rfl, hb⟩
   have HB8 := Aside0.mk (below_step HB7.out hb)
   replace CW7 := Aside0.mk (Kd.C_below CW7.out hb)
   replace CT7 := Aside0.mk (Kd.C_below CT7.out hb)
   clear hb
   have hk := c30same (some ad) c6 Aw cw lw w8 CW7.out LW.out CT7.out (by rw [HTL.out]; exact n6)
   have HK := Aside0.mk (show Calls Try.prog 30 #[.slice Aw lw.length cw, .slice (some ad) n c6] w8 _ from by rw [← HTL.out]; exact hk)
   clear hk
   go_wp2_with fail
   refine HK.out.mono ?_
   rintro e w9 ⟨rfl, hd⟩
   have HB9 := Aside0.mk (below_step HB8.out hd.below)
   clear hd
   go_wp2_with fail
   go_ret
   exact ⟨rfl, below_step HB.out HB9.out⟩
end Go.Proofs.Ytkopbaikmlajmaa.Q
