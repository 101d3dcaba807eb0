/- trimmed to what these claims' texts use -/
import Derived.Test.YtkopbaikmlajmaaM
import Derived.Test.YtkopbaikmlajmaaL21
import Derived.Test.YtkopbaikmlajmaaG43
import Derived.Test.YtkopbaikmlajmaaAP
namespace Go.Proofs.Ytkopbaikmlajmaa.Q
open Go.RowKit Go.Proofs.YtkopbaikmlajmaaW.PrintWords Go.Proofs.YtkopbaikmlajmaaW.PrintLast Go.Proofs.YtkopbaikmlajmaaW.PrintMore
set_option linter.unusedVariables false
set_option linter.unusedSimpArgs false
theorem c43 (nm : ByteArray) (A1 : Option Addr) (c1 : Nat) (cs : List S56) (A2 : Option Addr) (c2 : Nat) (xs : List S65) (A3 : Option Addr) (c3 : Nat) (ks : List S42) (x : S56) (w : World) (hT : Tab w nm A1 c1 cs A2 c2 xs A3 c3 ks) :
  Calls Try.prog 43 #[.agg #[.string nm, .slice A1 cs.length c1, .slice A2 xs.length c2, .slice A3 ks.length c3], .agg #[.string x.f0, .int .i64 x.f1, .bool x.f2]] w fun e w' => ∃ B1 d1 B2 d2 B3 d3, e = .returned (.tuple #[.agg #[.string (addColE nm cs xs ks x).1, .slice B1 (addColE nm cs xs ks x).2.1.length d1, .slice B2 (addColE nm cs xs ks x).2.2.1.length d2, .slice B3 (addColE nm cs xs ks x).2.2.2.1.length d3], .int .i64 (addColE nm cs xs ks x).2.2.2.2]) ∧ (addColE nm cs xs ks x).2.1.length ≤ d1 ∧ Kd.C k56 w' B1 (addColE nm cs xs ks x).2.1.length (addColE nm cs xs ks x).2.1 ∧ Below w.heap.size w w' := by
 refine (schema_AddColumn.calls nm A1 c1 cs A2 c2 xs A3 c3 ks x.f0 x.f1 x.f2 _ _ _ _ _ w hT.r1 hT.l1 hT.r2 hT.l2 hT.r3 hT.l3 (addCol_eq nm cs xs ks x)).mono ?_
 rintro e w' ⟨v1, v2, v3, rfl, h1, h2, h3, hb⟩
 obtain ⟨B1, d1, rfl, a1, b1⟩ := Kd.R_reads h1
 obtain ⟨B2, d2, rfl⟩ := Kd.V_slice h2
 obtain ⟨B3, d3, rfl, a3, b3⟩ := Kd.R_reads h3
 exact ⟨B1, d1, B2, d2, B3, d3, rfl, a1, b1, hb⟩
theorem addCol_zero {nm : ByteArray} {cs : List S56} {xs : List S65} {ks : List S42} {x : S56} (h : (addColE nm cs xs ks x).2.2.2.2 = 0) : addColE nm cs xs ks x = (nm, cs ++ [x], xs, ks, 0) ∧ x.f2 = true := by
 unfold addColE at h ⊢
 split
 ·rename_i h1
  rw [if_pos h1] at h
  exact absurd h h1
 ·rename_i h1
  rw [if_neg h1] at h
  split
  ·rename_i h2
   rw [if_pos h2] at h
   cases h
  ·rename_i h2
   rw [if_neg h2] at h
   unfold checkedE at h ⊢
   split
   ·exact ⟨rfl, by simpa using h2⟩
   ·rename_i h3
    rw [if_neg h3] at h
    exact absurd h h3
theorem decR_wide {cs : List S56} {c : S56} {r : List S40} (hf : FitV cs r) (h1 : 1 ≤ r.length) (h8 : r.length ≤ 8) (hc : r.length = cs.length) (hn : c.f2 = true) : decR (cs ++ [c]) (rowW r) = (r ++ [z40], ((rowW r).length : Int), 0) := by
 unfold decR
 rw [decE_wide hf h1 h8 hc hn]
theorem row_len73 {cs : List S56} {r : List S40} (h : FitV cs r) (h8 : r.length ≤ 8) : 1 ≤ (rowW r).length ∧ (rowW r).length ≤ 73 := by
 have := body_len (okR_of h (by omega)) r.length (Nat.le_refl _)
 rw [List.take_length] at this
 unfold rowW
 rw [List.length_cons]
 omega
set_option maxHeartbeats 4000000 in
set_option maxRecDepth 100000 in
theorem w9 (nm : ByteArray) (A1 : Option Addr) (c1 : Nat) (cs : List S56) (A2 : Option Addr) (c2 : Nat) (xs : List S65) (A3 : Option Addr) (c3 : Nat) (ks : List S42) (x : S56) (A4 : Option Addr) (c4 : Nat) (r : List S40) (w : World) (hT : Tab w nm A1 c1 cs A2 c2 xs A3 c3 ks) (hpx : p56 x) (hr : Kd.C k40 w A4 r.length r) (hc : r.length ≤ c4) (hp : ∀ x, x ∈ r → p40 x) :
  Calls Try.prog 9 #[.agg #[.string nm, .slice A1 cs.length c1, .slice A2 xs.length c2, .slice A3 ks.length c3], .agg #[.string x.f0, .int .i64 x.f1, .bool x.f2], .slice A4 r.length c4] w fun e w' => e = .returned (.bool true) ∧ Below w.heap.size w w' := by
 have hu28 := Try.underlying28
 have hu56 := Try.underlying56
 have T := Aside0.mk hT
 have R4 := Aside0.mk hr
 have C4 := Aside0.mk hc
 clear hT hr hc hp hpx
 go_enter Try.func9, Try.ntmps9
 go_wp2_with fail
 obtain ⟨w0, hw0⟩ : ∃ w0, w0 = ((w.alloc (.cells #[.string nm, .slice A1 cs.length c1, .slice A2 xs.length c2, .slice A3 ks.length c3] 28)).alloc (.cells #[.string x.f0, .int .i64 x.f1, .bool x.f2] 56)).alloc (.cells #[.slice A4 r.length c4] 37) := ⟨_, rfl⟩
 have HB := Aside0.mk (show Below w.heap.size w w0 from hw0 ▸ below_step (below_step (below_al w _) (below_al _ _)) (below_al _ _))
 have HT0 := Aside0.mk (show w0.heap[w.heap.size]? = some (.cells #[.string nm, .slice A1 cs.length c1, .slice A2 xs.length c2, .slice A3 ks.length c3] 28 (0, 0)) from hw0 ▸ blk_alloc (blk_alloc (blk_new w _) _) _)
 have HU0 := Aside0.mk (show w0.heap[w.heap.size + 1]? = some (.cells #[.string x.f0, .int .i64 x.f1, .bool x.f2] 56 (0, 0)) by
  rw [hw0, show w.heap.size + 1 = (w.alloc (.cells #[.string nm, .slice A1 cs.length c1, .slice A2 xs.length c2, .slice A3 ks.length c3] 28)).heap.size by simp]; exact blk_alloc (blk_new _ _) _)
 have HV0 := Aside0.mk (show w0.heap[w.heap.size + 1 + 1]? = some (.cells #[.slice A4 r.length c4] 37 (0, 0)) by
  rw [hw0, show w.heap.size + 1 + 1 = ((w.alloc (.cells #[.string nm, .slice A1 cs.length c1, .slice A2 xs.length c2, .slice A3 ks.length c3] 28)).alloc (.cells #[.string x.f0, .int .i64 x.f1, .bool x.f2] 56)).heap.size by simp]; exact blk_new _ _)
 rw [← hw0]
 clear hw0
 obtain ⟨b, hb⟩ : ∃ b, b = w.heap.size := ⟨_, rfl⟩
 rw [← hb] at HT0 HV0 HU0 ⊢
 clear hb
 replace T := Aside0.mk (T.out.below HB.out)
 replace R4 := Aside0.mk (Kd.C_below R4.out HB.out)
 refine (c32one nm A1 c1 cs A2 c2 xs A3 c3 ks A4 c4 r w0 (b + 1 + 1) T.out HV0.out R4.out C4.out).mono ?_
 rintro e w1 ⟨rfl, hb⟩
 have HC := Aside0.mk hb
 clear hb
 have hU := (HC.out.block _ (Array.getElem?_eq_some_iff.1 HU0.out).1).trans HU0.out
 have u0 := show w1.cell? ⟨b + 1, 0, none⟩ = some (.string x.f0) from blk_cell hU 0
 clear hU
 cases hV : valid21 nm cs xs ks [r] with
 | false =>
  go_wp2_with (go_at_call 33; refine (c33 _).mono ?_; rintro e w2 ⟨rfl, hb⟩)
  go_ret
  exact ⟨rfl, below_step HB.out (below_step HC.out hb)⟩
 | true =>
 clear hV
 by_cases hlen : 100 < x.f0.size
 ·have h1 : decide ((100 : Int) < (x.f0.size : Int)) = true := decide_eq_true (by omega)
  have h2 : decide (100 < x.f0.size) = true := decide_eq_true (by omega)
  go_wp2_with (go_at_call 33; refine (c33 _).mono ?_; rintro e w2 ⟨rfl, hb⟩)
  go_ret
  exact ⟨rfl, below_step HB.out (below_step HC.out hb)⟩
 have h1 : decide ((100 : Int) < (x.f0.size : Int)) = false := decide_eq_false (by omega)
 have h2 : decide (100 < x.f0.size) = false := decide_eq_false (by omega)
 clear hlen
 have hT := (HC.out.block _ (Array.getElem?_eq_some_iff.1 HT0.out).1).trans HT0.out
 have t0 := show w1.cell? ⟨b, 0, none⟩ = some (.string nm) from blk_cell hT 0
 have t1 := show w1.cell? ⟨b, 1, none⟩ = some (.slice A1 cs.length c1) from blk_cell hT 1
 have t2 := show w1.cell? ⟨b, 2, none⟩ = some (.slice A2 xs.length c2) from blk_cell hT 2
 have t3 := show w1.cell? ⟨b, 3, none⟩ = some (.slice A3 ks.length c3) from blk_cell hT 3
 clear hT
 go_wp2_with fail
 clear t0 t1 t2 t3 h1 h2 u0
 refine (c42 nm A1 c1 cs A2 c2 xs A3 c3 ks A4 c4 r w1 (T.out.below HC.out) (Kd.C_below R4.out HC.out) C4.out).mono ?_
 obtain ⟨ca, hca⟩ : ∃ p, p = encR nm cs xs ks r := ⟨_, rfl⟩
 obtain ⟨la, ea⟩ := ca
 have HA := Aside0.mk (show ea = 0 → fitsE nm cs xs ks r = 0 ∧ la = rowW r from fun h => by
  unfold encR at hca
  by_cases hf : fitsE nm cs xs ks r = 0
  ·rw [if_pos hf] at hca
   exact ⟨hf, congrArg Prod.fst hca⟩
  ·rw [if_neg hf] at hca
   exact absurd ((congrArg Prod.snd hca).symm.trans h) hf)
 rw [← hca]
 clear hca
 rintro e w2 ⟨Aa, ca, rfl, hla, hCa, hb⟩
 replace HC := Aside0.mk (below_step HC.out hb)
 have LA := Aside0.mk (show la.length ≤ ca from hla)
 have CA := Aside0.mk (show (Kd.int .i64).C w2 Aa la.length la from hCa)
 clear hb hla hCa w1
 have hT := (HC.out.block _ (Array.getElem?_eq_some_iff.1 HT0.out).1).trans HT0.out
 have hU := (HC.out.block _ (Array.getElem?_eq_some_iff.1 HU0.out).1).trans HU0.out
 have t0 := show w2.cell? ⟨b, 0, none⟩ = some (.string nm) from blk_cell hT 0
 have t1 := show w2.cell? ⟨b, 1, none⟩ = some (.slice A1 cs.length c1) from blk_cell hT 1
 have t2 := show w2.cell? ⟨b, 2, none⟩ = some (.slice A2 xs.length c2) from blk_cell hT 2
 have t3 := show w2.cell? ⟨b, 3, none⟩ = some (.slice A3 ks.length c3) from blk_cell hT 3
 have u0 := show w2.cell? ⟨b + 1, 0, none⟩ = some (.string x.f0) from blk_cell hU 0
 have u1 := show w2.cell? ⟨b + 1, 1, none⟩ = some (.int .i64 x.f1) from blk_cell hU 1
 have u2 := show w2.cell? ⟨b + 1, 2, none⟩ = some (.bool x.f2) from blk_cell hU 2
 clear hT hU
 go_wp2_with fail
 clear t0 t1 t2 t3 u0 u1 u2
 refine (c43 nm A1 c1 cs A2 c2 xs A3 c3 ks x w2 (T.out.below HC.out)).mono ?_
 obtain ⟨tu, htu⟩ : ∃ p, p = addColE nm cs xs ks x := ⟨_, rfl⟩
 obtain ⟨un, uc, ux, uk, ue⟩ := tu
 have HU := Aside0.mk (show ue = 0 → un = nm ∧ uc = cs ++ [x] ∧ x.f2 = true from fun h => by
  have h1 := addCol_zero (nm := nm) (cs := cs) (xs := xs) (ks := ks) (x := x) (by rw [← htu]; exact h)
  rw [← htu] at h1
  obtain ⟨h2, h3⟩ := h1
  cases h2
  exact ⟨rfl, rfl, h3⟩)
 rw [← htu]
 clear htu
 rintro e w3 ⟨B1, d1, B2, d2, B3, d3, rfl, hld, hCd, hb⟩
 replace HC := Aside0.mk (below_step HC.out hb)
 replace CA := Aside0.mk (Kd.C_below CA.out hb)
 have LU := Aside0.mk (show uc.length ≤ d1 from hld)
 have CU := Aside0.mk (show Kd.C k56 w3 B1 uc.length uc from hCd)
 clear hb hld hCd w2
 obtain ⟨w4, hw4⟩ : ∃ w4, w4 = w3.alloc (.cells #[.string un, .slice B1 uc.length d1, .slice B2 ux.length d2, .slice B3 uk.length d3] 28) := ⟨_, rfl⟩
 have HC4 := Aside0.mk (show Below w0.heap.size w0 w4 from hw4 ▸ below_step HC.out (below_al w3 _))
 have HG := Aside0.mk (show w4.heap[w3.heap.size]? = some (.cells #[.string un, .slice B1 uc.length d1, .slice B2 ux.length d2, .slice B3 uk.length d3] 28 (0, 0)) from hw4 ▸ blk_new w3 _)
 replace CA := Aside0.mk (Kd.C_below CA.out (hw4 ▸ below_al w3 (.cells #[.string un, .slice B1 uc.length d1, .slice B2 ux.length d2, .slice B3 uk.length d3] 28)))
 replace CU := Aside0.mk (Kd.C_below CU.out (hw4 ▸ below_al w3 (.cells #[.string un, .slice B1 uc.length d1, .slice B2 ux.length d2, .slice B3 uk.length d3] 28)))
 by_cases hea : ea = 0
 case neg =>
  have he' : (ea != 0) = true := bne_iff_ne.2 hea
  have HW := Aside0.mk hw4
  clear hea hw4
  go_wp2_with fail
  rw [← HW.out]
  refine (c33 _).mono ?_
  rintro e w5 ⟨rfl, hb⟩
  go_wp2_with fail
  go_ret
  exact ⟨rfl, below_step HB.out (below_step HC4.out hb)⟩
 have he1 : (ea != 0) = false := bne_eq_false_iff_eq.2 hea
 by_cases hue : ue = 0
 case neg =>
  have he' : (ue != 0) = true := bne_iff_ne.2 hue
  have HW := Aside0.mk hw4
  clear hue hw4 hea
  go_wp2_with fail
  rw [← HW.out]
  refine (c33 _).mono ?_
  rintro e w5 ⟨rfl, hb⟩
  go_wp2_with fail
  go_ret
  exact ⟨rfl, below_step HB.out (below_step HC4.out hb)⟩
 have he2 : (ue != 0) = false := bne_eq_false_iff_eq.2 hue
 have HW := Aside0.mk hw4
 clear hw4
 obtain ⟨hf, rfl⟩ := HA.out hea
 obtain ⟨rfl, rfl, hx2⟩ := HU.out hue
 obtain ⟨hck, hrl, hfv⟩ := fitV_of hf
 have n8 := (okT hck).nc
 obtain ⟨hw1, hw73⟩ := row_len73 hfv (by omega)
 have hD := decR_wide hfv (by omega) (by omega) hrl hx2
 have HN := Aside0.mk n8
 have HRL := Aside0.mk hrl
 have HW73 := Aside0.mk hw73
 clear hea hue hf hck hfv n8 hw1 hrl hx2 HA HU
 generalize rowW r = ws at *
 obtain ⟨cu, hcu⟩ : ∃ l, l = cs ++ [x] := ⟨_, rfl⟩
 have hcl : cu.length ≤ 1000000 := by rw [hcu, List.length_append]; have := HN.out; simp; omega
 rw [← hcu] at CU LU hD ⊢
 have HD := Aside0.mk hD
 have HCL := Aside0.mk hcl
 rw [← hcu] at HW
 clear hcu hcl hD
 go_wp2_with fail
 rw [← HW.out]
 refine (c44 un B1 d1 cu B2 d2 ux.length B3 d3 uk.length Aa ca ws w4 CU.out LU.out HCL.out CA.out LA.out (by have := HW73.out; omega)).mono ?_
 rw [HD.out]
 rintro e w5 ⟨v, rfl, hR, hb⟩
 obtain ⟨A8, c8, rfl, hl8, hC8⟩ := Kd.R_reads hR
 replace HC := Aside0.mk (below_step HC4.out hb)
 have L8 := Aside0.mk (show (r ++ [z40]).length ≤ c8 from hl8)
 have C8 := Aside0.mk (show Kd.C k40 w5 A8 (r ++ [z40]).length (r ++ [z40]) from hC8)
 clear hb hl8 hC8 hR CU LU CA HC4 HG HW
 obtain ⟨rz, hrz⟩ : ∃ l, l = r ++ [z40] := ⟨_, rfl⟩
 dsimp only
 rw [← hrz] at L8 C8 HD ⊢
 have HRZ := Aside0.mk hrz
 have HRZL := Aside0.mk (show rz.length ≤ 1000000 by rw [hrz, List.length_append]; have := HN.out; have := HRL.out; simp; omega)
 clear hrz
 go_wp2_with fail
 refine (c33 _).mono ?_
 rintro e w6 ⟨rfl, hb⟩
 replace HC := Aside0.mk (below_step HC.out hb)
 replace C8 := Aside0.mk (Kd.C_below C8.out hb)
 clear hb
 have r0 : decide (c4 < r.length) = false := decide_eq_false (by have := C4.out; omega)
 have r1 : r.length ≤ c4 := C4.out
 have HX := Aside0.mk (Kd.C_below R4.out HC.out)
 have HZ := Aside0.mk (show Kd.C k40 (w6.alloc (.cells #[.int .i64 0, .int .i64 0, .string ⟨#[]⟩] 40)) (some ⟨w6.heap.size, 0, none⟩) [z40].length [z40] from C_40 w6 z40)
 go_wp2_with ((with_reducible refine gate_builtin (b := .append) (xs := #[.tmp 72, .tmp 74]) rfl ?_); refine list_append_guard (by simp [Region.wanted, yielded]) k40 _ _ _ 37 40 (.agg #[(.int .i64 0), (.int .i64 0), (.string ⟨#[]⟩)]) 32 (by rfl) Try.underlying37 info40 rfl (by decide) (by decide) A4 r (some ⟨w6.heap.size, 0, none⟩) 1 [z40] (by rfl) (by rfl) (Kd.C_alloc HX.out _) HZ.out (by have := HRL.out; have := HN.out; simp; omega) ?_; intro l7 A7 c7 w7 e7 hl7 hC7 hb7)
 obtain rfl : l7 = rz := e7.out.trans HRZ.out.symm
 have HB7 := Aside0.mk (below_step HC.out (below_step (below_al w6 _) hb7))
 have C87 := Aside0.mk (Kd.C_below (Kd.C_alloc C8.out _) hb7)
 refine (c37same A7 c7 l7 A8 c8 w7 C87.out L8.out hC7 hl7 HRZL.out).mono ?_
 rintro e w8 ⟨rfl, hb⟩
 replace HB7 := Aside0.mk (below_step HB7.out hb)
 clear hb hb7 hC7 hl7 C87 HX HZ
 go_wp2_with fail
 go_ret
 exact ⟨rfl, below_step HB.out HB7.out⟩
end Go.Proofs.Ytkopbaikmlajmaa.Q
