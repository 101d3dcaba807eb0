import Derived.Test.YtkopbaikmlajmaaF31
import Derived.Test.YtkopbaikmlajmaaFC
import Derived.Test.YtkopbaikmlajmaaFA
namespace Go.Proofs.Ytkopbaikmlajmaa.Q
open Go.RowKit Go.Proofs.YtkopbaikmlajmaaW.PrintWords Go.Proofs.YtkopbaikmlajmaaW.PrintLast Go.Proofs.YtkopbaikmlajmaaW.PrintMore
set_option linter.unusedVariables false
set_option linter.unusedSimpArgs false
def noPlace (n : Nat) (k : Int) : Bool := !(decide (0 ≤ k) && decide (k < n))
theorem place_eq (r : List S40) (k : Int) : row_place.f r k = some (!(noPlace r.length k)) := by
 unfold row_place.f noPlace
 by_cases h : 0 ≤ k
 ·rw [if_pos h, decide_eq_true h]; simp
 rw [if_neg h, decide_eq_false h]; simp
set_option maxHeartbeats 1000000 in
set_option maxRecDepth 100000 in
theorem c90 (p1 : Addr) (A : Option Addr) (c : Nat) (r : List S40) (k : Int) (w : World) (h1 : w.cell? p1 = some (.slice A r.length c)) (hC : Kd.C k40 w A r.length r) (hc : r.length ≤ c) :
  Calls Try.prog 90 #[.int .i64 k, .pointer (some p1)] w fun e w' => e = .returned (.bool (noPlace r.length k)) ∧ Drawn0 w w' := by
 go_enter Try.func90, Try.ntmps90
 go_wp2_with (go_at_call 91; refine (row_place.calls A c r k _ _ hC hc (place_eq r k)).mono ?_; rintro e w' ⟨rfl, hd⟩)
 go_ret
 exact ⟨rfl, hd⟩
set_option maxHeartbeats 1000000 in
set_option maxRecDepth 100000 in
theorem c131 (A : Option Addr) (c : Nat) (l : List Int) (p1 : Addr) (Ar : Option Addr) (cr : Nat) (r : List S40) (w : World) (hl : (Kd.int .i64).C w A l.length l) (h1 : w.cell? p1 = some (.slice Ar r.length cr)) (hC : Kd.C k40 w Ar r.length r) (hc : r.length ≤ cr) :
  Calls Try.prog 131 #[.slice A l.length c, .func (.func 90) #[] #[.pointer (some p1)]] w fun e w' => e = .returned (.int .i64 (ixOf (noPlace r.length) l)) ∧ Below w.heap.size w w' := by
 have hm : l.length ≤ 9223372036854775807 := hl.2.1
 have HL := Aside0.mk hl
 have H1 := Aside0.mk h1
 have HC := Aside0.mk hC
 have HR := Aside0.mk hc
 clear hl h1 hC hc
 go_enter Try.func131, Try.ntmps131
 go_wp2_with fail
 go_loopw [8] (fun v wr => ∃ k : Nat, k ≤ l.length ∧ v = .int .i64 k ∧ Aside0 (∀ j, j < k → noPlace r.length (l.getD j 0) = false) ∧ Aside0 (Below w.heap.size w wr)) (fun v _ => l.length - (intOf v).toNat)
 case atStart => exact ⟨0, Nat.zero_le _, rfl, ⟨fun j hj => by omega⟩, ⟨Below.refl _ _⟩⟩
 case round =>
  obtain ⟨k, hk, rfl, HA, HB⟩ := hrel
  by_cases hlt : k < l.length
  rotate_left
  ·obtain rfl : k = l.length := by omega
   go_wp2_with fail
   go_ret
   exact ⟨by rw [ixOf_none (noPlace r.length) l 0 HA.out]; rfl, HB.out⟩
  obtain ⟨ad, rfl, hx0⟩ := Kd.at_int HL.out (k : Int) (by omega) (by omega)
  simp only [Int.toNat_natCast] at hx0
  replace hx0 := keep HB.out hx0
  cases hq : noPlace r.length (rd l (k : Int)) with
  | true =>
   have HQ := Aside0.mk hq
   clear hq
   go_wp2_with (go_at_call 90; refine (c90 p1 Ar cr r (rd l (k : Int)) _ (keep HB.out H1.out) (Kd.C_below HC.out HB.out) HR.out).mono ?_; rw [HQ.out]; rintro e w' ⟨rfl, hd⟩)
   go_ret
   exact ⟨by rw [ixOf_hit (noPlace r.length) l k 0 hlt HA.out HQ.out]; rfl, below_step HB.out hd.below⟩
  | false =>
   have HQ := Aside0.mk hq
   clear hq
   go_wp2_with (go_at_call 90; refine (c90 p1 Ar cr r (rd l (k : Int)) _ (keep HB.out H1.out) (Kd.C_below HC.out HB.out) HR.out).mono ?_; rw [HQ.out]; rintro e w' ⟨rfl, hd⟩)
   go_roundw
   case rel =>
    refine ⟨k + 1, by omega, by go_num, ⟨fun j hj => ?_⟩, ⟨below_step HB.out hd.below⟩⟩
    rcases Nat.lt_succ_iff_lt_or_eq.1 hj with h | rfl
    ·exact HA.out j h
    exact HQ.out
   case measure => simp [intOf]; omega
set_option maxHeartbeats 1000000 in
set_option maxRecDepth 100000 in
theorem c89 (A : Option Addr) (c : Nat) (l : List Int) (p1 : Addr) (Ar : Option Addr) (cr : Nat) (r : List S40) (w : World) (hl : (Kd.int .i64).C w A l.length l) (h1 : w.cell? p1 = some (.slice Ar r.length cr)) (hC : Kd.C k40 w Ar r.length r) (hc : r.length ≤ cr) :
  Calls Try.prog 89 #[.slice A l.length c, .func (.func 90) #[] #[.pointer (some p1)]] w fun e w' => e = .returned (.bool (l.any (noPlace r.length))) ∧ Below w.heap.size w w' := by
 go_enter Try.func89, Try.ntmps89
 go_wp2_with (go_at_call 131; refine (c131 A c l p1 Ar cr r _ hl h1 hC hc).mono ?_; rintro e w' ⟨rfl, hb⟩)
 go_ret
 exact ⟨by rw [← ixOf_nonneg]; rfl, hb⟩
def updS (r : List S40) (cols : List Int) (vals : List S40) : Nat → Option (List S40)
 | 0 => some r
 | i + 1 => (updS r cols vals i).bind fun o => if (cols.take i).contains (rd cols (i : Int)) = true then none else some (o.set (rd cols (i : Int)).toNat (rd_T40 vals (i : Int)))
theorem updS_none {r : List S40} {cols : List Int} {vals : List S40} {k : Nat} (h : updS r cols vals k = none) : ∀ m, updS r cols vals (k + m) = none
 | 0 => h
 | m + 1 => by rw [← Nat.add_assoc]; show (updS r cols vals (k + m)).bind _ = none; rw [updS_none h m]; rfl
def updR (nm : ByteArray) (cs : List S56) (xs : List S65) (ks : List S42) (r : List S40) (cols : List Int) (vals : List S40) : List S40 × Int :=
 if cols.length ≠ vals.length ∨ cols.any (noPlace r.length) = true then ([], 1) else
 match updS r cols vals cols.length with
 | none => ([], 6)
 | some o => if fitsE nm cs xs ks o = 0 then (o, 0) else ([], fitsE nm cs xs ks o)
set_option maxHeartbeats 600000 in
set_option maxRecDepth 100000 in
theorem c34 (nm : ByteArray) (A1 : Option Addr) (c1 : Nat) (cs : List S56) (A2 : Option Addr) (c2 : Nat) (xs : List S65) (A3 : Option Addr) (c3 : Nat) (ks : List S42) (A4 : Option Addr) (c4 : Nat) (r : List S40) (A5 : Option Addr) (c5 : Nat) (cols : List Int) (A6 : Option Addr) (c6 : Nat) (vals : List S40) (w : World) (hr1 : Kd.C k56 w A1 cs.length cs) (hc1 : cs.length ≤ c1) (hr2 : Kd.C k65 w A2 xs.length xs) (hc2 : xs.length ≤ c2) (hr3 : Kd.C k42 w A3 ks.length ks) (hc3 : ks.length ≤ c3) (hr4 : Kd.C k40 w A4 r.length r) (hc4 : r.length ≤ c4) (hm4 : r.length < 4398046511104) (hr5 : (Kd.int .i64).C w A5 cols.length cols) (hc5 : cols.length ≤ c5) (hr6 : Kd.C k40 w A6 vals.length vals) (hc6 : vals.length ≤ c6) :
  Calls Try.prog 34 #[.agg #[.string nm, .slice A1 cs.length c1, .slice A2 xs.length c2, .slice A3 ks.length c3], .slice A4 r.length c4, .slice A5 cols.length c5, .slice A6 vals.length c6] w fun e w' => ∃ v, e = .returned (.tuple #[v, .int .i64 (updR nm cs xs ks r cols vals).2]) ∧ Kd.R k40 40 w' w.heap.size (fun _ => True) v (updR nm cs xs ks r cols vals).1 ∧ Below w.heap.size w w' := by
 have hmf : ∀ (fn : Fn) (first cap : Array Value) (w : World), (Instr.makeFunc fn first cap).run Try.prog w = .ok (.func fn first cap) w := fun _ _ _ _ => rfl
 have hu28 := Try.underlying28
 have hu40 := Try.underlying40
 have hm5 : cols.length ≤ 9223372036854775807 := hr5.2.1
 have hm6 : vals.length ≤ 9223372036854775807 := hr6.2.1
 by_cases g1 : cols.length = vals.length
 case neg =>
  have d1 : ((cols.length : Int) != (vals.length : Int)) = true := bne_iff_ne.2 (by omega)
  have HE := Aside0.mk (show updR nm cs xs ks r cols vals = ([], 1) by unfold updR; rw [if_pos (.inl g1)])
  clear g1
  go_enter Try.func34, Try.ntmps34
  go_wp2_with fail
  go_ret2
  rw [HE.out]
  exact ⟨_, rfl, Kd.R_nil _ _ _ _ _, below_step (below_al w _) (below_al _ _)⟩
 have d1 : ((cols.length : Int) != (vals.length : Int)) = false := bne_eq_false_iff_eq.2 (by omega)
 have HR1 := Aside0.mk hr1
 have HR2 := Aside0.mk hr2
 have HR3 := Aside0.mk hr3
 have HR4 := Aside0.mk hr4
 have HR5 := Aside0.mk hr5
 have HR6 := Aside0.mk hr6
 have HC1 := Aside0.mk hc1
 have HC2 := Aside0.mk hc2
 have HC3 := Aside0.mk hc3
 have HC4 := Aside0.mk hc4
 have HC6 := Aside0.mk hc6
 have HM4 := Aside0.mk hm4
 have HL := Aside0.mk g1
 clear hr1 hr2 hr3 hr4 hr5 hr6 hc1 hc2 hc3 hc4 hc6 hm4 g1
 obtain ⟨W, hW⟩ : ∃ W, W = (w.alloc (.cells #[.string nm, .slice A1 cs.length c1, .slice A2 xs.length c2, .slice A3 ks.length c3] 28)).alloc (.cells #[.slice A4 r.length c4] 37) := ⟨_, rfl⟩
 have HB := Aside0.mk (show Below w.heap.size w W from hW ▸ below_step (below_al w _) (below_al _ _))
 have HT := Aside0.mk (show W.heap[w.heap.size]? = some (.cells #[.string nm, .slice A1 cs.length c1, .slice A2 xs.length c2, .slice A3 ks.length c3] 28 (0, 0)) from hW ▸ blk_alloc (blk_new _ _) _)
 have HQ := Aside0.mk (show W.heap[w.heap.size + 1]? = some (.cells #[.slice A4 r.length c4] 37 (0, 0)) by
  rw [hW, show w.heap.size + 1 = (w.alloc (.cells #[.string nm, .slice A1 cs.length c1, .slice A2 xs.length c2, .slice A3 ks.length c3] 28)).heap.size by simp]; exact blk_new _ _)
 cases hp : cols.any (noPlace r.length) with
 | true =>
  have HE := Aside0.mk (show updR nm cs xs ks r cols vals = ([], 1) by unfold updR; rw [if_pos (.inr hp)])
  have HP := Aside0.mk hp
  clear hp
  go_enter Try.func34, Try.ntmps34
  go_wp2_with (go_at_call 89; rw [← hW]; refine (c89 A5 c5 cols ⟨w.heap.size + 1, 0, none⟩ A4 c4 r W (Kd.C_below HR5.out HB.out) (by rw [blk_cell HQ.out 0]; rfl) (Kd.C_below HR4.out HB.out) HC4.out).mono ?_; rw [HP.out]; rintro e w1 ⟨rfl, hb⟩)
  go_ret2
  rw [HE.out]
  exact ⟨_, rfl, Kd.R_nil _ _ _ _ _, below_step HB.out hb⟩
 | false =>
  have HP := Aside0.mk hp
  have HE := Aside0.mk (show updR nm cs xs ks r cols vals = (match updS r cols vals cols.length with
 | none => ([], 6)
 | some o => if fitsE nm cs xs ks o = 0 then (o, 0) else ([], fitsE nm cs xs ks o)) by unfold updR; rw [if_neg]; rw [hp]; simp [HL.out])
  have HN := Aside0.mk (show ∀ i, i < cols.length → 0 ≤ rd cols (i : Int) ∧ rd cols (i : Int) < r.length by
   intro i hi
   have h1 := List.any_eq_false.1 hp (rd cols (i : Int)) (by unfold rd; rw [Int.toNat_natCast, List.getD_eq_getElem?_getD, List.getElem?_eq_getElem hi]; exact List.getElem_mem hi)
   unfold noPlace at h1
   simp at h1
   omega)
  clear hp
  go_enter Try.func34, Try.ntmps34
  go_wp2_with (go_at_call 89; rw [← hW]; refine (c89 A5 c5 cols ⟨w.heap.size + 1, 0, none⟩ A4 c4 r W (Kd.C_below HR5.out HB.out) (by rw [blk_cell HQ.out 0]; rfl) (Kd.C_below HR4.out HB.out) HC4.out).mono ?_; rw [HP.out]; rintro e w1 ⟨rfl, hb⟩; have HB1 := Aside0.mk (below_step HB.out hb); have HT1 := Aside0.mk (blk_below HT.out hb); have q0 := show w1.cell? ⟨w.heap.size + 1, 0, none⟩ = some (.slice A4 r.length c4) from blk_cell (blk_below HQ.out hb) 0; clear hb)
  have hcl := slices_Clone_Row.calls A4 c4 r r w1 (Kd.C_below HR4.out HB1.out) HC4.out (by unfold slices_Clone_Row.f; rw [if_pos HM4.out])
  refine hcl.mono ?_
  rintro e w2 ⟨v, rfl, hO, hb⟩
  obtain ⟨Ao, co, rfl⟩ := Kd.R_slice hO
  have HO2 := Aside0.mk (Kd.R_lower hO HB1.out.size)
  have HB2 := Aside0.mk (below_step HB1.out hb)
  have HT2 := Aside0.mk (blk_below HT1.out hb)
  clear hO hb hcl HB1 HT1 q0 HB HT HQ hW
  go_wp2_with fail
  go_loopw [28] (fun v28 wr => ∃ (i : Nat) (o : List S40), i ≤ cols.length ∧ v28 = .int .i64 i ∧ Aside0 (updS r cols vals i = some o) ∧ Aside0 (o.length = r.length) ∧ Aside0 (Kd.R k40 40 wr w.heap.size (fun _ => True) (.slice Ao r.length co) o) ∧ Aside0 (Below w.heap.size w wr) ∧ Aside0 (wr.heap[w.heap.size]? = some (.cells #[.string nm, .slice A1 cs.length c1, .slice A2 xs.length c2, .slice A3 ks.length c3] 28 (0, 0)))) (fun v _ => cols.length - (intOf v).toNat)
  case atStart => exact ⟨0, r, Nat.zero_le _, rfl, ⟨rfl⟩, ⟨rfl⟩, HO2, HB2, HT2⟩
  case round =>
   obtain ⟨i, o, hi, rfl, HS, HLN, HO, HB, HT⟩ := hrel
   clear HO2 HB2 HT2
   by_cases hlt : i < cols.length
   rotate_left
   ·obtain rfl : i = cols.length := by omega
    have HE2 := Aside0.mk (show updR nm cs xs ks r cols vals = if fitsE nm cs xs ks o = 0 then (o, 0) else ([], fitsE nm cs xs ks o) by rw [HE.out, HS.out])
    have t0 := show wr.cell? ⟨w.heap.size, 0, none⟩ = some (.string nm) from blk_cell HT.out 0
    have t1 := show wr.cell? ⟨w.heap.size, 1, none⟩ = some (.slice A1 cs.length c1) from blk_cell HT.out 1
    have t2 := show wr.cell? ⟨w.heap.size, 2, none⟩ = some (.slice A2 xs.length c2) from blk_cell HT.out 2
    have t3 := show wr.cell? ⟨w.heap.size, 3, none⟩ = some (.slice A3 ks.length c3) from blk_cell HT.out 3
    obtain ⟨hrl, hoc, hOC⟩ := Kd.R_reads' HO.out
    have hf := c31 nm A1 c1 cs A2 c2 xs A3 c3 ks Ao co o wr (Kd.C_below HR1.out HB.out) HC1.out (Kd.C_below HR2.out HB.out) HC2.out (Kd.C_below HR3.out HB.out) HC3.out hOC (by have := HLN.out; omega)
    rw [HLN.out] at hf
    have HF := Aside0.mk hf
    clear hf hOC hoc hrl
    by_cases h0 : fitsE nm cs xs ks o = 0
    ·have HE3 := Aside0.mk (show updR nm cs xs ks r cols vals = (o, 0) by rw [HE2.out, if_pos h0])
     go_wp2_with (go_at_call 31; refine HF.out.mono ?_; rw [h0]; rintro e w3 ⟨rfl, hb⟩)
     go_ret2
     rw [HE3.out]
     exact ⟨_, rfl, Kd.R_below HO.out hb, below_step HB.out hb⟩
    ·have HE3 := Aside0.mk (show updR nm cs xs ks r cols vals = ([], fitsE nm cs xs ks o) by rw [HE2.out, if_neg h0])
     have h0' : (fitsE nm cs xs ks o != 0) = true := bne_iff_ne.2 h0
     go_wp2_with (go_at_call 31; refine HF.out.mono ?_; rintro e w3 ⟨rfl, hb⟩)
     go_ret2
     rw [HE3.out]
     exact ⟨_, rfl, Kd.R_nil _ _ _ _ _, below_step HB.out hb⟩
   obtain ⟨hk0, hk1⟩ := HN.out i hlt
   obtain ⟨kk, hkk⟩ := Int.eq_ofNat_of_zero_le hk0
   obtain ⟨ad, rfl, hx0⟩ := Kd.at_int HR5.out (i : Int) (by omega) (by omega)
   simp only [Int.toNat_natCast] at hx0
   replace hx0 := keep HB.out hx0
   rw [hkk] at hx0 hk1
   obtain ⟨i0, hi0, _, hsz0, _⟩ := info_parts info3
   have hcut := cut_to (P := Try.prog) 32 3 .i64 Try.underlying32 hi0 (some ad) cols.length c5 (i : Int) (by omega) (by omega) hc5
   obtain ⟨ct, hct⟩ : ∃ ct, ct = cols.take i := ⟨_, rfl⟩
   have hy : i = ct.length := by rw [hct, List.length_take]; omega
   have hcT := Kd.C_take (m := i) HR5.out (by omega)
   rw [← hct] at hcT
   have HCT := Aside0.mk hcT
   have HCI := Aside0.mk (show ct.length ≤ c5 by omega)
   have HY := Aside0.mk hy
   have HCE := Aside0.mk hct
   rw [Int.toNat_natCast] at hcut
   clear hy hct hcT hsz0 hi0
   have hcut' : ∀ W : World, (Instr.slice 32 (.slice (some ad) cols.length c5) none (some (.int .i64 (i : Int))) none).run Try.prog W = .ok (.slice (some ad) ct.length c5) W := by rw [← HY.out]; exact hcut
   clear hcut
   have HX0 := Aside0.mk hx0
   cases hq : ct.contains (kk : Int) with
   | true =>
    have HE2 := Aside0.mk (show updR nm cs xs ks r cols vals = ([], 6) by
     have h1 : updS r cols vals (i + 1) = none := by
      show (updS r cols vals i).bind _ = _
      rw [HS.out]
      show (if (cols.take i).contains (rd cols (i : Int)) = true then _ else _) = _
      rw [hkk, ← HCE.out]
      exact if_pos hq
     have h2 := updS_none h1 (cols.length - (i + 1))
     rw [show i + 1 + (cols.length - (i + 1)) = cols.length by omega] at h2
     rw [HE.out, h2])
    have HQ := Aside0.mk hq
    clear hq hkk
    go_wp2_with (go_at_call 74; refine (c74 (some ad) c5 ct (kk : Int) wr (Kd.C_below HCT.out HB.out) HCI.out).mono ?_; rw [HQ.out]; rintro e w3 ⟨rfl, hd⟩)
    go_ret2
    rw [HE2.out]
    exact ⟨_, rfl, Kd.R_nil _ _ _ _ _, below_step HB.out hd.below⟩
   | false =>
    have HS2 := Aside0.mk (show updS r cols vals (i + 1) = some (o.set kk (rd_T40 vals (i : Int))) by
     show (updS r cols vals i).bind _ = _
     rw [HS.out]
     show (if (cols.take i).contains (rd cols (i : Int)) = true then _ else _) = _
     rw [hkk, ← HCE.out, if_neg (by rw [hq]; decide)]
     rfl)
    have HQ := Aside0.mk hq
    have HKK := Aside0.mk hkk
    clear hq hkk
    obtain ⟨av, rfl, hv0, hv1, hv2⟩ := at_T40 HR6.out (i : Int) (by omega) (by have := HL.out; omega)
    simp only [Int.toNat_natCast] at hv0 hv1 hv2
    replace hv0 := keep HB.out hv0
    replace hv1 := keep HB.out hv1
    replace hv2 := keep HB.out hv2
    obtain ⟨gg, cg, eg, gb, gl, cl, HGh⟩ := Kd.R_form HO.out (by have := HLN.out; omega)
    injection eg with ea en ec
    subst ea
    subst ec
    clear en
    obtain ⟨ce, hcl, hM, hcc, hfr⟩ := Kd.R_elem HO.out z40 (kk : Int) (by omega) hk1
    obtain rfl := k40_openM hM
    have ho0 : wr.cell? ⟨gg, kk * 3, none⟩ = some (.int .i64 (o.getD kk z40).f0) := hcc 0 _ rfl
    have ho1 : wr.cell? ⟨gg, kk * 3 + 1, none⟩ = some (.int .i64 (o.getD kk z40).f1) := hcc 1 _ rfl
    have ho2 : wr.cell? ⟨gg, kk * 3 + 2, none⟩ = some (.string (o.getD kk z40).f2) := hcc 2 _ rfl
    have hz0 : wr.frozen? ⟨gg, kk * 3, none⟩ = false := hfr 0
    have hz1 : wr.frozen? ⟨gg, kk * 3 + 1, none⟩ = false := hfr 1
    have hz2 : wr.frozen? ⟨gg, kk * 3 + 2, none⟩ = false := hfr 2
    have HSeg := Aside0.mk (show ∀ nd, Kd.R k40 40 ((((wr.drewN nd).setCell ⟨gg, kk * 3, none⟩ (.int .i64 (rd_T40 vals (i : Int)).f0)).setCell ⟨gg, kk * 3 + 1, none⟩ (.int .i64 (rd_T40 vals (i : Int)).f1)).setCell ⟨gg, kk * 3 + 2, none⟩ (.string (rd_T40 vals (i : Int)).f2)) w.heap.size (fun _ => True) (.slice (some ⟨gg, 0, none⟩) r.length co) (o.set kk (rd_T40 vals (i : Int))) from fun nd => (Kd.R_seg (Kd.R_drewN HO.out nd) (kk : Int) (by omega) hk1 (seg := [.int .i64 (rd_T40 vals (i : Int)).f0, .int .i64 (rd_T40 vals (i : Int)).f1, .string (rd_T40 vals (i : Int)).f2]) (j := 0) hcl hcc (show 3 ≤ 3 from by decide) (x' := rd_T40 vals (i : Int)) (k40_mkM _ _ _ (rd_T40 vals (i : Int))) (fun _ hk => hk)).1)
    have hiv : i < vals.length := by have := HL.out; omega
    have HGB := Aside0.mk gb
    have HHT := Aside0.mk HT.out
    have HNE := Aside0.mk (show w.heap.size ≠ gg by
     intro he
     have hcells := HGh
     rw [← he, HT.out] at hcells
     injection hcells with hcells
     injection hcells with _ h2 _
     exact absurd h2 (by decide))
    clear hcl hM hcc hfr HGh gl gb
    have hk0' : (0 : Int) ≤ (kk : Int) := by omega
    have hk1' : decide ((kk : Int) < (r.length : Int)) = true := decide_eq_true hk1
    go_wp2_with (go_at_call 74; refine (c74 (some ad) c5 ct (kk : Int) wr (Kd.C_below HCT.out HB.out) HCI.out).mono ?_; rw [HQ.out]; rintro e w3 ⟨rfl, ⟨nd, rfl⟩⟩)
    go_roundw
    case rel => exact ⟨i + 1, _, by omega, by go_num, HS2, ⟨by rw [List.length_set]; exact HLN.out⟩, ⟨HSeg.out nd⟩, ⟨below_set (below_set (below_set (pw_below_drewN HB.out nd) HGB.out) HGB.out) HGB.out⟩, ⟨blk_far (blk_far (blk_far (blk_drewN HT.out nd) HNE.out _) HNE.out _) HNE.out _⟩⟩
    case measure => simp [intOf]; omega
end Go.Proofs.Ytkopbaikmlajmaa.Q
