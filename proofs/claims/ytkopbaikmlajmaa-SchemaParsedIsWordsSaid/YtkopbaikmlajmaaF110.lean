/- trimmed to what these claims' texts use -/
import Derived.Test.YtkopbaikmlajmaaF109
import Derived.Test.YtkopbaikmlajmaaF62
namespace Go.Proofs.Ytkopbaikmlajmaa.Q
open Go.RowKit Go.Proofs.YtkopbaikmlajmaaW.PrintWords Go.Proofs.YtkopbaikmlajmaaW.PrintLast Go.Proofs.YtkopbaikmlajmaaW.PrintMore
set_option linter.unusedVariables false
set_option linter.unusedSimpArgs false
/-- The length of a slice. -/
def sliceLen : Value → Nat
 | .slice _ m _ => m
 | _ => 0
theorem R_kept {α : Type} {d : Kd α} {e : Nat} {W W2 : World} {base : Nat} {v : Value} {xs : List α} {S : Nat → Prop} (h : Kd.R d e W base (fun _ => True) v xs) (hk : Kept W W2 S) (hne : ∀ k, base ≤ k → ¬ S k) : Kd.R d e W2 base (fun _ => True) v xs :=
 Kd.R_mono (Kd.R_step (Kd.R_bound h) (fun k ho hlt => hk.2 k hlt (hne k ho.2.1))) (fun _ _ => trivial)
theorem PS.lowly {rb B : Nat} {w0 w w1 : World} {l : List Int} (h : PS rb w0 w l) (hb : Below B w w1) (hr : rb < B) : PS rb w0 w1 l := by
 obtain ⟨A, c, h1, h2, h3⟩ := h
 exact ⟨A, c, (hb.block rb hr).trans h1, h2, h3⟩
theorem Kept.lowly {w W W2 : World} {S : Nat → Prop} (h : Kept w W S) (hb : Below w.heap.size W W2) : Kept w W2 S := ⟨Nat.le_trans h.1 hb.size, fun i hi hn => (hb.block i hi).trans (h.2 i hi hn)⟩
theorem takeW_drop {lim x : Int} {l m : List Int} {i : Nat} (h : takeW lim (l.drop i) = some (x, m)) : i < l.length ∧ rd l (i : Int) = x ∧ m = l.drop (i + 1) ∧ 0 ≤ x ∧ x < lim := by
 obtain ⟨a, b, c⟩ := takeW_some h
 have hi : i < l.length := by
  refine Decidable.byContradiction fun hn => ?_
  rw [List.drop_eq_nil_of_le (by omega)] at a
  cases a
 rw [List.drop_eq_getElem_cons hi] at a
 refine ⟨hi, ?_, (List.cons.inj a).2.symm, b, c⟩
 unfold rd
 rw [Int.toNat_natCast, List.getD_eq_getElem?_getD, List.getElem?_eq_getElem hi]
 exact (List.cons.inj a).1
theorem takeT_stop {l : List Int} {n i : Nat} (hi : i < (n + 4) / 5) (h : takeW 1099511627776 (l.drop i) = none) : takeT n l = none := by
 unfold takeT
 rw [if_neg]
 intro he
 obtain ⟨h1, h2, _⟩ := unpE_good he
 have hl : i < l.length := by omega
 have hx := h2 l[i] (by rw [List.mem_take_iff_getElem]; exact ⟨i, by omega, rfl⟩)
 rw [List.drop_eq_getElem_cons hl, takeW_cons _ hx.1 (by omega)] at h
 cases h
theorem unpE_of {l : List Int} {n : Nat} (hk : (n + 4) / 5 ≤ l.length) (hw : ∀ j : Nat, j < (n + 4) / 5 → 0 ≤ rd l (j : Int) ∧ rd l (j : Int) < 1099511627776) : unpE l (n : Int) = if ((unpB l n).drop n).any (fun x => x != 0) = true then 3 else 0 := by
 unfold unpE
 rw [Int.toNat_natCast, if_neg (by omega), if_neg]
 rw [List.any_eq_true]
 rintro ⟨x, hx, hq⟩
 obtain ⟨j, hj, e⟩ := List.mem_take_iff_getElem.1 hx
 have := hw j (by omega)
 unfold rd at this
 rw [Int.toNat_natCast, List.getD_eq_getElem?_getD, List.getElem?_eq_getElem (by omega)] at this
 simp only [Option.getD_some] at this
 rw [e] at this
 unfold noWord at hq
 rw [decide_eq_false (by omega), decide_eq_false (by omega)] at hq
 cases hq
theorem any_at {l : List Int} {q : Nat} (hq : q < l.length) (h : rd l (q : Int) ≠ 0) : l.any (fun x => x != 0) = true := by
 rw [List.any_eq_true]
 refine ⟨rd l (q : Int), ?_, bne_iff_ne.2 h⟩
 unfold rd
 rw [Int.toNat_natCast, List.getD_eq_getElem?_getD, List.getElem?_eq_getElem hq]
 exact List.getElem_mem hq
theorem any_none {l : List Int} (h : ∀ q : Nat, q < l.length → rd l (q : Int) = 0) : l.any (fun x => x != 0) = false := by
 rw [List.any_eq_false]
 intro x hx
 obtain ⟨q, hq, rfl⟩ := List.getElem_of_mem hx
 have := h q hq
 unfold rd at this
 rw [Int.toNat_natCast, List.getD_eq_getElem?_getD, List.getElem?_eq_getElem hq] at this
 rw [show l[q] = 0 from this]
 decide
set_option maxHeartbeats 4000000 in
set_option maxRecDepth 100000 in
theorem c110 (rb n : Nat) (l : List Int) (w0 w : World) (hB : Below w0.heap.size w0 w) (hrb : w0.heap.size ≤ rb) (hs : PS rb w0 w l) (hm : l.length ≤ 1000000) (hn : n ≤ 1000000) :
  Calls Try.prog 110 #[.pointer (some ⟨rb, 0, none⟩), .int .i64 (n : Int)] w (PPost rb w0 w ((takeT n l).map fun p => (.string p.1, p.2))) := by
 have HB0 := Aside0.mk hB
 have HE := Aside0.mk hrb
 have HS0 := Aside0.mk hs
 have HM := Aside0.mk hm
 obtain ⟨k, hk⟩ : ∃ k, k = (n + 4) / 5 := ⟨_, rfl⟩
 have HK := Aside0.mk hk
 have hk5 : n ≤ 5 * k := by omega
 have hk6 : k ≤ 200001 := by omega
 have hk7 : 5 * k < n + 5 := by omega
 have hlt := hs.lt
 have HRB := Aside0.mk hlt
 clear hB hrb hs hm hk hlt
 go_enter Try.func110, Try.ntmps110
 go_wp2_with fail
 go_loopw [5] (fun v5 wr => ∃ i : Nat, i ≤ k ∧ Aside0 (i ≤ l.length) ∧ Aside0 (∀ j : Nat, j < i → 0 ≤ rd l (j : Int) ∧ rd l (j : Int) < 1099511627776) ∧ Aside0 ((Kd.int .u8).R 5 wr w.heap.size (fun _ => True) v5 ((l.take i).flatMap bytes5)) ∧ Aside0 (PS rb w0 wr (l.drop i)) ∧ Aside0 (Below w0.heap.size w0 wr) ∧ Aside0 (Kept w wr (fun k => k = rb))) (fun v _ => n - sliceLen v)
 case atStart => exact ⟨0, Nat.zero_le _, ⟨Nat.zero_le _⟩, ⟨fun j hj => by omega⟩, ⟨Kd.R_nil _ _ _ _ _⟩, HS0, HB0, ⟨Kept.refl _ _⟩⟩
 case round =>
  obtain ⟨i, hi, HL, HW, HV, HS, HB, HKP⟩ := hrel
  have hlen : ((l.take i).flatMap bytes5).length = 5 * i := by rw [flat5_length, List.length_take, Nat.min_eq_left HL.out]
  obtain ⟨Ao, co, eo⟩ := Kd.R_slice HV.out
  subst eo
  rw [hlen] at HV ⊢
  by_cases hlt : i < k
  ·have e1 : decide (((5 * i : Nat) : Int) < (n : Int)) = true := decide_eq_true (by omega)
   have e2 : decide (5 * i < n) = true := decide_eq_true (by omega)
   cases hw : takeW 1099511627776 (l.drop i) with
   | none =>
    have HT := Aside0.mk (show takeT n l = none from takeT_stop (by rw [← HK.out]; exact hlt) hw)
    clear hlen
    go_wp2_with (go_at_call 109; refine (c109 rb 1099511627776 (l.drop i) w0 _ HB.out HE.out HS.out).mono ?_; rw [hw]; rintro e w' ⟨he, hb, hkp⟩; unfold badRead at he; subst he)
    rw [HT.out]
    exact ⟨rfl, rfl, hb, HKP.out.then_ hkp (fun _ h => .inl h)⟩
   | some p =>
    obtain ⟨x, m⟩ := p
    obtain ⟨w1, w2, w3, w4, w5⟩ := takeW_drop hw
    have HX := Aside0.mk w2
    have HIL := Aside0.mk w1
    have HX0 := Aside0.mk w4
    have HX1 := Aside0.mk w5
    clear w1 w2 w4 w5
    subst w3
    clear hlen
    go_wp2_with (go_at_call 109; refine (c109 rb 1099511627776 (l.drop i) w0 _ HB.out HE.out HS.out).mono ?_; rw [hw]; rintro e w' ⟨rfl, hs', hb, hkp⟩)
    have HV1 := Aside0.mk (R_kept HV.out hkp (fun k h1 h2 => by have := HRB.out; omega))
    have HB1 := Aside0.mk hb
    have HKP1 := Aside0.mk (HKP.out.then_ hkp (fun _ h => .inl h))
    have HS1 := Aside0.mk (show PS rb w0 w' (l.drop (i + 1)) from hs')
    clear HV HB HKP HS hs' hb hkp hw e1 e2
    go_loopw [5, 7] (fun v5 v7 wq => ∃ m : Nat, m ≤ 5 ∧ v7 = .int .i64 (4 - (m : Int)) ∧ Aside0 ((Kd.int .u8).R 5 wq w.heap.size (fun _ => True) v5 ((l.take i).flatMap bytes5 ++ (List.range m).map (byteAt x))) ∧ Aside0 (PS rb w0 wq (l.drop (i + 1))) ∧ Aside0 (Below w0.heap.size w0 wq) ∧ Aside0 (Kept w wq (fun k => k = rb))) (fun _ v _ => (intOf v + 1).toNat)
    case atStart => exact ⟨0, Nat.zero_le _, rfl, ⟨by rw [List.range_zero, List.map_nil, List.append_nil]; exact HV1.out⟩, HS1, HB1, HKP1⟩
    case round =>
     clear HV1 HS1 HB1 HKP1
     obtain ⟨m, hm5, rfl, HV, HS, HB, HKP⟩ := hrel
     by_cases hlm : m < 5
     ·have HLN := Aside0.mk (show ((l.take i).flatMap bytes5 ++ (List.range m).map (byteAt x)).length + 1 ≤ 140737488355328 by
       rw [List.length_append, flat5_length, List.length_take, List.length_map, List.length_range]; have := HM.out; omega)
      rcases (show m = 0 ∨ m = 1 ∨ m = 2 ∨ m = 3 ∨ m = 4 by omega) with rfl | rfl | rfl | rfl | rfl
      ·rw [show (4 - ((0 : Nat) : Int)) = 4 from rfl]
       go_wp2_with ((with_reducible refine gate_builtin (b := .append) (xs := #[.tmp 20, .tmp 26]) rfl ?_); at_builtin; refine Kd.R_append (Kd.int .u8) (w0 := wr) w.heap.size rfl (.tmp 20) (.tmp 26) 81 5 (.int .u8 0) 1 rfl Try.underlying81 info5 rfl (by decide) (by omega) _ ((l.take i).flatMap bytes5 ++ (List.range 0).map (byteAt x)) (byteAt x 0) [.int .u8 (byteAt x 0)] (fun _ => True) (fun _ => False) rfl rfl ?aP (fun _ hk => hk.elim) ?aF ?aO ?aB ?aS ?aL ?_; (case aP => exact rfl); (case aB => exact Below.refl _ _); (case aF => exact (fun _ _ => trivial)); (case aO => exact HV.out); (case aS => exact HKP.out.1); (case aL => have := HLN.out; omega); intro v320 w23 ho hb hg hat; have HV2 := Aside0.mk ho; have HB2 := Aside0.mk hb; clear HV ho hb hg hat)
       go_roundw
       case rel =>
        refine ⟨1, by omega, by go_num, ⟨?_⟩, ⟨HS.out.lowly HB2.out HRB.out⟩, ⟨HB.out.trans (HB2.out.mono (by have := HB0.out.size; omega))⟩, ⟨Kept.lowly HKP.out HB2.out⟩⟩
        rw [List.range_succ, List.map_append, ← List.append_assoc]
        exact HV2.out
       case measure => simp [intOf]
      ·rw [show (4 - ((1 : Nat) : Int)) = 3 from rfl]
       go_wp2_with ((with_reducible refine gate_builtin (b := .append) (xs := #[.tmp 20, .tmp 26]) rfl ?_); at_builtin; refine Kd.R_append (Kd.int .u8) (w0 := wr) w.heap.size rfl (.tmp 20) (.tmp 26) 81 5 (.int .u8 0) 1 rfl Try.underlying81 info5 rfl (by decide) (by omega) _ ((l.take i).flatMap bytes5 ++ (List.range 1).map (byteAt x)) (byteAt x 1) [.int .u8 (byteAt x 1)] (fun _ => True) (fun _ => False) rfl rfl ?aP (fun _ hk => hk.elim) ?aF ?aO ?aB ?aS ?aL ?_; (case aP => exact rfl); (case aB => exact Below.refl _ _); (case aF => exact (fun _ _ => trivial)); (case aO => exact HV.out); (case aS => exact HKP.out.1); (case aL => have := HLN.out; omega); intro v320 w23 ho hb hg hat; have HV2 := Aside0.mk ho; have HB2 := Aside0.mk hb; clear HV ho hb hg hat)
       go_roundw
       case rel =>
        refine ⟨2, by omega, by go_num, ⟨?_⟩, ⟨HS.out.lowly HB2.out HRB.out⟩, ⟨HB.out.trans (HB2.out.mono (by have := HB0.out.size; omega))⟩, ⟨Kept.lowly HKP.out HB2.out⟩⟩
        rw [List.range_succ, List.map_append, ← List.append_assoc]
        exact HV2.out
       case measure => simp [intOf]
      ·rw [show (4 - ((2 : Nat) : Int)) = 2 from rfl]
       go_wp2_with ((with_reducible refine gate_builtin (b := .append) (xs := #[.tmp 20, .tmp 26]) rfl ?_); at_builtin; refine Kd.R_append (Kd.int .u8) (w0 := wr) w.heap.size rfl (.tmp 20) (.tmp 26) 81 5 (.int .u8 0) 1 rfl Try.underlying81 info5 rfl (by decide) (by omega) _ ((l.take i).flatMap bytes5 ++ (List.range 2).map (byteAt x)) (byteAt x 2) [.int .u8 (byteAt x 2)] (fun _ => True) (fun _ => False) rfl rfl ?aP (fun _ hk => hk.elim) ?aF ?aO ?aB ?aS ?aL ?_; (case aP => exact rfl); (case aB => exact Below.refl _ _); (case aF => exact (fun _ _ => trivial)); (case aO => exact HV.out); (case aS => exact HKP.out.1); (case aL => have := HLN.out; omega); intro v320 w23 ho hb hg hat; have HV2 := Aside0.mk ho; have HB2 := Aside0.mk hb; clear HV ho hb hg hat)
       go_roundw
       case rel =>
        refine ⟨3, by omega, by go_num, ⟨?_⟩, ⟨HS.out.lowly HB2.out HRB.out⟩, ⟨HB.out.trans (HB2.out.mono (by have := HB0.out.size; omega))⟩, ⟨Kept.lowly HKP.out HB2.out⟩⟩
        rw [List.range_succ, List.map_append, ← List.append_assoc]
        exact HV2.out
       case measure => simp [intOf]
      ·rw [show (4 - ((3 : Nat) : Int)) = 1 from rfl]
       go_wp2_with ((with_reducible refine gate_builtin (b := .append) (xs := #[.tmp 20, .tmp 26]) rfl ?_); at_builtin; refine Kd.R_append (Kd.int .u8) (w0 := wr) w.heap.size rfl (.tmp 20) (.tmp 26) 81 5 (.int .u8 0) 1 rfl Try.underlying81 info5 rfl (by decide) (by omega) _ ((l.take i).flatMap bytes5 ++ (List.range 3).map (byteAt x)) (byteAt x 3) [.int .u8 (byteAt x 3)] (fun _ => True) (fun _ => False) rfl rfl ?aP (fun _ hk => hk.elim) ?aF ?aO ?aB ?aS ?aL ?_; (case aP => exact rfl); (case aB => exact Below.refl _ _); (case aF => exact (fun _ _ => trivial)); (case aO => exact HV.out); (case aS => exact HKP.out.1); (case aL => have := HLN.out; omega); intro v320 w23 ho hb hg hat; have HV2 := Aside0.mk ho; have HB2 := Aside0.mk hb; clear HV ho hb hg hat)
       go_roundw
       case rel =>
        refine ⟨4, by omega, by go_num, ⟨?_⟩, ⟨HS.out.lowly HB2.out HRB.out⟩, ⟨HB.out.trans (HB2.out.mono (by have := HB0.out.size; omega))⟩, ⟨Kept.lowly HKP.out HB2.out⟩⟩
        rw [List.range_succ, List.map_append, ← List.append_assoc]
        exact HV2.out
       case measure => simp [intOf]
      ·rw [show (4 - ((4 : Nat) : Int)) = 0 from rfl]
       go_wp2_with ((with_reducible refine gate_builtin (b := .append) (xs := #[.tmp 20, .tmp 26]) rfl ?_); at_builtin; refine Kd.R_append (Kd.int .u8) (w0 := wr) w.heap.size rfl (.tmp 20) (.tmp 26) 81 5 (.int .u8 0) 1 rfl Try.underlying81 info5 rfl (by decide) (by omega) _ ((l.take i).flatMap bytes5 ++ (List.range 4).map (byteAt x)) (x % 256) [.int .u8 (x % 256)] (fun _ => True) (fun _ => False) rfl rfl ?aP (fun _ hk => hk.elim) ?aF ?aO ?aB ?aS ?aL ?_; (case aP => exact rfl); (case aB => exact Below.refl _ _); (case aF => exact (fun _ _ => trivial)); (case aO => exact HV.out); (case aS => exact HKP.out.1); (case aL => have := HLN.out; omega); intro v320 w23 ho hb hg hat; have HV2 := Aside0.mk ho; have HB2 := Aside0.mk hb; clear HV ho hb hg hat)
       go_roundw
       case rel =>
        refine ⟨5, by omega, by go_num, ⟨?_⟩, ⟨HS.out.lowly HB2.out HRB.out⟩, ⟨HB.out.trans (HB2.out.mono (by have := HB0.out.size; omega))⟩, ⟨Kept.lowly HKP.out HB2.out⟩⟩
        rw [List.range_succ, List.map_append, ← List.append_assoc, List.map_singleton, show byteAt x 4 = x % 256 by unfold byteAt; simp]
        exact HV2.out
       case measure => simp [intOf]
     ·obtain rfl : m = 5 := by omega
      rw [show (4 - ((5 : Nat) : Int)) = -1 from rfl]
      obtain ⟨A5, c5, e5⟩ := Kd.R_slice HV.out
      have HL5 := Aside0.mk (show ((l.take i).flatMap bytes5 ++ (List.range 5).map (byteAt x)).length = 5 * i + 5 by rw [List.length_append, flat5_length, List.length_take, List.length_map, List.length_range]; have := HIL.out; omega)
      rw [HL5.out] at e5
      subst e5
      go_wp2_with fail
      go_roundw
      case rel =>
       refine ⟨i + 1, by omega, ⟨by have := HIL.out; omega⟩, ⟨fun j hj => ?_⟩, ⟨?_⟩, HS, HB, HKP⟩
       ·rcases Nat.lt_succ_iff_lt_or_eq.1 hj with h | rfl
        ·exact HW.out j h
        ·rw [HX.out]; exact ⟨HX0.out, HX1.out⟩
       ·rw [flat5_take l i HIL.out, HX.out]
        exact HV.out
      case measure => simp [sliceLen]; omega
  ·obtain rfl : i = k := by omega
   have HU := Aside0.mk (unpE_of (l := l) (n := n) (by rw [← HK.out]; exact HL.out) (by rw [← HK.out]; exact HW.out))
   have HUB := Aside0.mk (show unpB l n = (l.take i).flatMap bytes5 by unfold unpB; rw [← HK.out])
   have hV := HV.out
   rw [← hlen, ← HUB.out] at hV
   rw [← HUB.out] at hlen
   obtain ⟨i0, hi0, _, hsz0, _⟩ := info_parts info5
   have hRd := Kd.R_reads' hV
   have hcut := cut_from (P := Try.prog) 81 5 .i64 Try.underlying81 hi0 1 hsz0 Ao (unpB l n).length co (n : Int) (by omega) (by omega)
   have hcut2 := cut_to (P := Try.prog) 81 5 .i64 Try.underlying81 hi0 Ao (unpB l n).length co (n : Int) (by omega) (by omega) hRd.2.1
   have hr := Kd.C_drop (m := n) (c := co) hRd.2.2 (by omega) hRd.2.1
   rw [Int.toNat_natCast] at hcut hcut2
   obtain ⟨A1, hA1⟩ : ∃ A1, A1 = (if co = n then Ao else (Ao : Option Addr).map (·.add (n * 1))) := ⟨_, rfl⟩
   obtain ⟨c1, hc1⟩ : ∃ c1, c1 = co - n := ⟨_, rfl⟩
   obtain ⟨bd, hbd⟩ : ∃ bd, bd = (unpB l n).drop n := ⟨_, rfl⟩
   have hy : (unpB l n).length - n = bd.length := by rw [hbd]; exact List.length_drop.symm
   rw [hy, ← hA1, ← hc1] at hcut
   have hr' : (Kd.int .u8).C wr A1 bd.length bd := by rw [hA1, hbd]; exact hr
   have hlc : bd.length ≤ c1 := by rw [hc1, ← hy]; have := hRd.2.1; omega
   have hr2 := Kd.C_take (m := n) hRd.2.2 (by omega)
   have hl2 : ((unpB l n).take n).length = n := by rw [List.length_take]; omega
   rw [hl2] at hr2
   have HRT := Aside0.mk hr2
   have HRD := Aside0.mk hr'
   have HLC := Aside0.mk hlc
   have hbm : bd.length ≤ 10000000 := by rw [← hy]; omega
   replace HU := Aside0.mk (show unpE l (n : Int) = if bd.any (fun x => x != 0) = true then 3 else 0 by rw [hbd]; exact HU.out)
   have HKL := Aside0.mk (show (n + 4) / 5 = i from HK.out.symm)
   rw [hlen] at hcut hcut2
   clear hr hr' hlc hr2 hl2 hy hA1 hc1 hbd hRd hV HV hsz0 hi0 hlen HW HL HK
   go_wp2_with fail
   clear hcut
   go_loop [32] (fun v32 => ∃ q : Nat, q ≤ bd.length ∧ v32 = .int .i64 q ∧ Aside0 (∀ j : Nat, j < q → rd bd (j : Int) = 0)) (fun v => bd.length - (intOf v).toNat)
   case atStart => exact ⟨0, Nat.zero_le _, rfl, ⟨fun j hj => by omega⟩⟩
   case round =>
    obtain ⟨q, hq, rfl, HZ⟩ := hrel
    by_cases hqt : q < bd.length
    ·obtain ⟨ab, rfl, hb0⟩ := Kd.at_int HRD.out (q : Int) (by omega) (by omega)
     simp only [Int.toNat_natCast] at hb0
     by_cases hz : rd bd (q : Int) = 0
     ·rw [hz] at hb0
      have HZ2 := Aside0.mk hz
      clear hz
      go_wp2_with fail
      go_round
      case rel =>
       refine ⟨q + 1, by omega, by go_num, ⟨fun j hj => ?_⟩⟩
       rcases Nat.lt_succ_iff_lt_or_eq.1 hj with h | rfl
       ·exact HZ.out j h
       ·exact HZ2.out
      case measure => simp [intOf]; omega
     ·have HT := Aside0.mk (show takeT n l = none by
       unfold takeT
       rw [HU.out, if_pos (any_at hqt hz), if_neg (by decide)])
      have ez : (rd bd (q : Int) != 0) = true := bne_iff_ne.2 hz
      clear hz
      go_wp2_with (go_at_call 111; refine (c111 _).mono ?_; rintro e w' ⟨he, rfl⟩; unfold badRead at he; subst he)
      rw [HT.out]
      exact ⟨rfl, rfl, HB.out, HKP.out⟩
    ·obtain rfl : q = bd.length := by omega
     have he0 : unpE l (n : Int) = 0 := by rw [HU.out, if_neg (by rw [any_none HZ.out]; decide)]
     have HT := Aside0.mk (show takeT n l = some (strOfNums ((unpB l n).take n), l.drop i) by
      unfold takeT
      rw [if_pos he0, HKL.out]
      unfold unpS
      rw [if_pos he0, Int.toNat_natCast])
     have hcv := Kd.C_string (P := Try.prog) (A := Ao) (c := co) Try.underlying81 Try.underlying5 Try.underlying9 HRT.out
     clear he0 hq
     go_wp2_with fail
     go_ret
     rw [HT.out]
     exact ⟨rfl, HS.out, HB.out, HKP.out⟩
end Go.Proofs.Ytkopbaikmlajmaa.Q
