import Derived.Test.YtkopbaikmlajmaaZ
import Derived.Test.YtkopbaikmlajmaaHA
import Derived.Test.YtkopbaikmlajmaaF118
import Derived.Test.YtkopbaikmlajmaaFA
import Derived.Test.YtkopbaikmlajmaaWY
namespace Go.Proofs.Ytkopbaikmlajmaa.Q
open Go.RowKit Go.Proofs.YtkopbaikmlajmaaW.PrintWords Go.Proofs.YtkopbaikmlajmaaW.PrintLast Go.Proofs.YtkopbaikmlajmaaW.PrintMore
set_option linter.unusedVariables false
set_option linter.unusedSimpArgs false
theorem Z130 {P : Prop} (h : P := by unfold unpS; rw [HE.out]; rfl) : P := h
def byteAt (w : Int) (i : Nat) : Int := w / 2 ^ (8 * (4 - i)) % 256
def bytes5 (w : Int) : List Int := (List.range 5).map (byteAt w)
def noWord (w : Int) : Bool := decide (w < 0) || decide (1099511627775 < w)
def unpB (l : List Int) (n : Nat) : List Int := (l.take ((n + 4) / 5)).flatMap bytes5
def unpE (l : List Int) (n : Int) : Int := if n < 0 ∨ l.length < (n.toNat + 4) / 5 then 3 else if (l.take ((n.toNat + 4) / 5)).any noWord = true then 3 else if ((unpB l n.toNat).drop n.toNat).any (fun x => x != 0) = true then 3 else 0
def unpS (l : List Int) (n : Int) : ByteArray := if unpE l n = 0 then strOfNums ((unpB l n.toNat).take n.toNat) else ⟨#[]⟩
theorem long_eq (n : Int) (h0 : 0 ≤ n) (h1 : n ≤ 9000000000000000000) : row_long.f n = some ((n + 4) / 5) := by
 unfold row_long.f
 rw [show wrap64 (n + 5) = n + 5 by unfold wrap64; omega, show wrap64 (n + 5 - 1) = n + 4 by unfold wrap64; omega, Int.tdiv_eq_ediv_of_nonneg (by omega), show wrap64 ((n + 4) / 5) = (n + 4) / 5 by unfold wrap64; omega]
theorem c117 (n : Int) (w : World) (h0 : 0 ≤ n) (h1 : n ≤ 9000000000000000000) : Calls Try.prog 117 #[.int .i64 n] w fun e w' => e = .returned (.int .i64 ((n + 4) / 5)) ∧ Drawn0 w w' := row_long.calls n _ w (long_eq n h0 h1)
theorem bytes5_length (w : Int) : (bytes5 w).length = 5 := rfl
theorem flat5_length : ∀ (l : List Int), (l.flatMap bytes5).length = 5 * l.length
 | [] => rfl
 | w :: l => by rw [List.flatMap_cons, List.length_append, flat5_length l, bytes5_length, List.length_cons]; omega
set_option maxHeartbeats 2000000 in
set_option maxRecDepth 100000 in
theorem c62_neg (A : Option Addr) (c : Nat) (l : List Int) (n : Int) (w : World) (hn : n < 0) : Calls Try.prog 62 #[.slice A l.length c, .int .i64 n] w fun e w' => e = .returned (.tuple #[.string (unpS l n), .int .i64 (unpE l n)]) ∧ Below w.heap.size w w' := by
 have HE := Aside0.mk (show unpE l n = 3 by unfold unpE; rw [if_pos (Or.inl hn)])
 have h1 : decide (n < 0) = true := decide_eq_true hn
 clear hn
 go_enter Try.func62, Try.ntmps62
 go_wp2_with fail
 go_ret2
 exact ⟨Z130, Below.refl _ _⟩
set_option maxHeartbeats 2000000 in
set_option maxRecDepth 100000 in
theorem c62_long (A : Option Addr) (c : Nat) (l : List Int) (n : Nat) (w : World) (hm : l.length ≤ 1000000000) (hn : (n : Int) ≤ 9223372036854775807) (hl : l.length < (n + 4) / 5) : Calls Try.prog 62 #[.slice A l.length c, .int .i64 n] w fun e w' => e = .returned (.tuple #[.string (unpS l n), .int .i64 (unpE l n)]) ∧ Below w.heap.size w w' := by
 have HE := Aside0.mk (show unpE l n = 3 by unfold unpE; rw [Int.toNat_natCast, if_pos (Or.inr hl)])
 have h1 : decide ((n : Int) < 0) = false := decide_eq_false (by omega)
 by_cases h5 : l.length < n / 5
 ·have h2 : decide ((l.length : Int) < (n : Int) / 5) = true := decide_eq_true (by omega)
  clear hl h5
  go_enter Try.func62, Try.ntmps62
  go_wp2_with fail
  go_ret2
  exact ⟨Z130, Below.refl _ _⟩
 have h2 : decide ((l.length : Int) < (n : Int) / 5) = false := decide_eq_false (by omega)
 have h3 : decide ((l.length : Int) < ((n : Int) + 4) / 5) = true := decide_eq_true (by omega)
 have hb : (n : Int) ≤ 9000000000000000000 := by omega
 clear hl h5
 go_enter Try.func62, Try.ntmps62
 go_wp2_with (go_at_call 117; refine (c117 n _ (by omega) hb).mono ?_; rintro e w' ⟨rfl, ⟨nd, rfl⟩⟩)
 go_ret2
 exact ⟨Z130, pw_below_drewN (Below.refl _ _) _⟩
theorem flat5_take (l : List Int) (k : Nat) (hk : k < l.length) : (l.take (k + 1)).flatMap bytes5 = (l.take k).flatMap bytes5 ++ bytes5 (rd l (k : Int)) := by
 rw [List.take_add_one, List.flatMap_append, List.getElem?_eq_getElem hk]
 simp [rd, List.getD_eq_getElem?_getD, hk]
set_option maxHeartbeats 4000000 in
set_option maxRecDepth 100000 in
theorem c62_nat (A : Option Addr) (c : Nat) (l : List Int) (n k : Nat) (w : World) (hC : (Kd.int .i64).C w A l.length l) (hc : l.length ≤ c) (hm : l.length ≤ 1000000000) (hk : k = (n + 4) / 5) (hl : k ≤ l.length) : Calls Try.prog 62 #[.slice A l.length c, .int .i64 n] w fun e w' => e = .returned (.tuple #[.string (unpS l n), .int .i64 (unpE l n)]) ∧ Below w.heap.size w w' := by
 have HE3 := Aside0.mk (show (∃ j, j < k ∧ noWord (rd l (j : Int)) = true) → unpE l n = 3 by
  rintro ⟨j, hj, hw⟩
  unfold unpE
  rw [Int.toNat_natCast, if_neg (by omega), if_pos]
  rw [List.any_eq_true]
  refine ⟨rd l (j : Int), ?_, hw⟩
  rw [List.mem_take_iff_getElem]
  exact ⟨j, by omega, by unfold rd; rw [Int.toNat_natCast, List.getD_eq_getElem?_getD, List.getElem?_eq_getElem (by omega)]; rfl⟩)
 have HOK := Aside0.mk (show (∀ j, j < k → noWord (rd l (j : Int)) = false) → unpE l n = if ((unpB l n).drop n).any (fun x => x != 0) = true then 3 else 0 by
  intro h
  unfold unpE
  rw [Int.toNat_natCast, if_neg (by omega), if_neg]
  rw [List.any_eq_true]
  rintro ⟨x, hx, hw⟩
  obtain ⟨j, hj, e⟩ := List.mem_take_iff_getElem.1 hx
  have := h j (by omega)
  unfold rd at this
  rw [Int.toNat_natCast, List.getD_eq_getElem?_getD, List.getElem?_eq_getElem (by omega)] at this
  simp only [Option.getD_some] at this
  rw [e, hw] at this
  cases this)
 have h1 : decide ((n : Int) < 0) = false := decide_eq_false (by omega)
 have h2 : decide ((l.length : Int) < (n : Int) / 5) = false := decide_eq_false (by omega)
 have h3 : decide ((l.length : Int) < (k : Int)) = false := decide_eq_false (by omega)
 have h4 : decide (l.length < k) = false := decide_eq_false (by omega)
 have hkz : ((n : Int) + 4) / 5 = (k : Int) := by omega
 have hnk : n ≤ 5 * k := by omega
 have HB0 := Aside0.mk (show unpB l n = (l.take k).flatMap bytes5 by unfold unpB; rw [hk])
 have HKZ := Aside0.mk hkz
 have HR := Aside0.mk hC
 have HC := Aside0.mk hc
 have HL := Aside0.mk hl
 have hkc : k ≤ c := Nat.le_trans hl hc
 have hn9 : (n : Int) ≤ 9000000000000000000 := by omega
 clear hkz hC hc hk
 go_enter Try.func62, Try.ntmps62
 go_wp2_with (go_at_call 117; refine (c117 n _ (by omega) hn9).mono ?_; rw [HKZ.out]; rintro e w' ⟨rfl, ⟨nd, rfl⟩⟩)
 go_loopw [6, 31] (fun v6 v31 wr => ∃ i : Nat, i ≤ k ∧ v31 = .int .i64 i ∧ Aside0 (∀ j, j < i → noWord (rd l (j : Int)) = false) ∧ Aside0 ((Kd.int .u8).R 5 wr w.heap.size (fun _ => True) v6 ((l.take i).flatMap bytes5)) ∧ Aside0 (Below w.heap.size w wr)) (fun _ v _ => k - (intOf v).toNat)
 case atStart => exact ⟨0, Nat.zero_le _, rfl, ⟨fun j hj => by omega⟩, ⟨Kd.R_nil _ _ _ _ _⟩, ⟨pw_below_drewN (Below.refl _ _) _⟩⟩
 case round =>
  obtain ⟨i, hi, rfl, HA, HV, HB⟩ := hrel
  by_cases hlt : i < k
  ·obtain ⟨ad, rfl, hx0⟩ := Kd.at_int HR.out (i : Int) (by omega) (by omega)
   simp only [Int.toNat_natCast] at hx0
   replace hx0 := keep HB.out hx0
   by_cases g1 : rd l (i : Int) < 0
   ·have HE := Aside0.mk (HE3.out ⟨i, hlt, by unfold noWord; rw [decide_eq_true g1]; rfl⟩)
    have e1 : decide (rd l (i : Int) < 0) = true := decide_eq_true g1
    clear g1
    go_wp2_with fail
    go_ret2
    exact ⟨Z130, HB.out⟩
   have e1 : decide (rd l (i : Int) < 0) = false := decide_eq_false g1
   by_cases g2 : 1099511627775 < rd l (i : Int)
   ·have HE := Aside0.mk (HE3.out ⟨i, hlt, by unfold noWord; rw [decide_eq_true g2]; simp⟩)
    have e2 : decide (1099511627775 < rd l (i : Int)) = true := decide_eq_true g2
    clear g1 g2
    go_wp2_with fail
    go_ret2
    exact ⟨Z130, HB.out⟩
   have e2 : decide (1099511627775 < rd l (i : Int)) = false := decide_eq_false g2
   have HN := Aside0.mk (show noWord (rd l (i : Int)) = false by unfold noWord; rw [e1, e2]; rfl)
   clear g1 g2
   go_wp2_with fail
   clear e1 e2 hx0
   go_loopw [6, 41] (fun v6 v41 wq => ∃ m : Nat, m ≤ 5 ∧ v41 = .int .i64 m ∧ Aside0 ((Kd.int .u8).R 5 wq w.heap.size (fun _ => True) v6 ((l.take i).flatMap bytes5 ++ (List.range m).map (byteAt (rd l (i : Int))))) ∧ Aside0 (Below w.heap.size w wq)) (fun _ v _ => 5 - (intOf v).toNat)
   case atStart => exact ⟨0, Nat.zero_le _, rfl, ⟨by rw [List.range_zero, List.map_nil, List.append_nil]; exact HV.out⟩, ⟨HB.out⟩⟩
   case round =>
    clear HV HB
    obtain ⟨m, hm5, rfl, HV, HB⟩ := hrel
    by_cases hlm : m < 5
    ·have HLN := Aside0.mk (show ((l.take i).flatMap bytes5 ++ (List.range m).map (byteAt (rd l (i : Int)))).length + 1 ≤ 140737488355328 by
      rw [List.length_append, flat5_length, List.length_take, List.length_map, List.length_range]; omega)
     go_wp2_with ((with_reducible refine gate_builtin (b := .append) (xs := #[.tmp 44, .tmp 51]) rfl ?_); at_builtin; refine Kd.R_append (Kd.int .u8) (w0 := w) w.heap.size rfl (.tmp 44) (.tmp 51) 81 5 (.int .u8 0) 1 rfl Try.underlying81 info5 rfl (by decide) (by omega) _ ((l.take i).flatMap bytes5 ++ (List.range m).map (byteAt (rd l (i : Int)))) (byteAt (rd l (i : Int)) m) [.int .u8 (byteAt (rd l (i : Int)) m)] (fun _ => True) (fun _ => False) rfl rfl ?aP (fun _ hk => hk.elim) ?aF ?aO ?aB ?aS ?aL ?_; (case aP => exact rfl); (case aB => exact HB.out); (case aF => exact (fun _ _ => trivial)); (case aO => exact HV.out); (case aS => exact HB.out.size); (case aL => have := HLN.out; omega); intro v320 w23 ho hb hg hat; have HV2 := Aside0.mk ho; have HB2 := Aside0.mk hb; clear HV HB ho hb hg hat)
     go_roundw
     case rel =>
      refine ⟨m + 1, by omega, by go_num, ⟨?_⟩, ⟨HB2.out⟩⟩
      rw [List.range_succ, List.map_append, ← List.append_assoc]
      exact HV2.out
     case measure => simp [intOf]; omega
    obtain rfl : m = 5 := by omega
    go_wp2_with fail
    go_roundw
    case rel =>
     refine ⟨i + 1, by omega, by go_num, ⟨fun j hj => (Nat.lt_succ_iff_lt_or_eq.1 hj).elim (HA.out j) (fun e => e ▸ HN.out)⟩, ⟨?_⟩, ⟨HB.out⟩⟩
     rw [flat5_take l i (by have := HL.out; omega)]
     exact HV.out
    case measure => simp [intOf]; omega
  obtain rfl : i = k := by omega
  have HE := Aside0.mk (HOK.out HA.out)
  have hV := HV.out
  rw [← HB0.out] at hV
  have HLB := Aside0.mk (show n ≤ (unpB l n).length by rw [HB0.out, flat5_length, List.length_take, Nat.min_eq_left HL.out]; exact hnk)
  obtain ⟨Ao, co, eo⟩ := Kd.R_slice hV
  subst eo
  have hRd := Kd.R_reads' hV
  obtain ⟨i0, hi0, _, hsz0, _⟩ := info_parts info5
  have hcut := cut_from (P := Try.prog) 81 5 .i64 Try.underlying81 hi0 1 hsz0 Ao (unpB l n).length co (n : Int) (by omega) (by have := HLB.out; omega)
  have hcut2 := cut_to (P := Try.prog) 81 5 .i64 Try.underlying81 hi0 Ao (unpB l n).length co (n : Int) (by omega) (by have := HLB.out; omega) hRd.2.1
  have hr := Kd.C_drop (m := n) (c := co) hRd.2.2 HLB.out hRd.2.1
  rw [Int.toNat_natCast] at hcut hcut2
  obtain ⟨A1, hA1⟩ : ∃ A1, A1 = (if co = n then Ao else (Ao : Option Addr).map (·.add (n * 1))) := ⟨_, rfl⟩
  obtain ⟨c1, hc1⟩ : ∃ c1, c1 = co - n := ⟨_, rfl⟩
  obtain ⟨bd, hbd⟩ : ∃ bd, bd = (unpB l n).drop n := ⟨_, rfl⟩
  have hy : (unpB l n).length - n = bd.length := by rw [hbd]; exact List.length_drop.symm
  rw [hy, ← hA1, ← hc1] at hcut
  have hr' : (Kd.int .u8).C wr A1 bd.length bd := by rw [hA1, hbd]; exact hr
  have hlc : bd.length ≤ c1 := by rw [hc1, ← hy]; have := hRd.2.1; omega
  have hr2 := Kd.C_take (m := n) hRd.2.2 HLB.out
  have hl2 : ((unpB l n).take n).length = n := by rw [List.length_take]; have := HLB.out; omega
  rw [hl2] at hr2
  have HRT := Aside0.mk hr2
  have HRD := Aside0.mk hr'
  have HLC := Aside0.mk hlc
  replace HE := Aside0.mk (show unpE l n = if bd.any (fun x => x != 0) = true then 3 else 0 by rw [hbd]; exact HE.out)
  have HBW := HB
  clear hr hr' hlc hr2 hl2 hy hA1 hc1 hbd hRd hV HV HB hsz0 hi0 HA
  cases hz : bd.any (fun x => x != 0) with
  | true =>
   have HE3' := Aside0.mk (show unpE l n = 3 by rw [HE.out, if_pos hz])
   have HZ := Aside0.mk hz
   clear hz
   go_wp2_with (go_at_call 118; refine (slices_ContainsFunc_byte.calls A1 c1 bd () true _ HRD.out HLC.out (by unfold slices_ContainsFunc_byte.f; rw [HZ.out])).mono ?_; rintro e w' ⟨rfl, ⟨nd2, rfl⟩⟩)
   go_ret2
   exact ⟨by unfold unpS; rw [HE3'.out]; rfl, pw_below_drewN HBW.out _⟩
  | false =>
   have HE0 := Aside0.mk (show unpE l n = 0 by rw [HE.out, if_neg (by rw [hz]; simp)])
   have HZ := Aside0.mk hz
   clear hz
   go_wp2_with (go_at_call 118; refine (slices_ContainsFunc_byte.calls A1 c1 bd () false _ HRD.out HLC.out (by unfold slices_ContainsFunc_byte.f; rw [HZ.out])).mono ?_; rintro e w' ⟨rfl, ⟨nd2, rfl⟩⟩; have hcv := Kd.C_string (P := Try.prog) (A := Ao) (c := co) Try.underlying81 Try.underlying5 Try.underlying9 (Kd.C_drewN HRT.out nd2))
   go_ret2
   exact ⟨by unfold unpS; rw [HE0.out, if_pos rfl, Int.toNat_natCast]; rfl, pw_below_drewN HBW.out _⟩
theorem c62 (A : Option Addr) (c : Nat) (l : List Int) (n : Int) (w : World) (hC : (Kd.int .i64).C w A l.length l) (hc : l.length ≤ c) (hm : l.length ≤ 1000000000) (hn : n ≤ 9223372036854775807) : Calls Try.prog 62 #[.slice A l.length c, .int .i64 n] w fun e w' => e = .returned (.tuple #[.string (unpS l n), .int .i64 (unpE l n)]) ∧ Below w.heap.size w w' := by
 by_cases h0 : n < 0
 ·exact c62_neg A c l n w h0
 obtain ⟨m, rfl⟩ := Int.eq_ofNat_of_zero_le (show 0 ≤ n by omega)
 by_cases h1 : l.length < (m + 4) / 5
 ·exact c62_long A c l m w hm hn h1
 exact c62_nat A c l m _ w hC hc hm rfl (by omega)
end Go.Proofs.Ytkopbaikmlajmaa.Q
