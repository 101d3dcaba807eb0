/- trimmed to what these claims' texts use -/
import Derived.Test.YtkopbaikmlajmaaM
import Derived.Test.YtkopbaikmlajmaaG114
import Derived.Test.YtkopbaikmlajmaaG63
import Derived.Test.YtkopbaikmlajmaaL21
import Derived.Test.YtkopbaikmlajmaaAP
namespace Go.Proofs.Ytkopbaikmlajmaa.Q
open Go.RowKit Go.Proofs.YtkopbaikmlajmaaW.PrintWords Go.Proofs.YtkopbaikmlajmaaW.PrintLast Go.Proofs.YtkopbaikmlajmaaW.PrintMore
set_option linter.unusedVariables false
set_option linter.unusedSimpArgs false
theorem c61 (s : ByteArray) (w : World) (hs : s.size ≤ 1000000) :
  Calls Try.prog 61 #[.string s] w fun e w' => ∃ A c, e = .returned (.slice A (textW s).length c) ∧ (textW s).length ≤ c ∧ (Kd.int .i64).C w' A (textW s).length (textW s) ∧ Below w.heap.size w w' := by
 obtain ⟨k, h⟩ := (Pack_eq s hs).get
 refine (row_Pack.calls k s _ w h).mono ?_
 rintro e w' ⟨v, rfl, hR, hb⟩
 obtain ⟨A, c, rfl, hl, hC⟩ := Kd.R_reads hR
 exact ⟨A, c, rfl, hl, hC, hb⟩
theorem c64 (s : ByteArray) (w : World) (hs : s.size ≤ 1000000) :
  Calls Try.prog 64 #[.string s] w fun e w' => ∃ A c, e = .returned (.slice A (textW s).length c) ∧ (textW s).length ≤ c ∧ (Kd.int .i64).C w' A (textW s).length (textW s) ∧ Below w.heap.size w w' := by
 obtain ⟨k, h⟩ := (refPack_eq s hs).get
 refine (alumref21_Pack.calls k s _ w h).mono ?_
 rintro e w' ⟨v, rfl, hR, hb⟩
 obtain ⟨A, c, rfl, hl, hC⟩ := Kd.R_reads hR
 exact ⟨A, c, rfl, hl, hC, hb⟩
theorem c63 (A : Option Addr) (c : Nat) (l : List Int) (n : Int) (w : World) (hC : (Kd.int .i64).C w A l.length l) (hc : l.length ≤ c) (hm : l.length ≤ 1000000000) (hn : n ≤ 9223372036854775807) :
  Calls Try.prog 63 #[.slice A l.length c, .int .i64 n] w fun e w' => e = .returned (.tuple #[.string (unpS l n), .int .i64 (unpE l n)]) ∧ Below w.heap.size w w' := by
 obtain ⟨k, h⟩ := (refUnp_eq l n hm hn).get
 exact alumref21_Unpack.calls k A c l n _ _ w hC hc h
set_option maxHeartbeats 4000000 in
set_option maxRecDepth 100000 in
theorem w18 (s : ByteArray) (A6 : Option Addr) (c6 : Nat) (l : List Int) (n : Int) (w : World) (hsz : s.size ≤ 140737488351232) (hr6 : (Kd.int .i64).C w A6 l.length l) (hc6 : l.length ≤ c6) (hp6 : ∀ x, x ∈ l → inI x) (hn : (Lit.int .i64 n).wf = true) :
  Calls Try.prog 18 #[.string s, .slice A6 l.length c6, .int .i64 n] w fun e w' => e = .returned (.bool true) ∧ Below w.heap.size w w' := by
 have m6 : l.length ≤ 9223372036854775807 := hr6.2.1
 have hnb := Go.bounds_i64 hn
 have HN := Aside0.mk (show n ≤ 9223372036854775807 by omega)
 have R6 := Aside0.mk hr6
 have C6 := Aside0.mk hc6
 clear hr6 hc6 hp6 hn hnb
 by_cases hs : 200 < s.size
 ·have h1 : decide ((200 : Int) < (s.size : Int)) = true := decide_eq_true (by omega)
  have h2 : decide (200 < s.size) = true := decide_eq_true (by omega)
  go_enter Try.func18, Try.ntmps18
  go_wp2_with (go_at_call 33; refine (c33 _).mono ?_; rintro e w2 ⟨rfl, hb⟩)
  go_ret
  exact ⟨rfl, hb⟩
 have h1 : decide ((200 : Int) < (s.size : Int)) = false := decide_eq_false (by omega)
 have h2 : decide (200 < s.size) = false := decide_eq_false (by omega)
 by_cases hlen : 60 < l.length
 ·have h3 : decide ((60 : Int) < (l.length : Int)) = true := decide_eq_true (by omega)
  have h4 : decide (60 < l.length) = true := decide_eq_true (by omega)
  go_enter Try.func18, Try.ntmps18
  go_wp2_with (go_at_call 33; refine (c33 _).mono ?_; rintro e w2 ⟨rfl, hb⟩)
  go_ret
  exact ⟨rfl, hb⟩
 have h3 : decide ((60 : Int) < (l.length : Int)) = false := decide_eq_false (by omega)
 have h4 : decide (60 < l.length) = false := decide_eq_false (by omega)
 have HS := Aside0.mk (show s.size ≤ 200 by omega)
 have HL := Aside0.mk (show l.length ≤ 60 by omega)
 clear hs hlen hsz m6
 go_enter Try.func18, Try.ntmps18
 go_wp2_with fail
 clear h1 h2 h3 h4
 refine (c61 s w (by have := HS.out; omega)).mono ?_
 have HTL := Aside0.mk (show (textW s).length ≤ 60 by rw [textW_length]; have := HS.out; omega)
 have HE := Aside0.mk (unpE_text s l)
 have HP := Aside0.mk (unpS_text s l)
 have H64 := Aside0.mk (fun w => c64 s w (by have := HS.out; omega))
 generalize textW s = ts at *
 rintro e w1 ⟨A, c, rfl, hla, hCa, hb⟩
 have HC := Aside0.mk hb
 have LA := Aside0.mk hla
 have CA := Aside0.mk hCa
 clear hb hla hCa
 go_wp2_with fail
 refine (c62 A6 c6 l n w1 (Kd.C_below R6.out HC.out) C6.out (by have := HL.out; omega) HN.out).mono ?_
 rintro e w2 ⟨rfl, hb⟩
 replace HC := Aside0.mk (below_step HC.out hb)
 replace CA := Aside0.mk (Kd.C_below CA.out hb)
 clear hb w1
 go_wp2_with fail
 refine (c63 A6 c6 l n w2 (Kd.C_below R6.out HC.out) C6.out (by have := HL.out; omega) HN.out).mono ?_
 generalize unpS l n = us
 generalize unpE l n = ue
 rintro e w3 ⟨rfl, hb⟩
 replace HC := Aside0.mk (below_step HC.out hb)
 replace CA := Aside0.mk (Kd.C_below CA.out hb)
 clear hb w2
 have r0 : decide (c < ts.length) = false := decide_eq_false (by have := LA.out; omega)
 have r1 : ts.length ≤ c := LA.out
 go_wp2_with ((with_reducible refine gate_builtin (b := .append) (xs := #[.tmp 43, .tmp 44]) rfl ?_); refine list_append_full rfl (Kd.int .i64) _ _ _ 32 3 (.int .i64 0) 8 (by rfl) Try.underlying32 info3 rfl (by decide) (by decide) A ts A6 c6 l (by rfl) (by rfl) CA.out (Kd.C_below R6.out HC.out) (by have := HTL.out; have := HL.out; omega) ?_; intro l7 A7 c7 w4 e7 hl7 hC7 hb7)
 have hk := c62 A7 c7 l7 (s.size : Int) w4 hC7 hl7 (by rw [e7.out, List.length_append]; have := HTL.out; have := HL.out; omega) (by have := HS.out; omega)
 rw [e7.out, HE.out, HP.out, ← e7.out] at hk
 refine hk.mono ?_
 rintro e w5 ⟨rfl, hb⟩
 replace HC := Aside0.mk (below_step HC.out (below_step hb7 hb))
 replace CA := Aside0.mk (Kd.C_below (Kd.C_below CA.out hb7) hb)
 clear hb hb7 hC7 hl7 hk r0 r1
 go_wp2_with fail
 refine (c33 _).mono ?_
 rintro e w6 ⟨rfl, hb⟩
 replace HC := Aside0.mk (below_step HC.out hb)
 replace CA := Aside0.mk (Kd.C_below CA.out hb)
 clear hb
 go_wp2_with fail
 refine (H64.out w6).mono ?_
 rintro e w7 ⟨B, d, rfl, hlb, hCb, hb⟩
 replace HC := Aside0.mk (below_step HC.out hb)
 replace CA := Aside0.mk (Kd.C_below CA.out hb)
 clear hb
 go_wp2_with fail
 refine (c30same B d A c ts w7 CA.out LA.out hCb hlb).mono ?_
 rintro e w8 ⟨rfl, hd⟩
 replace HC := Aside0.mk (below_step HC.out hd.below)
 clear hd hCb hlb
 go_wp2_with fail
 go_ret
 exact ⟨rfl, HC.out⟩
end Go.Proofs.Ytkopbaikmlajmaa.Q
