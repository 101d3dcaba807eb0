/- trimmed to what these claims' texts use -/
import Derived.Test.YtkopbaikmlajmaaF55
import Derived.Test.YtkopbaikmlajmaaG51
import Derived.Test.YtkopbaikmlajmaaF28
import Derived.Test.YtkopbaikmlajmaaF22
namespace Go.Proofs.Ytkopbaikmlajmaa.Q
open Go.RowKit Go.Proofs.YtkopbaikmlajmaaW.PrintWords Go.Proofs.YtkopbaikmlajmaaW.PrintLast Go.Proofs.YtkopbaikmlajmaaW.PrintMore
set_option linter.unusedVariables false
set_option linter.unusedSimpArgs false
theorem c30refl (A : Option Addr) (c : Nat) (l : List Int) (B : Option Addr) (d : Nat) (w : World) (h6 : (Kd.int .i64).C w A l.length l) (hc6 : l.length ≤ c) (h4 : (Kd.int .i64).C w B l.length l) (hc4 : l.length ≤ d) :
  Calls Try.prog 30 #[.slice A l.length c, .slice B l.length d] w fun e w' => e = .returned (.bool true) ∧ Drawn0 w w' := by
 obtain ⟨k, h⟩ := (ints_refl l h6.2.1).get
 exact alumref20_SameInts.calls k A c l B d l true w h6 hc6 h4 hc4 h
theorem parseR_cases (l : List Int) : (∃ nm cs xs ks, parseR l = (nm, cs, xs, ks, 0) ∧ checkE nm cs xs ks = 0 ∧ wordsL nm cs xs ks = l) ∨ parseR l = (⟨#[]⟩, [], [], [], 3) := by
 unfold parseR
 cases h : parseE l with
 | none => exact .inr rfl
 | some p =>
  obtain ⟨nm, cs, xs, ks⟩ := p
  obtain ⟨a, b⟩ := parse_sound h
  exact .inl ⟨nm, cs, xs, ks, rfl, a, b⟩
set_option maxHeartbeats 4000000 in
set_option maxRecDepth 100000 in
theorem w16 (A6 : Option Addr) (c6 : Nat) (l : List Int) (w : World) (hr6 : (Kd.int .i64).C w A6 l.length l) (hc6 : l.length ≤ c6) (hp6 : ∀ x, x ∈ l → inI x) :
  Calls Try.prog 16 #[.slice A6 l.length c6] w fun e w' => e = .returned (.bool true) ∧ Below w.heap.size w w' := by
 have hu28 := Try.underlying28
 have R6 := Aside0.mk hr6
 have C6 := Aside0.mk hc6
 have m6 : l.length ≤ 9223372036854775807 := hr6.2.1
 clear hr6 hc6 hp6
 by_cases hlen : 200 < l.length
 ·have h1 : decide ((200 : Int) < (l.length : Int)) = true := decide_eq_true (by omega)
  have h2 : decide (200 < l.length) = true := decide_eq_true (by omega)
  go_enter Try.func16, Try.ntmps16
  go_wp2_with (go_at_call 22; refine (c22 _).mono ?_; rintro e w2 ⟨rfl, hb⟩)
  go_ret
  exact ⟨rfl, hb⟩
 have h1 : decide ((200 : Int) < (l.length : Int)) = false := decide_eq_false (by omega)
 have h2 : decide (200 < l.length) = false := decide_eq_false (by omega)
 have HL := Aside0.mk (show l.length ≤ 200 by omega)
 clear hlen m6
 go_enter Try.func16, Try.ntmps16
 go_wp2_with fail
 refine (c22 w).mono ?_
 rintro e w1 ⟨rfl, hb⟩
 have HC := Aside0.mk hb
 clear hb
 go_wp2_with fail
 clear h1 h2
 refine (c55 A6 c6 l w1 (Kd.C_below R6.out HC.out) C6.out (by have := HL.out; omega)).mono ?_
 rcases parseR_cases l with ⟨nm, cs, xs, ks, hR, hck, hw⟩ | hR
 ·rw [hR]
  rintro e w2 ⟨A1, c1, A2, c2, A3, c3, rfl, ⟨l1, r1⟩, ⟨l2, r2⟩, ⟨l3, r3⟩, hb⟩
  obtain ⟨W, hW⟩ : ∃ W, W = w2.alloc (.cells #[.string nm, .slice A1 cs.length c1, .slice A2 xs.length c2, .slice A3 ks.length c3] 28) := ⟨_, rfl⟩
  have hbw : Below w2.heap.size w2 W := hW ▸ below_al w2 _
  have HT := Aside0.mk (show W.heap[w2.heap.size]? = some (.cells #[.string nm, .slice A1 cs.length c1, .slice A2 xs.length c2, .slice A3 ks.length c3] 28 (0, 0)) from hW ▸ blk_new w2 _)
  replace HC := Aside0.mk (below_step HC.out (below_step hb hbw))
  have L1 := Aside0.mk (show cs.length ≤ c1 from l1)
  have L2 := Aside0.mk (show xs.length ≤ c2 from l2)
  have L3 := Aside0.mk (show ks.length ≤ c3 from l3)
  have R1 := Aside0.mk (show Kd.C k56 W A1 cs.length cs from Kd.C_below r1 hbw)
  have R2 := Aside0.mk (show Kd.C k65 W A2 xs.length xs from Kd.C_below r2 hbw)
  have R3 := Aside0.mk (show Kd.C k42 W A3 ks.length ks from Kd.C_below r3 hbw)
  have HW := Aside0.mk hW
  have HWE := Aside0.mk (show wordsE nm cs xs ks = l by unfold wordsE; rw [if_pos hck, hw])
  have HCK := Aside0.mk hck
  obtain ⟨g, hg⟩ : ∃ g, g = w2.heap.size := ⟨_, rfl⟩
  rw [← hg] at HT
  have HGE := Aside0.mk hg
  clear hb hbw hR l1 r1 l2 r2 l3 r3 hck hw hW hg
  dsimp only
  go_wp2_with fail
  rw [← HW.out]
  refine (c28 nm A1 c1 cs A2 c2 xs A3 c3 ks W R1.out L1.out R2.out L2.out R3.out L3.out).mono ?_
  rw [HWE.out, HCK.out]
  rintro e w4 ⟨v, rfl, hRv, hb⟩
  obtain ⟨Aw, cw, rfl, hlw, hCw⟩ := Kd.R_reads hRv
  replace HC := Aside0.mk (below_step HC.out hb)
  have hT := blk_below HT.out hb
  have t0 := show w4.cell? ⟨g, 0, none⟩ = some (.string nm) from blk_cell hT 0
  have t1 := show w4.cell? ⟨g, 1, none⟩ = some (.slice A1 cs.length c1) from blk_cell hT 1
  have t2 := show w4.cell? ⟨g, 2, none⟩ = some (.slice A2 xs.length c2) from blk_cell hT 2
  have t3 := show w4.cell? ⟨g, 3, none⟩ = some (.slice A3 ks.length c3) from blk_cell hT 3
  rw [HGE.out] at t0 t1 t2 t3
  have LW := Aside0.mk hlw
  have CW := Aside0.mk hCw
  have HB4 := Aside0.mk hb
  clear hb hT hRv hlw hCw
  go_wp2_with fail
  clear t0 t1 t2 t3
  refine (c26 nm A1 c1 cs A2 c2 xs A3 c3 ks w4 (Kd.C_below R1.out HB4.out) L1.out (Kd.C_below R2.out HB4.out) L2.out (Kd.C_below R3.out HB4.out) L3.out).mono ?_
  rw [HCK.out]
  rintro e w5 ⟨rfl, hb⟩
  replace HC := Aside0.mk (below_step HC.out hb)
  replace CW := Aside0.mk (Kd.C_below CW.out hb)
  clear hb
  go_wp2_with fail
  refine (c30refl Aw cw l A6 c6 w5 CW.out LW.out (Kd.C_below R6.out HC.out) C6.out).mono ?_
  rintro e w6 ⟨rfl, hd⟩
  replace HC := Aside0.mk (below_step HC.out hd.below)
  clear hd
  go_wp2_with fail
  go_ret
  exact ⟨rfl, HC.out⟩
 ·rw [hR]
  rintro e w2 ⟨A1, c1, A2, c2, A3, c3, rfl, ⟨l1, r1⟩, ⟨l2, r2⟩, ⟨l3, r3⟩, hb⟩
  obtain ⟨W, hW⟩ : ∃ W, W = w2.alloc (.cells #[.string ⟨#[]⟩, .slice A1 0 c1, .slice A2 0 c2, .slice A3 0 c3] 28) := ⟨_, rfl⟩
  have hbw : Below w2.heap.size w2 W := hW ▸ below_al w2 _
  replace HC := Aside0.mk (below_step HC.out (below_step hb hbw))
  have L1 := Aside0.mk l1
  have L2 := Aside0.mk l2
  have L3 := Aside0.mk l3
  have R1 := Aside0.mk (Kd.C_below r1 hbw)
  have R2 := Aside0.mk (Kd.C_below r2 hbw)
  have R3 := Aside0.mk (Kd.C_below r3 hbw)
  have HW := Aside0.mk hW
  clear hb hbw hR l1 r1 l2 r2 l3 r3 hW
  dsimp only
  go_wp2_with fail
  rw [← HW.out]
  refine (c51same ⟨#[]⟩ A1 c1 [] A2 c2 [] A3 c3 [] none 0 none 0 none 0 W R1.out L1.out R2.out L2.out R3.out L3.out (Kd.C_nil _ _) (Nat.le_refl _) (Kd.C_nil _ _) (Nat.le_refl _) (Kd.C_nil _ _) (Nat.le_refl _)).mono ?_
  rintro e w4 ⟨rfl, hb⟩
  replace HC := Aside0.mk (below_step HC.out hb)
  clear hb
  go_wp2_with fail
  go_ret
  exact ⟨rfl, HC.out⟩
end Go.Proofs.Ytkopbaikmlajmaa.Q
