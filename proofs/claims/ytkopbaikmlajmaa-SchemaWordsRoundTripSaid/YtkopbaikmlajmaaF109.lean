/- trimmed to what these claims' texts use -/
import Derived.Test.YtkopbaikmlajmaaP
import Derived.Test.YtkopbaikmlajmaaSA
import Derived.Test.YtkopbaikmlajmaaWX
import Derived.WalkLawsBesides
import Derived.Defers
import Derived.Recover
import Derived.Below
import Derived.Deep.Draws
import Derived.Deep.AppendLies
import Derived.Maps.AppendAt
import Derived.OwnWalk
import Derived.Laws.BytesArg
import Derived.Laws.MakeOwn
import Derived.Laws.OwnMore
import Derived.Deep.OwnRows
import Derived.Tactics
import Derived.Lib.ConvBytes
import Derived.Laws.Slices
import Derived.WalkKit
import Derived.KernelRfl
import Derived.RowKit3
import Derived.Deep.LoopGhost
import Derived.Deep.QuietTactic
import Derived.BigQuiet
import Derived.WideLaws
import Derived.Deep.DeepCutAuto
import Derived.Deep.CutBlock
import Derived.Deep.RegionHeld3
import Derived.Laws.Rows
import Derived.Lib.AppendStr
import Derived.ArgAppend
import Derived.Laws.IdiomCopy
import Derived.RowKit
import Derived.OrdersHeld
import Derived.Laws.BitsLemmas
import Derived.Laws.StructEq
namespace Go.Proofs.Ytkopbaikmlajmaa.Q
open Go.RowKit Go.Proofs.YtkopbaikmlajmaaW.PrintWords Go.Proofs.YtkopbaikmlajmaaW.PrintLast Go.Proofs.YtkopbaikmlajmaaW.PrintMore
set_option linter.unusedVariables false
set_option linter.unusedSimpArgs false
/-- What a reader of Parse panics with. -/
def badRead : Ending := .panicked [{ v := .iface 125 (.agg #[]), recovered := false }]
/-- The reader at block rb: the words that are left. -/
def PS (rb : Nat) (w0 w : World) (l : List Int) : Prop := ∃ A c, w.heap[rb]? = some (.cells #[.slice A l.length c] 128 (0, 0)) ∧ (Kd.int .i64).C w0 A l.length l ∧ l.length ≤ c
theorem PS.below {rb : Nat} {w0 w w1 : World} {l : List Int} (h : PS rb w0 w l) (hb : Below w.heap.size w w1) : PS rb w0 w1 l := by
 obtain ⟨A, c, h1, h2, h3⟩ := h
 exact ⟨A, c, blk_below h1 hb, h2, h3⟩
theorem PS.lt {rb : Nat} {w0 w : World} {l : List Int} (h : PS rb w0 w l) : rb < w.heap.size := by
 obtain ⟨A, c, h1, _⟩ := h
 exact (Array.getElem?_eq_some_iff.1 h1).1
/-- What a call of a reader answers: a value and the words that are left, or it panics. -/
def PPost (rb : Nat) (w0 w : World) (r : Option (Value × List Int)) (e : Ending) (w' : World) : Prop :=
 match r with
 | some (v, m) => e = .returned v ∧ PS rb w0 w' m ∧ Below w0.heap.size w0 w' ∧ Kept w w' (fun k => k = rb)
 | none => e = badRead ∧ Below w0.heap.size w0 w' ∧ Kept w w' (fun k => k = rb)
set_option maxHeartbeats 2000000 in
set_option maxRecDepth 100000 in
theorem c111 (w : World) : Calls Try.prog 111 #[] w fun e w' => e = badRead ∧ w' = w := by
 go_enter Try.func111, Try.ntmps111
 go_wp2_with fail
 exact ⟨rfl, rfl, rfl⟩
set_option maxHeartbeats 4000000 in
set_option maxRecDepth 100000 in
theorem c109 (rb : Nat) (lim : Int) (l : List Int) (w0 w : World) (hB : Below w0.heap.size w0 w) (hrb : w0.heap.size ≤ rb) (hs : PS rb w0 w l) :
  Calls Try.prog 109 #[.pointer (some ⟨rb, 0, none⟩), .int .i64 lim] w (PPost rb w0 w ((takeW lim l).map fun p => (.int .i64 p.1, p.2))) := by
 have hu128 := Try.underlying128
 have HB := Aside0.mk hB
 have HE := Aside0.mk hrb
 obtain ⟨A, c, hs1, hC, hc⟩ := hs
 have HS := Aside0.mk hs1
 clear hB hrb
 cases l with
 | nil =>
  have s0 := show w.cell? ⟨rb, 0, none⟩ = some (.slice A 0 c) from blk_cell hs1 0
  clear hs1 hC hc
  go_enter Try.func109, Try.ntmps109
  go_wp2_with (go_at_call 111; refine (c111 _).mono ?_; rintro e w' ⟨he, rfl⟩; unfold badRead at he; subst he)
  exact ⟨rfl, rfl, HB.out, Kept.refl _ _⟩
 | cons x t =>
  have hm : (x :: t).length ≤ 9223372036854775807 := hC.2.1
  obtain ⟨ad, rfl, hx0⟩ := Kd.at_int hC (0 : Int) (by omega) (by rw [List.length_cons]; omega)
  have hx1 : w0.cell? ad = some (.int .i64 x) := by
   rw [show ad.add (Int.toNat 0) = ad by unfold Addr.add; simp] at hx0
   exact hx0
  have hx2 : w0.cell? (ad.add 0) = some (.int .i64 x) := by
   rw [show ad.add 0 = ad by unfold Addr.add; simp]
   exact hx1
  have s0 := show w.cell? ⟨rb, 0, none⟩ = some (.slice (some ad) (t.length + 1) c) from blk_cell hs1 0
  have z0 := show w.frozen? ⟨rb, 0, none⟩ = false from blk_frozen hs1 0
  have x1 := keep HB.out hx1
  have x2 := keep HB.out hx2
  obtain ⟨i0, hi0, _, hsz0, _⟩ := info_parts info3
  have hcut := cut_from (P := Try.prog) 32 3 .i64 Try.underlying32 hi0 1 hsz0 (some ad) (t.length + 1) c 1 (by omega) (by omega)
  have hD := Kd.C_drop (m := 1) (c := c) hC (by simp) hc
  obtain ⟨A1, hA1⟩ : ∃ A1, A1 = (if c = 1 then (some ad) else ((some ad) : Option Addr).map (·.add (1 * 1))) := ⟨_, rfl⟩
  have hD1 := Aside0.mk (show (Kd.int .i64).C w0 A1 t.length t from hA1 ▸ hD)
  rw [show (1 : Int).toNat = 1 from rfl, show t.length + 1 - 1 = t.length by omega, ← hA1] at hcut
  have HC1 := Aside0.mk (show t.length ≤ c - 1 by have : t.length + 1 ≤ c := hc; omega)
  have m0 : decide ((t.length : Int) + 1 = 0) = false := decide_eq_false (by omega)
  have m1 : (((t.length : Int) + 1) == 0) = false := beq_eq_false_iff_ne.2 (by omega)
  have m2 : ((t.length + 1) == 0) = false := beq_eq_false_iff_ne.2 (by omega)
  have c1 : 1 ≤ c := by have : t.length + 1 ≤ c := hc; omega
  clear hx0 hx1 hx2 hs1 hD hA1 hsz0 hi0 hc hC
  by_cases h1 : x < 0
  ·have HT := Aside0.mk (show takeW lim (x :: t) = none by simp only [takeW]; rw [if_neg (by omega)])
   have k1 : decide (x < 0) = true := decide_eq_true h1
   clear h1
   go_enter Try.func109, Try.ntmps109
   go_wp2_with (go_at_call 111; refine (c111 _).mono ?_; rintro e w' ⟨he, rfl⟩; unfold badRead at he; subst he)
   rw [HT.out]
   exact ⟨rfl, rfl, HB.out, Kept.refl _ _⟩
  have k1 : decide (x < 0) = false := decide_eq_false h1
  by_cases h2 : lim ≤ x
  ·have HT := Aside0.mk (show takeW lim (x :: t) = none by simp only [takeW]; rw [if_neg (by omega)])
   have k2 : decide (lim ≤ x) = true := decide_eq_true h2
   clear h1 h2
   go_enter Try.func109, Try.ntmps109
   go_wp2_with (go_at_call 111; refine (c111 _).mono ?_; rintro e w' ⟨he, rfl⟩; unfold badRead at he; subst he)
   rw [HT.out]
   exact ⟨rfl, rfl, HB.out, Kept.refl _ _⟩
  have HT := Aside0.mk (takeW_cons (lim := lim) t (show 0 ≤ x by omega) (show x < lim by omega))
  have k2 : decide (lim ≤ x) = false := decide_eq_false h2
  clear h1 h2
  go_enter Try.func109, Try.ntmps109
  go_wp2_with fail
  go_ret
  rw [HT.out]
  have hkp : Kept w (w.setCell ⟨rb, 0, none⟩ (.slice A1 t.length (c - 1))) (fun k => k = rb) := (Kept.refl w (fun k => k = rb)).setCell (.inl rfl) _
  exact ⟨rfl, ⟨A1, c - 1, blk_put HS.out 0 _ rfl, hD1.out, HC1.out⟩, below_set HB.out HE.out, hkp⟩
end Go.Proofs.Ytkopbaikmlajmaa.Q
