/- The writer of words: its one method that appends, and the parts of a text in turn; no conditions beyond the bounds in each statement. -/
import Derived.Test.YtkopbaikmlajmaaH
import Derived.Test.YtkopbaikmlajmaaB
import Derived.Test.YtkopbaikmlajmaaF23
import Derived.RangeFuncBox
import Derived.RangeFuncNested
import Derived.RangeFuncBound
import Derived.RangeFuncCalls
import Derived.RangeFuncLeaves
import Derived.Shelf.Abstract
import Derived.Shelf.RegionOpen
import Derived.OwnWalkIn
import Derived.TacticsInMore
import Derived.LoopNIn
import Derived.LoopIn
namespace Go.Proofs.Ytkopbaikmlajmaa.Q
open Go.RowKit Go.Proofs.YtkopbaikmlajmaaW.PrintWords Go.Proofs.YtkopbaikmlajmaaW.PrintLast Go.Proofs.YtkopbaikmlajmaaW.PrintMore

theorem info3' : (Try.prog.info? 3).map (fun i => (i.zero, i.size, i.bytes)) = some (some (.int .i64 0), 1, 8) := by kernel_rfl

/-- A writer at block g, all of whose memory was made from B0 on, has collected xs; P: which blocks its row may be. -/
def WS (P : Nat → Prop) (B0 g : Nat) (w : World) (xs : List Int) : Prop := B0 ≤ g ∧ ∃ v, w.heap[g]? = some (.cells #[v] 95 (0, 0)) ∧ (Kd.int .i64).R 3 w B0 P v xs
/-- Every block of cells that is neither a row of ints nor a writer is as it was. -/
structure KeepT (w w' : World) : Prop where
  size : w.heap.size ≤ w'.heap.size
  block : ∀ (k : Nat) (cs : Array Value) (t : TypeId) (fr : Nat × Nat), w.heap[k]? = some (.cells cs t fr) → t ≠ 3 → t ≠ 95 → w'.heap[k]? = some (.cells cs t fr)
  other : ∀ (k : Nat) (o : Obj), w.heap[k]? = some o → o.isCells = false → w'.heap[k]? = some o
theorem KeepT.refl (w : World) : KeepT w w := ⟨Nat.le_refl _, fun _ _ _ _ h _ _ => h, fun _ _ h _ => h⟩
theorem KeepT.trans {a b c : World} (h : KeepT a b) (k : KeepT b c) : KeepT a c := ⟨Nat.le_trans h.size k.size, fun i cs t fr hi h1 h2 => k.block i cs t fr (h.block i cs t fr hi h1 h2) h1 h2, fun i o hi ho => k.other i o (h.other i o hi ho) ho⟩
theorem KeepT.below {w w' : World} (h : Below w.heap.size w w') : KeepT w w' := ⟨h.size, fun k cs t fr hk _ _ => (h.block k (Array.getElem?_eq_some_iff.1 hk).1).trans hk, fun k o hk _ => (h.block k (Array.getElem?_eq_some_iff.1 hk).1).trans hk⟩
/-- What a row of ints leaves when it is written. -/
theorem KeepT.grown {w w' : World} {row : Option Nat} (h : w.grownBy w' row) (hr : ∀ k, row = some k → ∃ cs fr, w.heap[k]? = some (.cells cs 3 fr)) : KeepT w w' := by
  refine ⟨h.size, fun k cs t fr hk h3 _ => ?_, fun k o hk ho => ?_⟩
  · refine (h.block k (Array.getElem?_eq_some_iff.1 hk).1 (fun e => ?_)).trans hk
    obtain ⟨cs', fr', hc⟩ := hr k e.symm
    rw [hk] at hc
    injection hc with hc
    injection hc with _ ht
    exact h3 ht
  · refine (h.block k (Array.getElem?_eq_some_iff.1 hk).1 (fun e => ?_)).trans hk
    obtain ⟨cs', fr', hc⟩ := hr k e.symm
    rw [hk] at hc
    injection hc with hc
    rw [hc] at ho
    cases ho
theorem KeepT.set {w : World} {g j : Nat} {cs : Array Value} {fr : Nat × Nat} (u : Value) (hg : w.heap[g]? = some (.cells cs 95 fr)) : KeepT w (w.setCell ⟨g, j, none⟩ u) := by
  refine ⟨by simp [World.setCell], fun k cs' t fr' hk _ h95 => ?_, fun k o hk ho => ?_⟩
  · refine (Below.heap_setCell w _ u k (fun e => ?_)).trans hk
    subst e
    rw [hk] at hg
    injection hg with hg
    injection hg with _ ht
    exact h95 ht
  · refine (Below.heap_setCell w _ u k (fun e => ?_)).trans hk
    subst e
    rw [hk] at hg
    injection hg with hg
    rw [hg] at ho
    cases ho

set_option maxHeartbeats 800000 in
set_option maxRecDepth 100000 in
theorem c79 (P : Nat → Prop) (B0 g : Nat) (xs : List Int) (A : Option Addr) (c : Nat) (l : List Int) (w : World) (hs : WS P B0 g w xs) (hP : ∀ k, w.heap.size ≤ k → P k) (hl : (Kd.int .i64).C w A l.length l) (hB : B0 ≤ w.heap.size) (hn : xs.length + l.length ≤ 1000000000) :
    Calls Try.prog 79 #[.pointer (some ⟨g, 0, none⟩), .slice A l.length c] w fun e w' => e = .returned (.tuple #[]) ∧ WS P B0 g w' (xs ++ l) ∧ Below B0 w w' ∧ KeepT w w' ∧ ∀ k, k < w.heap.size → k ≠ g → ¬ P k → w'.heap[k]? = w.heap[k]? := by
  obtain ⟨hg, v, hb, hr⟩ := hs
  obtain ⟨A0, c0, rfl⟩ := Kd.R_slice hr
  have hu := Try.underlying95
  have hc0 := (blk_cell hb 0).trans rfl
  have HR := Aside0.mk hr
  have HG := Aside0.mk hb
  have HL := Aside0.mk hl
  clear hr hb hl
  go_enter Try.func79, Try.ntmps79
  go_wp2_with ((with_reducible refine gate_dst (N := 10) rfl ?_); refine Kd.R_append_row (Value.int .i64) (0 : Int) (w0 := w) B0 rfl _ _ 32 3 (.int .i64 0) 8 rfl Try.underlying32 info3' rfl (by decide) (.slice A0 xs.length c0) xs l A l.length c P rfl rfl hP HR.out HL.out (Below.refl _ _) hB (by omega) ?_; intro v1 w1 ho hb1 hgr hat; obtain ⟨A1, c1, rfl⟩ := Kd.R_slice ho; have hb2 := blk_grown HG.out hgr (fun e => Kd.R_ne HR.out HG.out (by decide) e); have hc1 := (blk_cell hb2 0).trans rfl; have hf1 := blk_frozen hb2 0)
  go_end0
  have hty : ∀ q, q ∈ 3 :: (Kd.int .i64).E → q ≠ 95 := by
    intro q hq
    rcases List.mem_cons.1 hq with rfl | hq
    · decide
    · exact absurd hq List.not_mem_nil
  rw [← List.length_append]
  refine ⟨rfl, ⟨hg, _, blk_put hb2 0 _ rfl, Kd.R_set ho hb2 hty 0 _⟩, hb1.setCell hg _, ?_, fun k hk hkg hkp => ?_⟩
  rotate_left
  · exact (Below.heap_setCell w1 _ _ k hkg).trans (hgr.block k hk (fun e => hkp (HR.out.1 k e.symm)))
  refine (KeepT.grown hgr (fun k hk => ?_)).trans (KeepT.set _ hb2)
  obtain ⟨inner, hw⟩ := Kd.R_own HR.out
  obtain ⟨cells, hc⟩ := own_typed hw k hk
  exact ⟨cells, (0, 0), hc⟩

abbrev Ch (len : Nat) := { j : Nat // 5 * j < len }
def chL (len j : Nat) : Nat := if len - 5 * j < 5 then len - 5 * j else 5
def chV (b len : Nat) (x : Ch len) : Value := .slice (some ⟨b, 5 * x.1, none⟩) (chL len x.1) (chL len x.1)

/-- Two blocks lie as they lay. -/
def KeepB (Bs Bn : Nat) (W W' : World) : Prop := W'.heap[Bs]? = W.heap[Bs]? ∧ W'.heap[Bn]? = W.heap[Bn]?
section
open Go.Shelf
attribute [local go_sem] Oper.semAt_some
attribute [local go_sem] max2_int min2_int max_two min_two

set_option maxHeartbeats 2000000 in
set_option maxRecDepth 100000 in
theorem chunk1_in (n : Nat) (hn : 1 ≤ n) (l Bs Bn b len cap : Nat) (hreach : len ≤ 140737488351232) (hlc : len ≤ cap) (J Jx : List (Ch len) → World → Prop) (hJd : ∀ s W, J s W → J s W.drew)
    (hY : ∀ pre x W, J pre W → pre.length < (len + 4) / 5 → YieldAt Fence.wide (n - 1) Try.prog l #[chV b len x] W fun e W' =>
      (e = .returned (.bool true) ∧ J (pre ++ [x]) W' ∧ KeepB Bs Bn W W') ∨ (e = .returned (.bool false) ∧ Jx (pre ++ [x]) W'))
    (W : World) (hBs : W.cell? ⟨Bs, 0, none⟩ = some (.slice (some ⟨b, 0, none⟩) len cap)) (hBn : W.cell? ⟨Bn, 0, none⟩ = some (.int .i64 5)) (h0 : J [] W) :
    CallsIn Fence.wide n Try.prog 142 #[.func (.yield l) #[] #[], .pointer (some ⟨Bs, 0, none⟩), .pointer (some ⟨Bn, 0, none⟩)] W fun e W' => (∃ v, e = .returned v) ∧
      ((∃ ys, ys.map Subtype.val = List.range ((len + 4) / 5) ∧ J ys W') ∨ (∃ pre, True ∧ Jx pre W')) := by
  refine callsIn_of_wp Try.func142 rfl trivial ?_ rfl
  simp only [Try.ntmps142, List.size_toArray, List.length_cons, List.length_nil, Nat.reduceAdd, Nat.reduceSub, Array.replicate_succ, Array.replicate_zero, List.push_toArray, List.append_toArray, List.nil_append, List.cons_append]
  gi_wp2
  gi_loopw [4] (fun i wr => ∃ (k : Nat) (pre : List (Ch len)), k ≤ (len + 4) / 5 ∧ i = .int .i64 (5 * k : Nat) ∧ pre.map Subtype.val = List.range k ∧ J pre wr ∧ KeepB Bs Bn W wr)
    (fun i _ => len + 5 - (intOf i).toNat)
  case atStart => exact ⟨0, [], Nat.zero_le _, rfl, rfl, h0, ⟨rfl, rfl⟩⟩
  case round =>
    obtain ⟨k, pre, hk, rfl, hpre, hJs, hnx⟩ := hrel
    have c1 := (World.cell?_of_block (a := ⟨Bs, 0, none⟩) hnx.1).trans hBs
    have c2 := (World.cell?_of_block (a := ⟨Bn, 0, none⟩) hnx.2).trans hBn
    have hpl : pre.length = k := by simpa using congrArg List.length hpre
    by_cases hlt : 5 * k < len
    · obtain ⟨fn, tmps, assign, body, hy, hR⟩ := hY pre ⟨k, hlt⟩ wr.drew (hJd _ _ hJs) (by rw [hpl]; omega)
      by_cases h5 : len - 5 * k < 5
      · have h5i : ((len - 5 * k : Nat) : Int) < 5 := by omega
        unfold chV chL at hy
        dsimp only at hy
        rw [if_pos h5] at hy
        have hd : decide (5 * (k : Int) < (len : Int)) = true := decide_eq_true (by omega)
        gi_wp2
        gi_region
        gi_wp2
        refine hR.mono ?_
        rintro e W3 (⟨rfl, hJ3, hk3⟩ | ⟨rfl, hJx3⟩)
        · have c3 := (World.cell?_of_block (a := ⟨Bn, 0, none⟩) (hk3.2.trans hnx.2)).trans hBn
          gi_wp2
          go_roundw
          case rel => exact ⟨k + 1, pre ++ [⟨k, hlt⟩], by omega, by go_num, by rw [List.map_append, hpre, List.range_succ]; rfl, hJ3, ⟨hk3.1.trans hnx.1, hk3.2.trans hnx.2⟩⟩
          case measure => simp [intOf]; omega
        · gi_wp2
          refine bodyPost_ret (results_none rfl _ _ _) rfl ?_
          exact ⟨⟨_, rfl⟩, .inr ⟨_, trivial, hJx3⟩⟩
      · have h5i : ¬ ((len - 5 * k : Nat) : Int) < 5 := by omega
        unfold chV chL at hy
        dsimp only at hy
        rw [if_neg h5] at hy
        have hd : decide (5 * (k : Int) < (len : Int)) = true := decide_eq_true (by omega)
        gi_wp2
        gi_region
        gi_wp2
        refine hR.mono ?_
        rintro e W3 (⟨rfl, hJ3, hk3⟩ | ⟨rfl, hJx3⟩)
        · have c3 := (World.cell?_of_block (a := ⟨Bn, 0, none⟩) (hk3.2.trans hnx.2)).trans hBn
          gi_wp2
          go_roundw
          case rel => exact ⟨k + 1, pre ++ [⟨k, hlt⟩], by omega, by go_num, by rw [List.map_append, hpre, List.range_succ]; rfl, hJ3, ⟨hk3.1.trans hnx.1, hk3.2.trans hnx.2⟩⟩
          case measure => simp [intOf]; omega
        · gi_wp2
          refine bodyPost_ret (results_none rfl _ _ _) rfl ?_
          exact ⟨⟨_, rfl⟩, .inr ⟨_, trivial, hJx3⟩⟩
    · gi_wp2
      go_end0
      exact ⟨⟨_, rfl⟩, .inl ⟨pre, by rw [hpre]; congr 1; omega, hJs⟩⟩

set_option maxHeartbeats 400000 in
theorem c127 (A : Option Addr) (n c : Nat) (w : World) :
    Calls Try.prog 127 #[.slice A n c, .int .i64 5] w fun e w' => e = .returned (.func (.func 142) #[] #[.pointer (some ⟨w.heap.size, 0, none⟩), .pointer (some ⟨w.heap.size + 1, 0, none⟩)]) ∧ (w.alloc (.cells #[.slice A n c] 81)).alloc (.cells #[.int .i64 5] 3) = w' := by
  go_enter Try.func127, Try.ntmps127
  go_wp2_with fail
  go_ret
  exact ⟨rfl, rfl⟩

/-- The first i bytes of chunk j of a string, as a number. -/
def cw (s : ByteArray) (j : Nat) : Nat → Int
  | 0 => 0
  | i + 1 => cw s j i * 256 + bt s ((5 * j + i : Nat) : Int)
def chunkW (s : ByteArray) (j : Nat) : Int := cw s j 5
/-- The words of a string. -/
def textW (s : ByteArray) : List Int := (List.range ((s.size + 4) / 5)).map (chunkW s)
theorem cw_range (s : ByteArray) (j : Nat) : ∀ i, 0 ≤ cw s j i ∧ cw s j i < 256 ^ i
  | 0 => by simp [cw]
  | i + 1 => by
    have h := cw_range s j i
    have hb := bt_range s ((5 * j + i : Nat) : Int)
    simp only [cw, Int.pow_succ]
    omega

theorem chunk_stops (n : Nat) (hn : 1 ≤ n) (Bs Bn b len cap : Nat) (hreach : len ≤ 140737488351232) (hlc : len ≤ cap) (w : World) (hs : Bs < w.heap.size) (hb : Bn < w.heap.size)
    (hBs : w.cell? ⟨Bs, 0, none⟩ = some (.slice (some ⟨b, 0, none⟩) len cap)) (hBn : w.cell? ⟨Bn, 0, none⟩ = some (.int .i64 5)) :
    SeqStopsK Fence.wide n Try.prog 142 #[.pointer (some ⟨Bs, 0, none⟩), .pointer (some ⟨Bn, 0, none⟩)] (fun x : Ch len => #[chV b len x]) (KeepB Bs Bn) (fun ys => ys.map Subtype.val = List.range ((len + 4) / 5)) (fun _ => True) ((len + 4) / 5) w := fun l J Jx W hW hJ _ hY h0 =>
  chunk1_in n hn l Bs Bn b len cap hreach hlc J Jx (fun t V h => hJ t V _ none h ⟨rfl, rfl, rfl, Nat.le_refl _, fun _ _ _ => rfl⟩ (fun r e => by cases e)) hY W ((hW.cell (p := ⟨Bs, 0, none⟩) hs).trans hBs) ((hW.cell (p := ⟨Bn, 0, none⟩) hb).trans hBn) h0

end
end Go.Proofs.Ytkopbaikmlajmaa.Q
