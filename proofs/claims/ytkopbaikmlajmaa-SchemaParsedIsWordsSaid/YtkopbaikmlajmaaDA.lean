/- trimmed to what these claims' texts use -/
import Derived.Test.YtkopbaikmlajmaaHA
import Derived.Test.YtkopbaikmlajmaaF23
import Derived.Test.YtkopbaikmlajmaaSA
import Derived.Test.YtkopbaikmlajmaaFA
import Derived.RangeFuncBox
import Derived.RangeFuncNested
import Derived.RangeFuncBound
import Derived.RangeFuncCalls
import Derived.RangeFuncLeaves
import Derived.Shelf.Abstract
import Derived.Shelf.RegionOpen
import Derived.OwnWalkIn
import Derived.TacticsInMore
import Derived.LoopNIn
import Derived.LoopIn
namespace Go.Proofs.Ytkopbaikmlajmaa.Q
open Go.RowKit Go.Proofs.YtkopbaikmlajmaaW.PrintWords Go.Proofs.YtkopbaikmlajmaaW.PrintLast Go.Proofs.YtkopbaikmlajmaaW.PrintMore
set_option linter.unusedVariables false
set_option linter.unusedSimpArgs false

theorem info3' : (Try.prog.info? 3).map (fun i => (i.zero, i.size, i.bytes)) = some (some (.int .i64 0), 1, 8) := by kernel_rfl

/-- A writer at block g, all of whose memory was made from B0 on, has collected xs; P: which blocks its row may be. -/
def WS (P : Nat → Prop) (B0 g : Nat) (w : World) (xs : List Int) : Prop := B0 ≤ g ∧ ∃ v, w.heap[g]? = some (.cells #[v] 95 (0, 0)) ∧ (Kd.int .i64).R 3 w B0 P v xs
/-- Every block of cells that is neither a row of ints nor a writer is as it was. -/
structure KeepT (w w' : World) : Prop where
  size : w.heap.size ≤ w'.heap.size
  block : ∀ (k : Nat) (cs : Array Value) (t : TypeId) (fr : Nat × Nat), w.heap[k]? = some (.cells cs t fr) → t ≠ 3 → t ≠ 95 → w'.heap[k]? = some (.cells cs t fr)
  other : ∀ (k : Nat) (o : Obj), w.heap[k]? = some o → o.isCells = false → w'.heap[k]? = some o
theorem KeepT.refl (w : World) : KeepT w w := ⟨Nat.le_refl _, fun _ _ _ _ h _ _ => h, fun _ _ h _ => h⟩
theorem KeepT.trans {a b c : World} (h : KeepT a b) (k : KeepT b c) : KeepT a c := ⟨Nat.le_trans h.size k.size, fun i cs t fr hi h1 h2 => k.block i cs t fr (h.block i cs t fr hi h1 h2) h1 h2, fun i o hi ho => k.other i o (h.other i o hi ho) ho⟩
theorem KeepT.below {w w' : World} (h : Below w.heap.size w w') : KeepT w w' := ⟨h.size, fun k cs t fr hk _ _ => (h.block k (Array.getElem?_eq_some_iff.1 hk).1).trans hk, fun k o hk _ => (h.block k (Array.getElem?_eq_some_iff.1 hk).1).trans hk⟩
/-- What a row of ints leaves when it is written. -/
theorem KeepT.grown {w w' : World} {row : Option Nat} (h : w.grownBy w' row) (hr : ∀ k, row = some k → ∃ cs fr, w.heap[k]? = some (.cells cs 3 fr)) : KeepT w w' := by
  refine ⟨h.size, fun k cs t fr hk h3 _ => ?_, fun k o hk ho => ?_⟩
  · refine (h.block k (Array.getElem?_eq_some_iff.1 hk).1 (fun e => ?_)).trans hk
    obtain ⟨cs', fr', hc⟩ := hr k e.symm
    rw [hk] at hc
    injection hc with hc
    injection hc with _ ht
    exact h3 ht
  · refine (h.block k (Array.getElem?_eq_some_iff.1 hk).1 (fun e => ?_)).trans hk
    obtain ⟨cs', fr', hc⟩ := hr k e.symm
    rw [hk] at hc
    injection hc with hc
    rw [hc] at ho
    cases ho
theorem KeepT.set {w : World} {g j : Nat} {cs : Array Value} {fr : Nat × Nat} (u : Value) (hg : w.heap[g]? = some (.cells cs 95 fr)) : KeepT w (w.setCell ⟨g, j, none⟩ u) := by
  refine ⟨by simp [World.setCell], fun k cs' t fr' hk _ h95 => ?_, fun k o hk ho => ?_⟩
  · refine (Below.heap_setCell w _ u k (fun e => ?_)).trans hk
    subst e
    rw [hk] at hg
    injection hg with hg
    injection hg with _ ht
    exact h95 ht
  · refine (Below.heap_setCell w _ u k (fun e => ?_)).trans hk
    subst e
    rw [hk] at hg
    injection hg with hg
    rw [hg] at ho
    cases ho

set_option maxHeartbeats 800000 in
set_option maxRecDepth 100000 in
theorem c79 (P : Nat → Prop) (B0 g : Nat) (xs : List Int) (A : Option Addr) (c : Nat) (l : List Int) (w : World) (hs : WS P B0 g w xs) (hP : ∀ k, w.heap.size ≤ k → P k) (hl : (Kd.int .i64).C w A l.length l) (hB : B0 ≤ w.heap.size) (hn : xs.length + l.length ≤ 1000000000) :
    Calls Try.prog 79 #[.pointer (some ⟨g, 0, none⟩), .slice A l.length c] w fun e w' => e = .returned (.tuple #[]) ∧ WS P B0 g w' (xs ++ l) ∧ Below B0 w w' ∧ KeepT w w' ∧ ∀ k, k < w.heap.size → k ≠ g → ¬ P k → w'.heap[k]? = w.heap[k]? := by
  obtain ⟨hg, v, hb, hr⟩ := hs
  obtain ⟨A0, c0, rfl⟩ := Kd.R_slice hr
  have hu := Try.underlying95
  have hc0 := (blk_cell hb 0).trans rfl
  have HR := Aside0.mk hr
  have HG := Aside0.mk hb
  have HL := Aside0.mk hl
  clear hr hb hl
  go_enter Try.func79, Try.ntmps79
  go_wp2_with ((with_reducible refine gate_dst (N := 10) rfl ?_); refine Kd.R_append_row (Value.int .i64) (0 : Int) (w0 := w) B0 rfl _ _ 32 3 (.int .i64 0) 8 rfl Try.underlying32 info3' rfl (by decide) (.slice A0 xs.length c0) xs l A l.length c P rfl rfl hP HR.out HL.out (Below.refl _ _) hB (by omega) ?_; intro v1 w1 ho hb1 hgr hat; obtain ⟨A1, c1, rfl⟩ := Kd.R_slice ho; have hb2 := blk_grown HG.out hgr (fun e => Kd.R_ne HR.out HG.out (by decide) e); have hc1 := (blk_cell hb2 0).trans rfl; have hf1 := blk_frozen hb2 0)
  go_end0
  have hty : ∀ q, q ∈ 3 :: (Kd.int .i64).E → q ≠ 95 := by
    intro q hq
    rcases List.mem_cons.1 hq with rfl | hq
    · decide
    · exact absurd hq List.not_mem_nil
  rw [← List.length_append]
  refine ⟨rfl, ⟨hg, _, blk_put hb2 0 _ rfl, Kd.R_set ho hb2 hty 0 _⟩, hb1.setCell hg _, ?_, fun k hk hkg hkp => ?_⟩
  rotate_left
  · exact (Below.heap_setCell w1 _ _ k hkg).trans (hgr.block k hk (fun e => hkp (HR.out.1 k e.symm)))
  refine (KeepT.grown hgr (fun k hk => ?_)).trans (KeepT.set _ hb2)
  obtain ⟨inner, hw⟩ := Kd.R_own HR.out
  obtain ⟨cells, hc⟩ := own_typed hw k hk
  exact ⟨cells, (0, 0), hc⟩

abbrev Ch (len : Nat) := { j : Nat // 5 * j < len }
def chL (len j : Nat) : Nat := if len - 5 * j < 5 then len - 5 * j else 5
def chV (b len : Nat) (x : Ch len) : Value := .slice (some ⟨b, 5 * x.1, none⟩) (chL len x.1) (chL len x.1)

/-- Two blocks lie as they lay. -/
def KeepB (Bs Bn : Nat) (W W' : World) : Prop := W'.heap[Bs]? = W.heap[Bs]? ∧ W'.heap[Bn]? = W.heap[Bn]?
section
open Go.Shelf
attribute [local go_sem] Oper.semAt_some
attribute [local go_sem] max2_int min2_int max_two min_two

set_option maxHeartbeats 2000000 in
set_option maxRecDepth 100000 in
theorem chunk1_in (n : Nat) (hn : 1 ≤ n) (l Bs Bn b len cap : Nat) (hreach : len ≤ 140737488351232) (hlc : len ≤ cap) (J Jx : List (Ch len) → World → Prop) (hJd : ∀ s W, J s W → J s W.drew)
    (hY : ∀ pre x W, J pre W → pre.length < (len + 4) / 5 → YieldAt Fence.wide (n - 1) Try.prog l #[chV b len x] W fun e W' =>
      (e = .returned (.bool true) ∧ J (pre ++ [x]) W' ∧ KeepB Bs Bn W W') ∨ (e = .returned (.bool false) ∧ Jx (pre ++ [x]) W'))
    (W : World) (hBs : W.cell? ⟨Bs, 0, none⟩ = some (.slice (some ⟨b, 0, none⟩) len cap)) (hBn : W.cell? ⟨Bn, 0, none⟩ = some (.int .i64 5)) (h0 : J [] W) :
    CallsIn Fence.wide n Try.prog 142 #[.func (.yield l) #[] #[], .pointer (some ⟨Bs, 0, none⟩), .pointer (some ⟨Bn, 0, none⟩)] W fun e W' => (∃ v, e = .returned v) ∧
      ((∃ ys, ys.map Subtype.val = List.range ((len + 4) / 5) ∧ J ys W') ∨ (∃ pre, True ∧ Jx pre W')) := by
  refine callsIn_of_wp Try.func142 rfl trivial ?_ rfl
  simp only [Try.ntmps142, List.size_toArray, List.length_cons, List.length_nil, Nat.reduceAdd, Nat.reduceSub, Array.replicate_succ, Array.replicate_zero, List.push_toArray, List.append_toArray, List.nil_append, List.cons_append]
  gi_wp2
  gi_loopw [4] (fun i wr => ∃ (k : Nat) (pre : List (Ch len)), k ≤ (len + 4) / 5 ∧ i = .int .i64 (5 * k : Nat) ∧ pre.map Subtype.val = List.range k ∧ J pre wr ∧ KeepB Bs Bn W wr)
    (fun i _ => len + 5 - (intOf i).toNat)
  case atStart => exact ⟨0, [], Nat.zero_le _, rfl, rfl, h0, ⟨rfl, rfl⟩⟩
  case round =>
    obtain ⟨k, pre, hk, rfl, hpre, hJs, hnx⟩ := hrel
    have c1 := (World.cell?_of_block (a := ⟨Bs, 0, none⟩) hnx.1).trans hBs
    have c2 := (World.cell?_of_block (a := ⟨Bn, 0, none⟩) hnx.2).trans hBn
    have hpl : pre.length = k := by simpa using congrArg List.length hpre
    by_cases hlt : 5 * k < len
    · obtain ⟨fn, tmps, assign, body, hy, hR⟩ := hY pre ⟨k, hlt⟩ wr.drew (hJd _ _ hJs) (by rw [hpl]; omega)
      by_cases h5 : len - 5 * k < 5
      · have h5i : ((len - 5 * k : Nat) : Int) < 5 := by omega
        unfold chV chL at hy
        dsimp only at hy
        rw [if_pos h5] at hy
        have hd : decide (5 * (k : Int) < (len : Int)) = true := decide_eq_true (by omega)
        gi_wp2
        gi_region
        gi_wp2
        refine hR.mono ?_
        rintro e W3 (⟨rfl, hJ3, hk3⟩ | ⟨rfl, hJx3⟩)
        · have c3 := (World.cell?_of_block (a := ⟨Bn, 0, none⟩) (hk3.2.trans hnx.2)).trans hBn
          gi_wp2
          go_roundw
          case rel => exact ⟨k + 1, pre ++ [⟨k, hlt⟩], by omega, by go_num, by rw [List.map_append, hpre, List.range_succ]; rfl, hJ3, ⟨hk3.1.trans hnx.1, hk3.2.trans hnx.2⟩⟩
          case measure => simp [intOf]; omega
        · gi_wp2
          refine bodyPost_ret (results_none rfl _ _ _) rfl ?_
          exact ⟨⟨_, rfl⟩, .inr ⟨_, trivial, hJx3⟩⟩
      · have h5i : ¬ ((len - 5 * k : Nat) : Int) < 5 := by omega
        unfold chV chL at hy
        dsimp only at hy
        rw [if_neg h5] at hy
        have hd : decide (5 * (k : Int) < (len : Int)) = true := decide_eq_true (by omega)
        gi_wp2
        gi_region
        gi_wp2
        refine hR.mono ?_
        rintro e W3 (⟨rfl, hJ3, hk3⟩ | ⟨rfl, hJx3⟩)
        · have c3 := (World.cell?_of_block (a := ⟨Bn, 0, none⟩) (hk3.2.trans hnx.2)).trans hBn
          gi_wp2
          go_roundw
          case rel => exact ⟨k + 1, pre ++ [⟨k, hlt⟩], by omega, by go_num, by rw [List.map_append, hpre, List.range_succ]; rfl, hJ3, ⟨hk3.1.trans hnx.1, hk3.2.trans hnx.2⟩⟩
          case measure => simp [intOf]; omega
        · gi_wp2
          refine bodyPost_ret (results_none rfl _ _ _) rfl ?_
          exact ⟨⟨_, rfl⟩, .inr ⟨_, trivial, hJx3⟩⟩
    · gi_wp2
      go_end0
      exact ⟨⟨_, rfl⟩, .inl ⟨pre, by rw [hpre]; congr 1; omega, hJs⟩⟩

set_option maxHeartbeats 400000 in
theorem c127 (A : Option Addr) (n c : Nat) (w : World) :
    Calls Try.prog 127 #[.slice A n c, .int .i64 5] w fun e w' => e = .returned (.func (.func 142) #[] #[.pointer (some ⟨w.heap.size, 0, none⟩), .pointer (some ⟨w.heap.size + 1, 0, none⟩)]) ∧ (w.alloc (.cells #[.slice A n c] 81)).alloc (.cells #[.int .i64 5] 3) = w' := by
  go_enter Try.func127, Try.ntmps127
  go_wp2_with fail
  go_ret
  exact ⟨rfl, rfl⟩

/-- The first i bytes of chunk j of a string, as a number. -/
def cw (s : ByteArray) (j : Nat) : Nat → Int
  | 0 => 0
  | i + 1 => cw s j i * 256 + bt s ((5 * j + i : Nat) : Int)
def chunkW (s : ByteArray) (j : Nat) : Int := cw s j 5
/-- The words of a string. -/
def textW (s : ByteArray) : List Int := (List.range ((s.size + 4) / 5)).map (chunkW s)
theorem cw_range (s : ByteArray) (j : Nat) : ∀ i, 0 ≤ cw s j i ∧ cw s j i < 256 ^ i
  | 0 => by simp [cw]
  | i + 1 => by
    have h := cw_range s j i
    have hb := bt_range s ((5 * j + i : Nat) : Int)
    simp only [cw, Int.pow_succ]
    omega

theorem chunk_stops (n : Nat) (hn : 1 ≤ n) (Bs Bn b len cap : Nat) (hreach : len ≤ 140737488351232) (hlc : len ≤ cap) (w : World) (hs : Bs < w.heap.size) (hb : Bn < w.heap.size)
    (hBs : w.cell? ⟨Bs, 0, none⟩ = some (.slice (some ⟨b, 0, none⟩) len cap)) (hBn : w.cell? ⟨Bn, 0, none⟩ = some (.int .i64 5)) :
    SeqStopsK Fence.wide n Try.prog 142 #[.pointer (some ⟨Bs, 0, none⟩), .pointer (some ⟨Bn, 0, none⟩)] (fun x : Ch len => #[chV b len x]) (KeepB Bs Bn) (fun ys => ys.map Subtype.val = List.range ((len + 4) / 5)) (fun _ => True) ((len + 4) / 5) w := fun l J Jx W hW hJ _ hY h0 =>
  chunk1_in n hn l Bs Bn b len cap hreach hlc J Jx (fun t V h => hJ t V _ none h ⟨rfl, rfl, rfl, Nat.le_refl _, fun _ _ _ => rfl⟩ (fun r e => by cases e)) hY W ((hW.cell (p := ⟨Bs, 0, none⟩) hs).trans hBs) ((hW.cell (p := ⟨Bn, 0, none⟩) hb).trans hBn) h0

end
end Go.Proofs.Ytkopbaikmlajmaa.Q
namespace Go.Proofs.Ytkopbaikmlajmaa.Q
open Go.RowKit Go.Proofs.YtkopbaikmlajmaaW.PrintWords Go.Proofs.YtkopbaikmlajmaaW.PrintLast Go.Proofs.YtkopbaikmlajmaaW.PrintMore
set_option linter.unusedVariables false
set_option linter.unusedSimpArgs false
theorem KeepT.own {β : Type} (w : World) : OwnFrom w.heap.size (fun (_ : β) W => KeepT w W) := fun _ X Y row hs hg hr =>
  ⟨Nat.le_trans hs.size hg.size,
   fun k cs t fr hk h1 h2 => (hg.block k (Array.getElem?_eq_some_iff.1 (hs.block k cs t fr hk h1 h2)).1 (fun e => by have := (hr k e.symm).1; have := (Array.getElem?_eq_some_iff.1 hk).1; omega)).trans (hs.block k cs t fr hk h1 h2),
   fun k o hk ho => (hg.block k (Array.getElem?_eq_some_iff.1 (hs.other k o hk ho)).1 (fun e => by have := (hr k e.symm).1; have := (Array.getElem?_eq_some_iff.1 hk).1; omega)).trans (hs.other k o hk ho)⟩
theorem WS.own {β : Type} (P : Nat → Prop) (B0 B g : Nat) (f : β → List Int) : OwnFrom B (fun (s : β) W => WS P B0 g W (f s)) := by
  rintro s X Y row ⟨hg, v, hb, hR⟩ hgr hr
  refine ⟨hg, v, ?_, ?_⟩
  · exact blk_grown hb hgr (fun e => by obtain ⟨o, ho, hc⟩ := (hr g e.symm).2; rw [hb] at ho; cases ho; cases hc)
  · exact Kd.R_mono (Kd.R_grown (Kd.R_bound hR) hgr (fun k hk e => by
      obtain ⟨q, hq, cells, hc⟩ := hk.2.2.2
      obtain ⟨o, ho, hc'⟩ := (hr k e.symm).2
      rw [hc] at ho; cases ho; cases hc')) (fun _ h => h.1)
theorem blk_own {β : Type} {w : World} (k : Nat) (hk : k < w.heap.size) : OwnFrom w.heap.size (fun (_ : β) W => w.heap.size ≤ W.heap.size ∧ W.heap[k]? = w.heap[k]?) := fun _ X Y row hs hg hr =>
  ⟨Nat.le_trans hs.1 hg.size, (hg.block k (Nat.lt_of_lt_of_le hk hs.1) (fun e => by have := (hr k e.symm).1; omega)).trans hs.2⟩

theorem KeepT.cell {w W : World} (h : KeepT w W) {k : Nat} {cs : Array Value} {t : TypeId} {fr : Nat × Nat} (hk : w.heap[k]? = some (.cells cs t fr)) (h1 : t ≠ 3) (h2 : t ≠ 95) {j : Nat} {v : Value} (hc : w.cell? ⟨k, j, none⟩ = some v) : W.cell? ⟨k, j, none⟩ = some v :=
  (World.cell?_of_block (a := ⟨k, j, none⟩) ((h.block k cs t fr hk h1 h2).trans hk.symm)).trans hc
theorem C_lits (w : World) (l : List Int) (hl : l.length ≤ 9223372036854775807) : (Kd.int .i64).C (w.alloc (.cells (l.map (fun x => Value.int .i64 x)).toArray 3)) (some ⟨w.heap.size, 0, none⟩) l.length l := by
  refine ⟨rfl, hl, fun _ => ⟨_, rfl, fun j p hp => ⟨[.int .i64 p], rfl, rfl, fun i u hu => ?_⟩⟩⟩
  have hi : i = 0 := by
    rcases i with _ | i
    · rfl
    · simp at hu
  subst hi
  simp at hu
  subst hu
  have e : (Addr.add ⟨w.heap.size, 0, none⟩ (j * (Kd.int .i64).sz + 0)) = ⟨w.heap.size, j, none⟩ := by
    show Addr.add _ (j * 1 + 0) = _
    simp [Addr.add]
    exact fun h => h.symm
  rw [e]
  refine (blk_cell (blk_new w _) j).trans ?_
  simp [hp]
theorem C_lit1 (w : World) (x : Int) : (Kd.int .i64).C (w.alloc (.cells #[.int .i64 x] 3)) (some ⟨w.heap.size, 0, none⟩) [x].length [x] := C_lits w [x] (by simp)
theorem C_lit2 (w : World) (x y : Int) : (Kd.int .i64).C (w.alloc (.cells #[.int .i64 x, .int .i64 y] 3)) (some ⟨w.heap.size, 0, none⟩) [x, y].length [x, y] := C_lits w [x, y] (by simp)
theorem WS.below {P : Nat → Prop} {B0 g : Nat} {w w1 : World} {xs : List Int} (h : WS P B0 g w xs) (hb : Below w.heap.size w w1) : WS P B0 g w1 xs := by
  obtain ⟨hg, v, hb', hr⟩ := h
  exact ⟨hg, v, (hb.block g (Array.getElem?_eq_some_iff.1 hb').1).trans hb', Kd.R_below hr hb⟩
theorem WS.alloc {P : Nat → Prop} {B0 g : Nat} {w : World} {xs : List Int} (h : WS P B0 g w xs) (o : Obj) : WS P B0 g (w.alloc o) xs := h.below (below_al w o)
section
open Go.Shelf
attribute [local go_sem] Oper.semAt_some
set_option maxHeartbeats 2000000 in
set_option maxRecDepth 100000 in
theorem c80 (B0 g : Nat) (xs : List Int) (s : ByteArray) (w : World) (hs : WS (fun _ => True) B0 g w xs) (hB : B0 ≤ w.heap.size) (hn : xs.length + s.size ≤ 900000000) :
    Calls Try.prog 80 #[.pointer (some ⟨g, 0, none⟩), .string s] w fun e w' => e = .returned (.tuple #[]) ∧ WS (fun _ => True) B0 g w' (xs ++ textW s) ∧ Below B0 w w' ∧ KeepT w w' := by
  refine (callsIn_wide (n := 8)).1 ?_
  refine callsIn_of_wp_marks Try.func80 rfl trivial ?_ rfl
  simp only [Try.ntmps80, List.size_toArray, List.length_cons, List.length_nil, Nat.reduceAdd, Nat.reduceSub, Array.replicate_succ, Array.replicate_zero, List.push_toArray, List.append_toArray, List.nil_append, List.cons_append]
  have hconv := fun wx => Lib.run_convert_string_bytes (P := Try.prog) wx 9 81 5 s Try.underlying9 Try.underlying81 Try.underlying5
  have HS := Aside0.mk hs
  have hgw : g < w.heap.size := by obtain ⟨_, v, hb, _⟩ := hs; exact (Array.getElem?_eq_some_iff.1 hb).1
  clear hs
  gi_wp2_with ((refine ⟨trivial, ?_⟩; gi_at_call 127; refine (callsIn_wide.2 (c127 _ _ _ _)).mono ?_; rintro e w' ⟨rfl, rfl⟩))
  simp only [Lib.bytesWorld_size, World.size_alloc]
  have hcap : s.size ≤ grownCap (w.alloc (.cells #[.pointer (some ⟨g, 0, none⟩)] 93)) s.size 0 5 := grownCap_ge _ _ _ _
  generalize grownCap (w.alloc (.cells #[.pointer (some ⟨g, 0, none⟩)] 93)) s.size 0 5 = cap at *
  obtain ⟨wb, hwb⟩ : ∃ wb, wb = Lib.bytesWorld (w.alloc (.cells #[.pointer (some ⟨g, 0, none⟩)] 93)) 5 s := ⟨_, rfl⟩
  have hbs : wb.heap.size = w.heap.size + 1 + 1 := by rw [hwb, Lib.bytesWorld_size, World.size_alloc]
  have hb0 : Below w.heap.size w wb := by
    rw [hwb]
    refine below_step (below_al w (.cells #[.pointer (some ⟨g, 0, none⟩)] 93)) ?_
    exact bytes_below s _
  have hp0 : wb.heap[w.heap.size]? = some (.cells #[.pointer (some ⟨g, 0, none⟩)] 93 (0, 0)) := by
    rw [hwb, Lib.bytesWorld_at_old _ _ _ _ (by simp)]
    exact blk_new w _
  have hby : ∀ k : Nat, k < s.size → wb.cell? ⟨w.heap.size + 1, k, none⟩ = some (.int .u8 (bt s k)) := by
    intro k hk
    have := bytes_cell s (w.alloc (.cells #[.pointer (some ⟨g, 0, none⟩)] 93)) k hk
    rw [hwb]
    simpa using this
  have hbb : ∃ cs fr, wb.heap[w.heap.size + 1]? = some (.cells cs 5 fr) := by
    have := Lib.bytesWorld_at_new (w.alloc (.cells #[.pointer (some ⟨g, 0, none⟩)] 93)) 5 s
    rw [World.size_alloc] at this
    rw [hwb]
    exact ⟨_, _, this⟩
  rw [← hwb]
  clear hwb hconv
  obtain ⟨wc, hwc⟩ : ∃ wc, wc = (wb.alloc (.cells #[.slice (some ⟨w.heap.size + 1, 0, none⟩) s.size cap] 81)).alloc (.cells #[.int .i64 5] 3) := ⟨_, rfl⟩
  rw [← hwc]
  have hcs : wc.heap.size = w.heap.size + 4 := by rw [hwc]; simp [hbs]
  have hbc : Below wb.heap.size wb wc := by rw [hwc]; exact below_step (below_al wb _) (below_al _ _)
  have hs0 : wc.heap[w.heap.size + 2]? = some (.cells #[.slice (some ⟨w.heap.size + 1, 0, none⟩) s.size cap] 81 (0, 0)) := by
    rw [hwc, show w.heap.size + 2 = wb.heap.size by omega]
    exact (Below.heap_alloc _ _ _ (by simp)).trans (blk_new wb _)
  have hn0 : wc.heap[w.heap.size + 3]? = some (.cells #[.int .i64 5] 3 (0, 0)) := by
    rw [hwc, show w.heap.size + 3 = (wb.alloc (.cells #[.slice (some ⟨w.heap.size + 1, 0, none⟩) s.size cap] 81)).heap.size by simp [hbs]]
    exact blk_new _ _
  clear hwc
  have hp1 := (hbc.block w.heap.size (by omega)).trans hp0
  have hby1 : ∀ k : Nat, k < s.size → wc.cell? ⟨w.heap.size + 1, k, none⟩ = some (.int .u8 (bt s k)) := fun k hk => keep hbc (hby k hk)
  obtain ⟨cs, fr, hbb0⟩ := hbb
  have hbb1 := (hbc.block (w.heap.size + 1) (by omega)).trans hbb0
  have hwc1 : Below w.heap.size w wc := below_step hb0 hbc
  clear hb0 hby hbb0 hp0 hbc hbs
  have HS1 : WS (fun k => k ≠ w.heap.size + 3) B0 g wc xs := by
    obtain ⟨hg, v, hb, hr⟩ := HS.out
    exact ⟨hg, v, (hwc1.block g hgw).trans hb, Kd.R_mono (Kd.R_below (Kd.R_bound hr) hwc1) (fun k hk => by have := hk.2.2.1; omega)⟩
  refine wpIn_rangeFunc_ownG rfl (by decide) (gf := 142) (lb := #[.pointer (some ⟨w.heap.size + 2, 0, none⟩), .pointer (some ⟨w.heap.size + 3, 0, none⟩)]) rfl trivial (enters_of Try.func142 (by kernel_rfl) rfl)
    (chunk_stops (8 - 1) (by decide) (w.heap.size + 2) (w.heap.size + 3) (w.heap.size + 1) s.size cap (by omega) hcap wc (by omega) (by omega) ((blk_cell hs0 0).trans rfl) ((blk_cell hn0 0).trans rfl)) (fun h k => ⟨k.1.trans h.1, k.2.trans h.2⟩) ?hKb (Below.refl _ _) (fun _ => rfl)
    (fun pre W => WS (fun k => k ≠ w.heap.size + 3) B0 g W (xs ++ pre.map (fun y => chunkW s y.1)) ∧ Below B0 wc W ∧ KeepT wc W ∧ (wc.heap.size ≤ W.heap.size ∧ W.heap[w.heap.size + 3]? = wc.heap[w.heap.size + 3]?))
    (fun _ _ _ => False)
    ((WS.own _ B0 _ g (fun pre : List (Ch s.size) => xs ++ pre.map (fun y => chunkW s y.1))).and ((ownFrom_below (by omega) (by omega)).and ((KeepT.own wc).and (blk_own (w.heap.size + 3) (by omega)))))
    (fun _ _ _ _ _ hs _ _ => hs)
    ⟨by simpa using HS1, Below.refl _ _, KeepT.refl _, Nat.le_refl _, rfl⟩
    (fun x => { tmps := #[.pointer (some ⟨g, 0, none⟩), .string s, .pointer (some ⟨w.heap.size, 0, none⟩), undef, chV (w.heap.size + 1) s.size x, undef, undef, .string s, .slice (some ⟨w.heap.size + 1, 0, none⟩) s.size cap, .func (.func 142) #[] #[.pointer (some ⟨w.heap.size + 2, 0, none⟩), .pointer (some ⟨w.heap.size + 3, 0, none⟩)], chV (w.heap.size + 1) s.size x, undef, undef, undef, undef, undef, undef, undef, undef, undef, undef, undef, undef, undef, undef, undef, undef, undef, undef, undef, undef, undef], defers := [] }) ?assign ?body ?done ?stop
  case hKb =>
    intro W l o o' hl ho _ _
    have := (Array.getElem?_eq_some_iff.1 ho).1
    exact ⟨World.putObj_heap_other (by omega), World.putObj_heap_other (by omega)⟩
  case assign =>
    intro l x W K hK
    gi_wp2
    exact hK
  case body =>
    rintro l pre x W ⟨hW, hBW, hKW, hsz, hbn⟩ hlen
    obtain ⟨j, hj⟩ := x
    have h1 : 1 ≤ 8 - 1 - 1 := by decide
    have hx1 := KeepT.cell hKW hp1 (by decide) (by decide) ((blk_cell hp1 0).trans rfl)
    have HB := Aside0.mk (fun k hk => KeepT.cell hKW hbb1 (by decide) (by decide) (hby1 k hk))
    gi_wp2
    gi_loopw [5, 6, 11] (fun u v i wr => ∃ k : Nat, k ≤ 5 ∧ i = .int .i64 k ∧ u = .int .i64 (cw s j k) ∧ wr = W) (fun _ _ i _ => 5 - (intOf i).toNat)
    case atStart => exact ⟨0, by omega, rfl, rfl, rfl⟩
    case round =>
      obtain ⟨k, hk5, rfl, rfl, rfl⟩ := hrel
      have hcr := cw_range s j k
      have hcw : cw s j (k + 1) = cw s j k * 256 + bt s ((5 * j + k : Nat) : Int) := rfl
      have hc5 : chunkW s j = cw s j 5 := rfl
      have hL : chL s.size j ≤ 5 ∧ 5 * j + chL s.size j ≤ s.size ∧ (5 * j + k < s.size → k < 5 → k < chL s.size j) := by unfold chL; split <;> omega
      unfold chV
      generalize chL s.size j = L at *
      obtain ⟨c, hc⟩ : ∃ c, c = cw s j k := ⟨_, rfl⟩
      rw [← hc] at hcr hcw ⊢
      by_cases hlt : k < 5
      · have hp : (256 : Int) ^ k ≤ 4294967296 := (by decide : ∀ k : Nat, k < 5 → (256 : Int) ^ k ≤ 4294967296) k hlt
        have hc2 : c < 4294967296 := by omega
        have hc1 := hcr.1
        clear hcr hp
        by_cases hin : k < L
        · have hcell := HB.out (5 * j + k) (by omega)
          have hr := bt_range s ((5 * j + k : Nat) : Int)
          obtain ⟨y, hy⟩ : ∃ y, y = bt s ((5 * j + k : Nat) : Int) := ⟨_, rfl⟩
          rw [← hy] at hcell hr hcw
          have hor := or_i64_add' y (c * 256) 8 c (by omega) (by omega) (by omega) (by omega) (by omega) (by omega)
          have hd : decide ((k : Int) < (L : Int)) = true := decide_eq_true (by omega)
          have hd5 : decide ((k : Int) < 5) = true := decide_eq_true (by omega)
          have hsh : IntKind.i64.wrap (c * 256) = c * 256 := wrap_i64_small _ (by omega) (by omega)
          gi_wp2
          refine ⟨⟨k + 1, by omega, by go_num, ?_, trivial⟩, by simp [intOf]; omega⟩
          subst hy
          subst hc
          have hpc : ((5 * j + k : Nat) : Int) = 5 * (j : Int) + (k : Int) := by omega
          rw [hpc] at hor hr hcw
          have hwr : wrap64 (bt s (5 * (j : Int) + (k : Int))) = bt s (5 * (j : Int) + (k : Int)) := IntWalk.wrap64_in _ (by omega)
          rw [hwr, hcw, hor]
        · have hb0 : bt s ((5 * j + k : Nat) : Int) = 0 := by
            unfold bt
            rw [dif_neg (by omega)]
          have hd : decide ((k : Int) < (L : Int)) = false := decide_eq_false (by omega)
          have hd5 : decide ((k : Int) < 5) = true := decide_eq_true (by omega)
          have hsh : IntKind.i64.wrap (c * 256) = c * 256 := wrap_i64_small _ (by omega) (by omega)
          gi_wp2
          refine ⟨⟨k + 1, by omega, by go_num, ?_, trivial⟩, by simp [intOf]; omega⟩
          subst hc
          rw [hcw, hb0]
          simp
      · obtain rfl : k = 5 := by omega
        have hd5 : decide ((5 : Int) < 5) = false := by decide
        have hpl : pre.length ≤ s.size := by omega
        have HKW := Aside0.mk hKW
        have HBN := Aside0.mk hbn
        clear hbn hKW
        gi_wp2
        refine ⟨trivial, ?_⟩
        refine (CallsIn.inRound l (callsIn_wide.2 (c79 (fun k => k ≠ w.heap.size + 3) B0 g (xs ++ pre.map (fun y => chunkW s y.1)) (some ⟨wr.heap.size, 0, none⟩) 1 [cw s j 5] _ (WS.alloc hW _) ?_ (C_lit1 wr (cw s j 5)) ?_ ?_))).mono ?_
        · intro k hk
          rw [World.size_alloc] at hk
          omega
        · rw [World.size_alloc]
          omega
        · simp
          omega
        rintro e w' ⟨rfl, hW', hB', hK', hk'⟩
        gi_wp2
        have hKA : KeepT wr w' := (KeepT.below (below_al wr _)).trans hK'
        have hbn' : w'.heap[w.heap.size + 3]? = wr.heap[w.heap.size + 3]? := (hk' _ (by rw [World.size_alloc]; omega) (by omega) (by simp)).trans ((below_al wr _).block _ (by omega))
        refine ⟨⟨hKA.size, fun k o _ h1 h2 => hKA.other k o h1 h2⟩, ⟨?_, hbn'⟩, ?_, ?_, HKW.out.trans hKA, Nat.le_trans hsz hKA.size, hbn'.trans HBN.out⟩
        · have h81 := HKW.out.block _ _ _ _ hs0 (by decide) (by decide)
          exact (hKA.block _ _ _ _ h81 (by decide) (by decide)).trans h81.symm
        · simpa [hc5] using hW'
        · exact hBW.trans ((Below.alloc (Below.refl B0 wr) (by omega) _).trans hB')
  case done =>
    rintro D ys W hD hys ⟨hW, hBW, hKW, hsz, hbn⟩ hK
    gi_wp2
    refine ⟨by simp, .inl ⟨_, _, rfl, run_takeDeferred hK, ?_⟩⟩
    have hwB : w.heap.size ≤ W.heap.size := by omega
    refine ⟨_, results_none rfl _ _ _, rfl, ?_, ?_, ?_⟩
    · have h1 : xs ++ ys.map (fun y => chunkW s y.1) = xs ++ textW s := by
        unfold textW
        rw [← hys, List.map_map]
        rfl
      rw [← h1]
      refine OwnFrom.putObj (WS.own (β := Unit) _ B0 D g (fun _ => _)) (s := ()) _ ?_ (Nat.le_refl _) hK rfl
      obtain ⟨hg, v, hb, hr⟩ := hW
      exact ⟨hg, v, hb, Kd.R_mono hr (fun _ _ => trivial)⟩
    · exact (hwc1.mono hB).trans (hBW.trans (belowK_b (w := wc) (by omega) W D _ _ hD hK rfl rfl))
    · refine (KeepT.below hwc1).trans ?_
      exact OwnFrom.putObj (KeepT.own (β := Unit) wc) (s := ()) _ hKW hD hK rfl
  case stop =>
    rintro D c pre W hD _ h _
    exact h.elim
end
end Go.Proofs.Ytkopbaikmlajmaa.Q
namespace Go.Proofs.Ytkopbaikmlajmaa.Q
open Go.RowKit Go.Proofs.YtkopbaikmlajmaaW.PrintWords Go.Proofs.YtkopbaikmlajmaaW.PrintLast Go.Proofs.YtkopbaikmlajmaaW.PrintMore
set_option linter.unusedVariables false
set_option linter.unusedSimpArgs false

def trI (b : Bool) : Int := if b = true then 1 else 0
theorem trI_range (b : Bool) : 0 ≤ trI b ∧ trI b ≤ 1 := by unfold trI; split <;> omega
/-- Places as one number, four bits each, the first lowest. -/
def packI : List Int → Int
  | [] => 0
  | c :: l => packI l * 16 + c
def colW (c : S56) : List Int := (c.f1 + 4 * trI c.f2 + 8 * c.f0.size) :: textW c.f0
def idxW (x : S65) : List Int := (trI x.f2 + 2 * x.f1.length + 32 * x.f0.size) :: packI x.f1 :: textW x.f0
def valW (v : S40) : List Int := if v.f0 = 1 then [v.f1 + 549755813888] else if v.f0 = 3 then [v.f1] else (v.f2.size : Int) :: textW v.f2
def chkW (k : S42) : List Int := (k.f0 + 16 * k.f1) :: valW k.f2
def headW (nm : ByteArray) (cs : List S56) (xs : List S65) (ks : List S42) : List Int := ((cs.length : Int) + 16 * xs.length + 256 * ks.length + 4096 * nm.size) :: textW nm
/-- The words of a table that is valid. -/
def wordsL (nm : ByteArray) (cs : List S56) (xs : List S65) (ks : List S42) : List Int := headW nm cs xs ks ++ cs.flatMap colW ++ xs.flatMap idxW ++ ks.flatMap chkW
/-- The words that schema.Words returns. -/
def wordsE (nm : ByteArray) (cs : List S56) (xs : List S65) (ks : List S42) : List Int := if checkE nm cs xs ks = 0 then wordsL nm cs xs ks else []

/-- What a valid table obeys. -/
structure OkT (nm : ByteArray) (cs : List S56) (xs : List S65) (ks : List S42) : Prop where
  name : nameB nm = true
  nc : 1 ≤ cs.length ∧ cs.length ≤ 8
  col : ∀ i, i < cs.length → nameB (rd_T56 cs i).f0 = true ∧ dupC cs i = false ∧ 1 ≤ (rd_T56 cs i).f1 ∧ (rd_T56 cs i).f1 ≤ 3
  nx : xs.length ≤ 4
  idx : ∀ i, i < xs.length → nameB (rd_T65 xs i).f0 = true ∧ dupI xs i = false ∧ 1 ≤ (rd_T65 xs i).f1.length ∧ (rd_T65 xs i).f1.length ≤ cs.length ∧ ∀ k, k < (rd_T65 xs i).f1.length → badP (rd_T65 xs i).f1 cs.length k = false
  nk : ks.length ≤ 4
  chk : ∀ i, i < ks.length → 0 ≤ (rd_T42 ks i).f0 ∧ (rd_T42 ks i).f0 < cs.length ∧ 6 ≤ (rd_T42 ks i).f1 ∧ (rd_T42 ks i).f1 ≤ 11 ∧ validB (rd_T42 ks i).f2 = true ∧ (rd_T42 ks i).f2.f0 = (rd_T56 cs (rd_T42 ks i).f0).f1
theorem okT {nm : ByteArray} {cs : List S56} {xs : List S65} {ks : List S42} (h : checkE nm cs xs ks = 0) : OkT nm cs xs ks := by
  unfold checkE at h
  split at h; · cases h
  rename_i h1
  split at h; · cases h
  rename_i h2
  split at h; · contradiction
  rename_i h3
  split at h; · cases h
  rename_i h4
  split at h; · contradiction
  rename_i h5
  split at h; · cases h
  rename_i h6
  have h3' := firstE_all (Decidable.not_not.1 h3)
  have h5' := firstE_all (Decidable.not_not.1 h5)
  have h7' := firstE_all h
  refine ⟨by simpa using h1, by omega, fun i hi => ?_, by omega, fun i hi => ?_, by omega, fun i hi => ?_⟩
  · have := h3' i hi
    unfold colE at this
    split at this; · cases this
    split at this; · cases this
    split at this; · cases this
    rename_i a b c
    exact ⟨by simpa using a, by simpa using b, by omega, by omega⟩
  · have := h5' i hi
    unfold idxE at this
    split at this; · cases this
    split at this; · cases this
    split at this; · cases this
    split at this; · cases this
    rename_i a b c d
    refine ⟨by simpa using a, by simpa using b, by omega, by omega, fun k hk => ?_⟩
    rw [Bool.not_eq_true, List.any_eq_false] at d
    simpa using d k (List.mem_range.2 hk)
  · have := h7' i hi
    unfold chkE at this
    split at this; · cases this
    split at this; · cases this
    rename_i a b
    rw [not_or] at b
    exact ⟨by omega, by omega, by omega, by omega, by simpa using b.1, by simpa using b.2⟩
theorem nameB_size {s : ByteArray} (h : nameB s = true) : 1 ≤ s.size ∧ s.size ≤ 16 := by
  unfold nameB at h
  simp only [Bool.and_eq_true, decide_eq_true_eq] at h
  exact ⟨h.1.1.1.1, h.1.1.1.2⟩
theorem textW_length (s : ByteArray) : (textW s).length = (s.size + 4) / 5 := by simp [textW]
theorem validB_text {v : S40} (h : validB v = true) : v.f0 = 1 ∧ -549755813888 ≤ v.f1 ∧ v.f1 ≤ 549755813887 ∧ v.f2.toList = [] ∨ v.f0 = 3 ∧ (v.f1 = 0 ∨ v.f1 = 1) ∧ v.f2.toList = [] ∨ v.f0 = 2 ∧ v.f1 = 0 ∧ v.f2.size ≤ 40 := by
  unfold validB at h
  split at h
  · rename_i e
    simp only [Bool.and_eq_true, decide_eq_true_eq] at h
    exact .inl ⟨e, h.1.2, h.2, h.1.1⟩
  split at h
  · rename_i e
    simp only [Bool.and_eq_true, Bool.or_eq_true, decide_eq_true_eq] at h
    exact .inr (.inl ⟨e, h.2, h.1⟩)
  split at h
  · rename_i e
    simp only [Bool.and_eq_true, decide_eq_true_eq] at h
    exact .inr (.inr ⟨e, h.1, h.2⟩)
  · cases h
theorem flatMap_take {α : Type} (f : α → List Int) (l : List α) (z : α) (k : Nat) (hk : k < l.length) : (l.take (k + 1)).flatMap f = (l.take k).flatMap f ++ f (l.getD k z) := by
  rw [List.take_add_one, List.flatMap_append, List.getElem?_eq_getElem hk]
  simp [List.getD_eq_getElem?_getD, hk]
/-- A writer at block g, behind w; the memory that stood at wa stands. -/
structure St (w wa : World) (g : Nat) (wr : World) (ys : List Int) : Prop where
  ws : WS (fun _ => True) w.heap.size g wr ys
  below : Below w.heap.size w wr
  keep : KeepT wa wr
theorem St.step {w wa wr w1 : World} {g : Nat} {ys : List Int} (h : St w wa g wr ys) (hb : Below wr.heap.size wr w1) : St w wa g w1 ys :=
  ⟨h.ws.below hb, below_step h.below hb, h.keep.trans (KeepT.below hb)⟩
theorem St.al {w wa wr : World} {g : Nat} {ys : List Int} (h : St w wa g wr ys) (o : Obj) : St w wa g (wr.alloc o) ys := h.step (below_al wr o)
theorem St.add {w wa wr w1 : World} {g : Nat} {A : Option Addr} {c : Nat} {ys l : List Int} (h : St w wa g wr ys) (hb : Below wr.heap.size wr w1) (hl : (Kd.int .i64).C w1 A l.length l) (hn : ys.length + l.length ≤ 1000000000) :
    Calls Try.prog 79 #[.pointer (some ⟨g, 0, none⟩), .slice A l.length c] w1 fun e w' => e = .returned (.tuple #[]) ∧ St w wa g w' (ys ++ l) ∧ KeepT wr w' := by
  have h1 := h.step hb
  refine (c79 (fun _ => True) w.heap.size g ys A c l w1 h1.ws (fun _ _ => trivial) hl h1.below.size hn).mono ?_
  rintro e w' ⟨rfl, hw, hB, hk, _⟩
  exact ⟨rfl, ⟨hw, h1.below.trans hB, h1.keep.trans hk⟩, (KeepT.below hb).trans hk⟩
theorem St.add1 {w wa wr w1 : World} {g : Nat} {ys : List Int} (h : St w wa g wr ys) (hb : Below wr.heap.size wr w1) (x : Int) (hn : ys.length ≤ 1000000) :
    Calls Try.prog 79 #[.pointer (some ⟨g, 0, none⟩), .slice (some ⟨w1.heap.size, 0, none⟩) 1 1] (w1.alloc (.cells #[.int .i64 x] 3)) fun e w' => e = .returned (.tuple #[]) ∧ St w wa g w' (ys ++ [x]) ∧ KeepT wr w' :=
  h.add (l := [x]) (below_step hb (below_al w1 _)) (C_lit1 w1 x) (by simp; omega)
theorem St.add2 {w wa wr w1 : World} {g : Nat} {ys : List Int} (h : St w wa g wr ys) (hb : Below wr.heap.size wr w1) (x y : Int) (hn : ys.length ≤ 1000000) :
    Calls Try.prog 79 #[.pointer (some ⟨g, 0, none⟩), .slice (some ⟨w1.heap.size, 0, none⟩) 2 2] (w1.alloc (.cells #[.int .i64 x, .int .i64 y] 3)) fun e w' => e = .returned (.tuple #[]) ∧ St w wa g w' (ys ++ [x, y]) ∧ KeepT wr w' :=
  h.add (l := [x, y]) (below_step hb (below_al w1 _)) (C_lit2 w1 x y) (by simp; omega)
theorem St.add1' {w wa wr w1 : World} {g : Nat} {ys : List Int} (h : St w wa g wr ys) (hb : Below wr.heap.size wr w1) (x : Int) (B : Nat) (hB : B = w1.heap.size) (hn : ys.length ≤ 1000000) :
    Calls Try.prog 79 #[.pointer (some ⟨g, 0, none⟩), .slice (some ⟨B, 0, none⟩) 1 1] (w1.alloc (.cells #[.int .i64 x] 3)) fun e w' => e = .returned (.tuple #[]) ∧ St w wa g w' (ys ++ [x]) ∧ KeepT wr w' := by
  subst hB
  exact h.add1 hb x hn
theorem St.add2' {w wa wr w1 : World} {g : Nat} {ys : List Int} (h : St w wa g wr ys) (hb : Below wr.heap.size wr w1) (x y : Int) (B : Nat) (hB : B = w1.heap.size) (hn : ys.length ≤ 1000000) :
    Calls Try.prog 79 #[.pointer (some ⟨g, 0, none⟩), .slice (some ⟨B, 0, none⟩) 2 2] (w1.alloc (.cells #[.int .i64 x, .int .i64 y] 3)) fun e w' => e = .returned (.tuple #[]) ∧ St w wa g w' (ys ++ [x, y]) ∧ KeepT wr w' := by
  subst hB
  exact h.add2 hb x y hn
theorem bx3 {w : World} {b : Nat} {u0 u1 u2 : Value} {t : TypeId} (h : w.heap[b]? = some (.cells #[u0, u1, u2] t (0, 0))) : w.cell? ⟨b, 0, none⟩ = some u0 ∧ w.cell? ⟨b, 1, none⟩ = some u1 ∧ w.cell? ⟨b, 2, none⟩ = some u2 := ⟨blk_cell h 0, blk_cell h 1, blk_cell h 2⟩
theorem bx5 {w : World} {b : Nat} {u0 u1 u2 u3 u4 : Value} {t : TypeId} (h : w.heap[b]? = some (.cells #[u0, u1, u2, u3, u4] t (0, 0))) : w.cell? ⟨b, 0, none⟩ = some u0 ∧ w.cell? ⟨b, 1, none⟩ = some u1 ∧ w.cell? ⟨b, 2, none⟩ = some u2 ∧ w.cell? ⟨b, 3, none⟩ = some u3 ∧ w.cell? ⟨b, 4, none⟩ = some u4 := ⟨blk_cell h 0, blk_cell h 1, blk_cell h 2, blk_cell h 3, blk_cell h 4⟩
theorem St.text {w wa wr : World} {g : Nat} {ys : List Int} (h : St w wa g wr ys) (s : ByteArray) (hn : ys.length ≤ 1000000) (hs : s.size ≤ 1000000) :
    Calls Try.prog 80 #[.pointer (some ⟨g, 0, none⟩), .string s] wr fun e w' => e = .returned (.tuple #[]) ∧ St w wa g w' (ys ++ textW s) ∧ KeepT wr w' := by
  refine (c80 w.heap.size g ys s wr h.ws h.below.size (by omega)).mono ?_
  rintro e w' ⟨rfl, hw, hB, hk⟩
  exact ⟨rfl, ⟨hw, h.below.trans hB, h.keep.trans hk⟩, hk⟩

theorem flatMap_len {α : Type} (f : α → List Int) (l : List α) (z : α) (m : Nat) : ∀ k, k ≤ l.length → (∀ i, i < k → (f (l.getD i z)).length ≤ m) → ((l.take k).flatMap f).length ≤ m * k
  | 0, _, _ => by simp
  | k + 1, hk, h => by
    rw [flatMap_take f l z k (by omega), List.length_append]
    have h1 := flatMap_len f l z m k (by omega) (fun i hi => h i (by omega))
    have h2 := h k (by omega)
    rw [Nat.mul_add, Nat.mul_one]
    omega
theorem OkT.lenC {nm : ByteArray} {cs : List S56} {xs : List S65} {ks : List S42} (h : OkT nm cs xs ks) (k : Nat) (hk : k ≤ cs.length) : ((cs.take k).flatMap colW).length ≤ 5 * k := by
  refine flatMap_len colW cs z56 5 k hk (fun i hi => ?_)
  have := nameB_size (h.col i (by omega)).1
  unfold rd_T56 at this
  rw [Int.toNat_natCast] at this
  simp only [colW, textW_length, List.length_cons]
  omega
theorem OkT.lenX {nm : ByteArray} {cs : List S56} {xs : List S65} {ks : List S42} (h : OkT nm cs xs ks) (k : Nat) (hk : k ≤ xs.length) : ((xs.take k).flatMap idxW).length ≤ 6 * k := by
  refine flatMap_len idxW xs z65 6 k hk (fun i hi => ?_)
  have := nameB_size (h.idx i (by omega)).1
  unfold rd_T65 at this
  rw [Int.toNat_natCast] at this
  simp only [idxW, textW_length, List.length_cons]
  omega
theorem valW_len {v : S40} (h : validB v = true) : (valW v).length ≤ 9 := by
  unfold valW
  rcases validB_text h with ⟨h1, _⟩ | ⟨h1, _⟩ | ⟨h1, h2, h3⟩
  · rw [if_pos h1]; simp
  · rw [if_neg (by omega), if_pos h1]; simp
  · rw [if_neg (by omega), if_neg (by omega)]
    simp [textW_length]
    omega
theorem OkT.lenK {nm : ByteArray} {cs : List S56} {xs : List S65} {ks : List S42} (h : OkT nm cs xs ks) (k : Nat) (hk : k ≤ ks.length) : ((ks.take k).flatMap chkW).length ≤ 10 * k := by
  refine flatMap_len chkW ks z42 10 k hk (fun i hi => ?_)
  have := valW_len (h.chk i (by omega)).2.2.2.2.1
  unfold rd_T42 at this
  rw [Int.toNat_natCast] at this
  simp only [chkW, List.length_cons]
  omega
theorem OkT.lenH {nm : ByteArray} {cs : List S56} {xs : List S65} {ks : List S42} (h : OkT nm cs xs ks) : (headW nm cs xs ks).length ≤ 5 := by
  have := nameB_size h.name
  simp [headW, textW_length]
  omega
theorem head_bits (a b c d : Int) (ha : 0 ≤ a ∧ a < 16) (hb : 0 ≤ b ∧ b < 16) (hc : 0 ≤ c ∧ c < 16) (hd : 0 ≤ d ∧ d < 1000000) : bits .or .i64 (bits .or .i64 (bits .or .i64 a (b * 16)) (c * 256)) (d * 4096) = a + 16 * b + 256 * c + 4096 * d := by
  rw [or_i64_add a (b * 16) 4 b (by omega) (by omega) (by omega) (by omega) (by omega) (by omega), or_i64_add (a + b * 16) (c * 256) 8 c (by omega) (by omega) (by omega) (by omega) (by omega) (by omega), or_i64_add _ (d * 4096) 12 d (by omega) (by omega) (by omega) (by omega) (by omega) (by omega)]
  omega
theorem col_bits (a b d : Int) (ha : 0 ≤ a ∧ a < 4) (hb : 0 ≤ b ∧ b ≤ 1) (hd : 0 ≤ d ∧ d < 1000000) : bits .or .i64 (bits .or .i64 a (b * 4)) (d * 8) = a + 4 * b + 8 * d := by
  rw [or_i64_add a (b * 4) 2 b (by omega) (by omega) (by omega) (by omega) (by omega) (by omega), or_i64_add _ (d * 8) 3 d (by omega) (by omega) (by omega) (by omega) (by omega) (by omega)]
  omega
theorem idx_bits (a b d : Int) (ha : 0 ≤ a ∧ a ≤ 1) (hb : 0 ≤ b ∧ b < 16) (hd : 0 ≤ d ∧ d < 1000000) : bits .or .i64 (bits .or .i64 a (b * 2)) (d * 32) = a + 2 * b + 32 * d := by
  rw [or_i64_add a (b * 2) 1 b (by omega) (by omega) (by omega) (by omega) (by omega) (by omega), or_i64_add _ (d * 32) 5 d (by omega) (by omega) (by omega) (by omega) (by omega) (by omega)]
  omega
theorem chk_bits (a b : Int) (ha : 0 ≤ a ∧ a < 16) (hb : 0 ≤ b ∧ b < 1000000) : bits .or .i64 a (b * 16) = a + 16 * b := by
  rw [or_i64_add a (b * 16) 4 b (by omega) (by omega) (by omega) (by omega) (by omega) (by omega)]
  omega
theorem rd_cons_succ (a : Int) (l : List Int) (j : Nat) : rd (a :: l) ((j + 1 : Nat) : Int) = rd l (j : Int) := by unfold rd; simp
/-- One more place. -/
theorem pack_step : ∀ (l : List Int) (j : Nat), j < l.length → packI (l.take (j + 1)) = packI (l.take j) + rd l (j : Int) * 16 ^ j
  | [], j, h => by simp at h
  | a :: l, 0, _ => by simp [packI, rd]
  | a :: l, j + 1, h => by
    have ih := pack_step l j (by simpa using h)
    rw [rd_cons_succ]
    simp only [List.take_succ_cons, packI] at ih ⊢
    rw [ih, Int.pow_succ]
    have : (packI (l.take j) + rd l (j : Int) * 16 ^ j) * 16 = packI (l.take j) * 16 + rd l (j : Int) * (16 ^ j * 16) := by rw [Int.add_mul, Int.mul_assoc]
    omega
theorem pack_range : ∀ (l : List Int) (j : Nat), j ≤ l.length → (∀ i : Nat, i < j → 0 ≤ rd l (i : Int) ∧ rd l (i : Int) < 16) → 0 ≤ packI (l.take j) ∧ packI (l.take j) < 16 ^ j
  | l, 0, _, _ => by simp [packI]
  | l, j + 1, h, hr => by
    have ih := pack_range l j (by omega) (fun i hi => hr i (by omega))
    have h1 := hr j (by omega)
    rw [pack_step l j (by omega), Int.pow_succ]
    have hp : (0 : Int) < 16 ^ j := Int.pow_pos (by omega)
    have h2 : rd l (j : Int) * 16 ^ j ≤ 15 * 16 ^ j := Int.mul_le_mul_of_nonneg_right (by omega) (Int.le_of_lt hp)
    have h3 : 0 ≤ rd l (j : Int) * 16 ^ j := Int.mul_nonneg h1.1 (Int.le_of_lt hp)
    omega
theorem pack_bits (l : List Int) (j : Nat) (hj : j < l.length) (h8 : j < 8) (p0 : 0 ≤ packI (l.take j)) (p1 : packI (l.take j) < 16 ^ j) (y0 : 0 ≤ rd l (j : Int)) (y1 : rd l (j : Int) < 16) : bits .or .i64 (packI (l.take j)) (wrap64 (rd l (j : Int) * 2 ^ (4 * j))) = packI (l.take (j + 1)) := by
  have e := (by decide : ∀ j : Nat, j < 8 → (2 : Int) ^ (4 * j) = 16 ^ j) j h8
  have m := (by decide : ∀ j : Nat, j < 8 → (0 : Int) < 16 ^ j ∧ (16 : Int) ^ j ≤ 268435456) j h8
  have h2 : rd l (j : Int) * 16 ^ j ≤ 15 * 16 ^ j := Int.mul_le_mul_of_nonneg_right (by omega) (by omega)
  have h3 : 0 ≤ rd l (j : Int) * 16 ^ j := Int.mul_nonneg y0 (by omega)
  rw [pack_step l j hj, e, IntWalk.wrap64_in _ (by omega)]
  exact or_i64_add _ _ (4 * j) (rd l (j : Int)) p0 (by rw [e]; exact p1) (by rw [e]) y0 (by omega) (by omega)
theorem bit_eq (b : Bool) : schema_bit.f b = some (trI b) := by unfold schema_bit.f trI; split <;> rfl
end Go.Proofs.Ytkopbaikmlajmaa.Q
namespace Go.Proofs.Ytkopbaikmlajmaa.Q
open Go.RowKit Go.Proofs.YtkopbaikmlajmaaW.PrintWords Go.Proofs.YtkopbaikmlajmaaW.PrintLast Go.Proofs.YtkopbaikmlajmaaW.PrintMore
set_option linter.unusedVariables false
set_option linter.unusedSimpArgs false

abbrev tn : ByteArray := ⟨#[116]⟩
abbrev tc : List S56 := [⟨⟨#[97]⟩, 1, true⟩]
abbrev tk : List S42 := [⟨0, 10, ⟨1, 3, ⟨#[]⟩⟩⟩]
theorem n_a : nameB ⟨#[97]⟩ = true := by kernel_rfl
theorem n_a1 : nameB ⟨#[97, 95, 49]⟩ = true := by kernel_rfl
theorem n_A : nameB ⟨#[65]⟩ = false := by kernel_rfl
theorem n_1a : nameB ⟨#[49, 97]⟩ = false := by kernel_rfl
theorem n_sel : nameB ⟨#[115, 101, 108, 101, 99, 116]⟩ = false := by kernel_rfl
theorem n_nil : nameB ⟨#[]⟩ = false := by kernel_rfl
theorem k_t : checkE tn tc [] [] = 0 := by kernel_rfl
theorem k_c : checkE tn tc [] tk = 0 := by kernel_rfl
theorem w_t : wordsE tn tc [] [] = [4097, 498216206336, 13, 416611827712] := by kernel_rfl
theorem f_null : fitsE tn tc [] [] [⟨0, 0, ⟨#[]⟩⟩] = 0 := by kernel_rfl
theorem f_text : fitsE tn tc [] [] [⟨2, 0, ⟨#[]⟩⟩] = 7 := by kernel_rfl
theorem f_none : fitsE tn tc [] [] [] = 1 := by kernel_rfl
theorem f_three : fitsE tn tc [] tk [⟨1, 3, ⟨#[]⟩⟩] = 201 := by kernel_rfl
theorem f_four : fitsE tn tc [] tk [⟨1, 4, ⟨#[]⟩⟩] = 0 := by kernel_rfl
theorem f_free : fitsE tn tc [] tk [⟨0, 0, ⟨#[]⟩⟩] = 0 := by kernel_rfl

theorem C_one {α : Type} (d : Kd α) (w : World) (x : α) (cs : List Value) (t : TypeId) (hk : ∀ w', d.K w' x cs) : d.C (w.alloc (.cells cs.toArray t)) (some ⟨w.heap.size, 0, none⟩) [x].length [x] := by
  refine ⟨rfl, by simp, fun _ => ⟨_, rfl, fun j p hp => ?_⟩⟩
  have hj : j = 0 := by
    rcases j with _ | j
    · rfl
    · simp at hp
  subst hj
  obtain rfl : x = p := by simpa using hp
  refine ⟨cs, d.K_len (hk w), hk _, fun i u hu => ?_⟩
  have e : (Addr.add ⟨w.heap.size, 0, none⟩ (0 * d.sz + i)) = ⟨w.heap.size, i, none⟩ := by
    simp [Addr.add]
    exact fun h => h.symm
  rw [e]
  refine (blk_cell (blk_new w _) i).trans ?_
  simpa using hu
theorem C_56 (w : World) (x : S56) : k56.C (w.alloc (.cells #[.string x.f0, .int .i64 x.f1, .bool x.f2] 56)) (some ⟨w.heap.size, 0, none⟩) [x].length [x] := C_one k56 w x _ 56 (fun w' => k56_mk w' x)
theorem C_40 (w : World) (x : S40) : k40.C (w.alloc (.cells #[.int .i64 x.f0, .int .i64 x.f1, .string x.f2] 40)) (some ⟨w.heap.size, 0, none⟩) [x].length [x] := C_one k40 w x _ 40 (fun w' => k40_mk w' x)
theorem C_42 (w : World) (x : S42) : k42.C (w.alloc (.cells #[.int .i64 x.f0, .int .i64 x.f1, .int .i64 x.f2.f0, .int .i64 x.f2.f1, .string x.f2.f2] 42)) (some ⟨w.heap.size, 0, none⟩) [x].length [x] := C_one k42 w x _ 42 (fun w' => k42_mk w' x)
theorem c23' {s : ByteArray} {b : Bool} (h : nameB s = b) (w : World) : Calls Try.prog 23 #[.string s] w fun e w' => e = .returned (.bool b) ∧ Below w.heap.size w w' := h ▸ c23 s w
end Go.Proofs.Ytkopbaikmlajmaa.Q
