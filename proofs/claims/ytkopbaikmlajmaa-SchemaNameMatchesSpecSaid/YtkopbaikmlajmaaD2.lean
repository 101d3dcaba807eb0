/- The writer's text: five bytes a word, the first byte highest. -/
import Derived.Test.YtkopbaikmlajmaaD1
namespace Go.Proofs.Ytkopbaikmlajmaa.Q
open Go.RowKit Go.Proofs.YtkopbaikmlajmaaW.PrintWords Go.Proofs.YtkopbaikmlajmaaW.PrintLast Go.Proofs.YtkopbaikmlajmaaW.PrintMore
theorem KeepT.own {β : Type} (w : World) : OwnFrom w.heap.size (fun (_ : β) W => KeepT w W) := fun _ X Y row hs hg hr =>
  ⟨Nat.le_trans hs.size hg.size,
   fun k cs t fr hk h1 h2 => (hg.block k (Array.getElem?_eq_some_iff.1 (hs.block k cs t fr hk h1 h2)).1 (fun e => by have := (hr k e.symm).1; have := (Array.getElem?_eq_some_iff.1 hk).1; omega)).trans (hs.block k cs t fr hk h1 h2),
   fun k o hk ho => (hg.block k (Array.getElem?_eq_some_iff.1 (hs.other k o hk ho)).1 (fun e => by have := (hr k e.symm).1; have := (Array.getElem?_eq_some_iff.1 hk).1; omega)).trans (hs.other k o hk ho)⟩
theorem WS.own {β : Type} (P : Nat → Prop) (B0 B g : Nat) (f : β → List Int) : OwnFrom B (fun (s : β) W => WS P B0 g W (f s)) := by
  rintro s X Y row ⟨hg, v, hb, hR⟩ hgr hr
  refine ⟨hg, v, ?_, ?_⟩
  · exact blk_grown hb hgr (fun e => by obtain ⟨o, ho, hc⟩ := (hr g e.symm).2; rw [hb] at ho; cases ho; cases hc)
  · exact Kd.R_mono (Kd.R_grown (Kd.R_bound hR) hgr (fun k hk e => by
      obtain ⟨q, hq, cells, hc⟩ := hk.2.2.2
      obtain ⟨o, ho, hc'⟩ := (hr k e.symm).2
      rw [hc] at ho; cases ho; cases hc')) (fun _ h => h.1)
theorem blk_own {β : Type} {w : World} (k : Nat) (hk : k < w.heap.size) : OwnFrom w.heap.size (fun (_ : β) W => w.heap.size ≤ W.heap.size ∧ W.heap[k]? = w.heap[k]?) := fun _ X Y row hs hg hr =>
  ⟨Nat.le_trans hs.1 hg.size, (hg.block k (Nat.lt_of_lt_of_le hk hs.1) (fun e => by have := (hr k e.symm).1; omega)).trans hs.2⟩

theorem KeepT.cell {w W : World} (h : KeepT w W) {k : Nat} {cs : Array Value} {t : TypeId} {fr : Nat × Nat} (hk : w.heap[k]? = some (.cells cs t fr)) (h1 : t ≠ 3) (h2 : t ≠ 95) {j : Nat} {v : Value} (hc : w.cell? ⟨k, j, none⟩ = some v) : W.cell? ⟨k, j, none⟩ = some v :=
  (World.cell?_of_block (a := ⟨k, j, none⟩) ((h.block k cs t fr hk h1 h2).trans hk.symm)).trans hc
theorem C_lits (w : World) (l : List Int) (hl : l.length ≤ 9223372036854775807) : (Kd.int .i64).C (w.alloc (.cells (l.map (fun x => Value.int .i64 x)).toArray 3)) (some ⟨w.heap.size, 0, none⟩) l.length l := by
  refine ⟨rfl, hl, fun _ => ⟨_, rfl, fun j p hp => ⟨[.int .i64 p], rfl, rfl, fun i u hu => ?_⟩⟩⟩
  have hi : i = 0 := by
    rcases i with _ | i
    · rfl
    · simp at hu
  subst hi
  simp at hu
  subst hu
  have e : (Addr.add ⟨w.heap.size, 0, none⟩ (j * (Kd.int .i64).sz + 0)) = ⟨w.heap.size, j, none⟩ := by
    show Addr.add _ (j * 1 + 0) = _
    simp [Addr.add]
    exact fun h => h.symm
  rw [e]
  refine (blk_cell (blk_new w _) j).trans ?_
  simp [hp]
theorem C_lit1 (w : World) (x : Int) : (Kd.int .i64).C (w.alloc (.cells #[.int .i64 x] 3)) (some ⟨w.heap.size, 0, none⟩) [x].length [x] := C_lits w [x] (by simp)
theorem C_lit2 (w : World) (x y : Int) : (Kd.int .i64).C (w.alloc (.cells #[.int .i64 x, .int .i64 y] 3)) (some ⟨w.heap.size, 0, none⟩) [x, y].length [x, y] := C_lits w [x, y] (by simp)
theorem chunkW_one {L : Nat} (pre : List (Ch L)) (x : Ch L) (s : ByteArray) : (pre ++ [x]).map (fun y => chunkW s y.1) = pre.map (fun y => chunkW s y.1) ++ [chunkW s x.1] := by simp
theorem WS.below {P : Nat → Prop} {B0 g : Nat} {w w1 : World} {xs : List Int} (h : WS P B0 g w xs) (hb : Below w.heap.size w w1) : WS P B0 g w1 xs := by
  obtain ⟨hg, v, hb', hr⟩ := h
  exact ⟨hg, v, (hb.block g (Array.getElem?_eq_some_iff.1 hb').1).trans hb', Kd.R_below hr hb⟩
theorem WS.alloc {P : Nat → Prop} {B0 g : Nat} {w : World} {xs : List Int} (h : WS P B0 g w xs) (o : Obj) : WS P B0 g (w.alloc o) xs := h.below (below_al w o)
section
open Go.Shelf
attribute [local go_sem] Oper.semAt_some
set_option maxHeartbeats 2000000 in
set_option maxRecDepth 100000 in
theorem c80 (B0 g : Nat) (xs : List Int) (s : ByteArray) (w : World) (hs : WS (fun _ => True) B0 g w xs) (hB : B0 ≤ w.heap.size) (hn : xs.length + s.size ≤ 900000000) :
    Calls Try.prog 80 #[.pointer (some ⟨g, 0, none⟩), .string s] w fun e w' => e = .returned (.tuple #[]) ∧ WS (fun _ => True) B0 g w' (xs ++ textW s) ∧ Below B0 w w' ∧ KeepT w w' := by
  refine (callsIn_wide (n := 8)).1 ?_
  refine callsIn_of_wp_marks Try.func80 rfl trivial ?_ rfl
  simp only [Try.ntmps80, List.size_toArray, List.length_cons, List.length_nil, Nat.reduceAdd, Nat.reduceSub, Array.replicate_succ, Array.replicate_zero, List.push_toArray, List.append_toArray, List.nil_append, List.cons_append]
  have hconv := fun wx => Lib.run_convert_string_bytes (P := Try.prog) wx 9 81 5 s Try.underlying9 Try.underlying81 Try.underlying5
  have HS := Aside0.mk hs
  have hgw : g < w.heap.size := by obtain ⟨_, v, hb, _⟩ := hs; exact (Array.getElem?_eq_some_iff.1 hb).1
  clear hs
  gi_wp2_with ((refine ⟨trivial, ?_⟩; gi_at_call 127; refine (callsIn_wide.2 (c127 _ _ _ _)).mono ?_; rintro e w' ⟨rfl, rfl⟩))
  simp only [Lib.bytesWorld_size, World.size_alloc]
  have hcap : s.size ≤ grownCap (w.alloc (.cells #[.pointer (some ⟨g, 0, none⟩)] 93)) s.size 0 5 := grownCap_ge _ _ _ _
  generalize grownCap (w.alloc (.cells #[.pointer (some ⟨g, 0, none⟩)] 93)) s.size 0 5 = cap at *
  obtain ⟨wb, hwb⟩ : ∃ wb, wb = Lib.bytesWorld (w.alloc (.cells #[.pointer (some ⟨g, 0, none⟩)] 93)) 5 s := ⟨_, rfl⟩
  have hbs : wb.heap.size = w.heap.size + 1 + 1 := by rw [hwb, Lib.bytesWorld_size, World.size_alloc]
  have hb0 : Below w.heap.size w wb := by
    rw [hwb]
    refine below_step (below_al w (.cells #[.pointer (some ⟨g, 0, none⟩)] 93)) ?_
    exact bytes_below s _
  have hp0 : wb.heap[w.heap.size]? = some (.cells #[.pointer (some ⟨g, 0, none⟩)] 93 (0, 0)) := by
    rw [hwb, Lib.bytesWorld_at_old _ _ _ _ (by simp)]
    exact blk_new w _
  have hby : ∀ k : Nat, k < s.size → wb.cell? ⟨w.heap.size + 1, k, none⟩ = some (.int .u8 (bt s k)) := by
    intro k hk
    have := bytes_cell s (w.alloc (.cells #[.pointer (some ⟨g, 0, none⟩)] 93)) k hk
    rw [hwb]
    simpa using this
  have hbb : ∃ cs fr, wb.heap[w.heap.size + 1]? = some (.cells cs 5 fr) := by
    have := Lib.bytesWorld_at_new (w.alloc (.cells #[.pointer (some ⟨g, 0, none⟩)] 93)) 5 s
    rw [World.size_alloc] at this
    rw [hwb]
    exact ⟨_, _, this⟩
  rw [← hwb]
  clear hwb hconv
  obtain ⟨wc, hwc⟩ : ∃ wc, wc = (wb.alloc (.cells #[.slice (some ⟨w.heap.size + 1, 0, none⟩) s.size cap] 81)).alloc (.cells #[.int .i64 5] 3) := ⟨_, rfl⟩
  rw [← hwc]
  have hcs : wc.heap.size = w.heap.size + 4 := by rw [hwc]; simp [hbs]
  have hbc : Below wb.heap.size wb wc := by rw [hwc]; exact below_step (below_al wb _) (below_al _ _)
  have hs0 : wc.heap[w.heap.size + 2]? = some (.cells #[.slice (some ⟨w.heap.size + 1, 0, none⟩) s.size cap] 81 (0, 0)) := by
    rw [hwc, show w.heap.size + 2 = wb.heap.size by omega]
    exact (Below.heap_alloc _ _ _ (by simp)).trans (blk_new wb _)
  have hn0 : wc.heap[w.heap.size + 3]? = some (.cells #[.int .i64 5] 3 (0, 0)) := by
    rw [hwc, show w.heap.size + 3 = (wb.alloc (.cells #[.slice (some ⟨w.heap.size + 1, 0, none⟩) s.size cap] 81)).heap.size by simp [hbs]]
    exact blk_new _ _
  clear hwc
  have hp1 := (hbc.block w.heap.size (by omega)).trans hp0
  have hby1 : ∀ k : Nat, k < s.size → wc.cell? ⟨w.heap.size + 1, k, none⟩ = some (.int .u8 (bt s k)) := fun k hk => keep hbc (hby k hk)
  obtain ⟨cs, fr, hbb0⟩ := hbb
  have hbb1 := (hbc.block (w.heap.size + 1) (by omega)).trans hbb0
  have hwc1 : Below w.heap.size w wc := below_step hb0 hbc
  clear hb0 hby hbb0 hp0 hbc hbs
  have HS1 : WS (fun k => k ≠ w.heap.size + 3) B0 g wc xs := by
    obtain ⟨hg, v, hb, hr⟩ := HS.out
    exact ⟨hg, v, (hwc1.block g hgw).trans hb, Kd.R_mono (Kd.R_below (Kd.R_bound hr) hwc1) (fun k hk => by have := hk.2.2.1; omega)⟩
  refine wpIn_rangeFunc_ownG rfl (by decide) (gf := 142) (lb := #[.pointer (some ⟨w.heap.size + 2, 0, none⟩), .pointer (some ⟨w.heap.size + 3, 0, none⟩)]) rfl trivial (enters_of Try.func142 (by kernel_rfl) rfl)
    (chunk_stops (8 - 1) (by decide) (w.heap.size + 2) (w.heap.size + 3) (w.heap.size + 1) s.size cap (by omega) hcap wc (by omega) (by omega) ((blk_cell hs0 0).trans rfl) ((blk_cell hn0 0).trans rfl)) (fun h k => ⟨k.1.trans h.1, k.2.trans h.2⟩) ?hKb (Below.refl _ _) (fun _ => rfl)
    (fun pre W => WS (fun k => k ≠ w.heap.size + 3) B0 g W (xs ++ pre.map (fun y => chunkW s y.1)) ∧ Below B0 wc W ∧ KeepT wc W ∧ (wc.heap.size ≤ W.heap.size ∧ W.heap[w.heap.size + 3]? = wc.heap[w.heap.size + 3]?))
    (fun _ _ _ => False)
    ((WS.own _ B0 _ g (fun pre : List (Ch s.size) => xs ++ pre.map (fun y => chunkW s y.1))).and ((ownFrom_below (by omega) (by omega)).and ((KeepT.own wc).and (blk_own (w.heap.size + 3) (by omega)))))
    (fun _ _ _ _ _ hs _ _ => hs)
    ⟨by simpa using HS1, Below.refl _ _, KeepT.refl _, Nat.le_refl _, rfl⟩
    (fun x => { tmps := #[.pointer (some ⟨g, 0, none⟩), .string s, .pointer (some ⟨w.heap.size, 0, none⟩), undef, chV (w.heap.size + 1) s.size x, undef, undef, .string s, .slice (some ⟨w.heap.size + 1, 0, none⟩) s.size cap, .func (.func 142) #[] #[.pointer (some ⟨w.heap.size + 2, 0, none⟩), .pointer (some ⟨w.heap.size + 3, 0, none⟩)], chV (w.heap.size + 1) s.size x, undef, undef, undef, undef, undef, undef, undef, undef, undef, undef, undef, undef, undef, undef, undef, undef, undef, undef, undef, undef, undef], defers := [] }) ?assign ?body ?done ?stop
  case hKb =>
    intro W l o o' hl ho _ _
    have := (Array.getElem?_eq_some_iff.1 ho).1
    exact ⟨World.putObj_heap_other (by omega), World.putObj_heap_other (by omega)⟩
  case assign =>
    intro l x W K hK
    gi_wp2
    exact hK
  case body =>
    rintro l pre x W ⟨hW, hBW, hKW, hsz, hbn⟩ hlen
    obtain ⟨j, hj⟩ := x
    have h1 : 1 ≤ 8 - 1 - 1 := by decide
    have hx1 := KeepT.cell hKW hp1 (by decide) (by decide) ((blk_cell hp1 0).trans rfl)
    have HB := Aside0.mk (fun k hk => KeepT.cell hKW hbb1 (by decide) (by decide) (hby1 k hk))
    gi_wp2
    gi_loopw [5, 6, 11] (fun u v i wr => ∃ k : Nat, k ≤ 5 ∧ i = .int .i64 k ∧ u = .int .i64 (cw s j k) ∧ wr = W) (fun _ _ i _ => 5 - (intOf i).toNat)
    case atStart => exact ⟨0, by omega, rfl, rfl, rfl⟩
    case round =>
      obtain ⟨k, hk5, rfl, rfl, rfl⟩ := hrel
      have hcr := cw_range s j k
      have hcw : cw s j (k + 1) = cw s j k * 256 + bt s ((5 * j + k : Nat) : Int) := rfl
      have hc5 : chunkW s j = cw s j 5 := rfl
      have hL : chL s.size j ≤ 5 ∧ 5 * j + chL s.size j ≤ s.size ∧ (5 * j + k < s.size → k < 5 → k < chL s.size j) := by unfold chL; split <;> omega
      unfold chV
      generalize chL s.size j = L at *
      obtain ⟨c, hc⟩ : ∃ c, c = cw s j k := ⟨_, rfl⟩
      rw [← hc] at hcr hcw ⊢
      by_cases hlt : k < 5
      · have hp : (256 : Int) ^ k ≤ 4294967296 := (by decide : ∀ k : Nat, k < 5 → (256 : Int) ^ k ≤ 4294967296) k hlt
        have hc2 : c < 4294967296 := by omega
        have hc1 := hcr.1
        clear hcr hp
        by_cases hin : k < L
        · have hcell := HB.out (5 * j + k) (by omega)
          have hr := bt_range s ((5 * j + k : Nat) : Int)
          obtain ⟨y, hy⟩ : ∃ y, y = bt s ((5 * j + k : Nat) : Int) := ⟨_, rfl⟩
          rw [← hy] at hcell hr hcw
          have hor := or_i64_add' y (c * 256) 8 c (by omega) (by omega) (by omega) (by omega) (by omega) (by omega)
          have hd : decide ((k : Int) < (L : Int)) = true := decide_eq_true (by omega)
          have hd5 : decide ((k : Int) < 5) = true := decide_eq_true (by omega)
          have hsh : IntKind.i64.wrap (c * 256) = c * 256 := wrap_i64_small _ (by omega) (by omega)
          gi_wp2
          refine ⟨⟨k + 1, by omega, by go_num, ?_, trivial⟩, by simp [intOf]; omega⟩
          subst hy
          subst hc
          have hpc : ((5 * j + k : Nat) : Int) = 5 * (j : Int) + (k : Int) := by omega
          rw [hpc] at hor hr hcw
          have hwr : wrap64 (bt s (5 * (j : Int) + (k : Int))) = bt s (5 * (j : Int) + (k : Int)) := IntWalk.wrap64_in _ (by omega)
          rw [hwr, hcw, hor]
        · have hb0 : bt s ((5 * j + k : Nat) : Int) = 0 := by
            unfold bt
            rw [dif_neg (by omega)]
          have hd : decide ((k : Int) < (L : Int)) = false := decide_eq_false (by omega)
          have hd5 : decide ((k : Int) < 5) = true := decide_eq_true (by omega)
          have hsh : IntKind.i64.wrap (c * 256) = c * 256 := wrap_i64_small _ (by omega) (by omega)
          gi_wp2
          refine ⟨⟨k + 1, by omega, by go_num, ?_, trivial⟩, by simp [intOf]; omega⟩
          subst hc
          rw [hcw, hb0]
          simp
      · obtain rfl : k = 5 := by omega
        have hd5 : decide ((5 : Int) < 5) = false := by decide
        have hpl : pre.length ≤ s.size := by omega
        have HKW := Aside0.mk hKW
        have HBN := Aside0.mk hbn
        clear hbn hKW
        gi_wp2
        refine ⟨trivial, ?_⟩
        refine (CallsIn.inRound l (callsIn_wide.2 (c79 (fun k => k ≠ w.heap.size + 3) B0 g (xs ++ pre.map (fun y => chunkW s y.1)) (some ⟨wr.heap.size, 0, none⟩) 1 [cw s j 5] _ (WS.alloc hW _) ?_ (C_lit1 wr (cw s j 5)) ?_ ?_))).mono ?_
        · intro k hk
          rw [World.size_alloc] at hk
          omega
        · rw [World.size_alloc]
          omega
        · simp
          omega
        rintro e w' ⟨rfl, hW', hB', hK', hk'⟩
        gi_wp2
        have hKA : KeepT wr w' := (KeepT.below (below_al wr _)).trans hK'
        have hbn' : w'.heap[w.heap.size + 3]? = wr.heap[w.heap.size + 3]? := (hk' _ (by rw [World.size_alloc]; omega) (by omega) (by simp)).trans ((below_al wr _).block _ (by omega))
        refine ⟨⟨hKA.size, fun k o _ h1 h2 => hKA.other k o h1 h2⟩, ⟨?_, hbn'⟩, ?_, ?_, HKW.out.trans hKA, Nat.le_trans hsz hKA.size, hbn'.trans HBN.out⟩
        · have h81 := HKW.out.block _ _ _ _ hs0 (by decide) (by decide)
          exact (hKA.block _ _ _ _ h81 (by decide) (by decide)).trans h81.symm
        · simpa [hc5] using hW'
        · exact hBW.trans ((Below.alloc (Below.refl B0 wr) (by omega) _).trans hB')
  case done =>
    rintro D ys W hD hys ⟨hW, hBW, hKW, hsz, hbn⟩ hK
    gi_wp2
    refine ⟨by simp, .inl ⟨_, _, rfl, run_takeDeferred hK, ?_⟩⟩
    have hwB : w.heap.size ≤ W.heap.size := by omega
    refine ⟨_, results_none rfl _ _ _, rfl, ?_, ?_, ?_⟩
    · have h1 : xs ++ ys.map (fun y => chunkW s y.1) = xs ++ textW s := by
        unfold textW
        rw [← hys, List.map_map]
        rfl
      rw [← h1]
      refine OwnFrom.putObj (WS.own (β := Unit) _ B0 D g (fun _ => _)) (s := ()) _ ?_ (Nat.le_refl _) hK rfl
      obtain ⟨hg, v, hb, hr⟩ := hW
      exact ⟨hg, v, hb, Kd.R_mono hr (fun _ _ => trivial)⟩
    · exact (hwc1.mono hB).trans (hBW.trans (belowK_b (w := wc) (by omega) W D _ _ hD hK rfl rfl))
    · refine (KeepT.below hwc1).trans ?_
      exact OwnFrom.putObj (KeepT.own (β := Unit) wc) (s := ()) _ hKW hD hK rfl
  case stop =>
    rintro D c pre W hD _ h _
    exact h.elim
end
end Go.Proofs.Ytkopbaikmlajmaa.Q
