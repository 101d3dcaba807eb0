/- trimmed to what these claims' texts use -/
import Derived.Test.YtkopbaikmlajmaaWY
import Derived.Test.YtkopbaikmlajmaaFC
namespace Go.Proofs.Ytkopbaikmlajmaa.Q
open Go.RowKit Go.Proofs.YtkopbaikmlajmaaW.PrintWords Go.Proofs.YtkopbaikmlajmaaW.PrintLast Go.Proofs.YtkopbaikmlajmaaW.PrintMore
set_option linter.unusedVariables false
set_option linter.unusedSimpArgs false
/-- The row of indexes while its places are being copied: those before i are the call's own. -/
def Half (B : Nat) (w0 w : World) (v : Value) (xs : List S65) (i : Nat) : Prop :=
 ∃ (rows : List (List Value)) (f : Nat → Nat), rows.length = xs.length ∧ (Kd.raw 3).R 65 w B (fun _ => True) v rows ∧
  ∀ (j : Nat) (x : S65), xs[j]? = some x → ∃ c, rows[j]? = some c ∧ (j < i → ∃ u, c = [.string x.f0, u, .bool x.f2] ∧ (Kd.int .i64).R 3 w B (fun k => f k = j ∧ k < w.heap.size) u x.f1) ∧ (i ≤ j → k65.K w0 x c)
theorem Half.start {B : Nat} {w0 w : World} {v : Value} {xs : List S65} {rows : List (List Value)} (hl : rows.length = xs.length) (hR : (Kd.raw 3).R 65 w B (fun _ => True) v rows) (hK : ∀ (j : Nat) (x : S65) (c : List Value), xs[j]? = some x → rows[j]? = some c → k65.K w0 x c) : Half B w0 w v xs 0 :=
 ⟨rows, fun _ => 0, hl, hR, fun j x hx => ⟨rows[j]'(by rw [hl]; exact (List.getElem?_eq_some_iff.1 hx).1), List.getElem?_eq_getElem _, fun h => by omega, fun _ => hK j x _ hx (List.getElem?_eq_getElem _)⟩⟩
/-- Whatever leaves the memory that was there alone leaves it as it is. -/
theorem Half.below {B : Nat} {w0 w w' : World} {v : Value} {xs : List S65} {i : Nat} (h : Half B w0 w v xs i) (hb : Below w.heap.size w w') : Half B w0 w' v xs i := by
 obtain ⟨rows, f, hl, hR, hE⟩ := h
 refine ⟨rows, f, hl, Kd.R_below hR hb, fun j x hx => ?_⟩
 obtain ⟨c, hc, h1, h2⟩ := hE j x hx
 refine ⟨c, hc, fun hj => ?_, h2⟩
 obtain ⟨u, hu, hRu⟩ := h1 hj
 exact ⟨u, hu, Kd.R_mono (Kd.R_below hRu hb) (fun k hk => ⟨hk.1, Nat.lt_of_lt_of_le hk.2 hb.size⟩)⟩
theorem Half.far {B b : Nat} {w0 w : World} {v : Value} {xs : List S65} {i : Nat} {cells : Array Value} (h : Half B w0 w v xs i) (hb : w.heap[b]? = some (.cells cells 28 (0, 0))) (o : Nat) (u : Value) : Half B w0 (w.setCell ⟨b, o, none⟩ u) v xs i := by
 obtain ⟨rows, f, hl, hR, hE⟩ := h
 refine ⟨rows, f, hl, Kd.R_mono (Kd.R_far (p := ⟨b, o, none⟩) (Kd.R_types hR hb (by decide)) (fun _ hk => hk.2) u) (fun _ _ => trivial), fun j x hx => ?_⟩
 obtain ⟨c, hc, h1, h2⟩ := hE j x hx
 refine ⟨c, hc, fun hj => ?_, h2⟩
 obtain ⟨u2, hu, hRu⟩ := h1 hj
 have hsz : (w.setCell ⟨b, o, none⟩ u).heap.size = w.heap.size := by simp
 exact ⟨u2, hu, Kd.R_mono (Kd.R_far (p := ⟨b, o, none⟩) (Kd.R_types hRu hb (by decide)) (fun _ hk => hk.2) u) (fun k hk => ⟨hk.1.1, by rw [hsz]; exact hk.1.2⟩)⟩
theorem Half.done {B : Nat} {w0 w : World} {v : Value} {xs : List S65} (h : Half B w0 w v xs xs.length) : Kd.S k65 65 w B (fun _ => True) v xs := by
 obtain ⟨rows, f, hl, hR, hE⟩ := h
 have hty := Kd.R_typed hR
 obtain ⟨h0, inner, hown, hrep⟩ := hR
 refine ⟨f, fun k hk => trivial, inner, by rw [List.length_zipIdx, ← hl]; exact hown, by rw [List.length_zipIdx, ← hl]; exact hrep.1, fun j p hp => ?_⟩
 rw [List.getElem?_zipIdx] at hp
 obtain ⟨x, hx, rfl⟩ := Option.map_eq_some_iff.1 hp
 have hj := (List.getElem?_eq_some_iff.1 hx).1
 obtain ⟨c, hc, h1, _⟩ := hE j x hx
 obtain ⟨u, hu, hRu⟩ := h1 hj
 have hcs := hrep.2 j c hc
 have e : (inner.drop (j * 3)).take 3 = c := hcs.1
 show k65.M w B (fun k => (True ∧ some k ≠ v.ownBlock) ∧ f k = 0 + j) x ((inner.drop (j * 3)).take 3)
 rw [e, hu]
 refine k65_mkM w B _ x (Kd.R_mono (Kd.R_bound hRu) (fun k hk => ⟨⟨trivial, fun he => ?_⟩, by rw [Nat.zero_add]; exact hk.1.1⟩))
 obtain ⟨cells, h65⟩ := hty k he.symm
 obtain ⟨_, _, _, q, hq, cells', h3⟩ := hk
 rw [h65] at h3
 have : (65 : Nat) = q := by
  injection h3 with h3
  injection h3
 subst this
 simp [Kd.int, Kd.scalar] at hq
/-- One more index: its places are now at a row of the call's own, newer than what was there. -/
theorem Half.put {B g cap : Nat} {w0 w w' : World} {n : Nat} {xs : List S65} {i : Nat} {u : Value} (h : Half B w0 w (.slice (some ⟨g, 0, none⟩) n cap) xs i) (hi : i < xs.length) (hb : Below w.heap.size w w') (hu : (Kd.int .i64).R 3 w' w.heap.size (fun _ => True) u (rd_T65 xs i).f1) (hB : B ≤ w.heap.size) :
  Half B w0 (w'.setCell ⟨g, i * 3 + 1, none⟩ u) (.slice (some ⟨g, 0, none⟩) n cap) xs (i + 1) ∧ w'.grownBy (w'.setCell ⟨g, i * 3 + 1, none⟩ u) (some g) := by
 obtain ⟨rows, f, hl, hR0, hE⟩ := h
 have hRb := Kd.R_below hR0 hb
 have hn := (Kd.R_reads' hR0).1
 subst hn
 obtain ⟨_, inner, hown, hrep⟩ := hRb
 obtain ⟨hs1, hs2⟩ := hown.stored (i * 3 + 1) u
 obtain ⟨c0, hc0, _, ho⟩ := hE i _ (List.getElem?_eq_getElem hi)
 obtain ⟨A1, c1, e0, -, -⟩ := k65_open (ho (Nat.le_refl _))
 have hx : rd_T65 xs (i : Int) = xs[i] := by
  unfold rd_T65
  rw [Int.toNat_natCast, List.getD_eq_getElem?_getD, List.getElem?_eq_getElem hi]; rfl
 rw [hx] at hu
 obtain ⟨Au, cu, rfl⟩ := Kd.R_slice hu
 have hub := Kd.R_bound hu
 have hg : g < w.heap.size := Kd.R_lt hR0 g rfl
 refine ⟨⟨rows.set i [.string xs[i].f0, .slice Au xs[i].f1.length cu, .bool xs[i].f2], fun k => if k < w.heap.size then f k else i, by rw [List.length_set]; exact hl, ⟨fun k hk => trivial, inner.set (i * 3 + 1) _, by rw [List.length_set]; exact hs1, by rw [List.length_set, List.length_set]; exact hrep.1, fun j c hj => ?_⟩, fun j x hxj => ?_⟩, hs2⟩
 ·have hjl : j < rows.length := by have := (List.getElem?_eq_some_iff.1 hj).1; rwa [List.length_set] at this
  have hold := hrep.2 j rows[j] (List.getElem?_eq_getElem hjl)
  have hold1 : (inner.drop (j * 3)).take 3 = rows[j] := hold.1
  show ((inner.set (i * 3 + 1) (Value.slice Au xs[i].f1.length cu)).drop (j * 3)).take 3 = c ∧ (((inner.set (i * 3 + 1) (Value.slice Au xs[i].f1.length cu)).drop (j * 3)).take 3).length = 3 ∧ ∀ q, q ∈ ((inner.set (i * 3 + 1) (Value.slice Au xs[i].f1.length cu)).drop (j * 3)).take 3 → q.oneCell' = true
  rw [List.drop_set]
  by_cases hlt : i * 3 + 1 < j * 3
  ·rw [if_pos hlt]
   rw [List.getElem?_set_ne (by omega), List.getElem?_eq_getElem hjl] at hj
   obtain rfl := Option.some.inj hj
   exact hold
  ·rw [if_neg hlt, List.take_set, hold1]
   by_cases hji : j = i
   ·subst hji
    rw [List.getElem?_set_self hjl] at hj
    obtain rfl := Option.some.inj hj
    rw [List.getElem?_eq_getElem hjl] at hc0
    obtain rfl := Option.some.inj hc0
    rw [show j * 3 + 1 - j * 3 = 1 by omega, e0]
    refine ⟨rfl, rfl, fun q hq => ?_⟩
    simp at hq
    rcases hq with rfl | rfl | rfl <;> rfl
   ·rw [List.getElem?_set_ne (by omega), List.getElem?_eq_getElem hjl] at hj
    obtain rfl := Option.some.inj hj
    have hlen : rows[j].length = 3 := by have := hold.2.1; rwa [show List.take (Kd.raw 3).sz (List.drop (j * (Kd.raw 3).sz) inner) = rows[j] from hold1] at this
    rw [List.set_eq_of_length_le (by omega), ← hold1]
    exact ⟨rfl, hold.2.1, hold.2.2⟩
 ·have hxl := (List.getElem?_eq_some_iff.1 hxj).1
  obtain ⟨c, hc, h1, h2⟩ := hE j x hxj
  have hsz : (w'.setCell ⟨g, i * 3 + 1, none⟩ (.slice Au xs[i].f1.length cu)).heap.size = w'.heap.size := by simp
  by_cases hji : j = i
  ·subst hji
   obtain rfl : xs[j] = x := by rw [List.getElem?_eq_getElem hi] at hxj; exact Option.some.inj hxj
   refine ⟨_, List.getElem?_set_self (by omega), fun _ => ⟨_, rfl, ?_⟩, fun h => by omega⟩
   refine Kd.R_lower (Kd.R_mono (Kd.R_far (p := ⟨g, j * 3 + 1, none⟩) (Kd.R_mono hub (fun k hk => hk.2)) (fun k hk => by have := hk.1; show k ≠ g; omega) _) (fun k hk => ⟨by show (if k < w.heap.size then f k else j) = j; rw [if_neg (by omega)], by rw [hsz]; exact hk.2.1⟩)) hB
  ·refine ⟨c, by rw [List.getElem?_set_ne (by omega)]; exact hc, fun h => ?_, fun h => h2 (by omega)⟩
   obtain ⟨u2, hu2, hR2⟩ := h1 (by omega)
   refine ⟨u2, hu2, ?_⟩
   have h65 := Kd.R_typed hR0 g rfl
   obtain ⟨cells, h65⟩ := h65
   have ht := Kd.R_types hR2 h65 (by intro q hq; simp [Kd.int, Kd.scalar] at hq; omega)
   refine Kd.R_mono (Kd.R_far (p := ⟨g, i * 3 + 1, none⟩) (Kd.R_below ht hb) (fun k hk => hk.2) _) (fun k hk => ⟨by show (if k < w.heap.size then f k else i) = j; rw [if_pos hk.1.2]; exact hk.1.1, by rw [hsz]; exact Nat.lt_of_lt_of_le hk.1.2 hb.size⟩)
theorem Half.at {B : Nat} {w0 w : World} {A : Option Addr} {n c : Nat} {xs : List S65} {i : Nat} (h : Half B w0 w (.slice A n c) xs i) (hi : i < xs.length) : ∃ g cap, (Value.slice A n c) = .slice (some ⟨g, 0, none⟩) n cap := by
 obtain ⟨rows, f, hl, hR, hE⟩ := h
 have hn := (Kd.R_reads' hR).1
 obtain ⟨_, inner, hown, hrep⟩ := hR
 rcases hown.2 with ⟨_, h0⟩ | ⟨g, cap, cur, he, _⟩
 ·omega
 ·rw [← hn] at he
  exact ⟨g, cap, he⟩
theorem Half.ne {B g n cap b : Nat} {w0 w : World} {xs : List S65} {i : Nat} {cells : Array Value} (h : Half B w0 w (.slice (some ⟨g, 0, none⟩) n cap) xs i) (hb : w.heap[b]? = some (.cells cells 28 (0, 0))) : b ≠ g := by
 obtain ⟨rows, f, hl, hR, hE⟩ := h
 intro e
 exact Kd.R_ne hR hb (by decide) (by rw [e]; rfl)
theorem Half.typed {B g n cap : Nat} {w0 w : World} {xs : List S65} {i : Nat} (h : Half B w0 w (.slice (some ⟨g, 0, none⟩) n cap) xs i) : ∃ cells, w.heap[g]? = some (.cells cells 65 (0, 0)) := by
 obtain ⟨rows, f, hl, hR, hE⟩ := h
 exact Kd.R_typed hR g rfl
theorem Half.base {B g n cap : Nat} {w0 w : World} {xs : List S65} {i : Nat} (h : Half B w0 w (.slice (some ⟨g, 0, none⟩) n cap) xs i) : B ≤ g := by
 obtain ⟨rows, f, hl, hR, hE⟩ := h
 exact Kd.R_base hR g rfl
theorem Half.frozen {B g n cap : Nat} {w0 w : World} {xs : List S65} {i : Nat} (h : Half B w0 w (.slice (some ⟨g, 0, none⟩) n cap) xs i) (j : Nat) : w.frozen? ⟨g, j, none⟩ = false := by
 obtain ⟨rows, f, hl, hR, hE⟩ := h
 obtain ⟨cells, hc⟩ := Kd.R_typed hR g rfl
 exact blk_frozen hc j
/-- The places of an index that are not copied yet. -/
theorem Half.old {B g n cap : Nat} {w0 w : World} {xs : List S65} {i : Nat} (h : Half B w0 w (.slice (some ⟨g, 0, none⟩) n cap) xs i) (hi : i < xs.length) : ∃ A c, (rd_T65 xs i).f1.length ≤ c ∧ (Kd.int .i64).C w0 A (rd_T65 xs i).f1.length (rd_T65 xs i).f1 ∧ w.cell? ⟨g, i * 3 + 1, none⟩ = some (.slice A (rd_T65 xs i).f1.length c) := by
 obtain ⟨rows, f, hl, hR, hE⟩ := h
 have hn := (Kd.R_reads' hR).1
 subst hn
 obtain ⟨c0, hc0, _, ho⟩ := hE i _ (List.getElem?_eq_getElem hi)
 obtain ⟨A1, c1, e0, l1, g1⟩ := k65_open (ho (Nat.le_refl _))
 have hx : rd_T65 xs (i : Int) = xs[i] := by
  unfold rd_T65
  rw [Int.toNat_natCast, List.getD_eq_getElem?_getD, List.getElem?_eq_getElem hi]; rfl
 rw [hx]
 refine ⟨A1, c1, l1, g1, ?_⟩
 obtain ⟨_, inner, hown, hrep⟩ := hR
 have hc : (inner.drop (i * 3)).take 3 = c0 := (hrep.2 i c0 hc0).1
 rw [hown.cellAt (i * 3 + 1) (by show i * 3 + 1 < rows.length * 3; omega)]
 have : ((inner.drop (i * 3)).take 3)[1]? = some (.slice A1 xs[i].f1.length c1) := by rw [hc, e0]; rfl
 rw [List.getElem?_take, if_pos (by omega), List.getElem?_drop] at this
 exact this
set_option maxHeartbeats 4000000 in
set_option maxRecDepth 100000 in
theorem c99 (nm : ByteArray) (A1 : Option Addr) (c1 : Nat) (cs : List S56) (A2 : Option Addr) (c2 : Nat) (xs : List S65) (A3 : Option Addr) (c3 : Nat) (ks : List S42) (w : World) (hr1 : Kd.C k56 w A1 cs.length cs) (hc1 : cs.length ≤ c1) (hr2 : Kd.C k65 w A2 xs.length xs) (hc2 : xs.length ≤ c2) (hr3 : Kd.C k42 w A3 ks.length ks) (hc3 : ks.length ≤ c3) (hl1 : cs.length < 1000000) (hl2 : xs.length < 1000000) (hl3 : ks.length < 1000000) (hl4 : ∀ i : Nat, i < xs.length → (rd_T65 xs i).f1.length < 1000000) :
  Calls Try.prog 99 #[.agg #[.string nm, .slice A1 cs.length c1, .slice A2 xs.length c2, .slice A3 ks.length c3]] w fun e w' => ∃ v1 v2 v3 : Value, e = .returned (.agg #[.string nm, v1, v2, v3]) ∧ Kd.R k56 56 w' w.heap.size (fun _ => True) v1 cs ∧ Kd.S k65 65 w' w.heap.size (fun _ => True) v2 xs ∧ Kd.R k42 42 w' w.heap.size (fun _ => True) v3 ks ∧ Below w.heap.size w w' := by
 have hu28 := Try.underlying28
 have hu65 := Try.underlying65
 have R1 := Aside0.mk hr1
 have R2 := Aside0.mk hr2
 have R3 := Aside0.mk hr3
 have C1 := Aside0.mk hc1
 have C2 := Aside0.mk hc2
 have C3 := Aside0.mk hc3
 have L1 := Aside0.mk hl1
 have L2 := Aside0.mk hl2
 have L3 := Aside0.mk hl3
 have L4 := Aside0.mk hl4
 have m2 : xs.length ≤ 9223372036854775807 := by omega
 have HB := Aside0.mk (Below.refl w.heap.size w)
 clear hr1 hr2 hr3 hc1 hc2 hc3 hl1 hl2 hl3 hl4
 go_enter Try.func99, Try.ntmps99
 go_wp2_with (first | ((with_reducible refine gate_dst (N := 1) rfl ?_); refine box_event ?hg (N := 1) ?hd (cs := #[.string nm, .slice A1 cs.length c1, .slice A2 xs.length c2, .slice A3 ks.length c3]) (t := 28) ?hr ?_; (case hd => rfl); (case hg => rfl); (case hr => first | (go_simp; done) | (go_simp; rfl)); intro b hg w1 hbox hb; have HBX := Aside0.mk hbox; have HBE := Aside0.mk (show w.heap.size ≤ b by rw [hg]; exact Nat.le_refl _); have HB1 := Aside0.mk hb; clear hg hb hbox) | ((with_reducible refine gate_dst (N := 2) rfl ?_); refine box_event ?hg (N := 2) ?hd (cs := #[.string ⟨#[]⟩, .slice none 0 0, .slice none 0 0, .slice none 0 0]) (t := 28) ?hr ?_; (case hd => rfl); (case hg => rfl); (case hr => first | (go_simp; done) | (go_simp; rfl)); intro b2 hg w2 hbox hb; have HRX := Aside0.mk hbox; have HRE := Aside0.mk (show w.heap.size ≤ b2 by rw [hg]; exact HB1.out.size); have HNE := Aside0.mk (show b ≠ b2 by rw [hg]; have := blk_lt HBX.out; omega); have HB2 := Aside0.mk (below_step HB1.out hb); have HBX2 := Aside0.mk (blk_below HBX.out hb); clear hg hb hbox; have t1 := show w2.cell? ⟨b, 1, none⟩ = some (.slice A1 cs.length c1) from blk_cell HBX2.out 1) | fail)
 clear t1
 refine (c133 A1 c1 cs w2 (Kd.C_below R1.out HB2.out) C1.out (by have := L1.out; omega)).mono ?_
 rintro e w3 ⟨v1, rfl, hR, hb⟩
 obtain ⟨Ao1, co1, rfl⟩ := Kd.R_slice hR
 have HV1 := Aside0.mk (Kd.R_lower hR HB2.out.size)
 have HB3 := Aside0.mk (below_step HB2.out hb)
 have HBX3 := Aside0.mk (blk_below HBX2.out hb)
 have HRX3 := Aside0.mk (blk_below HRX.out hb)
 clear hR hb HBX HBX2 HRX R1 C1 L1
 go_wp2_with ((with_reducible refine gate_store (t := 24) (p := 7) rfl ?_); have f1 := blk_cell HBX3.out 1; have fz := blk_frozen HBX3.out 1; refine store_event (t := 24) (p := 7) (v := ?vo1) (w1 := w3.setCell ⟨b, 1, none⟩ (.slice Ao1 cs.length co1)) ?hg ?ho ?hn ?hr ?_; (case ho => rfl); (case hg => rfl); (case hn => rfl); (case hr => first | (go_simp; done) | (go_simp; rfl)); intro w4 hw; clear f1 fz; have HBX4 := Aside0.mk (show w4.heap[b]? = some (.cells #[.string nm, .slice Ao1 cs.length co1, .slice A2 xs.length c2, .slice A3 ks.length c3] 28 (0, 0)) from hw ▸ blk_put HBX3.out 1 _ rfl); have HRX4 := Aside0.mk (show w4.heap[b2]? = some (.cells #[.string ⟨#[]⟩, .slice none 0 0, .slice none 0 0, .slice none 0 0] 28 (0, 0)) from hw ▸ blk_far HRX3.out (Ne.symm HNE.out) _); have HB4 := Aside0.mk (show Below w.heap.size w w4 from hw ▸ below_set HB3.out HBE.out); have HV14 := Aside0.mk (show k56.R 56 w4 w.heap.size (fun _ => True) (.slice Ao1 cs.length co1) cs from hw ▸ Kd.R_mono (Kd.R_far (p := ⟨b, 1, none⟩) (Kd.R_types HV1.out HBX3.out (by decide)) (fun _ hk => hk.2) _) (fun _ _ => trivial)); clear hw; clear HBX3 HRX3 HV1; have t3 := show w4.cell? ⟨b, 3, none⟩ = some (.slice A3 ks.length c3) from blk_cell HBX4.out 3)
 clear t3
 refine (c134 A3 c3 ks w4 (Kd.C_below R3.out HB4.out) C3.out (by have := L3.out; omega)).mono ?_
 rintro e w5 ⟨v3, rfl, hR, hb⟩
 obtain ⟨Ao3, co3, rfl⟩ := Kd.R_slice hR
 have HV3 := Aside0.mk (Kd.R_lower hR HB4.out.size)
 have HB5 := Aside0.mk (below_step HB4.out hb)
 have HBX5 := Aside0.mk (blk_below HBX4.out hb)
 have HRX5 := Aside0.mk (blk_below HRX4.out hb)
 have HV15 := Aside0.mk (Kd.R_below HV14.out hb)
 clear hR hb HBX4 HRX4 HV14 R3 C3 L3
 go_wp2_with ((with_reducible refine gate_store (t := 26) (p := 11) rfl ?_); have f1 := blk_cell HBX5.out 3; have fz := blk_frozen HBX5.out 3; refine store_event (t := 26) (p := 11) (v := ?vo2) (w1 := w5.setCell ⟨b, 3, none⟩ (.slice Ao3 ks.length co3)) ?hg ?ho ?hn ?hr ?_; (case ho => rfl); (case hg => rfl); (case hn => rfl); (case hr => first | (go_simp; done) | (go_simp; rfl)); intro w6 hw; clear f1 fz; have HBX6 := Aside0.mk (show w6.heap[b]? = some (.cells #[.string nm, .slice Ao1 cs.length co1, .slice A2 xs.length c2, .slice Ao3 ks.length co3] 28 (0, 0)) from hw ▸ blk_put HBX5.out 3 _ rfl); have HRX6 := Aside0.mk (show w6.heap[b2]? = some (.cells #[.string ⟨#[]⟩, .slice none 0 0, .slice none 0 0, .slice none 0 0] 28 (0, 0)) from hw ▸ blk_far HRX5.out (Ne.symm HNE.out) _); have HB6 := Aside0.mk (show Below w.heap.size w w6 from hw ▸ below_set HB5.out HBE.out); have HV16 := Aside0.mk (show k56.R 56 w6 w.heap.size (fun _ => True) (.slice Ao1 cs.length co1) cs from hw ▸ Kd.R_mono (Kd.R_far (p := ⟨b, 3, none⟩) (Kd.R_types HV15.out HBX5.out (by decide)) (fun _ hk => hk.2) _) (fun _ _ => trivial)); have HV36 := Aside0.mk (show k42.R 42 w6 w.heap.size (fun _ => True) (.slice Ao3 ks.length co3) ks from hw ▸ Kd.R_mono (Kd.R_far (p := ⟨b, 3, none⟩) (Kd.R_types HV3.out HBX5.out (by decide)) (fun _ hk => hk.2) _) (fun _ _ => trivial)); clear hw; clear HBX5 HRX5 HV15 HV3; have t2 := show w6.cell? ⟨b, 2, none⟩ = some (.slice A2 xs.length c2) from blk_cell HBX6.out 2)
 clear t2
 refine (c135 A2 c2 xs w w6 HB6.out R2.out C2.out (by have := L2.out; omega)).mono ?_
 rintro e w7 ⟨v2, rows, rfl, hrl, hR, hrk, hb⟩
 obtain ⟨Ao2, co2, rfl⟩ := Kd.R_slice hR
 rw [hrl] at hR ⊢
 have HV2 := Aside0.mk (Half.start (w0 := w) hrl (Kd.R_lower hR HB6.out.size) hrk)
 have HB7 := Aside0.mk (below_step HB6.out hb)
 have HBX7 := Aside0.mk (blk_below HBX6.out hb)
 have HRX7 := Aside0.mk (blk_below HRX6.out hb)
 have HV17 := Aside0.mk (Kd.R_below HV16.out hb)
 have HV37 := Aside0.mk (Kd.R_below HV36.out hb)
 have HB67 := Aside0.mk hb
 clear hR hb HBX6 HRX6 HV16 HV36 hrl hrk
 go_wp2_with ((with_reducible refine gate_store (t := 25) (p := 15) rfl ?_); have f1 := blk_cell HBX7.out 2; have fz := blk_frozen HBX7.out 2; refine store_event (t := 25) (p := 15) (v := ?vo3) (w1 := w7.setCell ⟨b, 2, none⟩ (.slice Ao2 xs.length co2)) ?hg ?ho ?hn ?hr ?_; (case ho => rfl); (case hg => rfl); (case hn => rfl); (case hr => first | (go_simp; done) | (go_simp; rfl)); intro w8 hw; clear f1 fz; have HBX8 := Aside0.mk (show w8.heap[b]? = some (.cells #[.string nm, .slice Ao1 cs.length co1, .slice Ao2 xs.length co2, .slice Ao3 ks.length co3] 28 (0, 0)) from hw ▸ blk_put HBX7.out 2 _ rfl); have HRX8 := Aside0.mk (show w8.heap[b2]? = some (.cells #[.string ⟨#[]⟩, .slice none 0 0, .slice none 0 0, .slice none 0 0] 28 (0, 0)) from hw ▸ blk_far HRX7.out (Ne.symm HNE.out) _); have HB8 := Aside0.mk (show Below w.heap.size w w8 from hw ▸ below_set HB7.out HBE.out); have HV18 := Aside0.mk (show k56.R 56 w8 w.heap.size (fun _ => True) (.slice Ao1 cs.length co1) cs from hw ▸ Kd.R_mono (Kd.R_far (p := ⟨b, 2, none⟩) (Kd.R_types HV17.out HBX7.out (by decide)) (fun _ hk => hk.2) _) (fun _ _ => trivial)); have HV38 := Aside0.mk (show k42.R 42 w8 w.heap.size (fun _ => True) (.slice Ao3 ks.length co3) ks from hw ▸ Kd.R_mono (Kd.R_far (p := ⟨b, 2, none⟩) (Kd.R_types HV37.out HBX7.out (by decide)) (fun _ hk => hk.2) _) (fun _ _ => trivial)); have HV28 := Aside0.mk (show Half w.heap.size w w8 (.slice Ao2 xs.length co2) xs 0 from hw ▸ Half.far HV2.out HBX7.out _ _); clear hw HBX7 HRX7 HV17 HV37 HV2; have t2 := show w8.cell? ⟨b, 2, none⟩ = some (.slice Ao2 xs.length co2) from blk_cell HBX8.out 2)
 clear t2
 go_loopw [19] (fun v wr => ∃ k : Nat, k ≤ xs.length ∧ v = .int .i64 k ∧ Aside0 (wr.heap[b]? = some (.cells #[.string nm, .slice Ao1 cs.length co1, .slice Ao2 xs.length co2, .slice Ao3 ks.length co3] 28 (0, 0))) ∧ Aside0 (wr.heap[b2]? = some (.cells #[.string ⟨#[]⟩, .slice none 0 0, .slice none 0 0, .slice none 0 0] 28 (0, 0))) ∧ Aside0 (Below w.heap.size w wr) ∧ Aside0 (k56.R 56 wr w.heap.size (fun _ => True) (.slice Ao1 cs.length co1) cs) ∧ Aside0 (k42.R 42 wr w.heap.size (fun _ => True) (.slice Ao3 ks.length co3) ks) ∧ Aside0 (Half w.heap.size w wr (.slice Ao2 xs.length co2) xs k)) (fun v _ => xs.length - (intOf v).toNat)
 case atStart => exact ⟨0, Nat.zero_le _, rfl, ⟨HBX8.out⟩, ⟨HRX8.out⟩, ⟨HB8.out⟩, ⟨HV18.out⟩, ⟨HV38.out⟩, ⟨HV28.out⟩⟩
 case round =>
  clear HBX8 HRX8 HB8 HV18 HV38 HV28
  obtain ⟨k, hk, rfl, HX, HY, HBW, HV1, HV3, HH⟩ := hrel
  by_cases hlt : k < xs.length
  ·obtain ⟨g, cap, hA⟩ : ∃ g cap, (Value.slice Ao2 xs.length co2) = .slice (some ⟨g, 0, none⟩) xs.length cap := Half.at HH.out hlt
   injection hA with hA1 _ hA3
   subst hA1 hA3
   obtain ⟨Ai, ci, hci, hCi, hcell⟩ := Half.old HH.out hlt
   have HCI := Aside0.mk hCi
   have HCL := Aside0.mk hci
   have t2 := show wr.cell? ⟨b, 2, none⟩ = some (.slice (some ⟨g, 0, none⟩) xs.length co2) from blk_cell HX.out 2
   clear hCi hci
   go_wp2_with fail
   have HL := Aside0.mk (L4.out k hlt)
   have HBG := Aside0.mk (Half.ne HH.out HX.out)
   refine start_ (n := 13) (S := fun w' => w'.cell? ⟨b, 2, none⟩ = some (.slice (some ⟨g, 0, none⟩) xs.length co2) ∧ w'.cell? ⟨g, k * 3 + 1, none⟩ = some (.slice Ai (rd_T65 xs k).f1.length ci)) (ds := [12]) #[false, false, false, false, false, false, false, false, false, false, false, false, false] (by kernel_rfl) rfl rfl ⟨t2, hcell⟩ (fun hHeld => ?_)
   refine pure_ (i := 0) (N := some 22) (v := ?_) (a' := ?_) #[true, false, false, false, false, false, false, false, false, false, false, false, false] rfl rfl (by kernel_rfl) (fun _ _ _ h => h) (Or.inl ⟨by rfl, ?_⟩) ?_ ?_
   rotate_left
   ·intro w'
    go_simp
    with_reducible rfl
   rotate_left
   ·simp only [Act.put, List.setIfInBounds_toArray, List.set_cons_zero, List.set_cons_succ, i64_w, i32_w]
    rfl
   refine take_ (i := 1) (N := some 23) (v := ?_) (a' := ?_) #[true, true, false, false, false, false, false, false, false, false, false, false, false] rfl rfl (by kernel_rfl) (fun _ _ _ h => h) (Or.inl ⟨by rfl, ?_⟩) hHeld ?_ ?_
   rotate_left
   ·rintro w' ⟨s0, s1⟩
    go_simp
    with_reducible rfl
   rotate_left
   ·simp only [Act.put, List.setIfInBounds_toArray, List.set_cons_zero, List.set_cons_succ, i64_w, i32_w]
    rfl
   refine pure_ (i := 2) (N := some 24) (v := ?_) (a' := ?_) #[true, true, true, false, false, false, false, false, false, false, false, false, false] rfl rfl (by kernel_rfl) (fun _ _ _ h => h) (Or.inl ⟨by rfl, ?_⟩) ?_ ?_
   rotate_left
   ·intro w'
    go_simp
    with_reducible rfl
   rotate_left
   ·simp only [Act.put, List.setIfInBounds_toArray, List.set_cons_zero, List.set_cons_succ, i64_w, i32_w]
    rfl
   refine pure_ (i := 3) (N := some 25) (v := ?_) (a' := ?_) #[true, true, true, true, false, false, false, false, false, false, false, false, false] rfl rfl (by kernel_rfl) (fun _ _ _ h => h) (Or.inl ⟨by rfl, ?_⟩) ?_ ?_
   rotate_left
   ·intro w'
    go_simp
    with_reducible rfl
   rotate_left
   ·simp only [Act.put, List.setIfInBounds_toArray, List.set_cons_zero, List.set_cons_succ, i64_w, i32_w]
    rfl
   refine take_ (i := 4) (N := some 26) (v := ?_) (a' := ?_) #[true, true, true, true, true, false, false, false, false, false, false, false, false] rfl rfl (by kernel_rfl) (fun _ _ _ h => h) (Or.inl ⟨by rfl, ?_⟩) hHeld ?_ ?_
   rotate_left
   ·rintro w' ⟨s0, s1⟩
    go_simp
    with_reducible rfl
   rotate_left
   ·simp only [Act.put, List.setIfInBounds_toArray, List.set_cons_zero, List.set_cons_succ, i64_w, i32_w]
    rfl
   refine pure_ (i := 5) (N := some 27) (v := ?_) (a' := ?_) #[true, true, true, true, true, true, false, false, false, false, false, false, false] rfl rfl (by kernel_rfl) (fun _ _ _ h => h) (Or.inl ⟨by rfl, ?_⟩) ?_ ?_
   rotate_left
   ·intro w'
    go_simp
    with_reducible rfl
   rotate_left
   ·simp only [Act.put, List.setIfInBounds_toArray, List.set_cons_zero, List.set_cons_succ, i64_w, i32_w]
    rfl
   refine pure_ (i := 6) (N := some 28) (v := ?_) (a' := ?_) #[true, true, true, true, true, true, true, false, false, false, false, false, false] rfl rfl (by kernel_rfl) (fun _ _ _ h => h) (Or.inl ⟨by rfl, ?_⟩) ?_ ?_
   rotate_left
   ·intro w'
    go_simp
    with_reducible rfl
   rotate_left
   ·simp only [Act.put, List.setIfInBounds_toArray, List.set_cons_zero, List.set_cons_succ, i64_w, i32_w]
    rfl
   refine pure_ (i := 7) (N := some 29) (v := ?_) (a' := ?_) #[true, true, true, true, true, true, true, true, false, false, false, false, false] rfl rfl (by kernel_rfl) (fun _ _ _ h => h) (Or.inl ⟨by rfl, ?_⟩) ?_ ?_
   rotate_left
   ·intro w'
    go_simp
    with_reducible rfl
   rotate_left
   ·simp only [Act.put, List.setIfInBounds_toArray, List.set_cons_zero, List.set_cons_succ, i64_w, i32_w]
    rfl
   refine take_ (i := 8) (N := some 30) (v := ?_) (a' := ?_) #[true, true, true, true, true, true, true, true, true, false, false, false, false] rfl rfl (by kernel_rfl) (fun _ _ _ h => h) (Or.inl ⟨by rfl, ?_⟩) hHeld ?_ ?_
   rotate_left
   ·rintro w' ⟨s0, s1⟩
    go_simp
    with_reducible rfl
   rotate_left
   ·simp only [Act.put, List.setIfInBounds_toArray, List.set_cons_zero, List.set_cons_succ, i64_w, i32_w]
    rfl
   refine one_ (i := 9) (N := some 31) #[true, true, true, true, true, true, true, true, true, true, false, false, false] rfl rfl (by kernel_rfl) (by decide) (fun K hK => ?_)
   refine goes_ Try.func106 (by kernel_rfl) rfl #[.slice Ai (rd_T65 xs k).f1.length ci] (by rfl) rfl rfl (by (try simp only [List.map_toArray, List.map_cons, List.map_nil]); first | done | rfl) ?_
   with_reducible refine (c106 Ai ci (rd_T65 xs k).f1 wr.drew (Kd.C_drew (Kd.C_below HCI.out HBW.out)) HCL.out (by have := HL.out; omega)).mono ?_
   rintro e w' ⟨u, rfl, hRu, hb⟩
   refine ⟨_, rfl, ?_⟩
   obtain ⟨Au, cu, rfl⟩ := Kd.R_slice hRu
   have HRU := Aside0.mk hRu
   clear hRu
   have HBB := Aside0.mk (below_step (below_dr wr) hb)
   clear hHeld
   refine hK.out _ _ ⟨keep hb t2, keep hb hcell⟩ (fun hHeld => ?_)
   clear hK K
   refine norm_ (a' := ?_) ?_ ?_
   rotate_left
   ·show Act.put _ (some 31) _ = _
    simp only [Act.put, List.setIfInBounds_toArray, List.set_cons_zero, List.set_cons_succ, i64_w, i32_w]
    rfl
   refine pure_ (i := 10) (N := some 32) (v := ?_) (a' := ?_) #[true, true, true, true, true, true, true, true, true, true, true, false, false] rfl rfl (by kernel_rfl) (fun _ _ _ h => h) (Or.inl ⟨by rfl, ?_⟩) ?_ ?_
   rotate_left
   ·intro w'
    go_simp
    with_reducible rfl
   rotate_left
   ·simp only [Act.put, List.setIfInBounds_toArray, List.set_cons_zero, List.set_cons_succ, i64_w, i32_w]
    rfl
   refine pure_ (i := 11) (N := some 33) (v := ?_) (a' := ?_) #[true, true, true, true, true, true, true, true, true, true, true, true, false] rfl rfl (by kernel_rfl) (fun _ _ _ h => h) (Or.inl ⟨by rfl, ?_⟩) ?_ ?_
   rotate_left
   ·intro w'
    go_simp
    with_reducible rfl
   rotate_left
   ·simp only [Act.put, List.setIfInBounds_toArray, List.set_cons_zero, List.set_cons_succ, i64_w, i32_w]
    rfl
   obtain ⟨s0, s1⟩ := hHeld
   have fz := Half.frozen (Half.below HH.out HBB.out) (k * 3 + 1)
   refine last_ (i := 12) (N := none) #[true, true, true, true, true, true, true, true, true, true, true, true, true] rfl rfl (by kernel_rfl) (by decide) (fun K hK => ?_)
   refine skip_ (w1 := ?_) (by rfl) rfl ?_ ?_
   rotate_left
   ·go_simp
    rfl
   refine hK.out _ _ ?_
   clear hK K s0 s1 fz
   refine done_ (by kernel_rfl) ?_
   have HP := Half.put HH.out hlt HBB.out (u := .slice Au (rd_T65 xs k).f1.length cu) (Kd.R_mono HRU.out (fun _ _ => trivial)) HBW.out.size
   have HW9 := Aside0.mk HP.1
   have HGE := Aside0.mk (Half.base HH.out)
   obtain ⟨cells65, h65⟩ := Half.typed HH.out
   have HG65 := Aside0.mk (blk_below h65 HBB.out)
   have HX9 := Aside0.mk (blk_far (p := ⟨g, k * 3 + 1, none⟩) (blk_below HX.out HBB.out) HBG.out (.slice Au (rd_T65 xs k).f1.length cu))
   have HY9 := Aside0.mk (blk_far (p := ⟨g, k * 3 + 1, none⟩) (blk_below HY.out HBB.out) (Half.ne HH.out HY.out) (.slice Au (rd_T65 xs k).f1.length cu))
   have HB9 := Aside0.mk (below_set (j := k * 3 + 1) (v := .slice Au (rd_T65 xs k).f1.length cu) (below_step HBW.out HBB.out) HGE.out)
   have HV19 := Aside0.mk (Kd.R_mono (ok' := fun _ => True) (Kd.R_far (p := ⟨g, k * 3 + 1, none⟩) (Kd.R_types (Kd.R_below HV1.out HBB.out) HG65.out (by decide)) (fun _ hk => hk.2) (.slice Au (rd_T65 xs k).f1.length cu)) (fun _ _ => trivial))
   have HV39 := Aside0.mk (Kd.R_mono (ok' := fun _ => True) (Kd.R_far (p := ⟨g, k * 3 + 1, none⟩) (Kd.R_types (Kd.R_below HV3.out HBB.out) HG65.out (by decide)) (fun _ hk => hk.2) (.slice Au (rd_T65 xs k).f1.length cu)) (fun _ _ => trivial))
   clear HP h65 hb HBB HRU t2 hcell HX HY HBW HV1 HV3 HH HG65 HCI HCL HBG
   generalize w'.setCell ⟨g, k * 3 + 1, none⟩ (.slice Au (rd_T65 xs k).f1.length cu) = w9 at *
   go_wp2_with fail
   go_roundw
   case rel => exact ⟨k + 1, by omega, by go_num, ⟨HX9.out⟩, ⟨HY9.out⟩, ⟨HB9.out⟩, ⟨HV19.out⟩, ⟨HV39.out⟩, ⟨HW9.out⟩⟩
   case measure => simp [intOf]; omega
  ·obtain rfl : k = xs.length := by omega
   have HS := Aside0.mk (Half.done HH.out)
   clear HH
   have t0 := show wr.cell? ⟨b, 0, none⟩ = some (.string nm) from blk_cell HX.out 0
   have t1 := show wr.cell? ⟨b, 1, none⟩ = some (.slice Ao1 cs.length co1) from blk_cell HX.out 1
   have t2 := show wr.cell? ⟨b, 2, none⟩ = some (.slice Ao2 xs.length co2) from blk_cell HX.out 2
   have t3 := show wr.cell? ⟨b, 3, none⟩ = some (.slice Ao3 ks.length co3) from blk_cell HX.out 3
   go_wp2_with ((with_reducible refine gate_store (t := 28) (p := 2) rfl ?_); have r0 := blk_cell HY.out 0; have z0 := blk_frozen HY.out 0; have y0 := (show (wr.setCell ⟨b2, 0, none⟩ (.string nm)).heap[b2]? = some (.cells #[.string nm, .slice none 0 0, .slice none 0 0, .slice none 0 0] 28 (0, 0)) from blk_put HY.out 0 _ rfl); have r1 := blk_cell y0 1; have z1 := blk_frozen y0 1; have y1 := (show ((wr.setCell ⟨b2, 0, none⟩ (.string nm)).setCell ⟨b2, 1, none⟩ (.slice Ao1 cs.length co1)).heap[b2]? = some (.cells #[.string nm, .slice Ao1 cs.length co1, .slice none 0 0, .slice none 0 0] 28 (0, 0)) from blk_put y0 1 _ rfl); have r2 := blk_cell y1 2; have z2 := blk_frozen y1 2; have y2 := (show (((wr.setCell ⟨b2, 0, none⟩ (.string nm)).setCell ⟨b2, 1, none⟩ (.slice Ao1 cs.length co1)).setCell ⟨b2, 2, none⟩ (.slice Ao2 xs.length co2)).heap[b2]? = some (.cells #[.string nm, .slice Ao1 cs.length co1, .slice Ao2 xs.length co2, .slice none 0 0] 28 (0, 0)) from blk_put y1 2 _ rfl); have r3 := blk_cell y2 3; have z3 := blk_frozen y2 3; have y3 := (show ((((wr.setCell ⟨b2, 0, none⟩ (.string nm)).setCell ⟨b2, 1, none⟩ (.slice Ao1 cs.length co1)).setCell ⟨b2, 2, none⟩ (.slice Ao2 xs.length co2)).setCell ⟨b2, 3, none⟩ (.slice Ao3 ks.length co3)).heap[b2]? = some (.cells #[.string nm, .slice Ao1 cs.length co1, .slice Ao2 xs.length co2, .slice Ao3 ks.length co3] 28 (0, 0)) from blk_put y2 3 _ rfl); have HR := Aside0.mk y3; clear y0 y1 y2 y3; refine store_event (t := 28) (p := 2) (v := ?vo4) (w1 := ((((wr.setCell ⟨b2, 0, none⟩ (.string nm)).setCell ⟨b2, 1, none⟩ (.slice Ao1 cs.length co1)).setCell ⟨b2, 2, none⟩ (.slice Ao2 xs.length co2)).setCell ⟨b2, 3, none⟩ (.slice Ao3 ks.length co3))) ?hg ?ho ?hn ?hr ?_; (case ho => rfl); (case hg => rfl); (case hn => rfl); (case hr => first | (go_simp; done) | (go_simp; rfl)); intro w9 hw; clear r0 r1 r2 r3 z0 z1 z2 z3 t0 t1 t2 t3; have HR9 := Aside0.mk (show w9.heap[b2]? = some (.cells #[.string nm, .slice Ao1 cs.length co1, .slice Ao2 xs.length co2, .slice Ao3 ks.length co3] 28 (0, 0)) from hw ▸ HR.out); have HB9 := Aside0.mk (show Below w.heap.size w w9 from hw ▸ below_set (below_set (below_set (below_set HBW.out HRE.out) HRE.out) HRE.out) HRE.out); have HK9 := Aside0.mk (show ∀ k, k ≠ b2 → w9.heap[k]? = wr.heap[k]? from fun k hk => by rw [hw, Below.heap_setCell _ _ _ k hk, Below.heap_setCell _ _ _ k hk, Below.heap_setCell _ _ _ k hk, Below.heap_setCell _ _ _ k hk]); clear HR hw)
   have r0 := show w9.cell? ⟨b2, 0, none⟩ = some (.string nm) from blk_cell HR9.out 0
   have r1 := show w9.cell? ⟨b2, 1, none⟩ = some (.slice Ao1 cs.length co1) from blk_cell HR9.out 1
   have r2 := show w9.cell? ⟨b2, 2, none⟩ = some (.slice Ao2 xs.length co2) from blk_cell HR9.out 2
   have r3 := show w9.cell? ⟨b2, 3, none⟩ = some (.slice Ao3 ks.length co3) from blk_cell HR9.out 3
   refine bodyPost_ret (v := .agg #[.string nm, .slice Ao1 cs.length co1, .slice Ao2 xs.length co2, .slice Ao3 ks.length co3]) (by simp [results, Try.results99, go_sem, r0, r1, r2, r3]) rfl ⟨_, _, _, rfl, ?_, ?_, ?_, HB9.out⟩
   ·exact Kd.R_mono (Kd.R_step (Kd.R_types HV1.out HY.out (by decide)) (fun k hk _ => HK9.out k hk.2)) (fun _ _ => trivial)
   ·exact Kd.S_mono (Kd.S_step (Kd.S_types HS.out HY.out (by decide)) (fun k hk _ => HK9.out k hk.2)) (fun _ _ => trivial)
   ·exact Kd.R_mono (Kd.R_step (Kd.R_types HV3.out HY.out (by decide)) (fun k hk _ => HK9.out k hk.2)) (fun _ _ => trivial)

def schema_copied.f (a0_0 : ByteArray) (l0_1 : List S56) (l0_2 : List S65) (l0_3 : List S42) : Option (ByteArray × List S56 × List S65 × List S42) := if l0_1.length < 1000000 ∧ l0_2.length < 1000000 ∧ l0_3.length < 1000000 ∧ (∀ x, x ∈ l0_2 → x.f1.length < 1000000) then some (a0_0, l0_1, l0_2, l0_3) else none
theorem schema_copied.calls (a0_0 : ByteArray) (A0_1 : Option Addr) (c0_1 : Nat) (l0_1 : List S56) (A0_2 : Option Addr) (c0_2 : Nat) (l0_2 : List S65) (A0_3 : Option Addr) (c0_3 : Nat) (l0_3 : List S42) (r1 : ByteArray) (r2 : List S56) (r3 : List S65) (r4 : List S42) (w : World) (hr0_1 : Kd.C k56 w A0_1 l0_1.length l0_1) (hc0_1 : l0_1.length ≤ c0_1) (hr0_2 : Kd.C k65 w A0_2 l0_2.length l0_2) (hc0_2 : l0_2.length ≤ c0_2) (hr0_3 : Kd.C k42 w A0_3 l0_3.length l0_3) (hc0_3 : l0_3.length ≤ c0_3) (h : schema_copied.f a0_0 l0_1 l0_2 l0_3 = some (r1, r2, r3, r4)) :
  Calls Try.prog 99 #[.agg #[.string a0_0, .slice A0_1 l0_1.length c0_1, .slice A0_2 l0_2.length c0_2, .slice A0_3 l0_3.length c0_3]] w fun e w' => ∃ v1 v2 v3 : Value, e = .returned (.agg #[.string r1, v1, v2, v3]) ∧ Kd.R k56 56 w' w.heap.size (fun _ => True) v1 r2 ∧ Kd.S k65 65 w' w.heap.size (fun _ => True) v2 r3 ∧ Kd.R k42 42 w' w.heap.size (fun _ => True) v3 r4 ∧ Below w.heap.size w w' := by
 unfold schema_copied.f at h
 split at h
 ·rename_i hl
  injection h with h
  injection h with h1 h
  injection h with h2 h
  injection h with h3 h4
  subst h1 h2 h3 h4
  exact c99 a0_0 A0_1 c0_1 l0_1 A0_2 c0_2 l0_2 A0_3 c0_3 l0_3 w hr0_1 hc0_1 hr0_2 hc0_2 hr0_3 hc0_3 hl.1 hl.2.1 hl.2.2.1 (fun i hi => hl.2.2.2 _ (by
   have hx : rd_T65 l0_2 (i : Int) = l0_2[i] := by
    unfold rd_T65
    rw [Int.toNat_natCast, List.getD_eq_getElem?_getD, List.getElem?_eq_getElem hi]; rfl
   rw [hx]
   exact List.getElem_mem hi))
 ·cases h
end Go.Proofs.Ytkopbaikmlajmaa.Q
