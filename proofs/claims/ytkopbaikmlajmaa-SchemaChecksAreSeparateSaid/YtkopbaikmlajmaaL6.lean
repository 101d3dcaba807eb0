/- The walk of the statement that checks are separate: true for every table and every row. -/
import Derived.Test.YtkopbaikmlajmaaWY
import Derived.Test.YtkopbaikmlajmaaF22
import Derived.Test.YtkopbaikmlajmaaG27
import Derived.Test.YtkopbaikmlajmaaO
namespace Go.Proofs.Ytkopbaikmlajmaa.Q
open Go.RowKit Go.Proofs.YtkopbaikmlajmaaW.PrintWords Go.Proofs.YtkopbaikmlajmaaW.PrintLast Go.Proofs.YtkopbaikmlajmaaW.PrintMore
set_option linter.unusedVariables false
set_option linter.unusedSimpArgs false
theorem rd42_nat (l : List S42) (i : Nat) (h : i < l.length) : rd_T42 l (i : Int) = l[i] := by
  unfold rd_T42
  rw [Int.toNat_natCast, List.getD_eq_getElem?_getD, List.getElem?_eq_getElem h]; rfl
theorem firstE_zero {f : Nat → Int} {n : Nat} : firstE f n = 0 ↔ ∀ j, j < n → f j = 0 := ⟨firstE_all, firstE_none f n⟩
/-- What makes a table valid. -/
theorem checkE_zero {nm : ByteArray} {cs : List S56} {xs : List S65} {ks : List S42} : checkE nm cs xs ks = 0 ↔ nameB nm = true ∧ ¬ (cs.length = 0 ∨ 8 < cs.length) ∧ firstE (colE cs) cs.length = 0 ∧ ¬ 4 < xs.length ∧ firstE (idxE xs cs.length) xs.length = 0 ∧ ¬ 4 < ks.length ∧ firstE (chkE ks cs) ks.length = 0 := by
  constructor
  · intro h
    unfold checkE at h
    split at h; · cases h
    split at h; · cases h
    split at h; · contradiction
    split at h; · cases h
    split at h; · contradiction
    split at h; · cases h
    rename_i a b c d e f
    exact ⟨by simpa using a, b, by simpa using c, d, by simpa using e, f, h⟩
  · rintro ⟨a, b, c, d, e, f, g⟩
    unfold checkE
    rw [if_neg (by rw [a]; simp), if_neg b, if_neg (by rw [c]; simp), if_neg d, if_neg (by rw [e]; simp), if_neg f, g]
theorem check_fewer {nm : ByteArray} {cs : List S56} {xs : List S65} {ks ls : List S42} (h : checkE nm cs xs ks = 0) (hl : ls.length ≤ 4) (hs : ∀ x, x ∈ ls → x ∈ ks) : checkE nm cs xs ls = 0 := by
  rw [checkE_zero] at h ⊢
  refine ⟨h.1, h.2.1, h.2.2.1, h.2.2.2.1, h.2.2.2.2.1, by omega, ?_⟩
  rw [firstE_zero]
  intro j hj
  have hm := hs ls[j] (List.getElem_mem hj)
  obtain ⟨i, hi, e⟩ := List.getElem_of_mem hm
  have := firstE_zero.1 h.2.2.2.2.2.2 i hi
  unfold chkE at this ⊢
  rw [rd42_nat ks i hi, e] at this
  rw [rd42_nat ls j hj]
  exact this
theorem chkH_at {ks : List S42} {r : List S40} {i : Nat} (hi : i < ks.length) : chkH ks r i = chkH [ks[i]] r 0 := by
  unfold chkH
  rw [rd42_nat ks i hi, show ((0 : Nat) : Int) = ((0 : Nat) : Int) from rfl, rd42_nat [ks[i]] 0 (by simp)]
  rfl
/-- A row fits but for the checks. -/
def fits0 (cs : List S56) (r : List S40) : Bool := decide (r.length = cs.length) && decide (firstE (fitE cs r) r.length = 0)
theorem fitsE_zero {nm : ByteArray} {cs : List S56} {xs : List S65} {ks : List S42} {r : List S40} (h : checkE nm cs xs ks = 0) : (fitsE nm cs xs ks r == 0) = (fits0 cs r && (List.range ks.length).all (fun i => decide (chkH ks r i = 0))) := by
  unfold fitsE fits0
  rw [if_neg (by rw [h]; simp)]
  by_cases h1 : r.length = cs.length
  · rw [if_neg (by simpa using h1), decide_eq_true h1, Bool.true_and]
    by_cases h2 : firstE (fitE cs r) r.length = 0
    · rw [if_neg (by rw [h2]; simp), decide_eq_true h2, Bool.true_and, Bool.eq_iff_iff, beq_iff_eq, firstE_zero, List.all_eq_true]
      simp
    · rw [if_pos h2, decide_eq_false h2]
      simpa using h2
  · rw [if_pos h1, decide_eq_false h1]
    rfl

/-- The row fits but for the checks, and the first i checks. -/
def sepB (cs : List S56) (ks : List S42) (r : List S40) (i : Nat) : Bool := fits0 cs r && (List.range i).all (fun j => decide (chkH ks r j = 0))
theorem sepB_succ (cs : List S56) (ks : List S42) (r : List S40) (i : Nat) : sepB cs ks r (i + 1) = (sepB cs ks r i && decide (chkH ks r i = 0)) := by
  unfold sepB
  rw [List.range_succ, List.all_append, Bool.and_assoc]
  simp
theorem sep_one {nm : ByteArray} {cs : List S56} {xs : List S65} {ks : List S42} {r : List S40} (hc : checkE nm cs xs ks = 0) {i : Nat} (hi : i < ks.length) (h : sepB cs ks r i = true) : (fitsE nm cs xs [rd_T42 ks i] r == 0) = sepB cs ks r (i + 1) := by
  rw [sepB_succ, h, Bool.true_and, rd42_nat ks i hi, fitsE_zero (check_fewer hc (by simp) (fun x hx => by
    have : x = ks[i] := by simpa using hx
    rw [this]; exact List.getElem_mem hi)), chkH_at hi]
  unfold sepB at h
  rw [Bool.and_eq_true] at h
  rw [h.1]
  simp [List.range_succ]
theorem sep_zero {nm : ByteArray} {cs : List S56} {xs : List S65} {ks : List S42} {r : List S40} (hc : checkE nm cs xs ks = 0) : (fitsE nm cs xs [] r == 0) = sepB cs ks r 0 := by
  rw [fitsE_zero (check_fewer hc (by simp) (fun x hx => by cases hx))]
  unfold sepB
  simp
set_option maxHeartbeats 2000000 in
set_option maxRecDepth 100000 in
theorem w6 (nm : ByteArray) (A1 : Option Addr) (c1 : Nat) (cs : List S56) (A2 : Option Addr) (c2 : Nat) (xs : List S65) (A3 : Option Addr) (c3 : Nat) (ks : List S42) (A4 : Option Addr) (c4 : Nat) (r : List S40) (w : World) (hT : Tab w nm A1 c1 cs A2 c2 xs A3 c3 ks) (hr : Kd.C k40 w A4 r.length r) (hc : r.length ≤ c4) (hp : ∀ x, x ∈ r → p40 x) :
    Calls Try.prog 6 #[.agg #[.string nm, .slice A1 cs.length c1, .slice A2 xs.length c2, .slice A3 ks.length c3], .slice A4 r.length c4] w fun e w' => e = .returned (.bool true) ∧ Below w.heap.size w w' := by
  have hu28 := Try.underlying28
  have hu42 := Try.underlying42
  have hu40 := Try.underlying40
  have m3 : ks.length ≤ 9223372036854775807 := hT.r3.2.1
  have m4 : r.length ≤ 9223372036854775807 := hr.2.1
  have T := Aside0.mk hT
  have R4 := Aside0.mk hr
  have C4 := Aside0.mk hc
  clear hT hr hc hp
  go_enter Try.func6, Try.ntmps6
  go_wp2_with fail
  obtain ⟨w0, hw0⟩ : ∃ w0, w0 = w.alloc (.cells #[.string nm, .slice A1 cs.length c1, .slice A2 xs.length c2, .slice A3 ks.length c3] 28) := ⟨_, rfl⟩
  have HB := Aside0.mk (show Below w.heap.size w w0 from hw0 ▸ below_al w _)
  have HT0 := Aside0.mk (show w0.heap[w.heap.size]? = some (.cells #[.string nm, .slice A1 cs.length c1, .slice A2 xs.length c2, .slice A3 ks.length c3] 28 (0, 0)) from hw0 ▸ blk_new w _)
  rw [← hw0]
  clear hw0
  obtain ⟨b, hb⟩ : ∃ b, b = w.heap.size := ⟨_, rfl⟩
  rw [← hb] at HT0 ⊢
  clear hb
  replace T := Aside0.mk (T.out.below HB.out)
  replace R4 := Aside0.mk (Kd.C_below R4.out HB.out)
  have HC := Aside0.mk (Below.refl w0.heap.size w0)
  refine (c22 _).mono ?_
  rintro e w1 ⟨rfl, hb⟩
  replace HC := Aside0.mk (below_step HC.out hb)
  clear hb
  have hT := (HC.out.block _ (Array.getElem?_eq_some_iff.1 HT0.out).1).trans HT0.out
  have t0 := show w1.cell? ⟨b, 0, none⟩ = some (.string nm) from blk_cell hT 0
  have t1 := show w1.cell? ⟨b, 1, none⟩ = some (.slice A1 cs.length c1) from blk_cell hT 1
  have t2 := show w1.cell? ⟨b, 2, none⟩ = some (.slice A2 xs.length c2) from blk_cell hT 2
  have t3 := show w1.cell? ⟨b, 3, none⟩ = some (.slice A3 ks.length c3) from blk_cell hT 3
  clear hT
  go_wp2_with fail
  clear t0 t1 t2 t3
  have T1 := T.out.below HC.out
  refine (c25 nm A1 c1 cs A2 c2 xs A3 c3 ks w1 T1.r1 T1.l1 T1.r2 T1.l2 T1.r3 T1.l3).mono ?_
  clear T1
  rintro e w2 ⟨rfl, hb⟩
  replace HC := Aside0.mk (below_step HC.out hb)
  clear hb
  cases hF : fewB cs xs ks with
  | false =>
    go_wp2_with fail
    go_ret
    exact ⟨rfl, below_step HB.out HC.out⟩
  | true =>
  clear hF
  by_cases hlen : 20 < r.length
  · have h1 : decide ((20 : Int) < (r.length : Int)) = true := decide_eq_true (by omega)
    have h2 : decide (20 < r.length) = true := decide_eq_true (by omega)
    go_wp2_with fail
    go_ret
    exact ⟨rfl, below_step HB.out HC.out⟩
  have h1 : decide ((20 : Int) < (r.length : Int)) = false := decide_eq_false (by omega)
  have h2 : decide (20 < r.length) = false := decide_eq_false (by omega)
  have hT := (HC.out.block _ (Array.getElem?_eq_some_iff.1 HT0.out).1).trans HT0.out
  have t0 := show w2.cell? ⟨b, 0, none⟩ = some (.string nm) from blk_cell hT 0
  have t1 := show w2.cell? ⟨b, 1, none⟩ = some (.slice A1 cs.length c1) from blk_cell hT 1
  have t2 := show w2.cell? ⟨b, 2, none⟩ = some (.slice A2 xs.length c2) from blk_cell hT 2
  have t3 := show w2.cell? ⟨b, 3, none⟩ = some (.slice A3 ks.length c3) from blk_cell hT 3
  clear hT
  go_wp2_with fail
  clear t0 t1 t2 t3 h1 h2 hlen
  have T1 := T.out.below HC.out
  refine (c26 nm A1 c1 cs A2 c2 xs A3 c3 ks w2 T1.r1 T1.l1 T1.r2 T1.l2 T1.r3 T1.l3).mono ?_
  clear T1
  rintro e w3 ⟨rfl, hb⟩
  replace HC := Aside0.mk (below_step HC.out hb)
  clear hb
  by_cases hck : checkE nm cs xs ks = 0
  rotate_left
  · have h1 : (checkE nm cs xs ks != 0) = true := by simpa using hck
    have h2 : (checkE nm cs xs ks == 0) = false := by simpa using hck
    go_wp2_with fail
    go_ret
    exact ⟨rfl, below_step HB.out HC.out⟩
  have HK := Aside0.mk hck
  rw [hck]
  clear hck
  have hT := (HC.out.block _ (Array.getElem?_eq_some_iff.1 HT0.out).1).trans HT0.out
  have t0 := show w3.cell? ⟨b, 0, none⟩ = some (.string nm) from blk_cell hT 0
  have t1 := show w3.cell? ⟨b, 1, none⟩ = some (.slice A1 cs.length c1) from blk_cell hT 1
  have t2 := show w3.cell? ⟨b, 2, none⟩ = some (.slice A2 xs.length c2) from blk_cell hT 2
  have t3 := show w3.cell? ⟨b, 3, none⟩ = some (.slice A3 ks.length c3) from blk_cell hT 3
  clear hT
  go_wp2_with fail
  clear t0 t1 t2 t3
  obtain ⟨w4, hw4⟩ : ∃ w4, w4 = w3.alloc (.cells #[.string nm, .slice A1 cs.length c1, .slice A2 xs.length c2, .slice none 0 0] 28) := ⟨_, rfl⟩
  have HG := Aside0.mk (show w4.heap[w3.heap.size]? = some (.cells #[.string nm, .slice A1 cs.length c1, .slice A2 xs.length c2, .slice none 0 0] 28 (0, 0)) from hw4 ▸ blk_new w3 _)
  have HGE := Aside0.mk (show w0.heap.size ≤ w3.heap.size from HC.out.size)
  have hb : Below w3.heap.size w3 w4 := hw4 ▸ below_al w3 _
  replace HC := Aside0.mk (below_step HC.out hb)
  rw [← hw4]
  clear hw4 hb
  obtain ⟨g, hg⟩ : ∃ g, g = w3.heap.size := ⟨_, rfl⟩
  rw [← hg] at HG HGE ⊢
  clear hg w3
  have T1 := T.out.below HC.out
  refine (c31 nm A1 c1 cs A2 c2 xs none 0 [] A4 c4 r w4 T1.r1 T1.l1 T1.r2 T1.l2 (Kd.C_nil _ _) (Nat.le_refl _) (Kd.C_below R4.out HC.out) C4.out).mono ?_
  clear T1
  rintro e w5 ⟨rfl, hb⟩
  replace HC := Aside0.mk (below_step HC.out hb)
  replace HG := Aside0.mk ((hb.block _ (Array.getElem?_eq_some_iff.1 HG.out).1).trans HG.out)
  clear hb
  obtain ⟨q, hq⟩ : ∃ q, q = fitsE nm cs xs [] r := ⟨_, rfl⟩
  have HQ := Aside0.mk (show (q == 0) = sepB cs ks r 0 by rw [hq]; exact sep_zero HK.out)
  rw [← hq]
  clear hq
  go_wp2_with fail
  go_loopw [7, 8] (fun x7 v wr => ∃ (k : Nat) (u : Value), k ≤ ks.length ∧ x7 = .bool (sepB cs ks r k) ∧ v = .int .i64 k ∧ Aside0 (wr.heap[g]? = some (.cells #[.string nm, .slice A1 cs.length c1, .slice A2 xs.length c2, u] 28 (0, 0))) ∧ Aside0 (Below w0.heap.size w0 wr)) (fun _ v _ => ks.length - (intOf v).toNat)
  case atStart => exact ⟨0, _, Nat.zero_le _, by rw [HQ.out], rfl, ⟨HG.out⟩, ⟨HC.out⟩⟩
  case round =>
    clear HQ HG HC
    obtain ⟨k, u, hk, rfl, rfl, HG, HC⟩ := hrel
    have hT := (HC.out.block _ (Array.getElem?_eq_some_iff.1 HT0.out).1).trans HT0.out
    have t0 := show wr.cell? ⟨b, 0, none⟩ = some (.string nm) from blk_cell hT 0
    have t1 := show wr.cell? ⟨b, 1, none⟩ = some (.slice A1 cs.length c1) from blk_cell hT 1
    have t2 := show wr.cell? ⟨b, 2, none⟩ = some (.slice A2 xs.length c2) from blk_cell hT 2
    have t3 := show wr.cell? ⟨b, 3, none⟩ = some (.slice A3 ks.length c3) from blk_cell hT 3
    clear hT
    by_cases hlt : k < ks.length
    · obtain ⟨ad, rfl, e0, e1, e2, e3, e4⟩ := at_T42 T.out.r3 (k : Int) (by omega) (by omega)
      simp only [Int.toNat_natCast] at e0 e1 e2 e3 e4
      replace e0 := keep HC.out e0
      replace e1 := keep HC.out e1
      replace e2 := keep HC.out e2
      replace e3 := keep HC.out e3
      replace e4 := keep HC.out e4
      cases hx : sepB cs ks r k with
      | true =>
        have HX := Aside0.mk hx
        clear hx
        go_wp2_with (first | ((with_reducible refine gate_dst (N := 42) rfl ?_); refine Kd.R_lit k42 _ 42 ?hg (N := 42) ?hd (xs := [rd_T42 ks k]) (inner := [.int .i64 (rd_T42 ks k).f0, .int .i64 (rd_T42 ks k).f1, .int .i64 (rd_T42 ks k).f2.f0, .int .i64 (rd_T42 ks k).f2.f1, .string (rd_T42 ks k).f2.f2]) (ok := fun _ => True) (okp := fun _ => True) ?hr ?hp (fun _ hk => hk) trivial (Below.refl _ _) (Nat.le_refl _) (by simp) ?_; (case hd => rfl); (case hg => rfl); (case hr => first | (go_simp; done) | (go_simp; rfl)); (case hp => exact Reps.c5 (k42_mkM _ _ _ _) (Reps.none _ _)); intro v6 w6 ho hb hgr hnew; obtain ⟨A6, c6, rfl⟩ := Kd.R_slice ho; clear e0 e1 e2 e3 e4 t0 t1 t2 t3; have HO6 := Aside0.mk ho; have HB6 := Aside0.mk hb; have HG6 := Aside0.mk (blk_below HG.out hb); have f3 := blk_cell HG6.out 3; have fz := blk_frozen HG6.out 3; clear ho hb hgr hnew) | ((with_reducible refine gate_store (t := 26) (p := 43) rfl ?_); refine store_event (t := 26) (p := 43) (v := ?vo) (w1 := w6.setCell ⟨g, 3, none⟩ (.slice A6 [rd_T42 ks k].length c6)) ?hg ?ho ?hn ?hr ?_; (case ho => rfl); (case hg => rfl); (case hn => rfl); (case hr => first | (go_simp; done) | (go_simp; rfl)); intro w7 hw7; clear f3 fz; have HG7 := Aside0.mk (show w7.heap[g]? = some (.cells #[.string nm, .slice A1 cs.length c1, .slice A2 xs.length c2, .slice A6 [rd_T42 ks k].length c6] 28 (0, 0)) from hw7 ▸ blk_put HG6.out 3 _ rfl); have HC7 := Aside0.mk (show Below w0.heap.size w0 w7 from hw7 ▸ below_set (below_step HC.out HB6.out) HGE.out); have HO7 := Aside0.mk (show k42.R 42 w7 wr.heap.size (fun _ => True) (.slice A6 [rd_T42 ks k].length c6) [rd_T42 ks k] from hw7 ▸ Kd.R_mono (Kd.R_far (p := ⟨g, 3, none⟩) (Kd.R_types HO6.out HG6.out (by decide)) (fun _ hk => hk.2) _) (fun _ _ => trivial)); clear hw7; have g0 := show w7.cell? ⟨g, 0, none⟩ = some (.string nm) from blk_cell HG7.out 0; have g1 := show w7.cell? ⟨g, 1, none⟩ = some (.slice A1 cs.length c1) from blk_cell HG7.out 1; have g2 := show w7.cell? ⟨g, 2, none⟩ = some (.slice A2 xs.length c2) from blk_cell HG7.out 2; have g3 := show w7.cell? ⟨g, 3, none⟩ = some (.slice A6 [rd_T42 ks k].length c6) from blk_cell HG7.out 3))
        clear g0 g1 g2 g3
        have T1 := T.out.below HC7.out
        have K7 := Kd.R_reads' HO7.out
        refine (c31 nm A1 c1 cs A2 c2 xs A6 c6 [rd_T42 ks k] A4 c4 r w7 T1.r1 T1.l1 T1.r2 T1.l2 K7.2.2 K7.2.1 (Kd.C_below R4.out HC7.out) C4.out).mono ?_
        clear T1 K7
        rintro e w8 ⟨rfl, hb⟩
        have HC8 := Aside0.mk (below_step HC7.out hb)
        have HG8 := Aside0.mk (blk_below HG7.out hb)
        clear hb
        obtain ⟨q2, hq⟩ : ∃ q2, q2 = fitsE nm cs xs [rd_T42 ks k] r := ⟨_, rfl⟩
        have HQ2 := Aside0.mk (show (q2 == 0) = sepB cs ks r (k + 1) by rw [hq]; exact sep_one HK.out hlt HX.out)
        rw [← hq]
        clear hq
        go_wp2_with fail
        go_roundw
        case rel => exact ⟨k + 1, _, by omega, by rw [HQ2.out], by go_num, ⟨HG8.out⟩, ⟨HC8.out⟩⟩
        case measure => simp [intOf]; omega
      | false =>
        have HX := Aside0.mk hx
        clear hx
        go_wp2_with (first | ((with_reducible refine gate_dst (N := 42) rfl ?_); refine Kd.R_lit k42 _ 42 ?hg (N := 42) ?hd (xs := [rd_T42 ks k]) (inner := [.int .i64 (rd_T42 ks k).f0, .int .i64 (rd_T42 ks k).f1, .int .i64 (rd_T42 ks k).f2.f0, .int .i64 (rd_T42 ks k).f2.f1, .string (rd_T42 ks k).f2.f2]) (ok := fun _ => True) (okp := fun _ => True) ?hr ?hp (fun _ hk => hk) trivial (Below.refl _ _) (Nat.le_refl _) (by simp) ?_; (case hd => rfl); (case hg => rfl); (case hr => first | (go_simp; done) | (go_simp; rfl)); (case hp => exact Reps.c5 (k42_mkM _ _ _ _) (Reps.none _ _)); intro v6 w6 ho hb hgr hnew; obtain ⟨A6, c6, rfl⟩ := Kd.R_slice ho; clear e0 e1 e2 e3 e4 t0 t1 t2 t3; have HO6 := Aside0.mk ho; have HB6 := Aside0.mk hb; have HG6 := Aside0.mk (blk_below HG.out hb); have f3 := blk_cell HG6.out 3; have fz := blk_frozen HG6.out 3; clear ho hb hgr hnew) | ((with_reducible refine gate_store (t := 26) (p := 43) rfl ?_); refine store_event (t := 26) (p := 43) (v := ?vo) (w1 := w6.setCell ⟨g, 3, none⟩ (.slice A6 [rd_T42 ks k].length c6)) ?hg ?ho ?hn ?hr ?_; (case ho => rfl); (case hg => rfl); (case hn => rfl); (case hr => first | (go_simp; done) | (go_simp; rfl)); intro w7 hw7; clear f3 fz; have HG7 := Aside0.mk (show w7.heap[g]? = some (.cells #[.string nm, .slice A1 cs.length c1, .slice A2 xs.length c2, .slice A6 [rd_T42 ks k].length c6] 28 (0, 0)) from hw7 ▸ blk_put HG6.out 3 _ rfl); have HC7 := Aside0.mk (show Below w0.heap.size w0 w7 from hw7 ▸ below_set (below_step HC.out HB6.out) HGE.out); have HO7 := Aside0.mk (show k42.R 42 w7 wr.heap.size (fun _ => True) (.slice A6 [rd_T42 ks k].length c6) [rd_T42 ks k] from hw7 ▸ Kd.R_mono (Kd.R_far (p := ⟨g, 3, none⟩) (Kd.R_types HO6.out HG6.out (by decide)) (fun _ hk => hk.2) _) (fun _ _ => trivial)); clear hw7))
        go_roundw
        case rel => exact ⟨k + 1, _, by omega, by rw [sepB_succ, HX.out]; rfl, by go_num, ⟨HG7.out⟩, ⟨HC7.out⟩⟩
        case measure => simp [intOf]; omega
    · obtain rfl : k = ks.length := by omega
      go_wp2_with fail
      clear t0 t1 t2 t3
      have T1 := T.out.below HC.out
      refine (c31 nm A1 c1 cs A2 c2 xs A3 c3 ks A4 c4 r wr T1.r1 T1.l1 T1.r2 T1.l2 T1.r3 T1.l3 (Kd.C_below R4.out HC.out) C4.out).mono ?_
      clear T1
      rintro e w8 ⟨rfl, hb⟩
      have HC8 := Aside0.mk (below_step HC.out hb)
      clear hb
      obtain ⟨q2, hq⟩ : ∃ q2, q2 = fitsE nm cs xs ks r := ⟨_, rfl⟩
      have HQ2 := Aside0.mk (show (q2 == 0) = sepB cs ks r ks.length by rw [hq]; exact fitsE_zero HK.out)
      rw [← hq]
      clear hq
      have he : ((q2 == 0) == sepB cs ks r ks.length) = true := by rw [HQ2.out]; exact beq_self_eq_true _
      go_wp2_with fail
      go_ret
      exact ⟨rfl, below_step HB.out HC8.out⟩
end Go.Proofs.Ytkopbaikmlajmaa.Q
