/- trimmed to what these claims' texts use -/
import Derived.Test.YtkopbaikmlajmaaF110
namespace Go.Proofs.Ytkopbaikmlajmaa.Q
open Go.RowKit Go.Proofs.YtkopbaikmlajmaaW.PrintWords Go.Proofs.YtkopbaikmlajmaaW.PrintLast Go.Proofs.YtkopbaikmlajmaaW.PrintMore
set_option linter.unusedVariables false
set_option linter.unusedSimpArgs false
def aggV (v : S40) : Value := .agg #[.int .i64 v.f0, .int .i64 v.f1, .string v.f2]
theorem PS.far {rb : Nat} {w0 w : World} {l : List Int} {p : Addr} (h : PS rb w0 w l) (hne : rb ≠ p.block) (u : Value) : PS rb w0 (w.setCell p u) l := by
 obtain ⟨A, c, h1, h2, h3⟩ := h
 exact ⟨A, c, blk_far h1 hne u, h2, h3⟩
theorem put4 {rb g j : Nat} {w0 w w' : World} {m : List Int} (u x y z : Value) (hw : w0.heap.size ≤ w.heap.size) (hg : w.heap.size ≤ g) (hrb : rb < w.heap.size) (hs : PS rb w0 w' m) (hb : Below w0.heap.size w0 w') (hk : Kept w w' (fun k => k = rb)) {a b c : Value} (hr : w'.heap[g]? = some (.cells #[a, b, c] 40 (0, 0))) :
  ((((w'.setCell ⟨g + 1, j, none⟩ u).setCell ⟨g, 0, none⟩ x).setCell ⟨g, 1, none⟩ y).setCell ⟨g, 2, none⟩ z).heap[g]? = some (.cells #[x, y, z] 40 (0, 0)) ∧ PS rb w0 ((((w'.setCell ⟨g + 1, j, none⟩ u).setCell ⟨g, 0, none⟩ x).setCell ⟨g, 1, none⟩ y).setCell ⟨g, 2, none⟩ z) m ∧ Below w0.heap.size w0 ((((w'.setCell ⟨g + 1, j, none⟩ u).setCell ⟨g, 0, none⟩ x).setCell ⟨g, 1, none⟩ y).setCell ⟨g, 2, none⟩ z) ∧ Kept w ((((w'.setCell ⟨g + 1, j, none⟩ u).setCell ⟨g, 0, none⟩ x).setCell ⟨g, 1, none⟩ y).setCell ⟨g, 2, none⟩ z) (fun k => k = rb) := by
 refine ⟨blk_put (blk_put (blk_put (blk_far hr (show g ≠ g + 1 by omega) _) 0 x rfl) 1 y rfl) 2 z rfl, ?_, ?_, ?_⟩
 ·exact (((hs.far (show rb ≠ g + 1 by omega) _).far (show rb ≠ g by omega) _).far (show rb ≠ g by omega) _).far (show rb ≠ g by omega) _
 ·exact below_set (below_set (below_set (below_set hb (by omega)) (by omega)) (by omega)) (by omega)
 ·exact (((hk.setCell (.inr (show w.heap.size ≤ g + 1 by omega)) _).setCell (.inr hg) _).setCell (.inr hg) _).setCell (.inr hg) _
/-- The two blocks that a reader of a value has made. -/
theorem two40 (w : World) (k : Int) : ∃ W, W = (w.alloc (.cells #[.int .i64 0, .int .i64 0, .string ⟨#[]⟩] 40)).alloc (.cells #[.int .i64 k, .int .i64 0, .string ⟨#[]⟩] 40) ∧ Below w.heap.size w W ∧ W.heap[w.heap.size]? = some (.cells #[.int .i64 0, .int .i64 0, .string ⟨#[]⟩] 40 (0, 0)) ∧ W.heap[w.heap.size + 1]? = some (.cells #[.int .i64 k, .int .i64 0, .string ⟨#[]⟩] 40 (0, 0)) := by
 refine ⟨_, rfl, below_step (below_al w _) (below_al _ _), blk_alloc (blk_new w _) _, ?_⟩
 rw [show w.heap.size + 1 = (w.alloc (.cells #[.int .i64 0, .int .i64 0, .string ⟨#[]⟩] 40)).heap.size by simp]
 exact blk_new _ _
set_option maxHeartbeats 4000000 in
set_option maxRecDepth 100000 in
theorem c112_int (rb : Nat) (l : List Int) (w0 w : World) (hB : Below w0.heap.size w0 w) (hrb : w0.heap.size ≤ rb) (hs : PS rb w0 w l) :
  Calls Try.prog 112 #[.pointer (some ⟨rb, 0, none⟩), .int .i64 1] w (PPost rb w0 w ((takeV 1 l).map fun p => (aggV p.1, p.2))) := by
 have hu40 := Try.underlying40
 have hrs := hs.lt
 obtain ⟨W, hW, hb2, hg, hh⟩ := two40 w 1
 have HW := Aside0.mk hW
 have HB2 := Aside0.mk hb2
 have HG := Aside0.mk hg
 have HH := Aside0.mk hh
 have HRS := Aside0.mk hrs
 have hwsz := hB.size
 have HZ := Aside0.mk hwsz
 have hs1 := hs.below hb2
 have hB1 := below_step hB hb2
 clear hW hg hh hb2 hwsz hrs
 cases h : takeW 1099511627776 l with
 | none =>
  have HT := Aside0.mk (show takeV 1 l = none by unfold takeV; rw [if_pos rfl, h]; rfl)
  go_enter Try.func112, Try.ntmps112
  go_wp2_with (rw [← HW.out]; go_at_call 109; refine (c109 rb 1099511627776 l w0 W hB1 hrb hs1).mono ?_; rw [h]; rintro e w' ⟨he, hb, hkp⟩; unfold badRead at he; subst he)
  rw [HT.out]
  exact ⟨rfl, rfl, hb, (Kept.of_below HB2.out _).then_ hkp (fun _ h => .inl h)⟩
 | some p =>
  obtain ⟨x, m⟩ := p
  obtain ⟨_, hx0, hx1⟩ := takeW_some h
  have HT := Aside0.mk (show takeV 1 l = some (⟨1, x - 549755813888, ⟨#[]⟩⟩, m) by unfold takeV; rw [if_pos rfl, h]; rfl)
  have hz : IntKind.i64.wrap (x - 549755813888) = x - 549755813888 := wrap_i64_small _ (by omega) (by omega)
  go_enter Try.func112, Try.ntmps112
  go_wp2_with (rw [← HW.out]; go_at_call 109; refine (c109 rb 1099511627776 l w0 W hB1 hrb hs1).mono ?_; rw [h]; rintro e w' ⟨rfl, hs', hb, hkp⟩; have hr1 := blk_kept HG.out hkp (by have := HRS.out; omega); have hr2 := blk_kept HH.out hkp (by have := HRS.out; omega); have e0 := blk_cell hr1 0; have e1 := blk_cell hr1 1; have e2 := blk_cell hr1 2; have z0 := blk_frozen hr1 0; have z1 := blk_frozen hr1 1; have z2 := blk_frozen hr1 2; have f0 := blk_cell hr2 0; have f1 := blk_cell hr2 1; have f2 := blk_cell hr2 2; have y0 := blk_frozen hr2 0; have y1 := blk_frozen hr2 1; have y2 := blk_frozen hr2 2)
  have hP := put4 (j := 1) (.int .i64 (x - 549755813888)) (.int .i64 1) (.int .i64 (x - 549755813888)) (.string ⟨#[]⟩) HZ.out (Nat.le_refl _) HRS.out hs' hb ((Kept.of_below HB2.out _).then_ hkp (fun _ h => .inl h)) hr1
  refine bodyPost_ret (results_cell_row rfl _ _ w.heap.size 40 _ (0, 0) _ rfl hP.1 hu40 rfl (by kernel_rfl)) rfl ?_
  rw [HT.out]
  exact ⟨rfl, hP.2⟩
set_option maxHeartbeats 4000000 in
set_option maxRecDepth 100000 in
theorem c112_bool (rb : Nat) (l : List Int) (w0 w : World) (hB : Below w0.heap.size w0 w) (hrb : w0.heap.size ≤ rb) (hs : PS rb w0 w l) :
  Calls Try.prog 112 #[.pointer (some ⟨rb, 0, none⟩), .int .i64 3] w (PPost rb w0 w ((takeV 3 l).map fun p => (aggV p.1, p.2))) := by
 have hu40 := Try.underlying40
 have hrs := hs.lt
 obtain ⟨W, hW, hb2, hg, hh⟩ := two40 w 3
 have HW := Aside0.mk hW
 have HB2 := Aside0.mk hb2
 have HG := Aside0.mk hg
 have HH := Aside0.mk hh
 have HRS := Aside0.mk hrs
 have hwsz := hB.size
 have HZ := Aside0.mk hwsz
 have hs1 := hs.below hb2
 have hB1 := below_step hB hb2
 clear hW hg hh hb2 hwsz hrs
 cases h : takeW 2 l with
 | none =>
  have HT := Aside0.mk (show takeV 3 l = none by unfold takeV; rw [if_neg (by decide), if_pos rfl, h]; rfl)
  go_enter Try.func112, Try.ntmps112
  go_wp2_with (rw [← HW.out]; go_at_call 109; refine (c109 rb 2 l w0 W hB1 hrb hs1).mono ?_; rw [h]; rintro e w' ⟨he, hb, hkp⟩; unfold badRead at he; subst he)
  rw [HT.out]
  exact ⟨rfl, rfl, hb, (Kept.of_below HB2.out _).then_ hkp (fun _ h => .inl h)⟩
 | some p =>
  obtain ⟨x, m⟩ := p
  obtain ⟨_, hx0, hx1⟩ := takeW_some h
  have HT := Aside0.mk (show takeV 3 l = some (⟨3, x, ⟨#[]⟩⟩, m) by unfold takeV; rw [if_neg (by decide), if_pos rfl, h]; rfl)
  have hz : IntKind.i64.wrap (x - 549755813888) = x - 549755813888 := wrap_i64_small _ (by omega) (by omega)
  go_enter Try.func112, Try.ntmps112
  go_wp2_with (rw [← HW.out]; go_at_call 109; refine (c109 rb 2 l w0 W hB1 hrb hs1).mono ?_; rw [h]; rintro e w' ⟨rfl, hs', hb, hkp⟩; have hr1 := blk_kept HG.out hkp (by have := HRS.out; omega); have hr2 := blk_kept HH.out hkp (by have := HRS.out; omega); have e0 := blk_cell hr1 0; have e1 := blk_cell hr1 1; have e2 := blk_cell hr1 2; have z0 := blk_frozen hr1 0; have z1 := blk_frozen hr1 1; have z2 := blk_frozen hr1 2; have f0 := blk_cell hr2 0; have f1 := blk_cell hr2 1; have f2 := blk_cell hr2 2; have y0 := blk_frozen hr2 0; have y1 := blk_frozen hr2 1; have y2 := blk_frozen hr2 2)
  have hP := put4 (j := 1) (.int .i64 (x)) (.int .i64 3) (.int .i64 (x)) (.string ⟨#[]⟩) HZ.out (Nat.le_refl _) HRS.out hs' hb ((Kept.of_below HB2.out _).then_ hkp (fun _ h => .inl h)) hr1
  refine bodyPost_ret (results_cell_row rfl _ _ w.heap.size 40 _ (0, 0) _ rfl hP.1 hu40 rfl (by kernel_rfl)) rfl ?_
  rw [HT.out]
  exact ⟨rfl, hP.2⟩
set_option maxHeartbeats 4000000 in
set_option maxRecDepth 100000 in
theorem c112_text (rb : Nat) (l : List Int) (k : Int) (w0 w : World) (hB : Below w0.heap.size w0 w) (hrb : w0.heap.size ≤ rb) (hs : PS rb w0 w l) (hm : l.length ≤ 1000000) (hk1 : k ≠ 1) (hk3 : k ≠ 3) :
  Calls Try.prog 112 #[.pointer (some ⟨rb, 0, none⟩), .int .i64 k] w (PPost rb w0 w ((takeV k l).map fun p => (aggV p.1, p.2))) := by
 have hu40 := Try.underlying40
 have hrs := hs.lt
 obtain ⟨W, hW, hb2, hg, hh⟩ := two40 w k
 have HW := Aside0.mk hW
 have HB2 := Aside0.mk hb2
 have HG := Aside0.mk hg
 have HH := Aside0.mk hh
 have HRS := Aside0.mk hrs
 have hwsz := hB.size
 have HZ := Aside0.mk hwsz
 have hs1 := hs.below hb2
 have hB1 := below_step hB hb2
 have k1 : decide (k = 1) = false := decide_eq_false hk1
 have k3 : decide (k = 3) = false := decide_eq_false hk3
 have k1' : (k == 1) = false := beq_eq_false_iff_ne.2 hk1
 have k3' : (k == 3) = false := beq_eq_false_iff_ne.2 hk3
 have HV := Aside0.mk (show takeV k l = (takeW 41 l).bind fun p => (takeT p.1.toNat p.2).map fun q => (⟨k, 0, q.1⟩, q.2) by unfold takeV; rw [if_neg hk1, if_neg hk3])
 clear hW hg hh hb2 hwsz hrs hk1 hk3
 cases h : takeW 41 l with
 | none =>
  have HT := Aside0.mk (show takeV k l = none by rw [HV.out, h]; rfl)
  go_enter Try.func112, Try.ntmps112
  go_wp2_with (rw [← HW.out]; go_at_call 109; refine (c109 rb 41 l w0 W hB1 hrb hs1).mono ?_; rw [h]; rintro e w' ⟨he, hb, hkp⟩; unfold badRead at he; subst he)
  rw [HT.out]
  exact ⟨rfl, rfl, hb, (Kept.of_below HB2.out _).then_ hkp (fun _ h => .inl h)⟩
 | some p =>
  obtain ⟨x, m⟩ := p
  obtain ⟨hl, hx0, hx1⟩ := takeW_some h
  obtain ⟨n, rfl⟩ := Int.eq_ofNat_of_zero_le hx0
  have hml : m.length ≤ 1000000 := by rw [hl] at hm; simp at hm; omega
  clear hl hx0
  cases ht : takeT n m with
  | none =>
   have HT := Aside0.mk (show takeV k l = none by rw [HV.out, h, Option.bind_some, Int.toNat_natCast, ht]; rfl)
   have HML := Aside0.mk hml
   clear hml
   go_enter Try.func112, Try.ntmps112
   go_wp2_with (first
    | (rw [← HW.out]; go_at_call 109; refine (c109 rb 41 l w0 W hB1 hrb hs1).mono ?_; rw [h]; rintro e w' ⟨rfl, hs', hb, hkp⟩)
    | (go_at_call 110; refine (c110 rb n m w0 w' hb hrb hs' HML.out (by omega)).mono ?_; rw [ht]; rintro e w2 ⟨he, hb3, hkp3⟩; unfold badRead at he; subst he))
   rw [HT.out]
   exact ⟨rfl, rfl, hb3, ((Kept.of_below HB2.out _).then_ hkp (fun _ h => .inl h)).then_ hkp3 (fun _ h => .inl h)⟩
  | some q =>
   obtain ⟨s, m2⟩ := q
   have HT := Aside0.mk (show takeV k l = some (⟨k, 0, s⟩, m2) by rw [HV.out, h, Option.bind_some, Int.toNat_natCast, ht]; rfl)
   have HML := Aside0.mk hml
   clear hml
   go_enter Try.func112, Try.ntmps112
   go_wp2_with (first
    | (rw [← HW.out]; go_at_call 109; refine (c109 rb 41 l w0 W hB1 hrb hs1).mono ?_; rw [h]; rintro e w' ⟨rfl, hs', hb, hkp⟩; have HR1 := Aside0.mk (blk_kept HG.out hkp (by have := HRS.out; omega)); have HR2 := Aside0.mk (blk_kept HH.out hkp (by have := HRS.out; omega)))
    | (go_at_call 110; refine (c110 rb n m w0 w' hb hrb hs' HML.out (by omega)).mono ?_; rw [ht]; rintro e w2 ⟨rfl, hs3, hb3, hkp3⟩; have hr1 := blk_kept HR1.out hkp3 (by have := HRS.out; omega); have hr2 := blk_kept HR2.out hkp3 (by have := HRS.out; omega); have e0 := blk_cell hr1 0; have e1 := blk_cell hr1 1; have e2 := blk_cell hr1 2; have z0 := blk_frozen hr1 0; have z1 := blk_frozen hr1 1; have z2 := blk_frozen hr1 2; have f0 := blk_cell hr2 0; have f1 := blk_cell hr2 1; have f2 := blk_cell hr2 2; have y0 := blk_frozen hr2 0; have y1 := blk_frozen hr2 1; have y2 := blk_frozen hr2 2))
   have hP := put4 (j := 2) (.string s) (.int .i64 k) (.int .i64 0) (.string s) HZ.out (Nat.le_refl _) HRS.out hs3 hb3 (((Kept.of_below HB2.out _).then_ hkp (fun _ h => .inl h)).then_ hkp3 (fun _ h => .inl h)) hr1
   refine bodyPost_ret (results_cell_row rfl _ _ w.heap.size 40 _ (0, 0) _ rfl hP.1 hu40 rfl (by kernel_rfl)) rfl ?_
   rw [HT.out]
   exact ⟨rfl, hP.2⟩
theorem c112 (rb : Nat) (l : List Int) (k : Int) (w0 w : World) (hB : Below w0.heap.size w0 w) (hrb : w0.heap.size ≤ rb) (hs : PS rb w0 w l) (hm : l.length ≤ 1000000) :
  Calls Try.prog 112 #[.pointer (some ⟨rb, 0, none⟩), .int .i64 k] w (PPost rb w0 w ((takeV k l).map fun p => (aggV p.1, p.2))) := by
 by_cases h1 : k = 1
 ·subst h1; exact c112_int rb l w0 w hB hrb hs
 ·by_cases h3 : k = 3
  ·subst h3; exact c112_bool rb l w0 w hB hrb hs
  ·exact c112_text rb l k w0 w hB hrb hs hm h1 h3
end Go.Proofs.Ytkopbaikmlajmaa.Q
