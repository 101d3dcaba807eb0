/- trimmed to what this claim's texts name -/
import Derived.Test.YtkopbaikmlajmaaF102
import Derived.Deep.RegionHeld3
import Derived.Deep.DrawnRows
namespace Go.Proofs.Ytkopbaikmlajmaa.Q
open Go.RowKit Go.Proofs.YtkopbaikmlajmaaW.PrintWords Go.Proofs.YtkopbaikmlajmaaW.PrintLast Go.Proofs.YtkopbaikmlajmaaW.PrintMore
set_option linter.unusedVariables false
set_option linter.unusedSimpArgs false
attribute [local go_sem ↓] Go.wp_at_zero Go.wp_at_succ
/-- What a call of the reader answers: a value and the next place, or it panics. -/
def RPost (rb : Nat) (A : Option Addr) (n c : Nat) (w0 w : World) (r : Option (Value × Nat)) (e : Ending) (w' : World) : Prop :=
  match r with
  | some (v, j) => e = .returned v ∧ RS rb A n c j w' ∧ Below w0.heap.size w0 w' ∧ Kept w w' (fun k => k = rb)
  | none => e = badForm ∧ Below w0.heap.size w0 w' ∧ Kept w w' (fun k => k = rb)
def atMost (l : List Int) (i : Nat) (m : Int) : Option Int := (rdW l i).bind fun v => if m < v then none else some v
set_option maxHeartbeats 2000000 in
set_option maxRecDepth 100000 in
theorem c136 (rb : Nat) (A : Option Addr) (c : Nat) (l : List Int) (i : Nat) (m : Int) (w0 w : World) (hB : Below w0.heap.size w0 w) (hrb : w0.heap.size ≤ rb) (hs : RS rb A l.length c i w) (hC : (Kd.int .i64).C w0 A l.length l) :
    Calls Try.prog 136 #[.pointer (some ⟨rb, 0, none⟩), .int .i64 m] w (RPost rb A l.length c w0 w ((atMost l i m).map fun v => (.int .i64 v, i + 1))) := by
  cases h : rdW l i with
  | none =>
    have HE := Aside0.mk (show atMost l i m = none by unfold atMost; rw [h]; rfl)
    go_enter Try.func136, Try.ntmps136
    go_wp2_with (go_at_call 102; refine (c102_no rb A c l i w0 _ hB hrb hs hC h).mono ?_; rintro e w' ⟨he, hb, hk⟩; unfold badForm at he; subst he)
    rw [HE.out]
    exact ⟨rfl, rfl, hb, hk⟩
  | some v =>
    by_cases hv : m < v
    · have HE := Aside0.mk (show atMost l i m = none by unfold atMost; rw [h]; exact if_pos hv)
      have h1 : decide (m < v) = true := decide_eq_true hv
      clear hv
      go_enter Try.func136, Try.ntmps136
      go_wp2_with (go_at_call 102; refine (c102_ok rb A c l i v w0 _ hB hrb hs hC h).mono ?_; rintro e w' ⟨rfl, hs', hb, hk⟩)
      rw [HE.out]
      exact ⟨rfl, rfl, hb, hk⟩
    · have HE := Aside0.mk (show atMost l i m = some v by unfold atMost; rw [h]; exact if_neg hv)
      have h1 : decide (m < v) = false := decide_eq_false hv
      clear hv
      go_enter Try.func136, Try.ntmps136
      go_wp2_with (go_at_call 102; refine (c102_ok rb A c l i v w0 _ hB hrb hs hC h).mono ?_; rintro e w' ⟨rfl, hs', hb, hk⟩)
      go_ret
      rw [HE.out]
      exact ⟨rfl, hs', hb, hk⟩
/-- The value of a kind at a place, and the next place; none if there is none. -/
def valD (kind : Int) (l : List Int) (i : Nat) : Option (S40 × Nat) :=
  if kind = 1 then (rdW l i).map fun v => (⟨1, v - 549755813888, ⟨#[]⟩⟩, i + 1)
  else if kind = 3 then (atMost l i 1).map fun v => (⟨3, v, ⟨#[]⟩⟩, i + 1)
  else (atMost l i 40).bind fun n => if unpE (l.drop (i + 1)) n = 0 then some (⟨kind, 0, unpS (l.drop (i + 1)) n⟩, i + 1 + (n.toNat + 4) / 5) else none
def toV (v : S40) : Value := .agg #[.int .i64 v.f0, .int .i64 v.f1, .string v.f2]
theorem put3 {rb : Nat} {A : Option Addr} {n c j g : Nat} {w0 w w' : World} (x y z : Value) (hw : w0.heap.size ≤ w.heap.size) (hg : g = w.heap.size) (hne : rb ≠ g) (hs' : RS rb A n c j w') (hb : Below w0.heap.size w0 w') (hk : Kept w w' (fun k => k = rb)) {x' y' z' : Value} (hr : w'.heap[g]? = some (.cells #[x', y', z'] 40 (0, 0))) :
    (((w'.setCell ⟨g, 0, none⟩ x).setCell ⟨g, 1, none⟩ y).setCell ⟨g, 2, none⟩ z).heap[g]? = some (.cells #[x, y, z] 40 (0, 0)) ∧ RS rb A n c j (((w'.setCell ⟨g, 0, none⟩ x).setCell ⟨g, 1, none⟩ y).setCell ⟨g, 2, none⟩ z) ∧ Below w0.heap.size w0 (((w'.setCell ⟨g, 0, none⟩ x).setCell ⟨g, 1, none⟩ y).setCell ⟨g, 2, none⟩ z) ∧ Kept w (((w'.setCell ⟨g, 0, none⟩ x).setCell ⟨g, 1, none⟩ y).setCell ⟨g, 2, none⟩ z) (fun k => k = rb) := by
  subst hg
  exact ⟨blk_put (blk_put (blk_put hr 0 x rfl) 1 y rfl) 2 z rfl, blk_far (blk_far (blk_far hs' hne _) hne _) hne _, below_set (below_set (below_set hb hw) hw) hw, ((hk.setCell (.inr (Nat.le_refl _)) _).setCell (.inr (Nat.le_refl _)) _).setCell (.inr (Nat.le_refl _)) _⟩
set_option maxHeartbeats 4000000 in
set_option maxRecDepth 100000 in
theorem c103_int (rb : Nat) (A : Option Addr) (c : Nat) (l : List Int) (i : Nat) (w0 w : World) (hB : Below w0.heap.size w0 w) (hrb : w0.heap.size ≤ rb) (hs : RS rb A l.length c i w) (hC : (Kd.int .i64).C w0 A l.length l) :
    Calls Try.prog 103 #[.pointer (some ⟨rb, 0, none⟩), .int .i64 1] w (RPost rb A l.length c w0 w ((valD 1 l i).map fun p => (toV p.1, p.2))) := by
  have hu40 := Try.underlying40
  have hrs : rb < w.heap.size := (Array.getElem?_eq_some_iff.1 hs).1
  have HW := Aside0.mk (below_al w (.cells #[.int .i64 0, .int .i64 0, .string ⟨#[]⟩] 40))
  have hs1 := blk_below hs HW.out
  have hB1 := below_step hB HW.out
  cases h : rdW l i with
  | none =>
    have HE := Aside0.mk (show valD 1 l i = none by unfold valD; rw [if_pos rfl, h]; rfl)
    go_enter Try.func103, Try.ntmps103
    go_wp2_with (go_at_call 102; refine (c102_no rb A c l i w0 _ hB1 hrb hs1 hC h).mono ?_; rintro e w' ⟨he, hb, hk⟩; unfold badForm at he; subst he)
    rw [HE.out]
    exact ⟨rfl, rfl, hb, (Kept.of_below HW.out _).then_ hk (fun _ h => .inl h)⟩
  | some v =>
    have HE := Aside0.mk (show valD 1 l i = some (⟨1, v - 549755813888, ⟨#[]⟩⟩, i + 1) by unfold valD; rw [if_pos rfl, h]; rfl)
    have hv := rdW_some h
    have hz : IntKind.i64.wrap (v - 549755813888) = v - 549755813888 := wrap_i64_small _ (by omega) (by omega)
    clear hv
    go_enter Try.func103, Try.ntmps103
    go_wp2_with (go_at_call 102; refine (c102_ok rb A c l i v w0 _ hB1 hrb hs1 hC h).mono ?_; rintro e w' ⟨rfl, hs', hb, hk⟩; have hr' := (hk.2 w.heap.size (by simp) (by omega)).trans (blk_new w _); have e0 := blk_cell hr' 0; have e1 := blk_cell hr' 1; have e2 := blk_cell hr' 2; have z0 := blk_frozen hr' 0; have z1 := blk_frozen hr' 1; have z2 := blk_frozen hr' 2)
    have hP := put3 (.int .i64 1) (.int .i64 (v - 549755813888)) (.string ⟨#[]⟩) (w := w) hB.size rfl (by omega) hs' hb ((Kept.of_below HW.out _).then_ hk (fun _ h => .inl h)) hr'
    refine bodyPost_ret (results_cell_row rfl _ _ w.heap.size 40 _ (0, 0) _ rfl hP.1 hu40 rfl (by kernel_rfl)) rfl ?_
    rw [HE.out]
    exact ⟨rfl, hP.2⟩
set_option maxHeartbeats 4000000 in
set_option maxRecDepth 100000 in
theorem c103_bool (rb : Nat) (A : Option Addr) (c : Nat) (l : List Int) (i : Nat) (w0 w : World) (hB : Below w0.heap.size w0 w) (hrb : w0.heap.size ≤ rb) (hs : RS rb A l.length c i w) (hC : (Kd.int .i64).C w0 A l.length l) :
    Calls Try.prog 103 #[.pointer (some ⟨rb, 0, none⟩), .int .i64 3] w (RPost rb A l.length c w0 w ((valD 3 l i).map fun p => (toV p.1, p.2))) := by
  have hu40 := Try.underlying40
  have hrs : rb < w.heap.size := (Array.getElem?_eq_some_iff.1 hs).1
  have HW := Aside0.mk (below_al w (.cells #[.int .i64 0, .int .i64 0, .string ⟨#[]⟩] 40))
  have hs1 := blk_below hs HW.out
  have hB1 := below_step hB HW.out
  cases h : atMost l i 1 with
  | none =>
    have HE := Aside0.mk (show valD 3 l i = none by unfold valD; rw [if_neg (by decide), if_pos rfl, h]; rfl)
    go_enter Try.func103, Try.ntmps103
    go_wp2_with (go_at_call 136; refine (c136 rb A c l i 1 w0 _ hB1 hrb hs1 hC).mono ?_; rw [h]; rintro e w' ⟨he, hb, hk⟩; unfold badForm at he; subst he)
    rw [HE.out]
    exact ⟨rfl, rfl, hb, (Kept.of_below HW.out _).then_ hk (fun _ h => .inl h)⟩
  | some v =>
    have HE := Aside0.mk (show valD 3 l i = some (⟨3, v, ⟨#[]⟩⟩, i + 1) by unfold valD; rw [if_neg (by decide), if_pos rfl, h]; rfl)
    go_enter Try.func103, Try.ntmps103
    go_wp2_with (go_at_call 136; refine (c136 rb A c l i 1 w0 _ hB1 hrb hs1 hC).mono ?_; rw [h]; rintro e w' ⟨rfl, hs', hb, hk⟩; have hr' := (hk.2 w.heap.size (by simp) (by omega)).trans (blk_new w _); have e0 := blk_cell hr' 0; have e1 := blk_cell hr' 1; have e2 := blk_cell hr' 2; have z0 := blk_frozen hr' 0; have z1 := blk_frozen hr' 1; have z2 := blk_frozen hr' 2)
    have hP := put3 (.int .i64 3) (.int .i64 v) (.string ⟨#[]⟩) (w := w) hB.size rfl (by omega) hs' hb ((Kept.of_below HW.out _).then_ hk (fun _ h => .inl h)) hr'
    refine bodyPost_ret (results_cell_row rfl _ _ w.heap.size 40 _ (0, 0) _ rfl hP.1 hu40 rfl (by kernel_rfl)) rfl ?_
    rw [HE.out]
    exact ⟨rfl, hP.2⟩
end Go.Proofs.Ytkopbaikmlajmaa.Q
