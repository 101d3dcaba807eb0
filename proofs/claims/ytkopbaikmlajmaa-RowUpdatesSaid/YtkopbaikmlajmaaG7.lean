/- trimmed to what this claim's texts name -/
import Derived.Test.YtkopbaikmlajmaaG21
import Derived.Test.YtkopbaikmlajmaaG36
namespace Go.Proofs.Ytkopbaikmlajmaa.Q
open Go.RowKit Go.Proofs.YtkopbaikmlajmaaW.PrintWords Go.Proofs.YtkopbaikmlajmaaW.PrintLast Go.Proofs.YtkopbaikmlajmaaW.PrintMore
set_option linter.unusedVariables false
set_option linter.unusedSimpArgs false
theorem rd40_set_same (o : List S40) (p : Int) (x : S40) (h0 : 0 ≤ p) (h1 : p < o.length) : rd_T40 (o.set p.toNat x) p = x := by
  unfold rd_T40
  rw [List.getD_eq_getElem?_getD, List.getElem?_set_self (by omega)]
  rfl
theorem rd40_set_ne (o : List S40) (p q : Int) (x : S40) (h0 : 0 ≤ p) (hq : 0 ≤ q) (h : p ≠ q) : rd_T40 (o.set p.toNat x) q = rd_T40 o q := by
  unfold rd_T40
  rw [List.getD_eq_getElem?_getD, List.getD_eq_getElem?_getD, List.getElem?_set_ne (by omega)]
theorem updS_inv (r : List S40) (cols : List Int) (vals : List S40) (hn : ∀ i, i < cols.length → 0 ≤ rd cols (i : Int) ∧ rd cols (i : Int) < r.length) : ∀ (i : Nat) (o : List S40), i ≤ cols.length → updS r cols vals i = some o →
    o.length = r.length ∧ (∀ j, j < i → rd_T40 o (rd cols (j : Int)) = rd_T40 vals (j : Int)) ∧ (∀ p : Int, 0 ≤ p → (∀ j, j < i → rd cols (j : Int) ≠ p) → rd_T40 o p = rd_T40 r p)
  | 0, o, hi, h => by
    cases h
    exact ⟨rfl, fun j hj => by omega, fun p _ _ => rfl⟩
  | i + 1, o, hi, h => by
    have h' : (updS r cols vals i).bind (fun o => if (cols.take i).contains (rd cols (i : Int)) = true then none else some (o.set (rd cols (i : Int)).toNat (rd_T40 vals (i : Int)))) = some o := h
    cases hu : updS r cols vals i with
    | none => rw [hu] at h'; cases h'
    | some q =>
      rw [hu] at h'
      simp only [Option.bind_some] at h'
      obtain ⟨q1, q2, q3⟩ := updS_inv r cols vals hn i q (by omega) hu
      have hni := hn i (by omega)
      split at h'
      · cases h'
      · rename_i hc
        cases h'
        have hne : ∀ j, j < i → rd cols (j : Int) ≠ rd cols (i : Int) := fun j hj e => hc ((contains_take (by omega) _).2 ⟨j, hj, e⟩)
        refine ⟨by rw [List.length_set]; exact q1, fun j hj => ?_, fun p hp hj => ?_⟩
        · rcases Nat.lt_succ_iff_lt_or_eq.1 hj with h2 | rfl
          · rw [rd40_set_ne q _ _ _ hni.1 (hn j (by omega)).1 (Ne.symm (hne j h2))]
            exact q2 j h2
          · exact rd40_set_same q _ _ hni.1 (by omega)
        · rw [rd40_set_ne q _ _ _ hni.1 hp (hj i (by omega))]
          exact q3 p hp (fun j h2 => hj j (by omega))
theorem projT_vals (x : List S40) (cols : List Int) (vals : List S40) (hl : cols.length = vals.length) (hn : ∀ i, i < cols.length → noPlace x.length (rd cols (i : Int)) = false) (hv : ∀ j, j < cols.length → rd_T40 x (rd cols (j : Int)) = rd_T40 vals (j : Int)) : ∀ (d i : Nat), i + d = cols.length → projT x cols i d (vals.take i) = (vals, 0)
  | 0, i, h => by rw [projT, List.take_of_length_le (by omega)]
  | d + 1, i, h => by
    rw [projT, if_neg (by rw [hn i (by omega)]; decide), hv i (by omega)]
    have e : vals.take i ++ [rd_T40 vals (i : Int)] = vals.take (i + 1) := by
      rw [List.take_add_one]
      congr 1
      unfold rd_T40
      rw [Int.toNat_natCast, List.getD_eq_getElem?_getD, List.getElem?_eq_getElem (by omega)]
      rfl
    rw [e]
    exact projT_vals x cols vals hl hn hv d (i + 1) (by omega)
theorem tailD_mem (a b : List S40) : ∀ (d i : Nat) (y : Int), y ∈ tailD a b i d → ∃ k : Nat, y = k ∧ i ≤ k ∧ k < i + d ∧ neqB a b k = true
  | 0, i, y, h => by cases h
  | d + 1, i, y, h => by
    rw [tailD] at h
    split at h
    · rename_i hq
      rcases List.mem_cons.1 h with rfl | h
      · exact ⟨i, rfl, Nat.le_refl _, by omega, hq⟩
      · obtain ⟨k, e, h1, h2, h3⟩ := tailD_mem a b d (i + 1) y h
        exact ⟨k, e, by omega, by omega, h3⟩
    · obtain ⟨k, e, h1, h2, h3⟩ := tailD_mem a b d (i + 1) y h
      exact ⟨k, e, by omega, by omega, h3⟩
theorem tailD_sorted (a b : List S40) : ∀ (d i : Nat), (tailD a b i d).Pairwise (· < ·)
  | 0, i => List.Pairwise.nil
  | d + 1, i => by
    rw [tailD]
    split
    · refine List.Pairwise.cons (fun y hy => ?_) (tailD_sorted a b d (i + 1))
      obtain ⟨k, rfl, h1, _, _⟩ := tailD_mem a b d (i + 1) y hy
      omega
    · exact tailD_sorted a b d (i + 1)
/-- What the law wants of a row that Update returned. -/
theorem upd_law (nm : ByteArray) (cs : List S56) (xs : List S65) (ks : List S42) (r : List S40) (cols : List Int) (vals : List S40) (x : List S40) (h : updR nm cs xs ks r cols vals = (x, 0)) (hx : x.length ≤ 1000000) :
    projE x cols = (vals, 0) ∧ x.length = r.length ∧ fitsE nm cs xs ks x = 0 ∧ (diffE r x).Pairwise (· < ·) ∧ ∀ y, y ∈ diffE r x → 0 ≤ y ∧ y < r.length ∧ ∃ i, i < cols.length ∧ rd cols (i : Int) = y := by
  unfold updR at h
  split at h
  · have := congrArg Prod.snd h
    simp at this
  · rename_i hc
    have hl : cols.length = vals.length := Decidable.byContradiction fun e => hc (.inl e)
    have hp : cols.any (noPlace r.length) = false := Bool.eq_false_iff.2 fun e => hc (.inr e)
    have hn : ∀ i, i < cols.length → noPlace r.length (rd cols (i : Int)) = false := by
      intro i hi
      refine Bool.eq_false_iff.2 (fun h1 => ?_)
      have := List.any_eq_false.1 hp (rd cols (i : Int)) (by unfold rd; rw [Int.toNat_natCast, List.getD_eq_getElem?_getD, List.getElem?_eq_getElem hi]; exact List.getElem_mem hi)
      exact this h1
    cases hu : updS r cols vals cols.length with
    | none =>
      rw [hu] at h
      have := congrArg Prod.snd h
      simp at this
    | some o =>
      rw [hu] at h
      simp only at h
      split at h
      · rename_i hf
        obtain rfl : o = x := congrArg Prod.fst h
        obtain ⟨q1, q2, q3⟩ := updS_inv r cols vals (fun i hi => noPlace_false (hn i hi)) cols.length o (Nat.le_refl _) hu
        refine ⟨?_, q1, hf, tailD_sorted r o _ 0, fun y hy => ?_⟩
        · have := projT_vals o cols vals hl (fun i hi => by rw [q1]; exact hn i hi) q2 cols.length 0 (by omega)
          rw [List.take_zero] at this
          exact this
        · obtain ⟨k, rfl, _, h2, h3⟩ := tailD_mem r o _ 0 y hy
          rw [q1, Nat.max_self] at h2
          refine ⟨by omega, by omega, ?_⟩
          refine Decidable.byContradiction fun hno => ?_
          have hall : ∀ j, j < cols.length → rd cols (j : Int) ≠ (k : Int) := fun j hj e => hno ⟨j, hj, e⟩
          have e := q3 (k : Int) (by omega) hall
          unfold neqB at h3
          rw [decide_eq_true (show k < r.length by omega), decide_eq_true (show k < o.length by omega), e, eqS_refl] at h3
          cases h3
      · rename_i hf
        exact absurd (congrArg Prod.snd h) hf
end Go.Proofs.Ytkopbaikmlajmaa.Q
