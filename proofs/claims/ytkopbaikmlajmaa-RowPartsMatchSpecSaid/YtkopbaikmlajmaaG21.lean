/- trimmed to what this claim's texts name -/
import Derived.Test.YtkopbaikmlajmaaG27
import Derived.Test.YtkopbaikmlajmaaF34
import Derived.Test.YtkopbaikmlajmaaF35
import Derived.Test.YtkopbaikmlajmaaF66
namespace Go.Proofs.Ytkopbaikmlajmaa.Q
open Go.RowKit Go.Proofs.YtkopbaikmlajmaaW.PrintWords Go.Proofs.YtkopbaikmlajmaaW.PrintLast Go.Proofs.YtkopbaikmlajmaaW.PrintMore
set_option linter.unusedVariables false
set_option linter.unusedSimpArgs false
/-- What Project answers, from place i on, d places left. -/
def projT (r : List S40) (cols : List Int) : Nat → Nat → List S40 → List S40 × Int
  | _, 0, out => (out, 0)
  | i, d + 1, out => if noPlace r.length (rd cols (i : Int)) = true then ([], 1) else projT r cols (i + 1) d (out ++ [rd_T40 r (rd cols (i : Int))])
def projE (r : List S40) (cols : List Int) : List S40 × Int := projT r cols 0 cols.length []
theorem noPlace_false {n : Nat} {k : Int} (h : noPlace n k = false) : 0 ≤ k ∧ k < n := by
  unfold noPlace at h
  simp at h
  omega
theorem noPlace_true {n : Nat} {k : Int} (h : noPlace n k = true) : k < 0 ∨ (n : Int) ≤ k := by
  unfold noPlace at h
  simp at h
  omega
theorem proj_l0 (r : List S40) (cols : List Int) (hc : cols.length ≤ 1000000) : ∀ (d i : Nat) (out : List S40), i + d = cols.length → out.length ≤ i → Evs (fun k => row_Project.l0 k r out cols (cols.length : Int) (i : Int)) (projT r cols i d out)
  | 0, i, out, h, ho => by
    refine (Evs.const (g := some (out, 0)) rfl).step (fun k => ?_)
    simp only [row_Project.l0]
    rw [if_neg (by omega)]
  | d + 1, i, out, h, ho => by
    have hw : wrap64 ((i : Int) + 1) = ((i + 1 : Nat) : Int) := wrap_succ (show i < 1000000 by omega) (by omega)
    rw [projT]
    cases hp : noPlace r.length (rd cols (i : Int)) with
    | true =>
      rw [if_pos rfl]
      refine (Evs.const (g := some (([] : List S40), (1 : Int))) rfl).step (fun k => ?_)
      simp only [row_Project.l0, place_eq]
      rw [if_pos (by omega), if_pos (by omega), if_pos (by omega), hp, Option.bind_some, if_neg (by decide)]
    | false =>
      rw [if_neg (by decide)]
      have hq := noPlace_false hp
      refine (proj_l0 r cols hc d (i + 1) (out ++ [rd_T40 r (rd cols (i : Int))]) (by omega) (by simp; omega)).step (fun k => ?_)
      simp only [row_Project.l0, place_eq]
      rw [if_pos (by omega), if_pos (by omega), if_pos (by omega), hp, Option.bind_some, if_pos (by decide), if_pos (by omega), if_pos (by omega), if_pos (by omega), hw]
theorem proj_eq (r : List S40) (cols : List Int) (hc : cols.length ≤ 1000000) : Evs (fun k => row_Project.f k r cols) (projE r cols) :=
  (proj_l0 r cols hc cols.length 0 [] (by omega) (Nat.zero_le _)).congr (fun k => rfl)
theorem refProj_l0 (r : List S40) (cols : List Int) (hc : cols.length ≤ 1000000) : ∀ (d i : Nat) (out : List S40), i + d = cols.length → out.length ≤ i → Evs (fun k => alumref21_Project.l0 k r cols out (i : Int)) (projT r cols i d out)
  | 0, i, out, h, ho => by
    refine (Evs.const (g := some (out, 0)) rfl).step (fun k => ?_)
    simp only [alumref21_Project.l0]
    rw [if_neg (by omega)]
  | d + 1, i, out, h, ho => by
    have hw : wrap64 ((i : Int) + 1) = ((i + 1 : Nat) : Int) := wrap_succ (show i < 1000000 by omega) (by omega)
    rw [projT]
    cases hp : noPlace r.length (rd cols (i : Int)) with
    | true =>
      rw [if_pos rfl]
      refine (Evs.const (g := some (([] : List S40), (1 : Int))) rfl).step (fun k => ?_)
      simp only [alumref21_Project.l0]
      rw [if_pos (by omega), if_pos (by omega)]
      rcases noPlace_true hp with g | g
      · rw [if_pos g]
      · rw [if_neg (by omega), if_pos g]
    | false =>
      rw [if_neg (by decide)]
      have hq := noPlace_false hp
      refine (refProj_l0 r cols hc d (i + 1) (out ++ [rd_T40 r (rd cols (i : Int))]) (by omega) (by simp; omega)).step (fun k => ?_)
      simp only [alumref21_Project.l0]
      rw [if_pos (by omega), if_pos (by omega), if_neg (by omega), if_neg (by omega), if_pos (by omega), if_pos (by omega), if_pos (by omega), hw]
theorem refProj_eq (r : List S40) (cols : List Int) (hc : cols.length ≤ 1000000) : Evs (fun k => alumref21_Project.f k r cols) (projE r cols) :=
  (refProj_l0 r cols hc cols.length 0 [] (by omega) (Nat.zero_le _)).congr (fun k => rfl)
theorem drop_rd (cols : List Int) (i : Nat) (h : i < cols.length) : cols.drop i = rd cols (i : Int) :: cols.drop (i + 1) := by
  rw [List.drop_eq_getElem_cons h]
  congr 1
  unfold rd
  rw [Int.toNat_natCast, List.getD_eq_getElem?_getD, List.getElem?_eq_getElem h]
  rfl
theorem projT_err (r : List S40) (cols : List Int) : ∀ (d i : Nat) (out : List S40), i + d = cols.length → (projT r cols i d out).2 = if (cols.drop i).any (noPlace r.length) = true then 1 else 0
  | 0, i, out, h => by
    rw [projT, show cols.drop i = [] from List.drop_eq_nil_of_le (by omega)]
    rfl
  | d + 1, i, out, h => by
    rw [projT, drop_rd cols i (by omega), List.any_cons]
    cases hp : noPlace r.length (rd cols (i : Int)) with
    | true => rfl
    | false =>
      rw [if_neg (by decide), projT_err r cols d (i + 1) _ (by omega), Bool.false_or]
theorem projE_err (r : List S40) (cols : List Int) : (projE r cols).2 = if cols.any (noPlace r.length) = true then 1 else 0 := by
  unfold projE
  rw [projT_err r cols cols.length 0 [] (by omega)]
  rfl
/-- What Update answers, from place i on, d places left, o the row so far. -/
def updF (nm : ByteArray) (cs : List S56) (xs : List S65) (ks : List S42) (cols : List Int) (vals : List S40) : Nat → Nat → List S40 → List S40 × Int
  | _, 0, o => if fitsE nm cs xs ks o = 0 then (o, 0) else ([], fitsE nm cs xs ks o)
  | i, d + 1, o => if (cols.take i).contains (rd cols (i : Int)) = true then ([], 6) else updF nm cs xs ks cols vals (i + 1) d (o.set (rd cols (i : Int)).toNat (rd_T40 vals (i : Int)))
theorem updF_of {nm : ByteArray} {cs : List S56} {xs : List S65} {ks : List S42} {r : List S40} {cols : List Int} {vals : List S40} : ∀ (d i : Nat) (o : List S40), i + d = cols.length → updS r cols vals i = some o →
    updF nm cs xs ks cols vals i d o = (match updS r cols vals cols.length with | none => ([], 6) | some o => if fitsE nm cs xs ks o = 0 then (o, 0) else ([], fitsE nm cs xs ks o))
  | 0, i, o, h, hs => by
    obtain rfl : i = cols.length := by omega
    rw [hs, updF]
  | d + 1, i, o, h, hs => by
    rw [updF]
    by_cases hc : (cols.take i).contains (rd cols (i : Int)) = true
    · have h1 : updS r cols vals (i + 1) = none := by
        show (updS r cols vals i).bind _ = _
        rw [hs]
        exact if_pos hc
      have h2 := updS_none h1 d
      rw [show i + 1 + d = cols.length by omega] at h2
      rw [if_pos hc, h2]
    · have h1 : updS r cols vals (i + 1) = some (o.set (rd cols (i : Int)).toNat (rd_T40 vals (i : Int))) := by
        show (updS r cols vals i).bind _ = _
        rw [hs]
        exact if_neg hc
      rw [if_neg hc, updF_of d (i + 1) _ (by omega) h1]
theorem contains_take {cols : List Int} {i : Nat} (hi : i ≤ cols.length) (x : Int) : (cols.take i).contains x = true ↔ ∃ j, j < i ∧ rd cols (j : Int) = x := by
  rw [List.contains_iff_mem, List.mem_take_iff_getElem]
  constructor
  · rintro ⟨j, hj, e⟩
    refine ⟨j, by omega, ?_⟩
    unfold rd
    rw [Int.toNat_natCast, List.getD_eq_getElem?_getD, List.getElem?_eq_getElem (by omega)]
    exact e
  · rintro ⟨j, hj, e⟩
    refine ⟨j, by omega, ?_⟩
    unfold rd at e
    rw [Int.toNat_natCast, List.getD_eq_getElem?_getD, List.getElem?_eq_getElem (by omega)] at e
    exact e
section
variable {nm : ByteArray} {cs : List S56} {xs : List S65} {ks : List S42} {cols : List Int} {vals : List S40} {n : Nat}
theorem refUpd_l1 (hc : cols.length ≤ 1000000) (hl : cols.length = vals.length) (hn : ∀ i, i < cols.length → 0 ≤ rd cols (i : Int) ∧ rd cols (i : Int) < n) (i d : Nat) (o : List S40) (h : i + (d + 1) = cols.length) (ho : o.length = n)
    (ih : Evs (fun k => alumref21_Update.l0 k cols vals (o.set (rd cols (i : Int)).toNat (rd_T40 vals (i : Int))) ((i + 1 : Nat) : Int) nm cs xs ks) (updF nm cs xs ks cols vals (i + 1) d (o.set (rd cols (i : Int)).toNat (rd_T40 vals (i : Int))))) :
    ∀ (e j : Nat), j + e = i → (∀ q, q < j → rd cols (q : Int) ≠ rd cols (i : Int)) → Evs (fun k => alumref21_Update.l1 k cols vals o (i : Int) (j : Int) nm cs xs ks) (updF nm cs xs ks cols vals i (d + 1) o)
  | 0, j, hj, hq => by
    obtain rfl : j = i := by omega
    have hw : wrap64 ((j : Int) + 1) = ((j + 1 : Nat) : Int) := wrap_succ (show j < 1000000 by omega) (by omega)
    have hni := hn j (by omega)
    rw [updF, if_neg (by
      rw [contains_take (by omega)]
      rintro ⟨q, h1, h2⟩
      exact hq q h1 h2)]
    refine ih.step (fun k => ?_)
    simp only [alumref21_Update.l1]
    rw [if_neg (by omega), if_pos (by omega), if_pos (by omega), if_pos (by omega), if_pos (by omega), if_pos (by omega), hw]
  | e + 1, j, hj, hq => by
    have hw : wrap64 ((j : Int) + 1) = ((j + 1 : Nat) : Int) := wrap_succ (show j < 1000000 by omega) (by omega)
    by_cases g : rd cols (j : Int) = rd cols (i : Int)
    · rw [updF, if_pos ((contains_take (by omega) _).2 ⟨j, by omega, g⟩)]
      refine (Evs.const (g := some (([] : List S40), (6 : Int))) rfl).step (fun k => ?_)
      simp only [alumref21_Update.l1]
      rw [if_pos (by omega), if_pos (by omega), if_pos (by omega), if_pos (by omega), if_pos (by omega), if_pos g]
    · refine (refUpd_l1 hc hl hn i d o h ho ih e (j + 1) (by omega) (fun q hlt => ?_)).step (fun k => ?_)
      · rcases Nat.lt_succ_iff_lt_or_eq.1 hlt with h1 | rfl
        · exact hq q h1
        · exact g
      · simp only [alumref21_Update.l1]
        rw [if_pos (by omega), if_pos (by omega), if_pos (by omega), if_pos (by omega), if_pos (by omega), if_neg g, hw]
theorem refUpd_l0 (hc : cols.length ≤ 1000000) (hl : cols.length = vals.length) (hn : ∀ i, i < cols.length → 0 ≤ rd cols (i : Int) ∧ rd cols (i : Int) < n) : ∀ (d i : Nat) (o : List S40), i + d = cols.length → o.length = n →
    Evs (fun k => alumref21_Update.l0 k cols vals o (i : Int) nm cs xs ks) (updF nm cs xs ks cols vals i d o)
  | 0, i, o, h, ho => by
    rw [updF]
    refine (Evs.const (g := if fitsE nm cs xs ks o = 0 then some (o, 0) else some (([] : List S40), fitsE nm cs xs ks o)) ?_).step (fun k => ?_)
    · split <;> rfl
    · simp only [alumref21_Update.l0]
      rw [if_neg (by omega)]
      rfl
  | d + 1, i, o, h, ho => by
    refine (refUpd_l1 hc hl hn i d o h ho (refUpd_l0 hc hl hn d (i + 1) _ (by omega) (by rw [List.length_set]; exact ho)) i 0 (by omega) (fun q hq => by omega)).step (fun k => ?_)
    simp only [alumref21_Update.l0]
    rw [if_pos (by omega)]
    rfl
end
theorem refUpd_eq (nm : ByteArray) (cs : List S56) (xs : List S65) (ks : List S42) (r : List S40) (cols : List Int) (vals : List S40) (hr : r.length ≤ 1000000) (hc : cols.length ≤ 1000000) : Evs (fun k => alumref21_Update.f k nm cs xs ks r cols vals) (updR nm cs xs ks r cols vals) := by
  have hj : Evs (fun k => if (projE r cols).2 = 0 then alumref21_Update.j0 k r cols vals ((cols.length : Int) != (vals.length : Int)) nm cs xs ks else alumref21_Update.j0 k r cols vals true nm cs xs ks) (updR nm cs xs ks r cols vals) := by
    have bad : updR nm cs xs ks r cols vals = ([], 1) → Evs (fun k => alumref21_Update.j0 k r cols vals true nm cs xs ks) (updR nm cs xs ks r cols vals) := by
      intro hE
      rw [hE]
      refine (Evs.const (g := some (([] : List S40), (1 : Int))) rfl).step (fun k => ?_)
      simp only [alumref21_Update.j0]
      rw [if_pos trivial]
    rw [projE_err]
    cases hp : cols.any (noPlace r.length) with
    | true =>
      refine (bad ?_).congr (fun k => by rw [if_pos rfl, if_neg (by decide)])
      unfold updR
      rw [if_pos (.inr hp)]
    | false =>
      by_cases hl : cols.length = vals.length
      · have hE : updR nm cs xs ks r cols vals = updF nm cs xs ks cols vals 0 cols.length r := by
          rw [updF_of cols.length 0 r (by omega) rfl]
          unfold updR
          rw [if_neg (by rw [hp]; simp [hl])]
          cases updS r cols vals cols.length <;> rfl
        rw [hE]
        have hb : ((cols.length : Int) != (vals.length : Int)) = false := bne_eq_false_iff_eq.2 (by omega)
        have hn : ∀ i, i < cols.length → 0 ≤ rd cols (i : Int) ∧ rd cols (i : Int) < r.length := by
          intro i hi
          refine noPlace_false (Bool.eq_false_iff.2 (fun h1 => ?_))
          have := List.any_eq_false.1 hp (rd cols (i : Int)) (by unfold rd; rw [Int.toNat_natCast, List.getD_eq_getElem?_getD, List.getElem?_eq_getElem hi]; exact List.getElem_mem hi)
          exact this h1
        refine ((refUpd_l0 (n := r.length) hc hl hn cols.length 0 r (by omega) rfl).step (g := fun k => alumref21_Update.j0 k r cols vals false nm cs xs ks) (fun k => ?_)).congr (fun k => by rw [if_pos (by decide), hb])
        simp only [alumref21_Update.j0]
        rw [if_neg (by decide), Option.bind_some, List.nil_append, if_pos (by simp; omega)]
        rfl
      · have hb : ((cols.length : Int) != (vals.length : Int)) = true := bne_iff_ne.2 (by omega)
        refine (bad ?_).congr (fun k => by rw [if_pos (by decide), hb])
        unfold updR
        rw [if_pos (.inl hl)]
  refine ((refProj_eq r cols hc).bind (f := fun k t => if t.2 = 0 then alumref21_Update.j0 k r cols vals ((cols.length : Int) != (vals.length : Int)) nm cs xs ks else alumref21_Update.j0 k r cols vals true nm cs xs ks) hj).congr (fun k => rfl)
end Go.Proofs.Ytkopbaikmlajmaa.Q
