import Derived.Test.YtkopbaikmlajmaaG27
import Derived.Test.YtkopbaikmlajmaaF32
namespace Go.Proofs.Ytkopbaikmlajmaa.Q
open Go.RowKit Go.Proofs.YtkopbaikmlajmaaW.PrintWords Go.Proofs.YtkopbaikmlajmaaW.PrintLast Go.Proofs.YtkopbaikmlajmaaW.PrintMore
set_option linter.unusedVariables false
set_option linter.unusedSimpArgs false
theorem rd40_nat (l : List S40) (i : Nat) (h : i < l.length) : rd_T40 l (i : Int) = l[i] := by
 unfold rd_T40
 rw [Int.toNat_natCast, List.getD_eq_getElem?_getD, List.getElem?_eq_getElem h]; rfl
theorem rdL8_nat (l : List (List S40)) (i : Nat) (h : i < l.length) : rd_L8 l (i : Int) = l[i] := by
 unfold rd_L8
 rw [Int.toNat_natCast, List.getD_eq_getElem?_getD, List.getElem?_eq_getElem h]; rfl
def rightB (r : List S40) : Bool := r.all validN && decide (r.length ≤ 20)
theorem right_l0 (r : List S40) (hr : r.length ≤ 9223372036854775807) : ∀ (d i : Nat), i + d = r.length → Evs (fun k => alumref21_Right.l0 k r (i : Int)) ((r.drop i).all validN && decide (r.length ≤ 20))
 | 0, i, h => by
  refine (Evs.const (g := some (decide ((r.length : Int) ≤ 20))) ?_).step (fun k => ?_)
  ·rw [List.drop_eq_nil_of_le (by omega), List.all_nil, Bool.true_and]
   congr 1
   exact decide_eq_decide.2 (by omega)
  simp only [alumref21_Right.l0]
  rw [if_neg (by omega)]
 | d + 1, i, h => by
  have hw : wrap64 ((i : Int) + 1) = ((i + 1 : Nat) : Int) := wrap_succ (show i < r.length by omega) hr
  rw [List.drop_eq_getElem_cons (show i < r.length by omega), List.all_cons, ← rd40_nat r i (by omega)]
  cases hv : validN (rd_T40 r (i : Int)) with
  | true =>
   rw [Bool.true_and]
   refine (right_l0 r hr d (i + 1) (by omega)).step (fun k => ?_)
   simp only [alumref21_Right.l0]
   rw [if_pos (by omega), if_pos (by omega), Valid_ref, hv, Option.bind_some, if_pos rfl, hw]
  | false =>
   rw [Bool.false_and, Bool.false_and]
   refine (Evs.const (g := some false) rfl).step (fun k => ?_)
   simp only [alumref21_Right.l0]
   rw [if_pos (by omega), if_pos (by omega), Valid_ref, hv, Option.bind_some, if_neg (by decide)]
theorem right_eq (r : List S40) (hr : r.length ≤ 9223372036854775807) : Evs (fun k => alumref21_Right.f k r) (rightB r) :=
 (right_l0 r hr r.length 0 (by omega)).congr (fun k => rfl)
theorem valid_l0 (rows : List (List S40)) (hn : rows.length ≤ 9223372036854775807) (hr : ∀ r, r ∈ rows → r.length ≤ 9223372036854775807) : ∀ (d i : Nat), i + d = rows.length → Evs (fun k => alumref21_Valid.l0 k rows (i : Int)) ((rows.drop i).all rightB)
 | 0, i, h => by
  refine (Evs.const (g := some true) ?_).step (fun k => ?_)
  ·rw [List.drop_eq_nil_of_le (by omega), List.all_nil]
  simp only [alumref21_Valid.l0]
  rw [if_neg (by omega)]
 | d + 1, i, h => by
  have hw : wrap64 ((i : Int) + 1) = ((i + 1 : Nat) : Int) := wrap_succ (show i < rows.length by omega) hn
  rw [List.drop_eq_getElem_cons (show i < rows.length by omega), List.all_cons, ← rdL8_nat rows i (by omega)]
  have hri := right_eq (rd_L8 rows (i : Int)) (hr _ (by rw [rdL8_nat rows i (by omega)]; exact List.getElem_mem _))
  refine (hri.bind (f := fun k t => if t = true then alumref21_Valid.l0 k rows ((i + 1 : Nat) : Int) else some false) ?_).step (fun k => ?_)
  ·cases rightB (rd_L8 rows (i : Int)) with
   | true => exact (valid_l0 rows hn hr d (i + 1) (by omega)).congr (fun k => by rw [if_pos rfl])
   | false => exact (Evs.const (g := some false) rfl).congr (fun k => by rw [if_neg (by decide)])
  simp only [alumref21_Valid.l0]
  rw [if_pos (by omega), if_pos (by omega), hw]
def valid21 (nm : ByteArray) (cs : List S56) (xs : List S65) (ks : List S42) (rows : List (List S40)) : Bool := fewB cs xs ks && decide (checkE nm cs xs ks = 0) && rows.all rightB
theorem valid21_eq (nm : ByteArray) (cs : List S56) (xs : List S65) (ks : List S42) (rows : List (List S40)) (h1 : cs.length ≤ 9223372036854775807) (h2 : xs.length ≤ 9223372036854775807) (hm : ∀ i, (rd_T65 xs i).f1.length ≤ 9223372036854775807) (h3 : ks.length ≤ 9223372036854775807) (hn : rows.length ≤ 9223372036854775807) (hr : ∀ r, r ∈ rows → r.length ≤ 9223372036854775807) :
  Evs (fun k => alumref21_Valid.f k nm cs xs ks rows) (valid21 nm cs xs ks rows) := by
 have hT : Evs (fun k => alumref21_Valid.j0 k rows true) false := (Evs.const (g := some false) rfl).step (fun k => by simp [alumref21_Valid.j0])
 have hF : Evs (fun k => alumref21_Valid.j0 k rows false) (rows.all rightB) := (valid_l0 rows hn hr rows.length 0 (by omega)).step (fun k => by simp [alumref21_Valid.j0])
 unfold valid21
 refine (Few_ref nm cs xs ks h2).bind (f := fun k t => if t = true then ((alumref20_Check.f k nm cs xs ks).bind fun t254 => (alumref21_Valid.j0 k rows (t254 != 0))) else (alumref21_Valid.j0 k rows true)) ?_
 cases fewB cs xs ks with
 | false => exact hT.congr (fun k => by rw [if_neg (by decide)])
 | true =>
  refine Evs.congr ?_ (fun k => by rw [if_pos rfl])
  refine (Check_ref nm cs xs ks h1 h2 hm h3).bind (f := fun k t => alumref21_Valid.j0 k rows (t != 0)) ?_
  by_cases h : checkE nm cs xs ks = 0
  ·rw [h]
   exact hF.congr (fun k => by rw [show ((0 : Int) != 0) = false from rfl])
  have hb : (checkE nm cs xs ks != 0) = true := bne_iff_ne.2 h
  rw [decide_eq_false h]
  exact hT.congr (fun k => by rw [hb])
theorem valid21_parts {nm : ByteArray} {cs : List S56} {xs : List S65} {ks : List S42} {rows : List (List S40)} (h : valid21 nm cs xs ks rows = true) : fewB cs xs ks = true ∧ checkE nm cs xs ks = 0 ∧ ∀ r, r ∈ rows → r.length ≤ 20 ∧ r.all validN = true := by
 unfold valid21 at h
 simp only [Bool.and_eq_true, decide_eq_true_eq, List.all_eq_true] at h
 refine ⟨h.1.1, h.1.2, fun r hr => ?_⟩
 have := h.2 r hr
 unfold rightB at this
 simp only [Bool.and_eq_true, decide_eq_true_eq] at this
 exact ⟨this.2, this.1⟩
theorem C_rows {b : Nat} {W : World} {A4 A5 : Option Addr} {c4 c5 : Nat} {r o : List S40} (hb : W.heap[b]? = some (.cells #[.slice A4 r.length c4, .slice A5 o.length c5] 37 (0, 0))) (h4 : Kd.C k40 W A4 r.length r) (hc4 : r.length ≤ c4) (h5 : Kd.C k40 W A5 o.length o) (hc5 : o.length ≤ c5) :
  Kd.C (Kd.slice 40 k40) W (some ⟨b, 0, none⟩) [r, o].length [r, o] := by
 refine ⟨rfl, by simp, fun _ => ⟨_, rfl, fun j p hj => ?_⟩⟩
 match j, hj with
 | 0, hj =>
  obtain rfl := Option.some.inj hj
  refine ⟨[.slice A4 r.length c4], rfl, ⟨A4, c4, rfl, hc4, h4⟩, fun i u hu => ?_⟩
  match i, hu with
  | 0, hu => obtain rfl := Option.some.inj hu; exact blk_cell hb 0
  | i + 1, hu => cases hu
 | 1, hj =>
  obtain rfl := Option.some.inj hj
  refine ⟨[.slice A5 o.length c5], rfl, ⟨A5, c5, rfl, hc5, h5⟩, fun i u hu => ?_⟩
  match i, hu with
  | 0, hu => obtain rfl := Option.some.inj hu; exact blk_cell hb 1
  | i + 1, hu => cases hu
 | j + 2, hj => cases hj
theorem C_row1 {b : Nat} {W : World} {A4 : Option Addr} {c4 : Nat} {r : List S40} (hb : W.heap[b]? = some (.cells #[.slice A4 r.length c4] 37 (0, 0))) (h4 : Kd.C k40 W A4 r.length r) (hc4 : r.length ≤ c4) :
  Kd.C (Kd.slice 40 k40) W (some ⟨b, 0, none⟩) [r].length [r] := by
 refine ⟨rfl, by simp, fun _ => ⟨_, rfl, fun j p hj => ?_⟩⟩
 match j, hj with
 | 0, hj =>
  obtain rfl := Option.some.inj hj
  refine ⟨[.slice A4 r.length c4], rfl, ⟨A4, c4, rfl, hc4, h4⟩, fun i u hu => ?_⟩
  match i, hu with
  | 0, hu => obtain rfl := Option.some.inj hu; exact blk_cell hb 0
  | i + 1, hu => cases hu
 | j + 1, hj => cases hj
end Go.Proofs.Ytkopbaikmlajmaa.Q
