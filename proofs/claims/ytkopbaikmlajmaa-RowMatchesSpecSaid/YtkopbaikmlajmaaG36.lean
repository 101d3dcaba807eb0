import Derived.Test.YtkopbaikmlajmaaG27
import Derived.Test.YtkopbaikmlajmaaPB
namespace Go.Proofs.Ytkopbaikmlajmaa.Q
open Go.RowKit Go.Proofs.YtkopbaikmlajmaaW.PrintWords Go.Proofs.YtkopbaikmlajmaaW.PrintLast Go.Proofs.YtkopbaikmlajmaaW.PrintMore
set_option linter.unusedVariables false
set_option linter.unusedSimpArgs false
theorem cmpI_zero (a b : Int) : ∃ c, cmp_Compare_int.f a b = some c ∧ (c = 0 ↔ a = b) := by
 unfold cmp_Compare_int.f cmp_isNaN_int.f
 simp only [bne_self_eq_false, Option.bind_some, Bool.false_eq_true, if_false]
 by_cases h1 : a < b
 ·exact ⟨-1, by rw [if_pos h1], by omega⟩
 by_cases h2 : a > b
 ·exact ⟨1, by rw [if_neg h1, if_pos h2], by omega⟩
 exact ⟨0, by rw [if_neg h1, if_neg h2], by omega⟩
theorem compareBytes_zero : ∀ (a b : List UInt8), Lib.compareBytes a b = 0 ↔ a = b
 | [], [] => by simp [Lib.compareBytes]
 | [], _ :: _ => by simp [Lib.compareBytes]
 | _ :: _, [] => by simp [Lib.compareBytes]
 | x :: a, y :: b => by
  have ih := compareBytes_zero a b
  unfold Lib.compareBytes
  by_cases h : x = y
  ·subst h
   simp [UInt8.lt_irrefl, ih]
  by_cases h2 : x < y
  ·simp [h, h2]
  have h3 : y < x := by
   rcases UInt8.lt_or_lt_of_ne h with g | g
   ·exact absurd g h2
   exact g
  simp [h, h2, h3]
theorem or3 (x y z : Int) : Evs (fun k => cmp_Or_int.f k [x, y, z]) (if x ≠ 0 then x else if y ≠ 0 then y else z) := by
 refine ⟨4, fun k hk => ?_⟩
 obtain ⟨k, rfl⟩ : ∃ m, k = m + 4 := ⟨k - 4, by omega⟩
 have w1 : wrap64 (0 + 1) = 1 := by unfold wrap64; omega
 have w2 : wrap64 (1 + 1) = 2 := by unfold wrap64; omega
 have w3 : wrap64 (2 + 1) = 3 := by unfold wrap64; omega
 have r0 : rd [x, y, z] 0 = x := rfl
 have r1 : rd [x, y, z] 1 = y := rfl
 have r2 : rd [x, y, z] 2 = z := rfl
 have hl : (([x, y, z] : List Int).length : Int) = 3 := rfl
 unfold cmp_Or_int.f
 simp only [cmp_Or_int.l0, hl, r0, r1, r2, w1, w2, w3]
 by_cases hx : x = 0
 ·by_cases hy : y = 0
  ·by_cases hz : z = 0
   ·simp [hx, hy, hz]
   simp [hx, hy, hz]
  simp [hx, hy]
 simp [hx]
def eqS (a b : S40) : Bool := (a.f0 == b.f0) && (a.f1 == b.f1) && (a.f2.toList == b.f2.toList)
theorem eqS_refl (a : S40) : eqS a a = true := by unfold eqS; simp
theorem data_toList (a : ByteArray) : a.data.toList = a.toList := (Lib.toList_data a).symm
theorem compare_eq (a b : S40) : ∃ c, Evs (fun k => value_Compare.f k a.f0 a.f1 a.f2 b.f0 b.f1 b.f2) c ∧ (c = 0 ↔ eqS a b = true) := by
 obtain ⟨c0, h0, e0⟩ := cmpI_zero a.f0 b.f0
 obtain ⟨c1, h1, e1⟩ := cmpI_zero a.f1 b.f1
 refine ⟨_, ((or3 c0 c1 (Lib.compareBytes a.f2.data.toList b.f2.data.toList)).bind (f := fun k t => some t) (Evs.const rfl)).congr (fun k => ?_), ?_⟩
 ·unfold value_Compare.f strings_Compare.f
  rw [h0, h1]
  rfl
 have e2 := compareBytes_zero a.f2.data.toList b.f2.data.toList
 unfold eqS
 rw [← data_toList, ← data_toList]
 by_cases g0 : c0 = 0
 ·by_cases g1 : c1 = 0
  ·rw [if_neg (by simp [g0]), if_neg (by simp [g1]), e2]
   simp [e0.1 g0, e1.1 g1]
  rw [if_neg (by simp [g0]), if_pos g1]
  have : a.f1 ≠ b.f1 := fun h => g1 (e1.2 h)
  simp [this, g1]
 rw [if_pos g0]
 have : a.f0 ≠ b.f0 := fun h => g0 (e0.2 h)
 simp [this, g0]
def neqB (a b : List S40) (k : Nat) : Bool := !(decide (k < a.length) && decide (k < b.length) && eqS (rd_T40 a (k : Int)) (rd_T40 b (k : Int)))
def tailD (a b : List S40) : Nat → Nat → List Int
 | _, 0 => []
 | i, d + 1 => if neqB a b i = true then (i : Int) :: tailD a b (i + 1) d else tailD a b (i + 1) d
def diffE (a b : List S40) : List Int := tailD a b 0 (max a.length b.length)
theorem mx_nat (a b : Nat) : mx (a : Int) (b : Int) = ((max a b : Nat) : Int) := by unfold mx; omega
theorem diff_l0 (a b : List S40) (ha : a.length ≤ 1000000) (hb : b.length ≤ 1000000) : ∀ (d i : Nat) (out : List Int), i + d = max a.length b.length → out.length ≤ i → Evs (fun k => row_Diff.l0 k a b out ((max a.length b.length : Nat) : Int) (i : Int)) (out ++ tailD a b i d)
 | 0, i, out, h, ho => by
  refine (Evs.const (g := some out) (by rw [tailD, List.append_nil])).step (fun k => ?_)
  simp only [row_Diff.l0]
  rw [if_neg (by omega)]
 | d + 1, i, out, h, ho => by
  have hw : wrap64 ((i : Int) + 1) = ((i + 1 : Nat) : Int) := wrap_succ (show i < 2000000 by omega) (by omega)
  have grow : neqB a b i = true → Evs (fun k => row_Diff.l0 k a b (out ++ [(i : Int)]) ((max a.length b.length : Nat) : Int) ((i + 1 : Nat) : Int)) (out ++ tailD a b i (d + 1)) := by
   intro hq
   have := diff_l0 a b ha hb d (i + 1) (out ++ [(i : Int)]) (by omega) (by simp; omega)
   rw [List.append_assoc, List.singleton_append] at this
   rw [tailD, if_pos hq]
   exact this
  by_cases h1 : i < a.length
  rotate_left
  ·have hq : neqB a b i = true := by unfold neqB; rw [decide_eq_false h1]; simp
   refine (grow hq).step (fun k => ?_)
   simp only [row_Diff.l0, row_place.f]
   rw [if_pos (by omega), if_pos (by omega), Option.bind_some, decide_eq_false (by omega), if_neg (by decide), if_pos (by omega), hw]
  by_cases h2 : i < b.length
  ·obtain ⟨c, hc, he⟩ := compare_eq (rd_T40 a (i : Int)) (rd_T40 b (i : Int))
   refine (hc.bind (f := fun k t => if t = 0 then row_Diff.l0 k a b out ((max a.length b.length : Nat) : Int) ((i + 1 : Nat) : Int) else (if out.length < 17592186044416 then row_Diff.l0 k a b (out ++ [(i : Int)]) ((max a.length b.length : Nat) : Int) ((i + 1 : Nat) : Int) else none)) ?_).step (fun k => ?_)
   ·by_cases h0 : c = 0
    ·have hq : neqB a b i = false := by unfold neqB; rw [decide_eq_true h1, decide_eq_true h2, he.1 h0]; rfl
     have := diff_l0 a b ha hb d (i + 1) out (by omega) (by omega)
     rw [tailD, if_neg (by rw [hq]; decide)]
     exact this.congr (fun k => by rw [if_pos h0])
    have hq : neqB a b i = true := by
     unfold neqB
     have : eqS (rd_T40 a (i : Int)) (rd_T40 b (i : Int)) = false := Bool.eq_false_iff.2 (fun h => h0 (he.2 h))
     rw [this]; simp
    exact (grow hq).congr (fun k => by rw [if_neg h0, if_pos (by omega)])
   simp only [row_Diff.l0, row_place.f]
   rw [if_pos (by omega), if_pos (by omega), Option.bind_some, decide_eq_true (by omega), if_pos rfl, if_pos (by omega), Option.bind_some, decide_eq_true (by omega), if_pos rfl, if_pos (by omega), if_pos (by omega), if_pos (by omega), hw]
  have hq : neqB a b i = true := by unfold neqB; rw [decide_eq_false h2]; simp
  refine (grow hq).step (fun k => ?_)
  simp only [row_Diff.l0, row_place.f]
  rw [if_pos (by omega), if_pos (by omega), Option.bind_some, decide_eq_true (by omega), if_pos rfl, if_pos (by omega), Option.bind_some, decide_eq_false (by omega), if_neg (by decide), if_pos (by omega), hw]
theorem diff_eq (a b : List S40) (ha : a.length ≤ 1000000) (hb : b.length ≤ 1000000) : Evs (fun k => row_Diff.f k a b) (diffE a b) := by
 refine (diff_l0 a b ha hb (max a.length b.length) 0 [] (by omega) (Nat.zero_le _)).congr (fun k => ?_)
 unfold row_Diff.f
 rw [mx_nat]
 rfl
theorem refDiff_l0 (a b : List S40) (ha : a.length ≤ 1000000) (hb : b.length ≤ 1000000) : ∀ (d i : Nat) (out : List Int), i + d = max a.length b.length → out.length ≤ i → Evs (fun k => alumref21_Diff.l0 k a b out (i : Int)) (out ++ tailD a b i d)
 | 0, i, out, h, ho => by
  refine ((Evs.const (g := some out) (by rw [tailD, List.append_nil])).step (g := fun k => alumref21_Diff.j1 k a b out (i : Int) false) (fun k => ?_)).step (fun k => ?_)
  ·simp only [alumref21_Diff.j1]
   rw [if_neg (by decide)]
  simp only [alumref21_Diff.l0]
  rw [if_neg (by omega), decide_eq_false (by omega)]
 | d + 1, i, out, h, ho => by
  have hw : wrap64 ((i : Int) + 1) = ((i + 1 : Nat) : Int) := wrap_succ (show i < 2000000 by omega) (by omega)
  have grow : neqB a b i = true → Evs (fun k => alumref21_Diff.l0 k a b (out ++ [(i : Int)]) ((i + 1 : Nat) : Int)) (out ++ tailD a b i (d + 1)) := by
   intro hq
   have := refDiff_l0 a b ha hb d (i + 1) (out ++ [(i : Int)]) (by omega) (by simp; omega)
   rw [List.append_assoc, List.singleton_append] at this
   rw [tailD, if_pos hq]
   exact this
  have hj : Evs (fun k => alumref21_Diff.j1 k a b out (i : Int) true) (out ++ tailD a b i (d + 1)) := by
   by_cases h1 : i < a.length
   rotate_left
   ·have hq : neqB a b i = true := by unfold neqB; rw [decide_eq_false h1]; simp
    refine (grow hq).step (fun k => ?_)
    simp only [alumref21_Diff.j1]
    rw [if_pos trivial, if_pos (by omega), if_pos (by omega), hw]
   by_cases h2 : i < b.length
   rotate_left
   ·have hq : neqB a b i = true := by unfold neqB; rw [decide_eq_false h2]; simp
    refine (grow hq).step (fun k => ?_)
    simp only [alumref21_Diff.j1]
    rw [if_pos trivial, if_neg (by omega), if_pos (by omega), if_pos (by omega), hw]
   cases he : eqS (rd_T40 a (i : Int)) (rd_T40 b (i : Int)) with
   | true =>
    have hq : neqB a b i = false := by unfold neqB; rw [decide_eq_true h1, decide_eq_true h2, he]; rfl
    have := refDiff_l0 a b ha hb d (i + 1) out (by omega) (by omega)
    rw [tailD, if_neg (by rw [hq]; decide)]
    refine this.step (fun k => ?_)
    simp only [alumref21_Diff.j1]
    rw [if_pos trivial, if_neg (by omega), if_neg (by omega), if_pos (by omega), if_pos (by omega), if_pos (by omega), if_neg, hw]
    unfold eqS at he
    simp only [Bool.and_eq_true] at he
    rw [he.1.1, he.1.2, he.2]
    decide
   | false =>
    have hq : neqB a b i = true := by unfold neqB; rw [he]; simp
    refine (grow hq).step (fun k => ?_)
    simp only [alumref21_Diff.j1]
    rw [if_pos trivial, if_neg (by omega), if_neg (by omega), if_pos (by omega), if_pos (by omega), if_pos (by omega), if_pos, if_pos (by omega), hw]
    unfold eqS at he
    revert he
    cases ((rd_T40 a (i : Int)).f0 == (rd_T40 b (i : Int)).f0) <;> cases ((rd_T40 a (i : Int)).f1 == (rd_T40 b (i : Int)).f1) <;> cases ((rd_T40 a (i : Int)).f2.toList == (rd_T40 b (i : Int)).f2.toList) <;> simp
  refine hj.step (fun k => ?_)
  simp only [alumref21_Diff.l0]
  by_cases h1 : i < a.length
  ·rw [if_pos (by omega)]
  rw [if_neg (by omega), decide_eq_true (by omega)]
theorem refDiff_eq (a b : List S40) (ha : a.length ≤ 1000000) (hb : b.length ≤ 1000000) : Evs (fun k => alumref21_Diff.f k a b) (diffE a b) :=
 (refDiff_l0 a b ha hb (max a.length b.length) 0 [] (by omega) (Nat.zero_le _)).congr (fun k => rfl)
theorem tailD_self (a : List S40) : ∀ (d i : Nat), i + d ≤ a.length → tailD a a i d = []
 | 0, _, _ => rfl
 | d + 1, i, h => by
  have hq : neqB a a i = false := by unfold neqB; rw [decide_eq_true (show i < a.length by omega), eqS_refl]; rfl
  rw [tailD, if_neg (by rw [hq]; decide), tailD_self a d (i + 1) (by omega)]
theorem diffE_self (a : List S40) : diffE a a = [] := by
 unfold diffE
 rw [Nat.max_self]
 exact tailD_self a _ 0 (by omega)
theorem same21_refl (a : List S40) (ha : a.length ≤ 1000000) : Evs (fun k => alumref21_Same.f k a a) true := by
 refine ((refDiff_eq a a ha ha).bind (f := fun k t => some ((t.length : Int) == 0)) (Evs.const (by rw [diffE_self]; rfl))).congr (fun k => ?_)
 unfold alumref21_Same.f
 rw [if_pos rfl]
end Go.Proofs.Ytkopbaikmlajmaa.Q
