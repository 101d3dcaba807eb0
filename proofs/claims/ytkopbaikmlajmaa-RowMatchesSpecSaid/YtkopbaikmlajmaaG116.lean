import Derived.Test.YtkopbaikmlajmaaG63
import Derived.Test.YtkopbaikmlajmaaRA
import Derived.Test.YtkopbaikmlajmaaPB
namespace Go.Proofs.Ytkopbaikmlajmaa.Q
open Go.RowKit Go.Proofs.YtkopbaikmlajmaaW.PrintWords Go.Proofs.YtkopbaikmlajmaaW.PrintLast Go.Proofs.YtkopbaikmlajmaaW.PrintMore
set_option linter.unusedVariables false
set_option linter.unusedSimpArgs false
def oneE (kind : Int) (l : List Int) (i : Nat) : Int × Int × ByteArray × Int := match valD kind l i with | some (v, j) => (v.f0, v.f1, v.f2, ((j - i : Nat) : Int)) | none => (0, 0, ⟨#[]⟩, 0)
theorem rd_drop (l : List Int) (i : Nat) : rd (l.drop i) 0 = rd l (i : Int) := by
 unfold rd
 simp [List.getD_eq_getElem?_getD]
theorem rdW_of {l : List Int} {i : Nat} (h : i < l.length) : rdW l i = if noWord (rd l (i : Int)) = true then none else some (rd l (i : Int)) := by
 unfold rdW noWord
 by_cases h1 : rd l (i : Int) < 0
 ·rw [if_neg (by omega), decide_eq_true h1]; rfl
 by_cases h2 : 1099511627775 < rd l (i : Int)
 ·rw [if_neg (by omega), decide_eq_true h2]; simp
 rw [if_pos (by omega), decide_eq_false h1, decide_eq_false h2]; rfl
theorem valD_none {kind : Int} {l : List Int} {i : Nat} (h : rdW l i = none) : valD kind l i = none := by
 unfold valD atMost
 rw [h]
 split
 ·rfl
 split <;> rfl
theorem one_eq (kind : Int) (l : List Int) (i : Nat) (hm : l.length ≤ 1000000000) : Evs (fun k => alumref21_one.f k kind (l.drop i)) (oneE kind l i) := by
 have bad : rdW l i = none → Evs (fun k => alumref21_one.j0 k kind (l.drop i) true) (oneE kind l i) := by
  intro h
  unfold oneE
  rw [valD_none h]
  refine (Evs.const (g := some ((0 : Int), (0 : Int), (⟨#[]⟩ : ByteArray), (0 : Int))) rfl).step (fun k => ?_)
  simp only [alumref21_one.j0]
  rw [if_pos trivial]
 by_cases hi : i < l.length
 rotate_left
 ·have hr : rdW l i = none := by unfold rdW; rw [if_neg (by omega)]
  refine (bad hr).congr (fun k => ?_)
  unfold alumref21_one.f
  rw [if_pos (by rw [List.length_drop]; omega)]
 have hl : (l.drop i).length = l.length - i := List.length_drop
 have hf : ∀ k, alumref21_one.f k kind (l.drop i) = alumref21_one.j0 k kind (l.drop i) (noWord (rd l (i : Int))) := fun k => by
  unfold alumref21_one.f
  rw [if_neg (by omega), if_pos (by omega), rd_drop, word_eq, Option.bind_some, Bool.not_not]
 cases hw : noWord (rd l (i : Int)) with
 | true =>
  refine (bad (by rw [rdW_of hi, hw]; rfl)).congr (fun k => by rw [hf, hw])
 | false =>
  have hr : rdW l i = some (rd l (i : Int)) := by rw [rdW_of hi, hw]; rfl
  obtain ⟨_, hv0, hv1, _⟩ := rdW_some hr
  refine Evs.congr ?_ (fun k => by rw [hf, hw])
  by_cases h1 : kind = 1
  ·have hE : oneE kind l i = (1, rd l (i : Int) - 549755813888, ⟨#[]⟩, 1) := by
    unfold oneE valD
    rw [if_pos h1, hr]
    simp
   rw [hE]
   refine (Evs.const (g := some ((1 : Int), rd l (i : Int) - 549755813888, (⟨#[]⟩ : ByteArray), (1 : Int))) rfl).step (fun k => ?_)
   simp only [alumref21_one.j0]
   rw [if_neg (by decide), if_pos h1, if_pos (by omega), rd_drop, h1, show wrap64 (rd l (i : Int) - 549755813888) = rd l (i : Int) - 549755813888 by unfold wrap64; omega]
  by_cases h3 : kind = 3
  ·by_cases hb : rd l (i : Int) > 1
   ·have hE : oneE kind l i = (0, 0, ⟨#[]⟩, 0) := by
     unfold oneE valD atMost
     rw [if_neg h1, if_pos h3, hr]
     simp [show (1 : Int) < rd l (i : Int) from hb]
    rw [hE]
    refine (Evs.const (g := some ((0 : Int), (0 : Int), (⟨#[]⟩ : ByteArray), (0 : Int))) rfl).step (fun k => ?_)
    simp only [alumref21_one.j0]
    rw [if_neg (by decide), if_neg h1, if_pos h3, if_pos (by omega), rd_drop, if_pos hb]
   have hE : oneE kind l i = (3, rd l (i : Int), ⟨#[]⟩, 1) := by
    unfold oneE valD atMost
    rw [if_neg h1, if_pos h3, hr]
    simp [show ¬ (1 : Int) < rd l (i : Int) from hb]
   rw [hE]
   refine (Evs.const (g := some ((3 : Int), rd l (i : Int), (⟨#[]⟩ : ByteArray), (1 : Int))) rfl).step (fun k => ?_)
   simp only [alumref21_one.j0]
   rw [if_neg (by decide), if_neg h1, if_pos h3, if_pos (by omega), rd_drop, if_neg hb, h3]
  have hu := refUnp_eq ((l.drop i).drop 1) (rd l (i : Int)) (by rw [List.length_drop, hl]; omega) (by omega)
  have hdd : (l.drop i).drop 1 = l.drop (i + 1) := by rw [List.drop_drop]
  rw [hdd] at hu
  obtain ⟨m, hmm⟩ := Int.eq_ofNat_of_zero_le hv0
  refine ((hu.bind (f := fun k bt => if bt.2 = 0 then (if rd l (i : Int) > 40 then some ((0 : Int), (0 : Int), (⟨#[]⟩ : ByteArray), (0 : Int)) else some (kind, 0, bt.1, ((1 + (m + 4) / 5 : Nat) : Int))) else some (0, 0, (⟨#[]⟩ : ByteArray), 0)) (Evs.const ?_))).step (fun k => ?_)
  ·unfold oneE valD atMost
   rw [if_neg h1, if_neg h3, hr]
   simp only [Option.bind_some]
   by_cases hb : (40 : Int) < rd l (i : Int)
   ·rw [if_pos hb]
    simp only [gt_iff_lt, if_pos hb, Option.bind_none]
    split <;> rfl
   rw [if_neg hb]
   simp only [gt_iff_lt, if_neg hb, Option.bind_some]
   by_cases he : unpE (l.drop (i + 1)) (rd l (i : Int)) = 0
   ·rw [if_pos he, if_pos he]
    simp only
    rw [hmm, Int.toNat_natCast, show i + 1 + (m + 4) / 5 - i = 1 + (m + 4) / 5 by omega]
   rw [if_neg he, if_neg he]
  simp only [alumref21_one.j0]
  rw [if_neg (by decide), if_neg h1, if_neg h3, if_pos (by omega), if_pos (by omega), rd_drop, hdd]
  congr 1
  funext bt
  have hw : wrap64 (1 + (((m + 4) / 5 : Nat) : Int)) = ((1 + (m + 4) / 5 : Nat) : Int) := by unfold wrap64; omega
  have hL : ((alumref21_Long.f (rd l (i : Int))).bind fun t => some (kind, (0 : Int), bt.1, wrap64 (1 + t))) = some (kind, 0, bt.1, ((1 + (m + 4) / 5 : Nat) : Int)) := by
   rw [hmm, Long_eq m (by omega), Option.bind_some, hw]
  rw [hL]
end Go.Proofs.Ytkopbaikmlajmaa.Q
