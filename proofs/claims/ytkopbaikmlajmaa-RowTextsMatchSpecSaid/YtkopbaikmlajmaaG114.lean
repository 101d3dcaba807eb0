/- trimmed to what these claims' texts use -/
import Derived.Test.YtkopbaikmlajmaaG98
import Derived.Test.YtkopbaikmlajmaaK
import Derived.Test.YtkopbaikmlajmaaF64
namespace Go.Proofs.Ytkopbaikmlajmaa.Q
open Go.RowKit Go.Proofs.YtkopbaikmlajmaaW.PrintWords Go.Proofs.YtkopbaikmlajmaaW.PrintLast Go.Proofs.YtkopbaikmlajmaaW.PrintMore
set_option linter.unusedVariables false
set_option linter.unusedSimpArgs false
theorem refPack_l1 (s : ByteArray) (hs : s.size ≤ 1000000) (x3 : List Int) (j : Nat) (hj : 5 * j < s.size) (hx : x3.length ≤ 10000000) (r : List Int)
  (ih : Evs (fun k => alumref21_Pack.l0 k s (x3 ++ [chunkW s j]) ((5 * (j + 1) : Nat) : Int)) r) : ∀ (d i : Nat), i + d = 5 →
  Evs (fun k => alumref21_Pack.l1 k s x3 ((5 * j : Nat) : Int) (cw s j i) ((5 * j + i : Nat) : Int)) r
 | 0, i, h => by
  obtain rfl : i = 5 := by omega
  refine ih.step (fun k => ?_)
  simp only [alumref21_Pack.l1]
  rw [wrap64_in _ (by omega) (by omega), if_neg (by omega), if_pos (by omega)]
  congr 1
 | d + 1, i, h => by
  refine (refPack_l1 s hs x3 j hj hx r ih d (i + 1) (by omega)).step (fun k => ?_)
  have hc := cw_range s j i
  have hp : (256 : Int) ^ i ≤ 4294967296 := by
   rcases (show i = 0 ∨ i = 1 ∨ i = 2 ∨ i = 3 ∨ i = 4 by omega) with e | e | e | e | e <;> subst e <;> decide
  have hb := bt_range s ((5 * j + i : Nat) : Int)
  simp only [alumref21_Pack.l1]
  rw [wrap64_in (((5 * j : Nat) : Int) + 5) (by omega) (by omega), if_pos (by omega), wrap64_in (cw s j i * 256) (by omega) (by omega), wrap64_in (((5 * j + i : Nat) : Int) + 1) (by omega) (by omega)]
  have e : ((5 * j + i : Nat) : Int) + 1 = ((5 * j + (i + 1) : Nat) : Int) := by omega
  rw [e]
  by_cases hlt : ((5 * j + i : Nat) : Int) < s.size
  ·rw [if_pos hlt, if_pos (by omega), wrap64_in (bt s _) (by omega) (by omega), wrap64_in _ (by omega) (by omega)]
   rfl
  ·rw [if_neg hlt, show cw s j i * 256 = cw s j (i + 1) by rw [cw, bt_far s _ (by omega)]; omega]
theorem refPack_l0 (s : ByteArray) (hs : s.size ≤ 1000000) : ∀ (d j : Nat) (x3 : List Int), j ≤ (s.size + 4) / 5 → (s.size + 4) / 5 - j = d → x3.length + d ≤ 10000000 →
  Evs (fun k => alumref21_Pack.l0 k s x3 ((5 * j : Nat) : Int)) (x3 ++ (List.range d).map (fun i => chunkW s (j + i)))
 | 0, j, x3, h0, h1, h2 => by
  refine (Evs.const (g := some x3) (by simp)).step (fun k => ?_)
  simp only [alumref21_Pack.l0]
  rw [if_neg (by omega)]
 | d + 1, j, x3, h0, h1, h2 => by
  have ih := refPack_l0 s hs d (j + 1) (x3 ++ [chunkW s j]) (by omega) (by omega) (by simp; omega)
  have e : x3 ++ (List.range (d + 1)).map (fun i => chunkW s (j + i)) = x3 ++ [chunkW s j] ++ (List.range d).map (fun i => chunkW s (j + 1 + i)) := by
   rw [List.range_succ_eq_map, List.map_cons, List.map_map, List.append_assoc]
   congr 2
   refine List.map_congr_left (fun i _ => ?_)
   simp only [Function.comp]
   congr 1
   omega
  rw [e]
  refine (refPack_l1 s hs x3 j (by omega) (by omega) _ ih 5 0 (by omega)).step (fun k => ?_)
  simp only [alumref21_Pack.l0]
  rw [if_pos (by omega)]
  rfl
theorem refPack_eq (s : ByteArray) (hs : s.size ≤ 1000000) : Evs (fun k => alumref21_Pack.f k s) (textW s) := by
 have h := refPack_l0 s hs ((s.size + 4) / 5) 0 [] (by omega) (by omega) (by simp; omega)
 simp only [List.nil_append, Nat.zero_add] at h
 exact h
end Go.Proofs.Ytkopbaikmlajmaa.Q
