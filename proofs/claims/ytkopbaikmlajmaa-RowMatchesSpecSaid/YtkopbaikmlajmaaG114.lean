import Derived.Test.YtkopbaikmlajmaaG98
import Derived.Test.YtkopbaikmlajmaaPA
namespace Go.Proofs.Ytkopbaikmlajmaa.Q
open Go.RowKit Go.Proofs.YtkopbaikmlajmaaW.PrintWords Go.Proofs.YtkopbaikmlajmaaW.PrintLast Go.Proofs.YtkopbaikmlajmaaW.PrintMore
set_option linter.unusedVariables false
set_option linter.unusedSimpArgs false
theorem refPack_l1 (s : ByteArray) (hs : s.size ≤ 1000000) (x3 : List Int) (j : Nat) (hj : 5 * j < s.size) (hx : x3.length ≤ 10000000) (r : List Int)
  (ih : Evs (fun k => alumref21_Pack.l0 k s (x3 ++ [chunkW s j]) ((5 * (j + 1) : Nat) : Int)) r) : ∀ (d i : Nat), i + d = 5 →
  Evs (fun k => alumref21_Pack.l1 k s x3 ((5 * j : Nat) : Int) (cw s j i) ((5 * j + i : Nat) : Int)) r
 | 0, i, h => by
  obtain rfl : i = 5 := by omega
  refine ih.step (fun k => ?_)
  simp only [alumref21_Pack.l1]
  rw [wrap64_in _ (by omega) (by omega), if_neg (by omega), if_pos (by omega)]
  congr 1
 | d + 1, i, h => by
  refine (refPack_l1 s hs x3 j hj hx r ih d (i + 1) (by omega)).step (fun k => ?_)
  have hc := cw_range s j i
  have hp : (256 : Int) ^ i ≤ 4294967296 := by
   rcases (show i = 0 ∨ i = 1 ∨ i = 2 ∨ i = 3 ∨ i = 4 by omega) with e | e | e | e | e <;> subst e <;> decide
  have hb := bt_range s ((5 * j + i : Nat) : Int)
  simp only [alumref21_Pack.l1]
  rw [wrap64_in (((5 * j : Nat) : Int) + 5) (by omega) (by omega), if_pos (by omega), wrap64_in (cw s j i * 256) (by omega) (by omega), wrap64_in (((5 * j + i : Nat) : Int) + 1) (by omega) (by omega)]
  have e : ((5 * j + i : Nat) : Int) + 1 = ((5 * j + (i + 1) : Nat) : Int) := by omega
  rw [e]
  by_cases hlt : ((5 * j + i : Nat) : Int) < s.size
  ·rw [if_pos hlt, if_pos (by omega), wrap64_in (bt s _) (by omega) (by omega), wrap64_in _ (by omega) (by omega)]
   rfl
  rw [if_neg hlt, show cw s j i * 256 = cw s j (i + 1) by rw [cw, bt_far s _ (by omega)]; omega]
theorem refPack_l0 (s : ByteArray) (hs : s.size ≤ 1000000) : ∀ (d j : Nat) (x3 : List Int), j ≤ (s.size + 4) / 5 → (s.size + 4) / 5 - j = d → x3.length + d ≤ 10000000 →
  Evs (fun k => alumref21_Pack.l0 k s x3 ((5 * j : Nat) : Int)) (x3 ++ (List.range d).map (fun i => chunkW s (j + i)))
 | 0, j, x3, h0, h1, h2 => by
  refine (Evs.const (g := some x3) (by simp)).step (fun k => ?_)
  simp only [alumref21_Pack.l0]
  rw [if_neg (by omega)]
 | d + 1, j, x3, h0, h1, h2 => by
  have ih := refPack_l0 s hs d (j + 1) (x3 ++ [chunkW s j]) (by omega) (by omega) (by simp; omega)
  have e : x3 ++ (List.range (d + 1)).map (fun i => chunkW s (j + i)) = x3 ++ [chunkW s j] ++ (List.range d).map (fun i => chunkW s (j + 1 + i)) := by
   rw [List.range_succ_eq_map, List.map_cons, List.map_map, List.append_assoc]
   congr 2
   refine List.map_congr_left (fun i _ => ?_)
   simp only [Function.comp]
   congr 1
   omega
  rw [e]
  refine (refPack_l1 s hs x3 j (by omega) (by omega) _ ih 5 0 (by omega)).step (fun k => ?_)
  simp only [alumref21_Pack.l0]
  rw [if_pos (by omega)]
  rfl
theorem refPack_eq (s : ByteArray) (hs : s.size ≤ 1000000) : Evs (fun k => alumref21_Pack.f k s) (textW s) := by
 have h := refPack_l0 s hs ((s.size + 4) / 5) 0 [] (by omega) (by omega) (by simp; omega)
 simp only [List.nil_append, Nat.zero_add] at h
 exact h
theorem refWords_l0 {r : List S40} (hr : OkR r) : ∀ (d i : Nat), i + d = r.length → Evs (fun k => alumref21_Words.l0 k r ((256 * r.length + nullsR (r.take i) : Nat) : Int) ((r.take i).flatMap bodyW) (i : Int)) (rowW r)
 | 0, i, h => by
  obtain rfl : i = r.length := by omega
  have hb := body_len hr r.length (Nat.le_refl _)
  have := hr.1
  refine (Evs.const (g := some (rowW r)) rfl).step (fun k => ?_)
  simp only [alumref21_Words.l0]
  rw [if_neg (by omega), Option.bind_some, if_pos (by rw [List.length_singleton]; omega)]
  unfold rowW
  rw [List.take_length]
  rfl
 | d + 1, i, h => by
  have hi : i < r.length := by omega
  have ih := refWords_l0 hr d (i + 1) (by omega)
  have hw : wrap64 ((i : Int) + 1) = ((i + 1 : Nat) : Int) := wrap_succ hi (by have := hr.1; omega)
  have hl := body_len hr i (by omega)
  have h20 := hr.1
  rw [nulls_take hi, body_take hi] at ih
  rcases hr.2 i hi with h0 | hv
  ·have e0 : bodyW (rd_T40 r (i : Int)) = [] := by unfold bodyW; rw [if_pos h0]
   rw [if_pos h0, e0, List.append_nil, Nat.mul_one] at ih
   refine ih.step (fun k => ?_)
   have hn := nulls_take_lt hr.1 i (by omega)
   have hp := pow_le20 (i := i) (by omega)
   simp only [alumref21_Words.l0]
   rw [if_pos (by omega), if_pos (by omega), if_pos h0, shl_one (by omega), hw]
   generalize 2 ^ i = p at hp ⊢
   rw [wrap64_in _ (by omega) (by omega)]
   congr 1
   omega
  have hne := validB_ne hv
  have e0 : bodyW (rd_T40 r (i : Int)) = valW (rd_T40 r (i : Int)) := by unfold bodyW; rw [if_neg hne]
  rw [if_neg hne, e0, Nat.mul_zero, Nat.add_zero] at ih
  unfold valW at ih
  rcases validB_text hv with ⟨a, b, c, _⟩ | ⟨a, b, _⟩ | ⟨a, b, c⟩
  ·rw [if_pos a] at ih
   refine ih.step (fun k => ?_)
   simp only [alumref21_Words.l0]
   rw [if_pos (by omega), if_pos (by omega), if_neg hne, if_pos a, if_pos (by omega), hw, wrap64_in _ (by omega) (by omega)]
  ·rw [if_neg (by omega), if_pos a] at ih
   refine ih.step (fun k => ?_)
   simp only [alumref21_Words.l0]
   rw [if_pos (by omega), if_pos (by omega), if_neg hne, if_neg (by omega), if_pos a, if_pos (by omega), hw]
  rw [if_neg (by omega), if_neg (by omega)] at ih
  obtain ⟨K, hK⟩ := refPack_eq (rd_T40 r (i : Int)).f2 (by omega)
  obtain ⟨K2, hK2⟩ := ih
  dsimp only at hK hK2
  refine ⟨max K K2 + 1, fun k hk => ?_⟩
  obtain ⟨k, rfl⟩ : ∃ m, k = m + 1 := ⟨k - 1, by omega⟩
  have hk2 := hK2 k (by omega)
  simp only [alumref21_Words.l0]
  rw [if_pos (by omega), if_pos (by omega), if_neg hne, if_neg (by omega), if_neg (by omega), if_pos (by omega), Option.bind_some, hK k (by omega), Option.bind_some, if_pos (by rw [List.length_append, textW_length, List.length_singleton]; omega), hw, ← hk2]
  simp
theorem refWords_eq {r : List S40} (hr : OkR r) : Evs (fun k => alumref21_Words.f k r) (rowW r) := by
 refine (refWords_l0 hr r.length 0 (by omega)).congr (fun k => ?_)
 unfold alumref21_Words.f
 have := hr.1
 rw [wrap64_in _ (by omega) (by omega)]
 simp only [List.take_zero, List.flatMap_nil, nullsR]
 congr 1
theorem refSize_eq {r : List S40} (hr : OkR r) : Evs (fun k => alumref21_Size.f k r) ((rowW r).length : Int) := by
 refine ((refWords_eq hr).bind (f := fun k t => some (t.length : Int)) (Evs.const rfl)).congr (fun k => ?_)
 unfold alumref21_Size.f
 rfl
end Go.Proofs.Ytkopbaikmlajmaa.Q
