import Derived.Test.YtkopbaikmlajmaaRB
import Derived.Test.YtkopbaikmlajmaaG27
import Derived.Test.YtkopbaikmlajmaaPA
namespace Go.Proofs.Ytkopbaikmlajmaa.Q
open Go.RowKit Go.Proofs.YtkopbaikmlajmaaW.PrintWords Go.Proofs.YtkopbaikmlajmaaW.PrintLast Go.Proofs.YtkopbaikmlajmaaW.PrintMore
set_option linter.unusedVariables false
set_option linter.unusedSimpArgs false
def gB (s : ByteArray) (i j k : Nat) : Int := if 5 * j + k < i then bt s ((5 * j + k : Nat) : Int) else 0
def pw (s : ByteArray) (i j : Nat) : Int := gB s i j 0 * 4294967296 + gB s i j 1 * 16777216 + gB s i j 2 * 65536 + gB s i j 3 * 256 + gB s i j 4
theorem gB_range (s : ByteArray) (i j k : Nat) : 0 ≤ gB s i j k ∧ gB s i j k ≤ 255 := by
 unfold gB
 split
 ·exact bt_range s _
 omega
theorem pw_zero (s : ByteArray) (j : Nat) : pw s 0 j = 0 := by unfold pw gB; simp
theorem gB_all (s : ByteArray) (j k : Nat) : gB s s.size j k = bt s ((5 * j + k : Nat) : Int) := by
 unfold gB
 split
 ·rfl
 exact (bt_far s _ (by omega)).symm
theorem pw_all (s : ByteArray) (j : Nat) : pw s s.size j = chunkW s j := by
 rw [chunkW_eq]
 unfold pw
 simp only [gB_all, Nat.add_zero]
theorem gB_other {s : ByteArray} {i j k : Nat} (h : 5 * j + k ≠ i) : gB s (i + 1) j k = gB s i j k := by
 unfold gB
 by_cases h1 : 5 * j + k < i
 ·rw [if_pos h1, if_pos (by omega)]
 rw [if_neg h1, if_neg (by omega)]
theorem gB_new (s : ByteArray) (j k : Nat) : gB s (5 * j + k + 1) j k = bt s ((5 * j + k : Nat) : Int) ∧ gB s (5 * j + k) j k = 0 := by
 unfold gB
 rw [if_pos (by omega), if_neg (by omega)]
 exact ⟨rfl, rfl⟩
theorem gB_none {s : ByteArray} {i j k : Nat} (h : i ≤ 5 * j + k) : gB s i j k = 0 := by
 unfold gB
 rw [if_neg (by omega)]
theorem pw_other {s : ByteArray} {i j : Nat} (h : i / 5 ≠ j) : pw s (i + 1) j = pw s i j := by
 unfold pw
 rw [gB_other (by omega), gB_other (by omega), gB_other (by omega), gB_other (by omega), gB_other (by omega)]
theorem pw_step (s : ByteArray) (j m : Nat) (hm : m < 5) : bits .or .i64 (pw s (5 * j + m) j) (shl .i64 (wrap64 (bt s ((5 * j + m : Nat) : Int))) ((8 * (4 - m) : Nat) : Int)) = pw s (5 * j + m + 1) j := by
 have hb := bt_range s ((5 * j + m : Nat) : Int)
 rw [wrap64_in _ (by omega) (by omega)]
 unfold shl
 rw [Int.toNat_natCast, show min (8 * (4 - m)) IntKind.i64.bits = 8 * (4 - m) from Nat.min_eq_left (by show _ ≤ 64; omega)]
 have g0 := gB_range s (5 * j + m) j 0
 have g1 := gB_range s (5 * j + m) j 1
 have g2 := gB_range s (5 * j + m) j 2
 have g3 := gB_range s (5 * j + m) j 3
 rcases (show m = 0 ∨ m = 1 ∨ m = 2 ∨ m = 3 ∨ m = 4 by omega) with e | e | e | e | e <;> subst e
 ·have n := gB_new s j 0
  have e : pw s (5 * j + 0) j = 0 := by
   unfold pw
   rw [n.2, gB_none (k := 1) (by omega), gB_none (k := 2) (by omega), gB_none (k := 3) (by omega), gB_none (k := 4) (by omega)]
   rfl
  have f : pw s (5 * j + 0 + 1) j = bt s ((5 * j + 0 : Nat) : Int) * 4294967296 := by
   unfold pw
   rw [n.1, gB_none (k := 1) (by omega), gB_none (k := 2) (by omega), gB_none (k := 3) (by omega), gB_none (k := 4) (by omega)]
   omega
  rw [e, f, show (2 : Int) ^ (8 * (4 - 0)) = 4294967296 from rfl, wrap_i64_small _ (by omega) (by omega), or_i64_add' _ _ 40 0 (by omega) (by omega) (by omega) (by omega) (by omega) (by omega)]
  omega
 ·have n := gB_new s j 1
  have e : pw s (5 * j + 1) j = gB s (5 * j + 1) j 0 * 4294967296 := by
   unfold pw
   rw [n.2, gB_none (k := 2) (by omega), gB_none (k := 3) (by omega), gB_none (k := 4) (by omega)]
   omega
  have f : pw s (5 * j + 1 + 1) j = gB s (5 * j + 1) j 0 * 4294967296 + bt s ((5 * j + 1 : Nat) : Int) * 16777216 := by
   unfold pw
   rw [n.1, gB_other (k := 0) (by omega), gB_none (k := 2) (by omega), gB_none (k := 3) (by omega), gB_none (k := 4) (by omega)]
   omega
  rw [e, f, show (2 : Int) ^ (8 * (4 - 1)) = 16777216 from rfl, wrap_i64_small _ (by omega) (by omega), or_i64_add' _ _ 32 (gB s (5 * j + 1) j 0) (by omega) (by omega) (by omega) (by omega) (by omega) (by omega)]
 ·have n := gB_new s j 2
  have e : pw s (5 * j + 2) j = gB s (5 * j + 2) j 0 * 4294967296 + gB s (5 * j + 2) j 1 * 16777216 := by
   unfold pw
   rw [n.2, gB_none (k := 3) (by omega), gB_none (k := 4) (by omega)]
   omega
  have f : pw s (5 * j + 2 + 1) j = gB s (5 * j + 2) j 0 * 4294967296 + gB s (5 * j + 2) j 1 * 16777216 + bt s ((5 * j + 2 : Nat) : Int) * 65536 := by
   unfold pw
   rw [n.1, gB_other (k := 0) (by omega), gB_other (k := 1) (by omega), gB_none (k := 3) (by omega), gB_none (k := 4) (by omega)]
   omega
  rw [e, f, show (2 : Int) ^ (8 * (4 - 2)) = 65536 from rfl, wrap_i64_small _ (by omega) (by omega), or_i64_add' _ _ 24 (gB s (5 * j + 2) j 0 * 256 + gB s (5 * j + 2) j 1) (by omega) (by omega) (by omega) (by omega) (by omega) (by omega)]
 ·have n := gB_new s j 3
  have e : pw s (5 * j + 3) j = gB s (5 * j + 3) j 0 * 4294967296 + gB s (5 * j + 3) j 1 * 16777216 + gB s (5 * j + 3) j 2 * 65536 := by
   unfold pw
   rw [n.2, gB_none (k := 4) (by omega)]
   omega
  have f : pw s (5 * j + 3 + 1) j = gB s (5 * j + 3) j 0 * 4294967296 + gB s (5 * j + 3) j 1 * 16777216 + gB s (5 * j + 3) j 2 * 65536 + bt s ((5 * j + 3 : Nat) : Int) * 256 := by
   unfold pw
   rw [n.1, gB_other (k := 0) (by omega), gB_other (k := 1) (by omega), gB_other (k := 2) (by omega), gB_none (k := 4) (by omega)]
   omega
  rw [e, f, show (2 : Int) ^ (8 * (4 - 3)) = 256 from rfl, wrap_i64_small _ (by omega) (by omega), or_i64_add' _ _ 16 (gB s (5 * j + 3) j 0 * 65536 + gB s (5 * j + 3) j 1 * 256 + gB s (5 * j + 3) j 2) (by omega) (by omega) (by omega) (by omega) (by omega) (by omega)]
 have n := gB_new s j 4
 have e : pw s (5 * j + 4) j = gB s (5 * j + 4) j 0 * 4294967296 + gB s (5 * j + 4) j 1 * 16777216 + gB s (5 * j + 4) j 2 * 65536 + gB s (5 * j + 4) j 3 * 256 := by
  unfold pw
  rw [n.2]
  omega
 have f : pw s (5 * j + 4 + 1) j = gB s (5 * j + 4) j 0 * 4294967296 + gB s (5 * j + 4) j 1 * 16777216 + gB s (5 * j + 4) j 2 * 65536 + gB s (5 * j + 4) j 3 * 256 + bt s ((5 * j + 4 : Nat) : Int) := by
  unfold pw
  rw [n.1, gB_other (k := 0) (by omega), gB_other (k := 1) (by omega), gB_other (k := 2) (by omega), gB_other (k := 3) (by omega)]
 rw [e, f, show (2 : Int) ^ (8 * (4 - 4)) = 1 from rfl, wrap_i64_small _ (by omega) (by omega), or_i64_add' _ _ 8 (gB s (5 * j + 4) j 0 * 16777216 + gB s (5 * j + 4) j 1 * 65536 + gB s (5 * j + 4) j 2 * 256 + gB s (5 * j + 4) j 3) (by omega) (by omega) (by omega) (by omega) (by omega) (by omega)]
 omega
theorem rd_map_range (f : Nat → Int) (K j : Nat) (h : j < K) : rd ((List.range K).map f) (j : Int) = f j := by
 unfold rd
 rw [Int.toNat_natCast, List.getD_eq_getElem?_getD, List.getElem?_eq_getElem (by simpa using h)]
 simp
theorem set_map_range (f g : Nat → Int) (K j : Nat) (hj : g j = g j) (h : ∀ i, i ≠ j → f i = g i) : ((List.range K).map f).set j (g j) = (List.range K).map g := by
 apply List.ext_getElem
 ·simp
 intro i h1 h2
 rw [List.getElem_set]
 split
 ·rename_i e
  subst e
  simp
 rename_i e
 simp only [List.getElem_map, List.getElem_range]
 exact h i (fun x => e x.symm)
theorem pack_l0 (s : ByteArray) (hs : s.size ≤ 1000000) : ∀ (d i : Nat), i + d = s.size → Evs (fun k => row_Pack.l0 k s ((List.range ((s.size + 4) / 5)).map (pw s i)) (s.size : Int) (i : Int)) (textW s)
 | 0, i, h => by
  obtain rfl : i = s.size := by omega
  refine (Evs.const (g := some (textW s)) rfl).step (fun k => ?_)
  simp only [row_Pack.l0]
  rw [if_neg (by omega)]
  congr 1
  unfold textW
  exact List.map_congr_left (fun j _ => pw_all s j)
 | d + 1, i, h => by
  refine (pack_l0 s hs d (i + 1) (by omega)).step (fun k => ?_)
  have e1 : wrap64 (Int.tdiv (i : Int) 5) = ((i / 5 : Nat) : Int) := by
   rw [Int.tdiv_eq_ediv_of_nonneg (by omega), wrap64_in _ (by omega) (by omega)]
   omega
  have e2 : wrap64 (8 * (wrap64 (4 - Int.tmod (i : Int) 5))) = ((8 * (4 - i % 5) : Nat) : Int) := by
   rw [Int.tmod_eq_emod_of_nonneg (by omega), wrap64_in (4 - (i : Int) % 5) (by omega) (by omega), wrap64_in _ (by omega) (by omega)]
   omega
  have hi : 5 * (i / 5) + i % 5 = i := by omega
  have hst := pw_step s (i / 5) (i % 5) (by omega)
  rw [hi] at hst
  simp only [row_Pack.l0]
  rw [e1, e2, if_pos (by omega), if_pos (by omega), if_pos (by rw [List.length_map, List.length_range]; omega), if_pos (by omega), if_pos (by omega), if_pos (by omega), rd_map_range _ _ _ (by omega), hst, Int.toNat_natCast, set_map_range (pw s i) (pw s (i + 1)) _ _ rfl (fun j hj => (pw_other (fun e => hj e.symm)).symm), wrap_succ (show i < s.size by omega) (by omega)]
theorem Pack_eq (s : ByteArray) (hs : s.size ≤ 1000000) : Evs (fun k => row_Pack.f k s) (textW s) := by
 have h := pack_l0 s hs s.size 0 (by omega)
 refine h.congr (fun k => ?_)
 unfold row_Pack.f
 rw [long_eq _ (by omega) (by omega), Option.bind_some, if_pos (by omega), if_pos (by omega), show (((s.size : Int) + 4) / 5).toNat = (s.size + 4) / 5 by omega]
 congr 1
 apply List.ext_getElem
 ·simp
 intro i h1 h2
 simp [pw_zero]
def OkR (r : List S40) : Prop := r.length ≤ 20 ∧ ∀ k : Nat, k < r.length → (rd_T40 r (k : Int)).f0 = 0 ∨ validB (rd_T40 r (k : Int)) = true
theorem valW_le {v : S40} (h : validB v = true) : (valW v).length ≤ 9 := by
 unfold valW
 rcases validB_text h with ⟨a, b, c, _⟩ | ⟨a, b, _⟩ | ⟨a, b, c⟩
 ·rw [if_pos a]; simp
 ·rw [if_neg (by omega), if_pos a]; simp
 rw [if_neg (by omega), if_neg (by omega), List.length_cons, textW_length]; omega
theorem body_len {r : List S40} (h : OkR r) : ∀ i : Nat, i ≤ r.length → ((r.take i).flatMap bodyW).length ≤ 9 * i
 | 0, _ => by simp
 | i + 1, hi => by
  have ih := body_len h i (by omega)
  rw [take_snoc40 r i (by omega), List.flatMap_append, List.length_append, List.flatMap_singleton]
  rcases h.2 i (by omega) with h0 | hv
  ·unfold bodyW at ih ⊢
   rw [if_pos h0]
   simp only [List.length_nil]
   omega
  have := valW_le hv
  have e : bodyW (rd_T40 r (i : Int)) = valW (rd_T40 r (i : Int)) := by unfold bodyW; rw [if_neg (validB_ne hv)]
  rw [e]
  omega
def rowI (r : List S40) (i : Nat) : List Int := ((256 * r.length + nullsR (r.take i) : Nat) : Int) :: (r.take i).flatMap bodyW
theorem nulls_take {r : List S40} {i : Nat} (hi : i < r.length) : nullsR (r.take (i + 1)) = nullsR (r.take i) + 2 ^ i * (if (rd_T40 r (i : Int)).f0 = 0 then 1 else 0) := by
 rw [take_snoc40 r i hi, nullsR_app, List.length_take, Nat.min_eq_left (by omega)]
theorem body_take {r : List S40} {i : Nat} (hi : i < r.length) : (r.take (i + 1)).flatMap bodyW = (r.take i).flatMap bodyW ++ bodyW (rd_T40 r (i : Int)) := by
 rw [take_snoc40 r i hi, List.flatMap_append, List.flatMap_singleton]
theorem rowI_null {r : List S40} {i : Nat} (hi : i < r.length) (h : (rd_T40 r (i : Int)).f0 = 0) : rowI r (i + 1) = ((256 * r.length + nullsR (r.take i) + 2 ^ i : Nat) : Int) :: (r.take i).flatMap bodyW := by
 unfold rowI
 rw [nulls_take hi, if_pos h, body_take hi]
 have : bodyW (rd_T40 r (i : Int)) = [] := by unfold bodyW; rw [if_pos h]
 rw [this, List.append_nil, Nat.mul_one, Nat.add_assoc]
theorem rowI_val {r : List S40} {i : Nat} (hi : i < r.length) (h : (rd_T40 r (i : Int)).f0 ≠ 0) : rowI r (i + 1) = rowI r i ++ valW (rd_T40 r (i : Int)) := by
 unfold rowI
 rw [nulls_take hi, if_neg h, body_take hi]
 have : bodyW (rd_T40 r (i : Int)) = valW (rd_T40 r (i : Int)) := by unfold bodyW; rw [if_neg h]
 rw [this, Nat.mul_zero, Nat.add_zero]
 rfl
theorem nulls_take_lt {r : List S40} (h : r.length ≤ 20) (i : Nat) (hi : i ≤ 20) : nullsR (r.take i) < 1048576 := by
 have := nullsR_lt (r.take i)
 have h2 : 2 ^ (r.take i).length ≤ 2 ^ 20 := Nat.pow_le_pow_right (by decide) (by rw [List.length_take]; omega)
 omega
theorem pow_le20 {i : Nat} (h : i ≤ 20) : 2 ^ i ≤ 1048576 := Nat.pow_le_pow_right (n := 2) (by decide) h
theorem shl_one {i : Nat} (h : i ≤ 20) : shl .i64 1 (i : Int) = ((2 ^ i : Nat) : Int) := by
 have hp := pow_le20 h
 unfold shl
 rw [Int.toNat_natCast, show min i IntKind.i64.bits = i from Nat.min_eq_left (by show _ ≤ 64; omega), Int.one_mul, show (2 : Int) ^ i = ((2 ^ i : Nat) : Int) by rw [Int.natCast_pow]; rfl]
 generalize 2 ^ i = p at hp ⊢
 rw [wrap_i64_small _ (by omega) (by omega)]
theorem words_l0' {r : List S40} (hr : OkR r) : ∀ (d i : Nat), i + d = r.length → Evs (fun k => row_words.l0 k (rowI r i) r (r.length : Int) (i : Int)) (rowW r)
 | 0, i, h => by
  obtain rfl : i = r.length := by omega
  refine (Evs.const (g := some (rowW r)) rfl).step (fun k => ?_)
  simp only [row_words.l0]
  rw [if_neg (by omega)]
  unfold rowI rowW
  rw [List.take_length]
 | d + 1, i, h => by
  have hi : i < r.length := by omega
  have ih := words_l0' hr d (i + 1) (by omega)
  have hw : wrap64 ((i : Int) + 1) = ((i + 1 : Nat) : Int) := wrap_succ hi (by have := hr.1; omega)
  have hl : (rowI r i).length ≤ 200 := by
   have := body_len hr i (by omega)
   have := hr.1
   unfold rowI
   rw [List.length_cons]
   omega
  rcases hr.2 i hi with h0 | hv
  ·refine ih.step (fun k => ?_)
   have hn := nulls_take_lt hr.1 i (by have := hr.1; omega)
   have hp := pow_le20 (i := i) (by have := hr.1; omega)
   simp only [row_words.l0]
   rw [if_pos (by omega), if_pos (by omega), if_pos (by omega), if_pos h0, if_pos (by unfold rowI; rw [List.length_cons]; omega), shl_one (by have := hr.1; omega), hw]
   have e : rd (rowI r i) 0 = ((256 * r.length + nullsR (r.take i) : Nat) : Int) := rfl
   have := hr.1
   rw [e, rowI_null hi h0]
   generalize 2 ^ i = p at hp ⊢
   rw [wrap64_in _ (by omega) (by omega)]
   congr 1
  have hne := validB_ne hv
  rw [rowI_val hi hne] at ih
  unfold valW at ih
  rcases validB_text hv with ⟨a, b, c, _⟩ | ⟨a, b, _⟩ | ⟨a, b, c⟩
  ·rw [if_pos a] at ih
   refine ih.step (fun k => ?_)
   simp only [row_words.l0]
   rw [if_pos (by omega), if_pos (by omega), if_pos (by omega), if_neg hne, if_pos a, if_pos (by omega), hw, wrap64_in _ (by omega) (by omega)]
  ·rw [if_neg (by omega), if_pos a] at ih
   refine ih.step (fun k => ?_)
   simp only [row_words.l0]
   rw [if_pos (by omega), if_pos (by omega), if_pos (by omega), if_neg hne, if_neg (by omega), if_pos a, if_pos (by omega), hw]
  rw [if_neg (by omega), if_neg (by omega)] at ih
  obtain ⟨K, hK⟩ := Pack_eq (rd_T40 r (i : Int)).f2 (by omega)
  obtain ⟨K2, hK2⟩ := ih
  dsimp only at hK hK2
  refine ⟨max K K2 + 1, fun k hk => ?_⟩
  obtain ⟨k, rfl⟩ : ∃ m, k = m + 1 := ⟨k - 1, by omega⟩
  have hk2 := hK2 k (by omega)
  simp only [row_words.l0]
  rw [if_pos (by omega), if_pos (by omega), if_pos (by omega), if_neg hne, if_neg (by omega), if_neg (by omega), if_pos (by omega), Option.bind_some, hK k (by omega), Option.bind_some, if_pos (by rw [List.length_append, textW_length]; simp; omega), hw, ← hk2]
  simp
theorem words_eq {r : List S40} (hr : OkR r) : Evs (fun k => row_words.f k r) (rowW r) := by
 refine (words_l0' hr r.length 0 (by omega)).congr (fun k => ?_)
 unfold row_words.f rowI
 have := hr.1
 rw [wrap64_in _ (by omega) (by omega)]
 simp only [List.take_zero, List.flatMap_nil, nullsR]
 congr 2
 omega
theorem size_l0 {r : List S40} (hr : OkR r) : ∀ (d i : Nat), i + d = r.length → Evs (fun k => row_Size.l0 k ((1 + ((r.take i).flatMap bodyW).length : Nat) : Int) r (r.length : Int) (i : Int)) ((rowW r).length : Int)
 | 0, i, h => by
  obtain rfl : i = r.length := by omega
  refine (Evs.const (g := some ((rowW r).length : Int)) rfl).step (fun k => ?_)
  simp only [row_Size.l0]
  rw [if_neg (by omega)]
  unfold rowW
  rw [List.take_length, List.length_cons, Nat.add_comm]
 | d + 1, i, h => by
  have hi : i < r.length := by omega
  have ih := size_l0 hr d (i + 1) (by omega)
  have hw : wrap64 ((i : Int) + 1) = ((i + 1 : Nat) : Int) := wrap_succ hi (by have := hr.1; omega)
  have hl := body_len hr i (by omega)
  have h20 := hr.1
  rw [body_take hi, List.length_append] at ih
  rcases hr.2 i hi with h0 | hv
  ·have e0 : bodyW (rd_T40 r (i : Int)) = [] := by unfold bodyW; rw [if_pos h0]
   rw [e0, List.length_nil, Nat.add_zero] at ih
   refine ih.step (fun k => ?_)
   simp only [row_Size.l0]
   rw [if_pos (by omega), if_pos (by omega), if_pos (by omega), if_pos h0, hw]
  have hne := validB_ne hv
  have e0 : bodyW (rd_T40 r (i : Int)) = valW (rd_T40 r (i : Int)) := by unfold bodyW; rw [if_neg hne]
  rw [e0] at ih
  unfold valW at ih
  rcases validB_text hv with ⟨a, b, c, _⟩ | ⟨a, b, _⟩ | ⟨a, b, c⟩
  ·rw [if_pos a, List.length_singleton] at ih
   refine ih.step (fun k => ?_)
   simp only [row_Size.l0]
   rw [if_pos (by omega), if_pos (by omega), if_pos (by omega), if_neg hne, if_neg (by omega), hw, wrap64_in _ (by omega) (by omega)]
   congr 1
  ·rw [if_neg (by omega), if_pos a, List.length_singleton] at ih
   refine ih.step (fun k => ?_)
   simp only [row_Size.l0]
   rw [if_pos (by omega), if_pos (by omega), if_pos (by omega), if_neg hne, if_neg (by omega), hw, wrap64_in _ (by omega) (by omega)]
   congr 1
  rw [if_neg (by omega), if_neg (by omega), List.length_cons, textW_length] at ih
  refine ih.step (fun k => ?_)
  simp only [row_Size.l0]
  rw [if_pos (by omega), if_pos (by omega), if_pos (by omega), if_neg hne, if_pos (by omega), long_eq _ (by omega) (by omega), Option.bind_some, hw, wrap64_in (1 + _) (by omega) (by omega), wrap64_in _ (by omega) (by omega)]
  congr 1
  omega
theorem Size_eq {r : List S40} (hr : OkR r) : Evs (fun k => row_Size.f k r) ((rowW r).length : Int) := (size_l0 hr r.length 0 (by omega)).congr (fun k => rfl)
end Go.Proofs.Ytkopbaikmlajmaa.Q
