/- Several small texts of this claim in one: U R. -/
import Derived.Test.YtkopbaikmlajmaaF62
import Derived.Test.YtkopbaikmlajmaaDA
import Derived.Test.YtkopbaikmlajmaaF44
import Derived.Test.YtkopbaikmlajmaaSA
namespace Go.Proofs.Ytkopbaikmlajmaa.Q
open Go.RowKit Go.Proofs.YtkopbaikmlajmaaW.PrintWords Go.Proofs.YtkopbaikmlajmaaW.PrintLast Go.Proofs.YtkopbaikmlajmaaW.PrintMore
set_option linter.unusedVariables false
set_option linter.unusedSimpArgs false
theorem bytes5_val (w : Int) : [w / 4294967296 % 256, w / 16777216 % 256, w / 65536 % 256, w / 256 % 256, w % 256] = bytes5 w := by
 simp [bytes5, byteAt, List.range_succ]
theorem bt_far (s : ByteArray) (i : Int) (h : (s.size : Int) ≤ i) : bt s i = 0 := by
 unfold bt
 rw [dif_neg (by omega)]
theorem wrap64_in (n : Int) (h0 : -9223372036854775808 ≤ n) (h1 : n ≤ 9223372036854775807) : wrap64 n = n := by unfold wrap64; omega
theorem nil_str : (⟨#[]⟩ : ByteArray).toList = [] := by rw [ByteArray.toList_eq]
theorem str_nil {s : ByteArray} (h : s.toList = []) : s.data = #[] := by
 rw [ByteArray.toList_eq] at h
 exact Array.toList_eq_nil_iff.1 h
theorem empty_str {s : ByteArray} (h : s.toList = []) : s = ⟨#[]⟩ := by
 apply ByteArray.ext
 exact str_nil h
/-- The first n bytes of a string, as numbers. -/
def bytesN (s : ByteArray) (n : Nat) : List Int := (List.range n).map (fun i : Nat => bt s (i : Int))
theorem chunkW_eq (s : ByteArray) (j : Nat) : chunkW s j = bt s ((5 * j : Nat) : Int) * 4294967296 + bt s ((5 * j + 1 : Nat) : Int) * 16777216 + bt s ((5 * j + 2 : Nat) : Int) * 65536 + bt s ((5 * j + 3 : Nat) : Int) * 256 + bt s ((5 * j + 4 : Nat) : Int) := by
 unfold chunkW
 simp only [cw, Nat.add_zero]
 omega
theorem bytes5_chunk (s : ByteArray) (j : Nat) : bytes5 (chunkW s j) = (List.range 5).map (fun i => bt s ((5 * j + i : Nat) : Int)) := by
 have h0 := bt_range s ((5 * j : Nat) : Int)
 have h1 := bt_range s ((5 * j + 1 : Nat) : Int)
 have h2 := bt_range s ((5 * j + 2 : Nat) : Int)
 have h3 := bt_range s ((5 * j + 3 : Nat) : Int)
 have h4 := bt_range s ((5 * j + 4 : Nat) : Int)
 rw [← bytes5_val, chunkW_eq]
 show _ = [bt s ((5 * j : Nat) : Int), bt s ((5 * j + 1 : Nat) : Int), bt s ((5 * j + 2 : Nat) : Int), bt s ((5 * j + 3 : Nat) : Int), bt s ((5 * j + 4 : Nat) : Int)]
 generalize bt s ((5 * j : Nat) : Int) = b0 at *
 generalize bt s ((5 * j + 1 : Nat) : Int) = b1 at *
 generalize bt s ((5 * j + 2 : Nat) : Int) = b2 at *
 generalize bt s ((5 * j + 3 : Nat) : Int) = b3 at *
 generalize bt s ((5 * j + 4 : Nat) : Int) = b4 at *
 simp only [List.cons.injEq, and_true]
 refine ⟨by omega, by omega, by omega, by omega, by omega⟩
theorem flat_chunks (s : ByteArray) : ∀ K, ((List.range K).map (chunkW s)).flatMap bytes5 = bytesN s (5 * K)
 | 0 => rfl
 | K + 1 => by
  rw [List.range_succ, List.map_append, List.flatMap_append, flat_chunks s K]
  unfold bytesN
  rw [show 5 * (K + 1) = 5 * K + 5 by omega, List.range_add, List.map_append, List.map_map]
  congr 1
  show bytes5 (chunkW s K) ++ [] = _
  rw [List.append_nil, bytes5_chunk]
  rfl
theorem chunk_word (s : ByteArray) (j : Nat) : 0 ≤ chunkW s j ∧ chunkW s j ≤ 1099511627775 := by
 have := cw_range s j 5
 unfold chunkW
 omega
theorem bytesN_length (s : ByteArray) (n : Nat) : (bytesN s n).length = n := by simp [bytesN]
theorem str_bytesN (s : ByteArray) : strOfNums (bytesN s s.size) = s := by
 apply ByteArray.ext
 apply Array.ext
 ·show (strOfNums (bytesN s s.size)).size = s.size
  rw [strOfNums_size, bytesN_length]
 ·intro i h1 h2
  simp only [strOfNums, bytesN, List.map_map, List.getElem_toArray, List.getElem_map, Function.comp, List.getElem_range]
  unfold bt
  rw [dif_pos (by rw [Int.toNat_natCast]; exact h2)]
  simp only [Int.toNat_natCast, UInt8.ofNat_toNat]
  rfl
theorem any_zero {l : List Int} (h : ∀ x, x ∈ l → x = 0) : l.any (fun x => x != 0) = false := by
 rw [List.any_eq_false]
 intro x hx
 rw [h x hx]
 decide
theorem unpB_text (s : ByteArray) (more : List Int) : unpB (textW s ++ more) s.size = bytesN s (5 * ((s.size + 4) / 5)) := by
 unfold unpB
 rw [List.take_left' (textW_length s)]
 exact flat_chunks s _
theorem drop_bytesN (s : ByteArray) (m : Nat) : ∀ x, x ∈ (bytesN s m).drop s.size → x = 0 := by
 intro x hx
 obtain ⟨i, hi, rfl⟩ := List.getElem_of_mem hx
 rw [List.getElem_drop]
 simp only [bytesN, List.getElem_map, List.getElem_range]
 exact bt_far s _ (by omega)
theorem take_bytesN (s : ByteArray) (n m : Nat) (h : n ≤ m) : (bytesN s m).take n = bytesN s n := by
 unfold bytesN
 rw [← List.map_take, List.take_range, Nat.min_eq_left h]
theorem unpE_text (s : ByteArray) (more : List Int) : unpE (textW s ++ more) (s.size : Int) = 0 := by
 unfold unpE
 rw [Int.toNat_natCast, if_neg (by rw [List.length_append, textW_length]; omega), if_neg, if_neg]
 ·rw [unpB_text, any_zero (drop_bytesN s _)]
  decide
 ·rw [List.take_left' (textW_length s), List.any_eq_true]
  rintro ⟨x, hx, hw⟩
  obtain ⟨j, _, rfl⟩ := List.mem_map.1 hx
  have := chunk_word s j
  unfold noWord at hw
  rw [decide_eq_false (by omega), decide_eq_false (by omega)] at hw
  cases hw
theorem unpS_text (s : ByteArray) (more : List Int) : unpS (textW s ++ more) (s.size : Int) = s := by
 unfold unpS
 rw [if_pos (unpE_text s more), Int.toNat_natCast, unpB_text, take_bytesN s _ _ (by omega), str_bytesN]
theorem unpE_good {l : List Int} {n : Nat} (h : unpE l (n : Int) = 0) : (n + 4) / 5 ≤ l.length ∧ (∀ x, x ∈ l.take ((n + 4) / 5) → 0 ≤ x ∧ x ≤ 1099511627775) ∧ ∀ x, x ∈ (unpB l n).drop n → x = 0 := by
 unfold unpE at h
 rw [Int.toNat_natCast] at h
 split at h; · cases h
 rename_i h1
 split at h; · cases h
 rename_i h2
 split at h; · cases h
 rename_i h3
 refine ⟨by omega, fun x hx => ?_, fun x hx => ?_⟩
 ·rw [Bool.not_eq_true, List.any_eq_false] at h2
  have := h2 x hx
  unfold noWord at this
  simp only [Bool.or_eq_true, decide_eq_true_eq] at this
  omega
 ·rw [Bool.not_eq_true, List.any_eq_false] at h3
  have := h3 x hx
  simpa using this
theorem byteAt_range (w : Int) (i : Nat) : 0 ≤ byteAt w i ∧ byteAt w i ≤ 255 := by unfold byteAt; omega
theorem mem_flat5 {l : List Int} {x : Int} (h : x ∈ l.flatMap bytes5) : 0 ≤ x ∧ x ≤ 255 := by
 obtain ⟨w, _, hx⟩ := List.mem_flatMap.1 h
 obtain ⟨i, _, rfl⟩ := List.mem_map.1 hx
 exact byteAt_range w i
theorem bt_str {l : List Int} {n : Nat} (hn : n ≤ l.length) (h : ∀ x, x ∈ l → 0 ≤ x ∧ x ≤ 255) (hz : ∀ x, x ∈ l.drop n → x = 0) (i : Nat) : bt (strOfNums (l.take n)) (i : Int) = rd l (i : Int) := by
 have hs : (strOfNums (l.take n)).size = n := by rw [strOfNums_size, List.length_take]; omega
 unfold rd
 rw [Int.toNat_natCast, List.getD_eq_getElem?_getD]
 by_cases hi : i < n
 ·unfold bt
  rw [dif_pos (by rw [Int.toNat_natCast, hs]; exact hi), List.getElem?_eq_getElem (by omega)]
  have e : (strOfNums (l.take n))[(i : Int).toNat]'(by rw [Int.toNat_natCast, hs]; exact hi) = UInt8.ofNat (l[i]'(by omega)).toNat := by
   simp only [Int.toNat_natCast]
   show (strOfNums (l.take n)).data[i]'_ = _
   simp [strOfNums]
  rw [e]
  have := h (l[i]'(by omega)) (List.getElem_mem _)
  simp only [Option.getD_some, UInt8.toNat_ofNat']
  omega
 ·rw [bt_far _ _ (by omega)]
  by_cases hl : i < l.length
  ·rw [List.getElem?_eq_getElem hl]
   have := hz l[i] (by
    rw [List.mem_iff_getElem]
    exact ⟨i - n, by rw [List.length_drop]; omega, by rw [List.getElem_drop]; congr 1; omega⟩)
   exact this.symm
  ·rw [List.getElem?_eq_none (by omega)]
   rfl
theorem rd_flat5 : ∀ (l : List Int) (j i : Nat), j < l.length → i < 5 → rd (l.flatMap bytes5) ((5 * j + i : Nat) : Int) = byteAt (rd l (j : Int)) i
 | [], j, i, h, _ => by simp at h
 | w :: l, 0, i, h, hi => by
  unfold rd
  rw [Int.toNat_natCast, List.flatMap_cons, List.getD_eq_getElem?_getD, List.getElem?_append_left (by rw [bytes5_length]; omega)]
  simp [bytes5, hi, Nat.mul_zero]
 | w :: l, j + 1, i, h, hi => by
  have ih := rd_flat5 l j i (by simpa using h) hi
  unfold rd at ih ⊢
  rw [Int.toNat_natCast] at ih ⊢
  rw [List.flatMap_cons, List.getD_eq_getElem?_getD, List.getElem?_append_right (by rw [bytes5_length]; omega), bytes5_length, show 5 * (j + 1) + i - 5 = 5 * j + i by omega, ← List.getD_eq_getElem?_getD, ih]
  simp
theorem byte5_sum (w : Int) (h0 : 0 ≤ w) (h1 : w ≤ 1099511627775) : w = byteAt w 0 * 4294967296 + byteAt w 1 * 16777216 + byteAt w 2 * 65536 + byteAt w 3 * 256 + byteAt w 4 := by
 unfold byteAt
 simp only [Nat.sub_zero, Nat.reduceSub, Nat.reduceMul, Int.reducePow]
 omega
/-- What Unpack reads is what Pack writes. -/
theorem unp_words {l : List Int} {n : Nat} (h : unpE l (n : Int) = 0) : (unpS l (n : Int)).size = n ∧ textW (unpS l (n : Int)) = l.take ((n + 4) / 5) := by
 obtain ⟨h1, h2, h3⟩ := unpE_good h
 have hl : (unpB l n).length = 5 * ((n + 4) / 5) := by unfold unpB; rw [flat5_length, List.length_take]; omega
 have hS : unpS l (n : Int) = strOfNums ((unpB l n).take n) := by unfold unpS; rw [if_pos h, Int.toNat_natCast]
 have hz : (unpS l (n : Int)).size = n := by rw [hS, strOfNums_size, List.length_take]; omega
 refine ⟨hz, ?_⟩
 apply List.ext_getElem
 ·rw [textW_length, hz, List.length_take]; omega
 ·intro j hj1 hj2
  have hjk : j < (n + 4) / 5 := by rw [textW_length, hz] at hj1; exact hj1
  have hr : (l.take ((n + 4) / 5))[j] = rd (l.take ((n + 4) / 5)) (j : Int) := by
   unfold rd
   rw [Int.toNat_natCast, List.getD_eq_getElem?_getD, List.getElem?_eq_getElem hj2]
   rfl
  have hw := h2 _ (List.getElem_mem hj2)
  have hb : ∀ i : Nat, i < 5 → bt (unpS l (n : Int)) ((5 * j + i : Nat) : Int) = byteAt (rd (l.take ((n + 4) / 5)) (j : Int)) i := by
   intro i hi
   rw [hS, bt_str (l := unpB l n) (by omega) (fun x hx => mem_flat5 hx) h3]
   exact rd_flat5 _ j i hj2 hi
  simp only [textW, List.getElem_map, List.getElem_range]
  rw [hr] at hw ⊢
  rw [byte5_sum _ hw.1 hw.2, chunkW_eq, ← hb 0 (by omega), ← hb 1 (by omega), ← hb 2 (by omega), ← hb 3 (by omega), ← hb 4 (by omega)]
  simp only [Nat.add_zero]
theorem unpE_app {l : List Int} {n : Nat} (more : List Int) (h : unpE l (n : Int) = 0) : unpE (l ++ more) (n : Int) = 0 ∧ unpS (l ++ more) (n : Int) = unpS l (n : Int) := by
 obtain ⟨hz, hw⟩ := unp_words h
 obtain ⟨h1, _, _⟩ := unpE_good h
 have e : l ++ more = textW (unpS l (n : Int)) ++ (l.drop ((n + 4) / 5) ++ more) := by rw [hw, ← List.append_assoc, List.take_append_drop]
 have a := unpE_text (unpS l (n : Int)) (l.drop ((n + 4) / 5) ++ more)
 have b := unpS_text (unpS l (n : Int)) (l.drop ((n + 4) / 5) ++ more)
 rw [← e, hz] at a b
 exact ⟨a, b⟩
end Go.Proofs.Ytkopbaikmlajmaa.Q
namespace Go.Proofs.Ytkopbaikmlajmaa.Q
open Go.RowKit Go.Proofs.YtkopbaikmlajmaaW.PrintWords Go.Proofs.YtkopbaikmlajmaaW.PrintLast Go.Proofs.YtkopbaikmlajmaaW.PrintMore
set_option linter.unusedVariables false
set_option linter.unusedSimpArgs false
/-- Which values of a row are null, as a number: the first is the lowest bit. -/
def nullsR : List S40 → Nat
 | [] => 0
 | v :: r => (if v.f0 = 0 then 1 else 0) + 2 * nullsR r
/-- The words of a value of a row. -/
def bodyW (v : S40) : List Int := if v.f0 = 0 then [] else valW v
/-- The words of a row. -/
def rowW (r : List S40) : List Int := ((256 * r.length + nullsR r : Nat) : Int) :: r.flatMap bodyW
theorem rd40_zero (v : S40) (r : List S40) : rd_T40 (v :: r) ((0 : Nat) : Int) = v := rfl
theorem rd40_succ (v : S40) (r : List S40) (k : Nat) : rd_T40 (v :: r) ((k + 1 : Nat) : Int) = rd_T40 r (k : Int) := by unfold rd_T40; simp
theorem nullsR_lt : ∀ r : List S40, nullsR r < 2 ^ r.length
 | [] => by decide
 | v :: r => by
  have := nullsR_lt r
  rw [nullsR, List.length_cons, Nat.pow_succ]
  split <;> omega
theorem nullsR_bit : ∀ (r : List S40) (k : Nat), k < r.length → nullsR r / 2 ^ k % 2 = if (rd_T40 r (k : Int)).f0 = 0 then 1 else 0
 | [], k, h => by simp at h
 | v :: r, 0, h => by
  rw [rd40_zero, nullsR]
  split <;> omega
 | v :: r, k + 1, h => by
  have ih := nullsR_bit r k (by simpa using h)
  rw [rd40_succ, nullsR, ← ih, Nat.pow_succ, Nat.mul_comm (2 ^ k) 2, ← Nat.div_div_eq_div_mul]
  congr 2
  split <;> omega
theorem nullsR_app : ∀ (r : List S40) (v : S40), nullsR (r ++ [v]) = nullsR r + 2 ^ r.length * (if v.f0 = 0 then 1 else 0)
 | [], v => by simp [nullsR]
 | u :: r, v => by
  rw [List.cons_append, nullsR, nullsR_app r v, nullsR, List.length_cons, Nat.pow_succ, Nat.mul_comm (2 ^ r.length) 2, Nat.mul_assoc, Nat.mul_add]
  omega
theorem isNull_iff {v : S40} (h : isNull v = true) : v = z40 := by
 unfold isNull at h
 simp only [Bool.and_eq_true, beq_iff_eq] at h
 obtain ⟨a, b, c⟩ := h
 obtain ⟨f0, f1, f2⟩ := v
 simp only at a b c
 subst a b
 have : f2 = ⟨#[]⟩ := by
  apply ByteArray.ext
  have : f2.toList = [] := by simpa using c
  exact str_nil this
 rw [this]
 rfl
/-- Value k of a row fits column k. -/
def FitV (cs : List S56) (r : List S40) : Prop := ∀ k : Nat, k < r.length → (rd_T40 r (k : Int) = z40 ∧ (rd_T56 cs (k : Int)).f2 = true) ∨ (validB (rd_T40 r (k : Int)) = true ∧ (rd_T40 r (k : Int)).f0 = (rd_T56 cs (k : Int)).f1)
theorem drop_step {α : Type} {l a b : List α} {i : Nat} (h : l.drop i = a ++ b) : l.drop (i + a.length) = b := by
 rw [← List.drop_drop, h, List.drop_left]
theorem rd_drop0 {l : List Int} {i : Nat} {x : Int} {b : List Int} (h : l.drop i = x :: b) : i < l.length ∧ rd l (i : Int) = x := by
 have hi : i < l.length := by
  refine Decidable.byContradiction fun hn => ?_
  rw [List.drop_eq_nil_of_le (by omega)] at h
  cases h
 rw [List.drop_eq_getElem_cons hi] at h
 refine ⟨hi, ?_⟩
 unfold rd
 rw [Int.toNat_natCast, List.getD_eq_getElem?_getD, List.getElem?_eq_getElem hi]
 exact (List.cons.inj h).1
theorem rdW_drop {l : List Int} {i : Nat} {x : Int} {b : List Int} (h : l.drop i = x :: b) (h0 : 0 ≤ x) (h1 : x ≤ 1099511627775) : rdW l i = some x := by
 obtain ⟨hi, hx⟩ := rd_drop0 h
 unfold rdW
 rw [hx, if_pos ⟨hi, h0, h1⟩]
theorem validB_ne {v : S40} (h : validB v = true) : v.f0 ≠ 0 := by
 rcases validB_text h with ⟨a, _⟩ | ⟨a, _⟩ | ⟨a, _⟩ <;> omega
/-- A value is read where its words stand. -/
theorem valD_at {v : S40} (h : validB v = true) {l : List Int} {i : Nat} {more : List Int} (hl : l.drop i = valW v ++ more) : valD v.f0 l i = some (v, i + (valW v).length) := by
 obtain ⟨f0, f1, f2⟩ := v
 rcases validB_text h with ⟨a, b, c, d⟩ | ⟨a, b, d⟩ | ⟨a, b, c⟩
 ·simp only at a b c d
  subst a
  have e : valW ⟨1, f1, f2⟩ = [f1 + 549755813888] := by unfold valW; rw [if_pos rfl]
  rw [e] at hl ⊢
  unfold valD
  rw [if_pos rfl, rdW_drop hl (by omega) (by omega), Option.map_some, Int.add_sub_cancel, empty_str d]
  rfl
 ·simp only at a b d
  subst a
  have e : valW ⟨3, f1, f2⟩ = [f1] := by unfold valW; rw [if_neg (by simp), if_pos rfl]
  rw [e] at hl ⊢
  unfold valD atMost
  rw [if_neg (by simp), if_pos rfl, rdW_drop hl (by omega) (by omega), Option.bind_some, if_neg (by omega), Option.map_some, empty_str d]
  rfl
 ·simp only at a b c
  subst a b
  have e : valW ⟨2, 0, f2⟩ = (f2.size : Int) :: textW f2 := by unfold valW; rw [if_neg (by simp), if_neg (by simp)]
  rw [e] at hl ⊢
  have hd : l.drop (i + 1) = textW f2 ++ more := drop_step (a := [(f2.size : Int)]) hl
  unfold valD atMost
  rw [if_neg (by simp), if_neg (by simp), rdW_drop hl (by omega) (by omega), Option.bind_some, if_neg (by omega), Option.bind_some, hd, if_pos (unpE_text f2 more), unpS_text, Int.toNat_natCast, List.length_cons, textW_length]
  congr 2
  omega
theorem take_snoc40 (r : List S40) (k : Nat) (h : k < r.length) : r.take (k + 1) = r.take k ++ [rd_T40 r (k : Int)] := by
 rw [List.take_add_one, List.getElem?_eq_getElem h]
 unfold rd_T40
 rw [Int.toNat_natCast, List.getD_eq_getElem?_getD, List.getElem?_eq_getElem h]
 rfl
theorem drop_cons40 (r : List S40) (k : Nat) (h : k < r.length) : r.drop k = rd_T40 r (k : Int) :: r.drop (k + 1) := by
 rw [List.drop_eq_getElem_cons h]
 unfold rd_T40
 rw [Int.toNat_natCast, List.getD_eq_getElem?_getD, List.getElem?_eq_getElem h]
 rfl
theorem nullB_in {r : List S40} {k : Nat} (h : k < r.length) : nullB r.length (nullsR r) k = decide ((rd_T40 r (k : Int)).f0 = 0) := by
 unfold nullB
 rw [decide_eq_false (show ¬ r.length ≤ k by omega), nullsR_bit r k h, Bool.false_or]
 split
 ·rename_i e
  rw [decide_eq_true e]; rfl
 ·rename_i e
  rw [decide_eq_false e]; rfl
/-- A row is read where its words stand. -/
theorem decS_row {cs : List S56} {r : List S40} (hf : FitV cs r) {h : Int} {more l : List Int} (hl : l = h :: (r.flatMap bodyW ++ more)) : ∀ k : Nat, k ≤ r.length → decS cs r.length (nullsR r) l k = some (r.take k, 1 + ((r.take k).flatMap bodyW).length) ∧ l.drop (1 + ((r.take k).flatMap bodyW).length) = (r.drop k).flatMap bodyW ++ more
 | 0, _ => by subst hl; exact ⟨rfl, rfl⟩
 | k + 1, hk => by
  obtain ⟨h1, h2⟩ := decS_row hf hl k (by omega)
  rw [drop_cons40 r k (by omega), List.flatMap_cons, List.append_assoc] at h2
  have e : ((r.take (k + 1)).flatMap bodyW).length = ((r.take k).flatMap bodyW).length + (bodyW (rd_T40 r (k : Int))).length := by
   rw [take_snoc40 r k (by omega), List.flatMap_append, List.length_append]
   simp
  have h3 := drop_step h2
  rw [Nat.add_assoc, ← e] at h3
  refine ⟨?_, h3⟩
  rw [take_snoc40 r k (by omega), ← take_snoc40 r k (by omega), e, take_snoc40 r k (by omega)]
  rcases hf k (by omega) with ⟨hz, hn⟩ | ⟨hv, hkd⟩
  ·have hb : bodyW (rd_T40 r (k : Int)) = [] := by rw [hz]; rfl
   rw [hb, List.length_nil, Nat.add_zero, hz]
   exact decS_null h1 (by rw [nullB_in (by omega), hz]; rfl) hn
  ·have h0 := validB_ne hv
   have hb : bodyW (rd_T40 r (k : Int)) = valW (rd_T40 r (k : Int)) := by unfold bodyW; rw [if_neg h0]
   rw [hb] at h2 ⊢
   rw [← Nat.add_assoc]
   exact decS_val h1 (by rw [nullB_in (by omega), decide_eq_false h0]) (by rw [← hkd]; exact valD_at hv h2)
theorem decE_head {cs : List S56} {r : List S40} {l rest : List Int} (hl : l = ((256 * r.length + nullsR r : Nat) : Int) :: rest) (h1 : 1 ≤ r.length) (h8 : r.length ≤ 8) (hc : r.length ≤ cs.length) : decE cs l = decS cs r.length (nullsR r) l cs.length := by
 have hn := nullsR_lt r
 have hp : 2 ^ r.length ≤ 2 ^ 8 := Nat.pow_le_pow_right (by decide) h8
 have h0 : rdW l 0 = some ((256 * r.length + nullsR r : Nat) : Int) := rdW_drop (b := rest) (by rw [hl]; rfl) (by omega) (by omega)
 unfold decE
 rw [h0, Option.bind_some, Int.toNat_natCast, show (256 * r.length + nullsR r) / 256 = r.length by omega, show (256 * r.length + nullsR r) % 256 = nullsR r by omega, if_neg]
 rw [Nat.div_eq_of_lt hn]
 omega
/-- What Decode reads from the words of a row, and further words. -/
theorem decE_row {cs : List S56} {r : List S40} (hf : FitV cs r) (h1 : 1 ≤ r.length) (h8 : r.length ≤ 8) (hc : r.length = cs.length) (more : List Int) : decE cs (rowW r ++ more) = some (r, (rowW r).length) := by
 have hl : rowW r ++ more = ((256 * r.length + nullsR r : Nat) : Int) :: (r.flatMap bodyW ++ more) := rfl
 rw [decE_head hl h1 h8 (by omega), ← hc, (decS_row hf hl r.length (Nat.le_refl _)).1, List.take_length]
 rw [rowW, List.length_cons, Nat.add_comm]
/-- With a further column that takes nulls. -/
theorem decE_wide {cs : List S56} {c : S56} {r : List S40} (hf : FitV cs r) (h1 : 1 ≤ r.length) (h8 : r.length ≤ 8) (hc : r.length = cs.length) (hn : c.f2 = true) : decE (cs ++ [c]) (rowW r) = some (r ++ [z40], (rowW r).length) := by
 have hl : rowW r = ((256 * r.length + nullsR r : Nat) : Int) :: (r.flatMap bodyW ++ []) := by rw [List.append_nil]; rfl
 have hf2 : FitV (cs ++ [c]) r := by
  intro k hk
  have e : rd_T56 (cs ++ [c]) (k : Int) = rd_T56 cs (k : Int) := by
   unfold rd_T56
   rw [Int.toNat_natCast, List.getD_eq_getElem?_getD, List.getD_eq_getElem?_getD, List.getElem?_append_left (by omega)]
  rw [e]
  exact hf k hk
 rw [decE_head hl h1 h8 (by rw [List.length_append]; omega), List.length_append, List.length_singleton, ← hc]
 have h2 := (decS_row hf2 hl r.length (Nat.le_refl _)).1
 rw [List.take_length] at h2
 have e : (rowW r).length = 1 + (r.flatMap bodyW).length := by rw [rowW, List.length_cons, Nat.add_comm]
 rw [e]
 refine decS_null h2 ?_ ?_
 ·unfold nullB
  rw [decide_eq_true (Nat.le_refl _)]
  rfl
 ·have : rd_T56 (cs ++ [c]) (r.length : Int) = c := by
   unfold rd_T56
   rw [Int.toNat_natCast, List.getD_eq_getElem?_getD, List.getElem?_append_right (by omega), hc, Nat.sub_self]
   rfl
  rw [this]
  exact hn
theorem rdW_app {l : List Int} {i : Nat} {v : Int} (more : List Int) (h : rdW l i = some v) : rdW (l ++ more) i = some v := by
 obtain ⟨hi, h0, h1, hv⟩ := rdW_some h
 have e : rd (l ++ more) (i : Int) = rd l (i : Int) := by
  unfold rd
  rw [Int.toNat_natCast, List.getD_eq_getElem?_getD, List.getD_eq_getElem?_getD, List.getElem?_append_left hi]
 unfold rdW
 rw [e, hv, if_pos ⟨by rw [List.length_append]; omega, h0, h1⟩]
theorem atMost_app {l : List Int} {i : Nat} {m v : Int} (more : List Int) (h : atMost l i m = some v) : atMost (l ++ more) i m = some v ∧ i < l.length ∧ 0 ≤ v ∧ v ≤ m := by
 unfold atMost at h ⊢
 cases hr : rdW l i with
 | none => rw [hr] at h; cases h
 | some u =>
  rw [hr, Option.bind_some] at h
  have h3 := rdW_some hr
  rw [rdW_app more hr, Option.bind_some]
  split at h
  ·cases h
  ·rename_i hm
   cases h
   rw [if_neg hm]
   exact ⟨rfl, h3.1, by omega, by omega⟩
theorem valD_app {kind : Int} {l : List Int} {i : Nat} {v : S40} {j : Nat} (more : List Int) (h : valD kind l i = some (v, j)) : valD kind (l ++ more) i = some (v, j) ∧ i < j ∧ j ≤ l.length := by
 unfold valD at h ⊢
 split at h
 ·rename_i h1
  rw [if_pos h1]
  cases hr : rdW l i with
  | none => rw [hr] at h; cases h
  | some u =>
   rw [hr] at h
   rw [rdW_app more hr]
   have := rdW_some hr
   have hj := congrArg Prod.snd (Option.some.inj h)
   simp only at hj
   exact ⟨h, by omega, by omega⟩
 ·rename_i h1
  rw [if_neg h1]
  split at h
  ·rename_i h3
   rw [if_pos h3]
   cases hr : atMost l i 1 with
   | none => rw [hr] at h; cases h
   | some u =>
    rw [hr] at h
    obtain ⟨a, b, _⟩ := atMost_app more hr
    rw [a]
    have hj := congrArg Prod.snd (Option.some.inj h)
    simp only at hj
    exact ⟨h, by omega, by omega⟩
  ·rename_i h3
   rw [if_neg h3]
   cases hr : atMost l i 40 with
   | none => rw [hr] at h; cases h
   | some u =>
    rw [hr, Option.bind_some] at h
    obtain ⟨a, b, c, d⟩ := atMost_app more hr
    obtain ⟨m, rfl⟩ := Int.eq_ofNat_of_zero_le c
    rw [a, Option.bind_some]
    split at h
    ·rename_i he
     obtain ⟨e1, e2⟩ := unpE_app more he
     have hg := (unpE_good he).1
     rw [List.length_drop] at hg
     rw [List.drop_append_of_le_length (by omega), if_pos e1, e2]
     have hj := congrArg Prod.snd (Option.some.inj h)
     simp only [Int.toNat_natCast] at hj
     exact ⟨h, by omega, by omega⟩
    ·cases h
theorem decS_app {cs : List S56} {n nulls : Nat} {l : List Int} (more : List Int) (hl : 1 ≤ l.length) : ∀ (k : Nat) (out : List S40) (i : Nat), decS cs n nulls l k = some (out, i) → decS cs n nulls (l ++ more) k = some (out, i) ∧ 1 ≤ i ∧ i ≤ l.length
 | 0, out, i, h => by
  cases h
  exact ⟨rfl, by omega, hl⟩
 | k + 1, out, i, h => by
  have h' : (decS cs n nulls l k).bind (fun p => if nullB n nulls k = true then (if (rd_T56 cs (k : Int)).f2 = true then some (p.1 ++ [⟨0, 0, ⟨#[]⟩⟩], p.2) else none) else (valD (rd_T56 cs (k : Int)).f1 l p.2).map fun q => (p.1 ++ [q.1], q.2)) = some (out, i) := h
  cases hd : decS cs n nulls l k with
  | none => rw [hd] at h'; cases h'
  | some p =>
   obtain ⟨o, a⟩ := p
   rw [hd, Option.bind_some] at h'
   obtain ⟨q1, q2, q3⟩ := decS_app more hl k o a hd
   split at h'
   ·rename_i hn
    split at h'
    ·rename_i hf
     cases h'
     exact ⟨decS_null q1 hn hf, q2, q3⟩
    ·cases h'
   ·rename_i hn
    cases hv : valD (rd_T56 cs (k : Int)).f1 l a with
    | none => rw [hv] at h'; cases h'
    | some y =>
     obtain ⟨x, j⟩ := y
     rw [hv, Option.map_some] at h'
     cases h'
     obtain ⟨v1, v2, v3⟩ := valD_app more hv
     exact ⟨decS_val q1 (by simpa using hn) v1, by omega, v3⟩
theorem decE_app {cs : List S56} {l : List Int} {x : List S40} {n : Nat} (more : List Int) (h : decE cs l = some (x, n)) : decE cs (l ++ more) = some (x, n) ∧ 1 ≤ n ∧ n ≤ l.length := by
 unfold decE at h ⊢
 cases hr : rdW l 0 with
 | none => rw [hr] at h; cases h
 | some f =>
  have hl := (rdW_some hr).1
  rw [hr, Option.bind_some] at h
  rw [rdW_app more hr, Option.bind_some]
  split at h
  ·cases h
  ·rename_i hc
   rw [if_neg hc]
   exact decS_app more hl _ _ _ h
/-- Fewer words than a row's are not read. -/
theorem decE_cut {cs : List S56} {r : List S40} (hf : FitV cs r) (h1 : 1 ≤ r.length) (h8 : r.length ≤ 8) (hc : r.length = cs.length) (j : Nat) (hj : j < (rowW r).length) : decE cs ((rowW r).take j) = none := by
 cases h : decE cs ((rowW r).take j) with
 | none => rfl
 | some p =>
  obtain ⟨x, n⟩ := p
  obtain ⟨a, _, b⟩ := decE_app ((rowW r).drop j) h
  rw [List.take_append_drop] at a
  have := decE_row hf h1 h8 hc []
  rw [List.append_nil, a] at this
  cases this
  rw [List.length_take] at b
  omega
/-- The words of a row begin no other row's. -/
theorem rowW_unique {cs : List S56} {r o : List S40} (hf : FitV cs r) (hg : FitV cs o) (h1 : 1 ≤ r.length) (h8 : r.length ≤ 8) (hc : r.length = cs.length) (hd : o.length = cs.length) (hl : (rowW r).length ≤ (rowW o).length) (he : rowW r = (rowW o).take (rowW r).length) : (rowW r).length = (rowW o).length ∧ r = o := by
 have a := decE_row hf h1 h8 hc ((rowW o).drop (rowW r).length)
 have b := decE_row hg (by omega) (by omega) hd []
 have e : rowW r ++ (rowW o).drop (rowW r).length = rowW o := by
  conv => lhs; lhs; rw [he]
  exact List.take_append_drop _ _
 rw [e] at a
 rw [List.append_nil, a] at b
 have := Option.some.inj b
 exact ⟨congrArg Prod.snd this, congrArg Prod.fst this⟩
theorem empty_valid1 (f1 : Int) (h0 : -549755813888 ≤ f1) (h1 : f1 ≤ 549755813887) : validB ⟨1, f1, ⟨#[]⟩⟩ = true := by
 unfold validB
 rw [if_pos rfl, decide_eq_true h0, decide_eq_true h1, decide_eq_true nil_str]
 rfl
theorem empty_valid3 (f1 : Int) (h : f1 = 0 ∨ f1 = 1) : validB ⟨3, f1, ⟨#[]⟩⟩ = true := by
 unfold validB
 rw [if_neg (by simp), if_pos rfl, decide_eq_true nil_str]
 rcases h with rfl | rfl <;> rfl
theorem text_valid (s : ByteArray) (h : s.size ≤ 40) : validB ⟨2, 0, s⟩ = true := by
 unfold validB
 rw [if_neg (by simp), if_neg (by simp), if_pos rfl]
 simp [h]
/-- What is read is a valid value, and the words are its own. -/
theorem valD_sound {kind : Int} (hk : 1 ≤ kind ∧ kind ≤ 3) {l : List Int} {i : Nat} {v : S40} {j : Nat} (h : valD kind l i = some (v, j)) : validB v = true ∧ v.f0 = kind ∧ (l.drop i).take (j - i) = valW v ∧ i < j ∧ j ≤ l.length := by
 obtain ⟨_, hij, hjl⟩ := valD_app [] h
 have one : ∀ x, rdW l i = some x → (l.drop i).take 1 = [x] := by
  intro x hx
  obtain ⟨h1, _, _, h2⟩ := rdW_some hx
  rw [List.drop_eq_getElem_cons h1, List.take_succ_cons, List.take_zero, ← h2]
  unfold rd
  rw [Int.toNat_natCast, List.getD_eq_getElem?_getD, List.getElem?_eq_getElem h1]
  rfl
 unfold valD at h
 split at h
 ·rename_i h1
  cases hr : rdW l i with
  | none => rw [hr] at h; cases h
  | some u =>
   rw [hr, Option.map_some] at h
   have hw := rdW_some hr
   cases h
   refine ⟨empty_valid1 _ (by omega) (by omega), h1.symm, ?_, hij, hjl⟩
   rw [Nat.add_sub_cancel_left, one u hr]
   unfold valW
   rw [if_pos rfl, Int.sub_add_cancel]
 ·rename_i h1
  split at h
  ·rename_i h3
   cases hr : rdW l i with
   | none => unfold atMost at h; rw [hr] at h; cases h
   | some u =>
    have hw := rdW_some hr
    unfold atMost at h
    rw [hr, Option.bind_some] at h
    split at h
    ·cases h
    ·rename_i hm
     rw [Option.map_some] at h
     cases h
     refine ⟨empty_valid3 _ (by omega), h3.symm, ?_, hij, hjl⟩
     rw [Nat.add_sub_cancel_left, one u hr]
     unfold valW
     rw [if_neg (by simp), if_pos rfl]
  ·rename_i h3
   cases hr : rdW l i with
   | none => unfold atMost at h; rw [hr] at h; cases h
   | some u =>
    obtain ⟨hw1, hw2, hw3, hw4⟩ := rdW_some hr
    unfold atMost at h
    rw [hr, Option.bind_some] at h
    split at h
    ·cases h
    ·rename_i hm
     rw [Option.bind_some] at h
     obtain ⟨m, rfl⟩ := Int.eq_ofNat_of_zero_le hw2
     split at h
     ·rename_i he
      obtain ⟨hz, ht⟩ := unp_words he
      cases h
      obtain rfl : kind = 2 := by omega
      refine ⟨text_valid _ (by omega), rfl, ?_, hij, hjl⟩
      have e : valW ⟨2, 0, unpS (l.drop (i + 1)) (m : Int)⟩ = ((unpS (l.drop (i + 1)) (m : Int)).size : Int) :: textW (unpS (l.drop (i + 1)) (m : Int)) := by
       unfold valW
       rw [if_neg (by simp), if_neg (by simp)]
      rw [e, ht, hz, Int.toNat_natCast, show i + 1 + (m + 4) / 5 - i = (m + 4) / 5 + 1 by omega, List.drop_eq_getElem_cons hw1, List.take_succ_cons]
      congr 1
      rw [← hw4]
      unfold rd
      rw [Int.toNat_natCast, List.getD_eq_getElem?_getD, List.getElem?_eq_getElem hw1]
      rfl
     ·cases h
theorem FitV_app {cs : List S56} {r : List S40} {v : S40} (h : FitV cs r) (hv : (v = z40 ∧ (rd_T56 cs (r.length : Int)).f2 = true) ∨ (validB v = true ∧ v.f0 = (rd_T56 cs (r.length : Int)).f1)) : FitV cs (r ++ [v]) := by
 intro k hk
 rw [List.length_append, List.length_singleton] at hk
 by_cases hlt : k < r.length
 ·have e : rd_T40 (r ++ [v]) (k : Int) = rd_T40 r (k : Int) := by
   unfold rd_T40
   rw [Int.toNat_natCast, List.getD_eq_getElem?_getD, List.getD_eq_getElem?_getD, List.getElem?_append_left hlt]
  rw [e]
  exact h k hlt
 ·obtain rfl : k = r.length := by omega
  have e : rd_T40 (r ++ [v]) (r.length : Int) = v := by
   unfold rd_T40
   rw [Int.toNat_natCast, List.getD_eq_getElem?_getD, List.getElem?_append_right (Nat.le_refl _), Nat.sub_self]
   rfl
  rw [e]
  exact hv
theorem mod_pow_succ (a k : Nat) : a % 2 ^ (k + 1) = a % 2 ^ k + 2 ^ k * (a / 2 ^ k % 2) := by
 rw [Nat.pow_succ, Nat.mod_mul]
/-- What Decode has read are the words of what it returns. -/
theorem decS_sound {cs : List S56} (hcs : ∀ i : Nat, i < cs.length → 1 ≤ (rd_T56 cs (i : Int)).f1 ∧ (rd_T56 cs (i : Int)).f1 ≤ 3) {n nulls : Nat} {l : List Int} (hl : 1 ≤ l.length) (hn : n = cs.length) : ∀ (k : Nat) (out : List S40) (i : Nat), k ≤ cs.length → decS cs n nulls l k = some (out, i) →
  out.length = k ∧ FitV cs out ∧ nullsR out = nulls % 2 ^ k ∧ l.take i = l.take 1 ++ out.flatMap bodyW ∧ 1 ≤ i ∧ i ≤ l.length
 | 0, out, i, _, h => by
  cases h
  refine ⟨rfl, fun k hk => by simp at hk, ?_, by simp, by omega, hl⟩
  rw [Nat.pow_zero, Nat.mod_one]
  rfl
 | k + 1, out, i, hk, h => by
  have h' : (decS cs n nulls l k).bind (fun p => if nullB n nulls k = true then (if (rd_T56 cs (k : Int)).f2 = true then some (p.1 ++ [⟨0, 0, ⟨#[]⟩⟩], p.2) else none) else (valD (rd_T56 cs (k : Int)).f1 l p.2).map fun q => (p.1 ++ [q.1], q.2)) = some (out, i) := h
  cases hd : decS cs n nulls l k with
  | none => rw [hd] at h'; cases h'
  | some p =>
   obtain ⟨o, a⟩ := p
   rw [hd, Option.bind_some] at h'
   obtain ⟨q1, q2, q3, q4, q5, q6⟩ := decS_sound hcs hl hn k o a (by omega) hd
   have hnb : nullB n nulls k = decide (nulls / 2 ^ k % 2 = 1) := by
    unfold nullB
    rw [decide_eq_false (by omega), Bool.false_or]
   rw [hnb] at h'
   split at h'
   ·rename_i hb
    have hb := of_decide_eq_true hb
    split at h'
    ·rename_i hf
     cases h'
     refine ⟨by rw [List.length_append, q1]; rfl, FitV_app q2 (.inl ⟨rfl, by rw [q1]; exact hf⟩), ?_, ?_, q5, q6⟩
     ·rw [nullsR_app, q1, q3, mod_pow_succ, hb]
      rfl
     ·rw [List.flatMap_append, q4]
      simp [bodyW]
    ·cases h'
   ·rename_i hb
    have hb : nulls / 2 ^ k % 2 = 0 := by
     have : ¬ nulls / 2 ^ k % 2 = 1 := fun e => hb (decide_eq_true e)
     omega
    cases hv : valD (rd_T56 cs (k : Int)).f1 l a with
    | none => rw [hv] at h'; cases h'
    | some y =>
     obtain ⟨x, j⟩ := y
     rw [hv, Option.map_some] at h'
     cases h'
     obtain ⟨v1, v2, v3, v4, v5⟩ := valD_sound (hcs k (by omega)) hv
     have hne := validB_ne v1
     refine ⟨by rw [List.length_append, q1]; rfl, FitV_app q2 (.inr ⟨v1, by rw [q1]; exact v2⟩), ?_, ?_, by omega, v5⟩
     ·simp only
      rw [nullsR_app, q1, q3, mod_pow_succ, hb, if_neg hne]
     ·have e : j = a + (j - a) := by omega
      rw [e, List.take_add, v3, q4, List.flatMap_append, List.append_assoc]
      congr 2
      simp [bodyW, hne]
/-- What Decode reads from words of all columns begins with the words of what it returns. -/
theorem decE_sound {cs : List S56} (hcs : ∀ i : Nat, i < cs.length → 1 ≤ (rd_T56 cs (i : Int)).f1 ∧ (rd_T56 cs (i : Int)).f1 ≤ 3) {l : List Int} {x : List S40} {n : Nat} (h : decE cs l = some (x, n)) (hall : (cs.length : Int) ≤ rd l 0 / 256) : x.length = cs.length ∧ FitV cs x ∧ rowW x = l.take n := by
 unfold decE at h
 cases hr : rdW l 0 with
 | none => rw [hr] at h; cases h
 | some f =>
  obtain ⟨hl, h0, h1, hf⟩ := rdW_some hr
  rw [hr, Option.bind_some] at h
  obtain ⟨m, rfl⟩ := Int.eq_ofNat_of_zero_le h0
  rw [Int.toNat_natCast] at h
  have hf' : rd l 0 = (m : Int) := hf
  rw [hf'] at hall
  split at h
  ·cases h
  ·rename_i hc
   have hm : m / 256 = cs.length := by omega
   have hz : m % 256 / 2 ^ cs.length = 0 := by rw [← hm]; omega
   obtain ⟨q1, q2, q3, q4, q5, q6⟩ := decS_sound hcs (by omega) hm _ _ _ (Nat.le_refl _) h
   refine ⟨q1, q2, ?_⟩
   have hlt : m % 256 < 2 ^ cs.length := by
    have := Nat.div_eq_zero_iff.1 hz
    rcases this with e | e
    ·have := Nat.two_pow_pos cs.length
     omega
    ·exact e
   rw [Nat.mod_eq_of_lt hlt] at q3
   rw [q4, rowW, q1, q3]
   have e : l.take 1 = [(m : Int)] := by
    cases l with
    | nil => simp at hl
    | cons y l =>
     have : y = (m : Int) := hf'
     rw [this]
     rfl
   rw [e, List.singleton_append]
   congr 2
   omega
end Go.Proofs.Ytkopbaikmlajmaa.Q
