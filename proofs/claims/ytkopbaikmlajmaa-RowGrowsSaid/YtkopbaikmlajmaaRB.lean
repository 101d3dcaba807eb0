/- Several small texts of this claim in one: U R. -/
import Derived.Test.YtkopbaikmlajmaaF62
import Derived.Test.YtkopbaikmlajmaaDA
import Derived.Test.YtkopbaikmlajmaaF44
import Derived.Test.YtkopbaikmlajmaaSA
namespace Go.Proofs.Ytkopbaikmlajmaa.Q
open Go.RowKit Go.Proofs.YtkopbaikmlajmaaW.PrintWords Go.Proofs.YtkopbaikmlajmaaW.PrintLast Go.Proofs.YtkopbaikmlajmaaW.PrintMore
set_option linter.unusedVariables false
set_option linter.unusedSimpArgs false
theorem bytes5_val (w : Int) : [w / 4294967296 % 256, w / 16777216 % 256, w / 65536 % 256, w / 256 % 256, w % 256] = bytes5 w := by
 simp [bytes5, byteAt, List.range_succ]
theorem bt_far (s : ByteArray) (i : Int) (h : (s.size : Int) ≤ i) : bt s i = 0 := by
 unfold bt
 rw [dif_neg (by omega)]
theorem wrap64_in (n : Int) (h0 : -9223372036854775808 ≤ n) (h1 : n ≤ 9223372036854775807) : wrap64 n = n := by unfold wrap64; omega
theorem str_nil {s : ByteArray} (h : s.toList = []) : s.data = #[] := by
 rw [ByteArray.toList_eq] at h
 exact Array.toList_eq_nil_iff.1 h
theorem empty_str {s : ByteArray} (h : s.toList = []) : s = ⟨#[]⟩ := by
 apply ByteArray.ext
 exact str_nil h
/-- The first n bytes of a string, as numbers. -/
def bytesN (s : ByteArray) (n : Nat) : List Int := (List.range n).map (fun i : Nat => bt s (i : Int))
theorem chunkW_eq (s : ByteArray) (j : Nat) : chunkW s j = bt s ((5 * j : Nat) : Int) * 4294967296 + bt s ((5 * j + 1 : Nat) : Int) * 16777216 + bt s ((5 * j + 2 : Nat) : Int) * 65536 + bt s ((5 * j + 3 : Nat) : Int) * 256 + bt s ((5 * j + 4 : Nat) : Int) := by
 unfold chunkW
 simp only [cw, Nat.add_zero]
 omega
theorem bytes5_chunk (s : ByteArray) (j : Nat) : bytes5 (chunkW s j) = (List.range 5).map (fun i => bt s ((5 * j + i : Nat) : Int)) := by
 have h0 := bt_range s ((5 * j : Nat) : Int)
 have h1 := bt_range s ((5 * j + 1 : Nat) : Int)
 have h2 := bt_range s ((5 * j + 2 : Nat) : Int)
 have h3 := bt_range s ((5 * j + 3 : Nat) : Int)
 have h4 := bt_range s ((5 * j + 4 : Nat) : Int)
 rw [← bytes5_val, chunkW_eq]
 show _ = [bt s ((5 * j : Nat) : Int), bt s ((5 * j + 1 : Nat) : Int), bt s ((5 * j + 2 : Nat) : Int), bt s ((5 * j + 3 : Nat) : Int), bt s ((5 * j + 4 : Nat) : Int)]
 generalize bt s ((5 * j : Nat) : Int) = b0 at *
 generalize bt s ((5 * j + 1 : Nat) : Int) = b1 at *
 generalize bt s ((5 * j + 2 : Nat) : Int) = b2 at *
 generalize bt s ((5 * j + 3 : Nat) : Int) = b3 at *
 generalize bt s ((5 * j + 4 : Nat) : Int) = b4 at *
 simp only [List.cons.injEq, and_true]
 refine ⟨by omega, by omega, by omega, by omega, by omega⟩
theorem flat_chunks (s : ByteArray) : ∀ K, ((List.range K).map (chunkW s)).flatMap bytes5 = bytesN s (5 * K)
 | 0 => rfl
 | K + 1 => by
  rw [List.range_succ, List.map_append, List.flatMap_append, flat_chunks s K]
  unfold bytesN
  rw [show 5 * (K + 1) = 5 * K + 5 by omega, List.range_add, List.map_append, List.map_map]
  congr 1
  show bytes5 (chunkW s K) ++ [] = _
  rw [List.append_nil, bytes5_chunk]
  rfl
theorem chunk_word (s : ByteArray) (j : Nat) : 0 ≤ chunkW s j ∧ chunkW s j ≤ 1099511627775 := by
 have := cw_range s j 5
 unfold chunkW
 omega
theorem bytesN_length (s : ByteArray) (n : Nat) : (bytesN s n).length = n := by simp [bytesN]
theorem str_bytesN (s : ByteArray) : strOfNums (bytesN s s.size) = s := by
 apply ByteArray.ext
 apply Array.ext
 ·show (strOfNums (bytesN s s.size)).size = s.size
  rw [strOfNums_size, bytesN_length]
 ·intro i h1 h2
  simp only [strOfNums, bytesN, List.map_map, List.getElem_toArray, List.getElem_map, Function.comp, List.getElem_range]
  unfold bt
  rw [dif_pos (by rw [Int.toNat_natCast]; exact h2)]
  simp only [Int.toNat_natCast, UInt8.ofNat_toNat]
  rfl
theorem any_zero {l : List Int} (h : ∀ x, x ∈ l → x = 0) : l.any (fun x => x != 0) = false := by
 rw [List.any_eq_false]
 intro x hx
 rw [h x hx]
 decide
theorem unpB_text (s : ByteArray) (more : List Int) : unpB (textW s ++ more) s.size = bytesN s (5 * ((s.size + 4) / 5)) := by
 unfold unpB
 rw [List.take_left' (textW_length s)]
 exact flat_chunks s _
theorem drop_bytesN (s : ByteArray) (m : Nat) : ∀ x, x ∈ (bytesN s m).drop s.size → x = 0 := by
 intro x hx
 obtain ⟨i, hi, rfl⟩ := List.getElem_of_mem hx
 rw [List.getElem_drop]
 simp only [bytesN, List.getElem_map, List.getElem_range]
 exact bt_far s _ (by omega)
theorem take_bytesN (s : ByteArray) (n m : Nat) (h : n ≤ m) : (bytesN s m).take n = bytesN s n := by
 unfold bytesN
 rw [← List.map_take, List.take_range, Nat.min_eq_left h]
theorem unpE_text (s : ByteArray) (more : List Int) : unpE (textW s ++ more) (s.size : Int) = 0 := by
 unfold unpE
 rw [Int.toNat_natCast, if_neg (by rw [List.length_append, textW_length]; omega), if_neg, if_neg]
 ·rw [unpB_text, any_zero (drop_bytesN s _)]
  decide
 ·rw [List.take_left' (textW_length s), List.any_eq_true]
  rintro ⟨x, hx, hw⟩
  obtain ⟨j, _, rfl⟩ := List.mem_map.1 hx
  have := chunk_word s j
  unfold noWord at hw
  rw [decide_eq_false (by omega), decide_eq_false (by omega)] at hw
  cases hw
theorem unpS_text (s : ByteArray) (more : List Int) : unpS (textW s ++ more) (s.size : Int) = s := by
 unfold unpS
 rw [if_pos (unpE_text s more), Int.toNat_natCast, unpB_text, take_bytesN s _ _ (by omega), str_bytesN]
end Go.Proofs.Ytkopbaikmlajmaa.Q
namespace Go.Proofs.Ytkopbaikmlajmaa.Q
open Go.RowKit Go.Proofs.YtkopbaikmlajmaaW.PrintWords Go.Proofs.YtkopbaikmlajmaaW.PrintLast Go.Proofs.YtkopbaikmlajmaaW.PrintMore
set_option linter.unusedVariables false
set_option linter.unusedSimpArgs false
/-- Which values of a row are null, as a number: the first is the lowest bit. -/
def nullsR : List S40 → Nat
 | [] => 0
 | v :: r => (if v.f0 = 0 then 1 else 0) + 2 * nullsR r
/-- The words of a value of a row. -/
def bodyW (v : S40) : List Int := if v.f0 = 0 then [] else valW v
/-- The words of a row. -/
def rowW (r : List S40) : List Int := ((256 * r.length + nullsR r : Nat) : Int) :: r.flatMap bodyW
theorem rd40_zero (v : S40) (r : List S40) : rd_T40 (v :: r) ((0 : Nat) : Int) = v := rfl
theorem rd40_succ (v : S40) (r : List S40) (k : Nat) : rd_T40 (v :: r) ((k + 1 : Nat) : Int) = rd_T40 r (k : Int) := by unfold rd_T40; simp
theorem nullsR_lt : ∀ r : List S40, nullsR r < 2 ^ r.length
 | [] => by decide
 | v :: r => by
  have := nullsR_lt r
  rw [nullsR, List.length_cons, Nat.pow_succ]
  split <;> omega
theorem nullsR_bit : ∀ (r : List S40) (k : Nat), k < r.length → nullsR r / 2 ^ k % 2 = if (rd_T40 r (k : Int)).f0 = 0 then 1 else 0
 | [], k, h => by simp at h
 | v :: r, 0, h => by
  rw [rd40_zero, nullsR]
  split <;> omega
 | v :: r, k + 1, h => by
  have ih := nullsR_bit r k (by simpa using h)
  rw [rd40_succ, nullsR, ← ih, Nat.pow_succ, Nat.mul_comm (2 ^ k) 2, ← Nat.div_div_eq_div_mul]
  congr 2
  split <;> omega
theorem nullsR_app : ∀ (r : List S40) (v : S40), nullsR (r ++ [v]) = nullsR r + 2 ^ r.length * (if v.f0 = 0 then 1 else 0)
 | [], v => by simp [nullsR]
 | u :: r, v => by
  rw [List.cons_append, nullsR, nullsR_app r v, nullsR, List.length_cons, Nat.pow_succ, Nat.mul_comm (2 ^ r.length) 2, Nat.mul_assoc, Nat.mul_add]
  omega
theorem isNull_iff {v : S40} (h : isNull v = true) : v = z40 := by
 unfold isNull at h
 simp only [Bool.and_eq_true, beq_iff_eq] at h
 obtain ⟨a, b, c⟩ := h
 obtain ⟨f0, f1, f2⟩ := v
 simp only at a b c
 subst a b
 have : f2 = ⟨#[]⟩ := by
  apply ByteArray.ext
  have : f2.toList = [] := by simpa using c
  exact str_nil this
 rw [this]
 rfl
/-- Value k of a row fits column k. -/
def FitV (cs : List S56) (r : List S40) : Prop := ∀ k : Nat, k < r.length → (rd_T40 r (k : Int) = z40 ∧ (rd_T56 cs (k : Int)).f2 = true) ∨ (validB (rd_T40 r (k : Int)) = true ∧ (rd_T40 r (k : Int)).f0 = (rd_T56 cs (k : Int)).f1)
theorem drop_step {α : Type} {l a b : List α} {i : Nat} (h : l.drop i = a ++ b) : l.drop (i + a.length) = b := by
 rw [← List.drop_drop, h, List.drop_left]
theorem rd_drop0 {l : List Int} {i : Nat} {x : Int} {b : List Int} (h : l.drop i = x :: b) : i < l.length ∧ rd l (i : Int) = x := by
 have hi : i < l.length := by
  refine Decidable.byContradiction fun hn => ?_
  rw [List.drop_eq_nil_of_le (by omega)] at h
  cases h
 rw [List.drop_eq_getElem_cons hi] at h
 refine ⟨hi, ?_⟩
 unfold rd
 rw [Int.toNat_natCast, List.getD_eq_getElem?_getD, List.getElem?_eq_getElem hi]
 exact (List.cons.inj h).1
theorem rdW_drop {l : List Int} {i : Nat} {x : Int} {b : List Int} (h : l.drop i = x :: b) (h0 : 0 ≤ x) (h1 : x ≤ 1099511627775) : rdW l i = some x := by
 obtain ⟨hi, hx⟩ := rd_drop0 h
 unfold rdW
 rw [hx, if_pos ⟨hi, h0, h1⟩]
theorem validB_ne {v : S40} (h : validB v = true) : v.f0 ≠ 0 := by
 rcases validB_text h with ⟨a, _⟩ | ⟨a, _⟩ | ⟨a, _⟩ <;> omega
/-- A value is read where its words stand. -/
theorem valD_at {v : S40} (h : validB v = true) {l : List Int} {i : Nat} {more : List Int} (hl : l.drop i = valW v ++ more) : valD v.f0 l i = some (v, i + (valW v).length) := by
 obtain ⟨f0, f1, f2⟩ := v
 rcases validB_text h with ⟨a, b, c, d⟩ | ⟨a, b, d⟩ | ⟨a, b, c⟩
 ·simp only at a b c d
  subst a
  have e : valW ⟨1, f1, f2⟩ = [f1 + 549755813888] := by unfold valW; rw [if_pos rfl]
  rw [e] at hl ⊢
  unfold valD
  rw [if_pos rfl, rdW_drop hl (by omega) (by omega), Option.map_some, Int.add_sub_cancel, empty_str d]
  rfl
 ·simp only at a b d
  subst a
  have e : valW ⟨3, f1, f2⟩ = [f1] := by unfold valW; rw [if_neg (by simp), if_pos rfl]
  rw [e] at hl ⊢
  unfold valD atMost
  rw [if_neg (by simp), if_pos rfl, rdW_drop hl (by omega) (by omega), Option.bind_some, if_neg (by omega), Option.map_some, empty_str d]
  rfl
 ·simp only at a b c
  subst a b
  have e : valW ⟨2, 0, f2⟩ = (f2.size : Int) :: textW f2 := by unfold valW; rw [if_neg (by simp), if_neg (by simp)]
  rw [e] at hl ⊢
  have hd : l.drop (i + 1) = textW f2 ++ more := drop_step (a := [(f2.size : Int)]) hl
  unfold valD atMost
  rw [if_neg (by simp), if_neg (by simp), rdW_drop hl (by omega) (by omega), Option.bind_some, if_neg (by omega), Option.bind_some, hd, if_pos (unpE_text f2 more), unpS_text, Int.toNat_natCast, List.length_cons, textW_length]
  congr 2
  omega
theorem take_snoc40 (r : List S40) (k : Nat) (h : k < r.length) : r.take (k + 1) = r.take k ++ [rd_T40 r (k : Int)] := by
 rw [List.take_add_one, List.getElem?_eq_getElem h]
 unfold rd_T40
 rw [Int.toNat_natCast, List.getD_eq_getElem?_getD, List.getElem?_eq_getElem h]
 rfl
theorem drop_cons40 (r : List S40) (k : Nat) (h : k < r.length) : r.drop k = rd_T40 r (k : Int) :: r.drop (k + 1) := by
 rw [List.drop_eq_getElem_cons h]
 unfold rd_T40
 rw [Int.toNat_natCast, List.getD_eq_getElem?_getD, List.getElem?_eq_getElem h]
 rfl
theorem nullB_in {r : List S40} {k : Nat} (h : k < r.length) : nullB r.length (nullsR r) k = decide ((rd_T40 r (k : Int)).f0 = 0) := by
 unfold nullB
 rw [decide_eq_false (show ¬ r.length ≤ k by omega), nullsR_bit r k h, Bool.false_or]
 split
 ·rename_i e
  rw [decide_eq_true e]; rfl
 ·rename_i e
  rw [decide_eq_false e]; rfl
/-- A row is read where its words stand. -/
theorem decS_row {cs : List S56} {r : List S40} (hf : FitV cs r) {h : Int} {more l : List Int} (hl : l = h :: (r.flatMap bodyW ++ more)) : ∀ k : Nat, k ≤ r.length → decS cs r.length (nullsR r) l k = some (r.take k, 1 + ((r.take k).flatMap bodyW).length) ∧ l.drop (1 + ((r.take k).flatMap bodyW).length) = (r.drop k).flatMap bodyW ++ more
 | 0, _ => by subst hl; exact ⟨rfl, rfl⟩
 | k + 1, hk => by
  obtain ⟨h1, h2⟩ := decS_row hf hl k (by omega)
  rw [drop_cons40 r k (by omega), List.flatMap_cons, List.append_assoc] at h2
  have e : ((r.take (k + 1)).flatMap bodyW).length = ((r.take k).flatMap bodyW).length + (bodyW (rd_T40 r (k : Int))).length := by
   rw [take_snoc40 r k (by omega), List.flatMap_append, List.length_append]
   simp
  have h3 := drop_step h2
  rw [Nat.add_assoc, ← e] at h3
  refine ⟨?_, h3⟩
  rw [take_snoc40 r k (by omega), ← take_snoc40 r k (by omega), e, take_snoc40 r k (by omega)]
  rcases hf k (by omega) with ⟨hz, hn⟩ | ⟨hv, hkd⟩
  ·have hb : bodyW (rd_T40 r (k : Int)) = [] := by rw [hz]; rfl
   rw [hb, List.length_nil, Nat.add_zero, hz]
   exact decS_null h1 (by rw [nullB_in (by omega), hz]; rfl) hn
  ·have h0 := validB_ne hv
   have hb : bodyW (rd_T40 r (k : Int)) = valW (rd_T40 r (k : Int)) := by unfold bodyW; rw [if_neg h0]
   rw [hb] at h2 ⊢
   rw [← Nat.add_assoc]
   exact decS_val h1 (by rw [nullB_in (by omega), decide_eq_false h0]) (by rw [← hkd]; exact valD_at hv h2)
theorem decE_head {cs : List S56} {r : List S40} {l rest : List Int} (hl : l = ((256 * r.length + nullsR r : Nat) : Int) :: rest) (h1 : 1 ≤ r.length) (h8 : r.length ≤ 8) (hc : r.length ≤ cs.length) : decE cs l = decS cs r.length (nullsR r) l cs.length := by
 have hn := nullsR_lt r
 have hp : 2 ^ r.length ≤ 2 ^ 8 := Nat.pow_le_pow_right (by decide) h8
 have h0 : rdW l 0 = some ((256 * r.length + nullsR r : Nat) : Int) := rdW_drop (b := rest) (by rw [hl]; rfl) (by omega) (by omega)
 unfold decE
 rw [h0, Option.bind_some, Int.toNat_natCast, show (256 * r.length + nullsR r) / 256 = r.length by omega, show (256 * r.length + nullsR r) % 256 = nullsR r by omega, if_neg]
 rw [Nat.div_eq_of_lt hn]
 omega
/-- With a further column that takes nulls. -/
theorem decE_wide {cs : List S56} {c : S56} {r : List S40} (hf : FitV cs r) (h1 : 1 ≤ r.length) (h8 : r.length ≤ 8) (hc : r.length = cs.length) (hn : c.f2 = true) : decE (cs ++ [c]) (rowW r) = some (r ++ [z40], (rowW r).length) := by
 have hl : rowW r = ((256 * r.length + nullsR r : Nat) : Int) :: (r.flatMap bodyW ++ []) := by rw [List.append_nil]; rfl
 have hf2 : FitV (cs ++ [c]) r := by
  intro k hk
  have e : rd_T56 (cs ++ [c]) (k : Int) = rd_T56 cs (k : Int) := by
   unfold rd_T56
   rw [Int.toNat_natCast, List.getD_eq_getElem?_getD, List.getD_eq_getElem?_getD, List.getElem?_append_left (by omega)]
  rw [e]
  exact hf k hk
 rw [decE_head hl h1 h8 (by rw [List.length_append]; omega), List.length_append, List.length_singleton, ← hc]
 have h2 := (decS_row hf2 hl r.length (Nat.le_refl _)).1
 rw [List.take_length] at h2
 have e : (rowW r).length = 1 + (r.flatMap bodyW).length := by rw [rowW, List.length_cons, Nat.add_comm]
 rw [e]
 refine decS_null h2 ?_ ?_
 ·unfold nullB
  rw [decide_eq_true (Nat.le_refl _)]
  rfl
 ·have : rd_T56 (cs ++ [c]) (r.length : Int) = c := by
   unfold rd_T56
   rw [Int.toNat_natCast, List.getD_eq_getElem?_getD, List.getElem?_append_right (by omega), hc, Nat.sub_self]
   rfl
  rw [this]
  exact hn
end Go.Proofs.Ytkopbaikmlajmaa.Q
