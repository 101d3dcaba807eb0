import Derived.Test.YtkopbaikmlajmaaF62
import Derived.Test.YtkopbaikmlajmaaDA
import Derived.Test.YtkopbaikmlajmaaF44
import Derived.Test.YtkopbaikmlajmaaSA
namespace Go.Proofs.Ytkopbaikmlajmaa.Q
open Go.RowKit Go.Proofs.YtkopbaikmlajmaaW.PrintWords Go.Proofs.YtkopbaikmlajmaaW.PrintLast Go.Proofs.YtkopbaikmlajmaaW.PrintMore
set_option linter.unusedVariables false
set_option linter.unusedSimpArgs false
theorem bytes5_val (w : Int) : [w / 4294967296 % 256, w / 16777216 % 256, w / 65536 % 256, w / 256 % 256, w % 256] = bytes5 w := by
 simp [bytes5, byteAt, List.range_succ]
theorem bt_far (s : ByteArray) (i : Int) (h : (s.size : Int) ≤ i) : bt s i = 0 := by
 unfold bt
 rw [dif_neg (by omega)]
theorem wrap64_in (n : Int) (h0 : -9223372036854775808 ≤ n) (h1 : n ≤ 9223372036854775807) : wrap64 n = n := by unfold wrap64; omega
theorem str_nil {s : ByteArray} (h : s.toList = []) : s.data = #[] := by
 rw [ByteArray.toList_eq] at h
 exact Array.toList_eq_nil_iff.1 h
def bytesN (s : ByteArray) (n : Nat) : List Int := (List.range n).map (fun i : Nat => bt s (i : Int))
theorem chunkW_eq (s : ByteArray) (j : Nat) : chunkW s j = bt s ((5 * j : Nat) : Int) * 4294967296 + bt s ((5 * j + 1 : Nat) : Int) * 16777216 + bt s ((5 * j + 2 : Nat) : Int) * 65536 + bt s ((5 * j + 3 : Nat) : Int) * 256 + bt s ((5 * j + 4 : Nat) : Int) := by
 unfold chunkW
 simp only [cw, Nat.add_zero]
 omega
theorem bytes5_chunk (s : ByteArray) (j : Nat) : bytes5 (chunkW s j) = (List.range 5).map (fun i => bt s ((5 * j + i : Nat) : Int)) := by
 have h0 := bt_range s ((5 * j : Nat) : Int)
 have h1 := bt_range s ((5 * j + 1 : Nat) : Int)
 have h2 := bt_range s ((5 * j + 2 : Nat) : Int)
 have h3 := bt_range s ((5 * j + 3 : Nat) : Int)
 have h4 := bt_range s ((5 * j + 4 : Nat) : Int)
 rw [← bytes5_val, chunkW_eq]
 show _ = [bt s ((5 * j : Nat) : Int), bt s ((5 * j + 1 : Nat) : Int), bt s ((5 * j + 2 : Nat) : Int), bt s ((5 * j + 3 : Nat) : Int), bt s ((5 * j + 4 : Nat) : Int)]
 generalize bt s ((5 * j : Nat) : Int) = b0 at *
 generalize bt s ((5 * j + 1 : Nat) : Int) = b1 at *
 generalize bt s ((5 * j + 2 : Nat) : Int) = b2 at *
 generalize bt s ((5 * j + 3 : Nat) : Int) = b3 at *
 generalize bt s ((5 * j + 4 : Nat) : Int) = b4 at *
 simp only [List.cons.injEq, and_true]
 refine ⟨by omega, by omega, by omega, by omega, by omega⟩
theorem flat_chunks (s : ByteArray) : ∀ K, ((List.range K).map (chunkW s)).flatMap bytes5 = bytesN s (5 * K)
 | 0 => rfl
 | K + 1 => by
  rw [List.range_succ, List.map_append, List.flatMap_append, flat_chunks s K]
  unfold bytesN
  rw [show 5 * (K + 1) = 5 * K + 5 by omega, List.range_add, List.map_append, List.map_map]
  congr 1
  show bytes5 (chunkW s K) ++ [] = _
  rw [List.append_nil, bytes5_chunk]
  rfl
theorem chunk_word (s : ByteArray) (j : Nat) : 0 ≤ chunkW s j ∧ chunkW s j ≤ 1099511627775 := by
 have := cw_range s j 5
 unfold chunkW
 omega
theorem bytesN_length (s : ByteArray) (n : Nat) : (bytesN s n).length = n := by simp [bytesN]
theorem str_bytesN (s : ByteArray) : strOfNums (bytesN s s.size) = s := by
 apply ByteArray.ext
 apply Array.ext
 ·show (strOfNums (bytesN s s.size)).size = s.size
  rw [strOfNums_size, bytesN_length]
 intro i h1 h2
 simp only [strOfNums, bytesN, List.map_map, List.getElem_toArray, List.getElem_map, Function.comp, List.getElem_range]
 unfold bt
 rw [dif_pos (by rw [Int.toNat_natCast]; exact h2)]
 simp only [Int.toNat_natCast, UInt8.ofNat_toNat]
 rfl
theorem any_zero {l : List Int} (h : ∀ x, x ∈ l → x = 0) : l.any (fun x => x != 0) = false := by
 rw [List.any_eq_false]
 intro x hx
 rw [h x hx]
 decide
theorem unpB_text (s : ByteArray) (more : List Int) : unpB (textW s ++ more) s.size = bytesN s (5 * ((s.size + 4) / 5)) := by
 unfold unpB
 rw [List.take_left' (textW_length s)]
 exact flat_chunks s _
theorem drop_bytesN (s : ByteArray) (m : Nat) : ∀ x, x ∈ (bytesN s m).drop s.size → x = 0 := by
 intro x hx
 obtain ⟨i, hi, rfl⟩ := List.getElem_of_mem hx
 rw [List.getElem_drop]
 simp only [bytesN, List.getElem_map, List.getElem_range]
 exact bt_far s _ (by omega)
theorem take_bytesN (s : ByteArray) (n m : Nat) (h : n ≤ m) : (bytesN s m).take n = bytesN s n := by
 unfold bytesN
 rw [← List.map_take, List.take_range, Nat.min_eq_left h]
theorem unpE_text (s : ByteArray) (more : List Int) : unpE (textW s ++ more) (s.size : Int) = 0 := by
 unfold unpE
 rw [Int.toNat_natCast, if_neg (by rw [List.length_append, textW_length]; omega), if_neg, if_neg]
 ·rw [unpB_text, any_zero (drop_bytesN s _)]
  decide
 rw [List.take_left' (textW_length s), List.any_eq_true]
 rintro ⟨x, hx, hw⟩
 obtain ⟨j, _, rfl⟩ := List.mem_map.1 hx
 have := chunk_word s j
 unfold noWord at hw
 rw [decide_eq_false (by omega), decide_eq_false (by omega)] at hw
 cases hw
theorem unpS_text (s : ByteArray) (more : List Int) : unpS (textW s ++ more) (s.size : Int) = s := by
 unfold unpS
 rw [if_pos (unpE_text s more), Int.toNat_natCast, unpB_text, take_bytesN s _ _ (by omega), str_bytesN]
theorem unpE_good {l : List Int} {n : Nat} (h : unpE l (n : Int) = 0) : (n + 4) / 5 ≤ l.length ∧ (∀ x, x ∈ l.take ((n + 4) / 5) → 0 ≤ x ∧ x ≤ 1099511627775) ∧ ∀ x, x ∈ (unpB l n).drop n → x = 0 := by
 unfold unpE at h
 rw [Int.toNat_natCast] at h
 split at h; · cases h
 rename_i h1
 split at h; · cases h
 rename_i h2
 split at h; · cases h
 rename_i h3
 refine ⟨by omega, fun x hx => ?_, fun x hx => ?_⟩
 ·rw [Bool.not_eq_true, List.any_eq_false] at h2
  have := h2 x hx
  unfold noWord at this
  simp only [Bool.or_eq_true, decide_eq_true_eq] at this
  omega
 rw [Bool.not_eq_true, List.any_eq_false] at h3
 have := h3 x hx
 simpa using this
theorem byteAt_range (w : Int) (i : Nat) : 0 ≤ byteAt w i ∧ byteAt w i ≤ 255 := by unfold byteAt; omega
theorem mem_flat5 {l : List Int} {x : Int} (h : x ∈ l.flatMap bytes5) : 0 ≤ x ∧ x ≤ 255 := by
 obtain ⟨w, _, hx⟩ := List.mem_flatMap.1 h
 obtain ⟨i, _, rfl⟩ := List.mem_map.1 hx
 exact byteAt_range w i
theorem bt_str {l : List Int} {n : Nat} (hn : n ≤ l.length) (h : ∀ x, x ∈ l → 0 ≤ x ∧ x ≤ 255) (hz : ∀ x, x ∈ l.drop n → x = 0) (i : Nat) : bt (strOfNums (l.take n)) (i : Int) = rd l (i : Int) := by
 have hs : (strOfNums (l.take n)).size = n := by rw [strOfNums_size, List.length_take]; omega
 unfold rd
 rw [Int.toNat_natCast, List.getD_eq_getElem?_getD]
 by_cases hi : i < n
 ·unfold bt
  rw [dif_pos (by rw [Int.toNat_natCast, hs]; exact hi), List.getElem?_eq_getElem (by omega)]
  have e : (strOfNums (l.take n))[(i : Int).toNat]'(by rw [Int.toNat_natCast, hs]; exact hi) = UInt8.ofNat (l[i]'(by omega)).toNat := by
   simp only [Int.toNat_natCast]
   show (strOfNums (l.take n)).data[i]'_ = _
   simp [strOfNums]
  rw [e]
  have := h (l[i]'(by omega)) (List.getElem_mem _)
  simp only [Option.getD_some, UInt8.toNat_ofNat']
  omega
 rw [bt_far _ _ (by omega)]
 by_cases hl : i < l.length
 ·rw [List.getElem?_eq_getElem hl]
  have := hz l[i] (by
   rw [List.mem_iff_getElem]
   exact ⟨i - n, by rw [List.length_drop]; omega, by rw [List.getElem_drop]; congr 1; omega⟩)
  exact this.symm
 rw [List.getElem?_eq_none (by omega)]
 rfl
theorem rd_flat5 : ∀ (l : List Int) (j i : Nat), j < l.length → i < 5 → rd (l.flatMap bytes5) ((5 * j + i : Nat) : Int) = byteAt (rd l (j : Int)) i
 | [], j, i, h, _ => by simp at h
 | w :: l, 0, i, h, hi => by
  unfold rd
  rw [Int.toNat_natCast, List.flatMap_cons, List.getD_eq_getElem?_getD, List.getElem?_append_left (by rw [bytes5_length]; omega)]
  simp [bytes5, hi, Nat.mul_zero]
 | w :: l, j + 1, i, h, hi => by
  have ih := rd_flat5 l j i (by simpa using h) hi
  unfold rd at ih ⊢
  rw [Int.toNat_natCast] at ih ⊢
  rw [List.flatMap_cons, List.getD_eq_getElem?_getD, List.getElem?_append_right (by rw [bytes5_length]; omega), bytes5_length, show 5 * (j + 1) + i - 5 = 5 * j + i by omega, ← List.getD_eq_getElem?_getD, ih]
  simp
theorem byte5_sum (w : Int) (h0 : 0 ≤ w) (h1 : w ≤ 1099511627775) : w = byteAt w 0 * 4294967296 + byteAt w 1 * 16777216 + byteAt w 2 * 65536 + byteAt w 3 * 256 + byteAt w 4 := by
 unfold byteAt
 simp only [Nat.sub_zero, Nat.reduceSub, Nat.reduceMul, Int.reducePow]
 omega
theorem unp_words {l : List Int} {n : Nat} (h : unpE l (n : Int) = 0) : (unpS l (n : Int)).size = n ∧ textW (unpS l (n : Int)) = l.take ((n + 4) / 5) := by
 obtain ⟨h1, h2, h3⟩ := unpE_good h
 have hl : (unpB l n).length = 5 * ((n + 4) / 5) := by unfold unpB; rw [flat5_length, List.length_take]; omega
 have hS : unpS l (n : Int) = strOfNums ((unpB l n).take n) := by unfold unpS; rw [if_pos h, Int.toNat_natCast]
 have hz : (unpS l (n : Int)).size = n := by rw [hS, strOfNums_size, List.length_take]; omega
 refine ⟨hz, ?_⟩
 apply List.ext_getElem
 ·rw [textW_length, hz, List.length_take]; omega
 intro j hj1 hj2
 have hjk : j < (n + 4) / 5 := by rw [textW_length, hz] at hj1; exact hj1
 have hr : (l.take ((n + 4) / 5))[j] = rd (l.take ((n + 4) / 5)) (j : Int) := by
  unfold rd
  rw [Int.toNat_natCast, List.getD_eq_getElem?_getD, List.getElem?_eq_getElem hj2]
  rfl
 have hw := h2 _ (List.getElem_mem hj2)
 have hb : ∀ i : Nat, i < 5 → bt (unpS l (n : Int)) ((5 * j + i : Nat) : Int) = byteAt (rd (l.take ((n + 4) / 5)) (j : Int)) i := by
  intro i hi
  rw [hS, bt_str (l := unpB l n) (by omega) (fun x hx => mem_flat5 hx) h3]
  exact rd_flat5 _ j i hj2 hi
 simp only [textW, List.getElem_map, List.getElem_range]
 rw [hr] at hw ⊢
 rw [byte5_sum _ hw.1 hw.2, chunkW_eq, ← hb 0 (by omega), ← hb 1 (by omega), ← hb 2 (by omega), ← hb 3 (by omega), ← hb 4 (by omega)]
 simp only [Nat.add_zero]
theorem unpE_app {l : List Int} {n : Nat} (more : List Int) (h : unpE l (n : Int) = 0) : unpE (l ++ more) (n : Int) = 0 ∧ unpS (l ++ more) (n : Int) = unpS l (n : Int) := by
 obtain ⟨hz, hw⟩ := unp_words h
 obtain ⟨h1, _, _⟩ := unpE_good h
 have e : l ++ more = textW (unpS l (n : Int)) ++ (l.drop ((n + 4) / 5) ++ more) := by rw [hw, ← List.append_assoc, List.take_append_drop]
 have a := unpE_text (unpS l (n : Int)) (l.drop ((n + 4) / 5) ++ more)
 have b := unpS_text (unpS l (n : Int)) (l.drop ((n + 4) / 5) ++ more)
 rw [← e, hz] at a b
 exact ⟨a, b⟩
def nullsR : List S40 → Nat
 | [] => 0
 | v :: r => (if v.f0 = 0 then 1 else 0) + 2 * nullsR r
def bodyW (v : S40) : List Int := if v.f0 = 0 then [] else valW v
def rowW (r : List S40) : List Int := ((256 * r.length + nullsR r : Nat) : Int) :: r.flatMap bodyW
theorem nullsR_lt : ∀ r : List S40, nullsR r < 2 ^ r.length
 | [] => by decide
 | v :: r => by
  have := nullsR_lt r
  rw [nullsR, List.length_cons, Nat.pow_succ]
  split <;> omega
theorem nullsR_app : ∀ (r : List S40) (v : S40), nullsR (r ++ [v]) = nullsR r + 2 ^ r.length * (if v.f0 = 0 then 1 else 0)
 | [], v => by simp [nullsR]
 | u :: r, v => by
  rw [List.cons_append, nullsR, nullsR_app r v, nullsR, List.length_cons, Nat.pow_succ, Nat.mul_comm (2 ^ r.length) 2, Nat.mul_assoc, Nat.mul_add]
  omega
theorem isNull_iff {v : S40} (h : isNull v = true) : v = z40 := by
 unfold isNull at h
 simp only [Bool.and_eq_true, beq_iff_eq] at h
 obtain ⟨a, b, c⟩ := h
 obtain ⟨f0, f1, f2⟩ := v
 simp only at a b c
 subst a b
 have : f2 = ⟨#[]⟩ := by
  apply ByteArray.ext
  have : f2.toList = [] := by simpa using c
  exact str_nil this
 rw [this]
 rfl
def FitV (cs : List S56) (r : List S40) : Prop := ∀ k : Nat, k < r.length → (rd_T40 r (k : Int) = z40 ∧ (rd_T56 cs (k : Int)).f2 = true) ∨ (validB (rd_T40 r (k : Int)) = true ∧ (rd_T40 r (k : Int)).f0 = (rd_T56 cs (k : Int)).f1)
theorem validB_ne {v : S40} (h : validB v = true) : v.f0 ≠ 0 := by
 rcases validB_text h with ⟨a, _⟩ | ⟨a, _⟩ | ⟨a, _⟩ <;> omega
theorem take_snoc40 (r : List S40) (k : Nat) (h : k < r.length) : r.take (k + 1) = r.take k ++ [rd_T40 r (k : Int)] := by
 rw [List.take_add_one, List.getElem?_eq_getElem h]
 unfold rd_T40
 rw [Int.toNat_natCast, List.getD_eq_getElem?_getD, List.getElem?_eq_getElem h]
 rfl
theorem rdW_app {l : List Int} {i : Nat} {v : Int} (more : List Int) (h : rdW l i = some v) : rdW (l ++ more) i = some v := by
 obtain ⟨hi, h0, h1, hv⟩ := rdW_some h
 have e : rd (l ++ more) (i : Int) = rd l (i : Int) := by
  unfold rd
  rw [Int.toNat_natCast, List.getD_eq_getElem?_getD, List.getD_eq_getElem?_getD, List.getElem?_append_left hi]
 unfold rdW
 rw [e, hv, if_pos ⟨by rw [List.length_append]; omega, h0, h1⟩]
theorem atMost_app {l : List Int} {i : Nat} {m v : Int} (more : List Int) (h : atMost l i m = some v) : atMost (l ++ more) i m = some v ∧ i < l.length ∧ 0 ≤ v ∧ v ≤ m := by
 unfold atMost at h ⊢
 cases hr : rdW l i with
 | none => rw [hr] at h; cases h
 | some u =>
  rw [hr, Option.bind_some] at h
  have h3 := rdW_some hr
  rw [rdW_app more hr, Option.bind_some]
  split at h
  ·cases h
  rename_i hm
  cases h
  rw [if_neg hm]
  exact ⟨rfl, h3.1, by omega, by omega⟩
theorem valD_app {kind : Int} {l : List Int} {i : Nat} {v : S40} {j : Nat} (more : List Int) (h : valD kind l i = some (v, j)) : valD kind (l ++ more) i = some (v, j) ∧ i < j ∧ j ≤ l.length := by
 unfold valD at h ⊢
 split at h
 ·rename_i h1
  rw [if_pos h1]
  cases hr : rdW l i with
  | none => rw [hr] at h; cases h
  | some u =>
   rw [hr] at h
   rw [rdW_app more hr]
   have := rdW_some hr
   have hj := congrArg Prod.snd (Option.some.inj h)
   simp only at hj
   exact ⟨h, by omega, by omega⟩
 rename_i h1
 rw [if_neg h1]
 split at h
 ·rename_i h3
  rw [if_pos h3]
  cases hr : atMost l i 1 with
  | none => rw [hr] at h; cases h
  | some u =>
   rw [hr] at h
   obtain ⟨a, b, _⟩ := atMost_app more hr
   rw [a]
   have hj := congrArg Prod.snd (Option.some.inj h)
   simp only at hj
   exact ⟨h, by omega, by omega⟩
 rename_i h3
 rw [if_neg h3]
 cases hr : atMost l i 40 with
 | none => rw [hr] at h; cases h
 | some u =>
  rw [hr, Option.bind_some] at h
  obtain ⟨a, b, c, d⟩ := atMost_app more hr
  obtain ⟨m, rfl⟩ := Int.eq_ofNat_of_zero_le c
  rw [a, Option.bind_some]
  split at h
  ·rename_i he
   obtain ⟨e1, e2⟩ := unpE_app more he
   have hg := (unpE_good he).1
   rw [List.length_drop] at hg
   rw [List.drop_append_of_le_length (by omega), if_pos e1, e2]
   have hj := congrArg Prod.snd (Option.some.inj h)
   simp only [Int.toNat_natCast] at hj
   exact ⟨h, by omega, by omega⟩
  cases h
theorem decS_app {cs : List S56} {n nulls : Nat} {l : List Int} (more : List Int) (hl : 1 ≤ l.length) : ∀ (k : Nat) (out : List S40) (i : Nat), decS cs n nulls l k = some (out, i) → decS cs n nulls (l ++ more) k = some (out, i) ∧ 1 ≤ i ∧ i ≤ l.length
 | 0, out, i, h => by
  cases h
  exact ⟨rfl, by omega, hl⟩
 | k + 1, out, i, h => by
  have h' : (decS cs n nulls l k).bind (fun p => if nullB n nulls k = true then (if (rd_T56 cs (k : Int)).f2 = true then some (p.1 ++ [⟨0, 0, ⟨#[]⟩⟩], p.2) else none) else (valD (rd_T56 cs (k : Int)).f1 l p.2).map fun q => (p.1 ++ [q.1], q.2)) = some (out, i) := h
  cases hd : decS cs n nulls l k with
  | none => rw [hd] at h'; cases h'
  | some p =>
   obtain ⟨o, a⟩ := p
   rw [hd, Option.bind_some] at h'
   obtain ⟨q1, q2, q3⟩ := decS_app more hl k o a hd
   split at h'
   ·rename_i hn
    split at h'
    ·rename_i hf
     cases h'
     exact ⟨decS_null q1 hn hf, q2, q3⟩
    cases h'
   rename_i hn
   cases hv : valD (rd_T56 cs (k : Int)).f1 l a with
   | none => rw [hv] at h'; cases h'
   | some y =>
    obtain ⟨x, j⟩ := y
    rw [hv, Option.map_some] at h'
    cases h'
    obtain ⟨v1, v2, v3⟩ := valD_app more hv
    exact ⟨decS_val q1 (by simpa using hn) v1, by omega, v3⟩
end Go.Proofs.Ytkopbaikmlajmaa.Q
