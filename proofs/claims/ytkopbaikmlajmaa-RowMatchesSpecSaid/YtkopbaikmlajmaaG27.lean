import Derived.Test.YtkopbaikmlajmaaZ
import Derived.Test.YtkopbaikmlajmaaSA
import Derived.Test.YtkopbaikmlajmaaG24
import Derived.Test.YtkopbaikmlajmaaF27
import Derived.Test.YtkopbaikmlajmaaPB
namespace Go.Proofs.Ytkopbaikmlajmaa.Q
open Go.RowKit Go.Proofs.YtkopbaikmlajmaaW.PrintWords Go.Proofs.YtkopbaikmlajmaaW.PrintLast Go.Proofs.YtkopbaikmlajmaaW.PrintMore
set_option linter.unusedVariables false
set_option linter.unusedSimpArgs false

def Evs {α : Type} (g : Nat → Option α) (r : α) : Prop := ∃ K, ∀ k, K ≤ k → g k = some r
theorem Evs.const {α : Type} {g : Option α} {r : α} (h : g = some r) : Evs (fun _ => g) r := ⟨0, fun _ _ => h⟩
theorem Evs.all {α : Type} {g : Nat → Option α} {r : α} (h : ∀ k, g k = some r) : Evs g r := ⟨0, fun k _ => h k⟩
theorem Evs.of {α : Type} {g : Nat → Option α} {r : α} (hm : ∀ k, LeO (g k) (g (k + 1))) {K : Nat} (h : g K = some r) : Evs g r := by
  refine ⟨K, fun k hk => ?_⟩
  obtain ⟨d, rfl⟩ := Nat.exists_eq_add_of_le hk
  clear hk
  induction d with
  | zero => exact h
  | succ d ih => exact hm _ _ ih
theorem Evs.get {α : Type} {g : Nat → Option α} {r : α} (h : Evs g r) : ∃ k, g k = some r := by
  obtain ⟨K, h⟩ := h
  exact ⟨K, h K (Nat.le_refl _)⟩
theorem Evs.step {α : Type} {g f : Nat → Option α} {r : α} (h : Evs f r) (he : ∀ k, g (k + 1) = f k) : Evs g r := by
  obtain ⟨K, h⟩ := h
  refine ⟨K + 1, fun k hk => ?_⟩
  obtain ⟨k, rfl⟩ : ∃ m, k = m + 1 := ⟨k - 1, by omega⟩
  rw [he]
  exact h k (by omega)
theorem Evs.congr {α : Type} {g f : Nat → Option α} {r : α} (h : Evs f r) (he : ∀ k, g k = f k) : Evs g r := by
  obtain ⟨K, h⟩ := h
  exact ⟨K, fun k hk => (he k).trans (h k hk)⟩
theorem Evs.bind {α β : Type} {g : Nat → Option α} {r : α} {f : Nat → α → Option β} {s : β} (h : Evs g r) (h2 : Evs (fun k => f k r) s) : Evs (fun k => (g k).bind (f k)) s := by
  obtain ⟨K, h⟩ := h
  obtain ⟨K2, h2⟩ := h2
  exact ⟨max K K2, fun k hk => by
    show (g k).bind (f k) = some s
    rw [h k (by omega)]
    exact h2 k (by omega)⟩
theorem wrap_succ {i n : Nat} (hi : i < n) (hn : n ≤ 9223372036854775807) : wrap64 ((i : Int) + 1) = ((i + 1 : Nat) : Int) := by unfold wrap64; omega
theorem Evs.name (s : ByteArray) : Evs (fun k => alumref20_Name.f k s) (nameB s) := Evs.of (alumref20_Name.mono s) (name_ref s)

def fromE (f : Nat → Int) : Nat → Nat → Int
  | _, 0 => 0
  | i, d + 1 => if f i ≠ 0 then f i else fromE f (i + 1) d
theorem fromE_eq (f : Nat → Int) : ∀ d i, fromE f i d = (((List.range d).map (fun j => f (i + j))).find? (fun x => decide (x ≠ 0))).getD 0
  | 0, _ => rfl
  | d + 1, i => by
    have e : (fun j => f (i + j)) ∘ Nat.succ = fun j => f (i + 1 + j) := by
      funext j
      simp only [Function.comp]
      congr 1
      omega
    rw [fromE, fromE_eq f d (i + 1), List.range_succ_eq_map, List.map_cons, List.map_map, List.find?_cons, e]
    by_cases h : f i = 0
    · simp [h]
    · simp [h]
theorem firstE_from (f : Nat → Int) (n : Nat) : firstE f n = fromE f 0 n := by
  rw [fromE_eq]
  unfold firstE
  simp
theorem rd56_nat (l : List S56) (i : Nat) (h : i < l.length) : rd_T56 l (i : Int) = l[i] := by
  unfold rd_T56
  rw [Int.toNat_natCast, List.getD_eq_getElem?_getD, List.getElem?_eq_getElem h]; rfl
theorem rd65_nat (l : List S65) (i : Nat) (h : i < l.length) : rd_T65 l (i : Int) = l[i] := by
  unfold rd_T65
  rw [Int.toNat_natCast, List.getD_eq_getElem?_getD, List.getElem?_eq_getElem h]; rfl
theorem any_take_true {α : Type} {p : α → Bool} {l : List α} {i j : Nat} (hj : j < i) (hi : i ≤ l.length) (h : p (l[j]'(by omega)) = true) : (l.take i).any p = true := by
  rw [List.any_eq_true]
  exact ⟨l[j]'(by omega), List.mem_take_iff_getElem.2 ⟨j, by omega, rfl⟩, h⟩
theorem any_take_false {α : Type} {p : α → Bool} {l : List α} {i : Nat} (h : ∀ j (hj : j < l.length), j < i → p l[j] = false) : (l.take i).any p = false := by
  rw [List.any_eq_false]
  intro x hx
  obtain ⟨j, hj, rfl⟩ := List.mem_take_iff_getElem.1 hx
  rw [h j (by omega) (by omega)]
  simp
theorem dupC_true {l : List S56} {i j : Nat} (hj : j < i) (hi : i ≤ l.length) (h : (rd_T56 l j).f0.toList = (rd_T56 l i).f0.toList) : dupC l i = true := by
  unfold dupC
  rw [ixOf_nonneg]
  exact any_take_true hj hi (by rw [← rd56_nat l j (by omega), h]; simp)
theorem dupC_false {l : List S56} {i : Nat} (h : ∀ j, j < i → ¬ (rd_T56 l j).f0.toList = (rd_T56 l i).f0.toList) : dupC l i = false := by
  unfold dupC
  rw [ixOf_nonneg]
  exact any_take_false (fun j hj hji => by
    have := h j hji
    rw [rd56_nat l j hj] at this
    exact beq_eq_false_iff_ne.2 this)
theorem dupI_true {l : List S65} {i j : Nat} (hj : j < i) (hi : i ≤ l.length) (h : (rd_T65 l j).f0.toList = (rd_T65 l i).f0.toList) : dupI l i = true := by
  unfold dupI
  rw [ixOf_nonneg]
  exact any_take_true hj hi (by rw [← rd65_nat l j (by omega), h]; simp)
theorem dupI_false {l : List S65} {i : Nat} (h : ∀ j, j < i → ¬ (rd_T65 l j).f0.toList = (rd_T65 l i).f0.toList) : dupI l i = false := by
  unfold dupI
  rw [ixOf_nonneg]
  exact any_take_false (fun j hj hji => by
    have := h j hji
    rw [rd65_nat l j hj] at this
    exact beq_eq_false_iff_ne.2 this)
theorem fromE_hit {f : Nat → Int} {i d : Nat} {e : Int} (h : f i = e) (he : e ≠ 0) : fromE f i (d + 1) = e := by
  rw [fromE, if_pos (by rw [h]; exact he), h]
theorem fromE_miss {f : Nat → Int} {i d : Nat} (h : f i = 0) : fromE f i (d + 1) = fromE f (i + 1) d := by
  rw [fromE, if_neg (by rw [h]; simp)]

theorem cols_l1 (cs : List S56) (hn : cs.length ≤ 9223372036854775807) (i d : Nat) (hi : i < cs.length) (hnm : nameB (rd_T56 cs i).f0 = true) (ih : Evs (fun k => alumref20_columns.l0 k cs ((i + 1 : Nat) : Int)) (fromE (colE cs) (i + 1) d)) : ∀ (e j : Nat), j ≤ i → i - j = e → (∀ m, m < j → ¬ (rd_T56 cs m).f0.toList = (rd_T56 cs i).f0.toList) →
    Evs (fun k => alumref20_columns.l1 k cs (i : Int) (j : Int)) (fromE (colE cs) i (d + 1))
  | 0, j, h0, h1, h2 => by
    obtain rfl : j = i := by omega
    have hd := dupC_false h2
    by_cases h : (rd_T56 cs j).f1 < 1
    · refine (Evs.const (g := some 7) ?_).step (fun k => ?_)
      · rw [fromE_hit (e := 7) (by unfold colE; rw [if_neg (by rw [hnm]; simp), if_neg (by rw [hd]; simp), if_pos (Or.inl h)]) (by decide)]
      · simp only [alumref20_columns.l1]
        rw [if_neg (by omega), if_pos (by omega), if_pos (by omega), if_pos h]
    · by_cases h' : (rd_T56 cs j).f1 > 3
      · refine (Evs.const (g := some 7) ?_).step (fun k => ?_)
        · rw [fromE_hit (e := 7) (by unfold colE; rw [if_neg (by rw [hnm]; simp), if_neg (by rw [hd]; simp), if_pos (Or.inr h')]) (by decide)]
        · simp only [alumref20_columns.l1]
          rw [if_neg (by omega), if_pos (by omega), if_pos (by omega), if_neg h, if_pos h']
      · rw [fromE_miss (by unfold colE; rw [if_neg (by rw [hnm]; simp), if_neg (by rw [hd]; simp), if_neg (by omega)])]
        refine ih.step (fun k => ?_)
        simp only [alumref20_columns.l1]
        rw [if_neg (by omega), if_pos (by omega), if_pos (by omega), if_neg h, if_neg h', wrap_succ hi hn]
  | e + 1, j, h0, h1, h2 => by
    by_cases h : (rd_T56 cs j).f0.toList = (rd_T56 cs i).f0.toList
    · refine (Evs.const (g := some 6) ?_).step (fun k => ?_)
      · rw [fromE_hit (e := 6) (by unfold colE; rw [if_neg (by rw [hnm]; simp), if_pos (dupC_true (j := j) (by omega) (by omega) h)]) (by decide)]
      · simp only [alumref20_columns.l1]
        rw [if_pos (by omega), if_pos (by omega), if_pos (by omega), if_pos (by omega), if_pos (by omega), if_pos h]
    · refine (cols_l1 cs hn i d hi hnm ih e (j + 1) (by omega) (by omega) (fun m hm => ?_)).step (fun k => ?_)
      · rcases Nat.lt_succ_iff_lt_or_eq.1 hm with h' | rfl
        · exact h2 m h'
        · exact h
      · simp only [alumref20_columns.l1]
        rw [if_pos (by omega), if_pos (by omega), if_pos (by omega), if_pos (by omega), if_pos (by omega), if_neg h, wrap_succ (show j < cs.length by omega) hn]
theorem cols_l0 (cs : List S56) (hn : cs.length ≤ 9223372036854775807) : ∀ (d i : Nat), i ≤ cs.length → cs.length - i = d → Evs (fun k => alumref20_columns.l0 k cs (i : Int)) (fromE (colE cs) i d)
  | 0, i, h0, h1 => (Evs.const (g := some 0) rfl).step (fun k => by
      simp only [alumref20_columns.l0]
      rw [if_neg (by omega)])
  | d + 1, i, h0, h1 => by
    refine ((Evs.name (rd_T56 cs i).f0).bind (f := fun k t => if t = true then alumref20_columns.l1 k cs (i : Int) 0 else some 5) ?_).step (fun k => ?_)
    · cases hnm : nameB (rd_T56 cs i).f0 with
      | true =>
        refine (cols_l1 cs hn i d (by omega) hnm (cols_l0 cs hn d (i + 1) (by omega) (by omega)) i 0 (by omega) (by omega) (fun m hm => by omega)).congr (fun k => ?_)
        rw [if_pos rfl]
        rfl
      | false => exact Evs.const (by rw [fromE_hit (e := 5) (by unfold colE; rw [if_pos hnm]) (by decide)])
    · simp only [alumref20_columns.l0]
      rw [if_pos (by omega), if_pos (by omega)]
theorem cols_ref (cs : List S56) (hn : cs.length ≤ 9223372036854775807) : Evs (fun k => alumref20_columns.f k cs) (firstE (colE cs) cs.length) := by
  rw [firstE_from]
  exact cols_l0 cs hn cs.length 0 (by omega) (by omega)

theorem pigeon : ∀ (n : Nat) (l : List Int), l.Nodup → (∀ x, x ∈ l → 0 ≤ x ∧ x < n) → l.length ≤ n
  | 0, l, _, h => by
    cases l with
    | nil => simp
    | cons a l => have := h a (by simp); omega
  | n + 1, l, hd, h => by
    have h1 := pigeon n (l.erase (n : Int)) (hd.erase _) (fun x hx => by
      have := h x (List.mem_of_mem_erase hx)
      have hne : x ≠ (n : Int) := fun e => by
        subst e
        exact hd.not_mem_erase hx
      omega)
    have h2 := List.length_erase (a := (n : Int)) (l := l)
    split at h2 <;> omega
def placesB (xs : List Int) (n : Nat) : Bool := decide (0 < xs.length) && !(List.range xs.length).any (badP xs n)
theorem rd_nat (l : List Int) (i : Nat) (h : i < l.length) : rd l (i : Int) = l[i] := by
  unfold rd
  rw [Int.toNat_natCast, List.getD_eq_getElem?_getD, List.getElem?_eq_getElem h]; rfl
theorem places_len {xs : List Int} {n : Nat} (h : placesB xs n = true) : xs.length ≤ n := by
  unfold placesB at h
  rw [Bool.and_eq_true, Bool.not_eq_true', List.any_eq_false] at h
  have hb : ∀ i, (hi : i < xs.length) → 0 ≤ xs[i] ∧ xs[i] < n ∧ ¬ xs[i] ∈ xs.take i := by
    intro i hi
    have := h.2 i (List.mem_range.2 hi)
    unfold badP at this
    rw [rd_nat xs i hi] at this
    simp only [Bool.or_eq_true, decide_eq_true_eq, List.contains_iff_mem, not_or] at this
    exact ⟨by omega, by omega, this.2⟩
  refine pigeon n xs ?_ (fun x hx => ?_)
  · rw [List.nodup_iff_pairwise_ne, List.pairwise_iff_getElem]
    intro i j hi hj hij e
    refine (hb j hj).2.2 ?_
    rw [← e]
    exact List.mem_take_iff_getElem.2 ⟨i, by omega, rfl⟩
  · obtain ⟨i, hi, rfl⟩ := List.getElem_of_mem hx
    exact ⟨(hb i hi).1, (hb i hi).2.1⟩
theorem badP_mem {xs : List Int} {n i j : Nat} (hi : i < xs.length) (hj : j < i) (h : rd xs j = rd xs i) : badP xs n i = true := by
  unfold badP
  simp only [Bool.or_eq_true, List.contains_iff_mem]
  refine Or.inr ?_
  rw [← h, rd_nat xs j (by omega)]
  exact List.mem_take_iff_getElem.2 ⟨j, by omega, rfl⟩
theorem badP_not {xs : List Int} {n i : Nat} (hi : i < xs.length) (h0 : ¬ rd xs i < 0) (h1 : ¬ rd xs i ≥ n) (h2 : ∀ j, j < i → ¬ rd xs j = rd xs i) : badP xs n i = false := by
  unfold badP
  rw [decide_eq_false h0, decide_eq_false (show ¬ (n : Int) ≤ rd xs i from h1)]
  simp only [Bool.or_self, Bool.false_or, Bool.eq_false_iff, ne_eq, List.contains_iff_mem]
  intro hm
  obtain ⟨j, hj, e⟩ := List.mem_take_iff_getElem.1 hm
  exact h2 j (by omega) (by rw [rd_nat xs j (by omega)]; exact e)
theorem placesB_bad {xs : List Int} {n i : Nat} (hi : i < xs.length) (h : badP xs n i = true) : placesB xs n = false := by
  unfold placesB
  rw [show (List.range xs.length).any (badP xs n) = true from List.any_eq_true.2 ⟨i, List.mem_range.2 hi, h⟩]
  simp
theorem places_l1 (xs : List Int) (n : Nat) (hn : xs.length ≤ 9223372036854775807) (i : Nat) (hi : i < xs.length) (hg0 : ¬ rd xs i < 0) (hg1 : ¬ rd xs i ≥ n) (ih : badP xs n i = false → Evs (fun k => alumref20_places.l0 k xs n ((i + 1 : Nat) : Int)) (placesB xs n)) : ∀ (e j : Nat), j ≤ i → i - j = e → (∀ m, m < j → ¬ rd xs m = rd xs i) →
    Evs (fun k => alumref20_places.l1 k xs n (i : Int) (j : Int)) (placesB xs n)
  | 0, j, h0, h1, h2 => by
    obtain rfl : j = i := by omega
    refine (ih (badP_not hi hg0 hg1 h2)).step (fun k => ?_)
    simp only [alumref20_places.l1]
    rw [if_neg (by omega), wrap_succ hi hn]
  | e + 1, j, h0, h1, h2 => by
    by_cases h : rd xs j = rd xs i
    · refine (Evs.const (g := some false) (by rw [placesB_bad hi (badP_mem hi (by omega) h)])).step (fun k => ?_)
      simp only [alumref20_places.l1]
      rw [if_pos (by omega), if_pos (by omega), if_pos (by omega), if_pos (by omega), if_pos (by omega), if_pos h]
    · refine (places_l1 xs n hn i hi hg0 hg1 ih e (j + 1) (by omega) (by omega) (fun m hm => ?_)).step (fun k => ?_)
      · rcases Nat.lt_succ_iff_lt_or_eq.1 hm with h' | rfl
        · exact h2 m h'
        · exact h
      · simp only [alumref20_places.l1]
        rw [if_pos (by omega), if_pos (by omega), if_pos (by omega), if_pos (by omega), if_pos (by omega), if_neg h, wrap_succ (show j < xs.length by omega) hn]
theorem places_l0 (xs : List Int) (n : Nat) (hn : xs.length ≤ 9223372036854775807) : ∀ (d i : Nat), i ≤ xs.length → xs.length - i = d → (∀ m, m < i → badP xs n m = false) → Evs (fun k => alumref20_places.l0 k xs n (i : Int)) (placesB xs n)
  | 0, i, h0, h1, h2 => by
    refine (Evs.const (g := some (decide ((xs.length : Int) > 0))) ?_).step (fun k => ?_)
    · unfold placesB
      rw [show (List.range xs.length).any (badP xs n) = false from List.any_eq_false.2 (fun j hj => by rw [h2 j (by have := List.mem_range.1 hj; omega)]; simp)]
      congr 1
      rw [Bool.eq_iff_iff]
      simp
    · simp only [alumref20_places.l0]
      rw [if_neg (by omega)]
  | d + 1, i, h0, h1, h2 => by
    have hj1 : ∀ b, Evs (fun k => alumref20_places.j1 k xs n i b) (if b = true then false else placesB xs n) → Evs (fun k => alumref20_places.j1 k xs n i b) (if b = true then false else placesB xs n) := fun _ h => h
    by_cases hg0 : rd xs i < 0
    · refine ((Evs.const (g := some false) ?_).step (g := fun k => alumref20_places.j1 k xs n i true) (fun k => ?_)).step (fun k => ?_)
      · rw [placesB_bad (i := i) (by omega) (by unfold badP; rw [decide_eq_true hg0]; rfl)]
      · simp [alumref20_places.j1]
      · simp only [alumref20_places.l0]
        rw [if_pos (by omega), if_pos (by omega), if_pos hg0]
    · by_cases hg1 : rd xs i ≥ n
      · refine ((Evs.const (g := some false) ?_).step (g := fun k => alumref20_places.j1 k xs n i true) (fun k => ?_)).step (fun k => ?_)
        · rw [placesB_bad (i := i) (by omega) (by unfold badP; rw [decide_eq_true (show (n : Int) ≤ rd xs i from hg1)]; simp)]
        · simp [alumref20_places.j1]
        · simp only [alumref20_places.l0]
          rw [if_pos (by omega), if_pos (by omega), if_neg hg0, decide_eq_true hg1]
      · refine ((places_l1 xs n hn i (by omega) hg0 hg1 (fun hb => places_l0 xs n hn d (i + 1) (by omega) (by omega) (fun m hm => ?_)) i 0 (by omega) (by omega) (fun m hm => by omega)).step (g := fun k => alumref20_places.j1 k xs n i false) (fun k => ?_)).step (fun k => ?_)
        · rcases Nat.lt_succ_iff_lt_or_eq.1 hm with h' | rfl
          · exact h2 m h'
          · exact hb
        · simp only [alumref20_places.j1]
          rw [if_neg (by simp)]
          rfl
        · simp only [alumref20_places.l0]
          rw [if_pos (by omega), if_pos (by omega), if_neg hg0, decide_eq_false hg1]
theorem places_ref (xs : List Int) (n : Nat) (hn : xs.length ≤ 9223372036854775807) : Evs (fun k => alumref20_places.f k xs n) (placesB xs n) :=
  places_l0 xs n hn xs.length 0 (by omega) (by omega) (fun m hm => by omega)
theorem idxE_places {l : List S65} {n i : Nat} (h1 : nameB (rd_T65 l i).f0 = true) (h2 : dupI l i = false) : idxE l n i = if placesB (rd_T65 l i).f1 n = true then 0 else 1 := by
  unfold idxE
  rw [if_neg Z136, if_neg (by rw [h2]; simp)]
  by_cases h : placesB (rd_T65 l i).f1 n = true
  · have hl := places_len h
    rw [if_pos h]
    unfold placesB at h
    rw [Bool.and_eq_true, Bool.not_eq_true', decide_eq_true_eq] at h
    rw [if_neg (by omega), if_neg (by rw [h.2]; simp)]
  · rw [if_neg h]
    by_cases h3 : (rd_T65 l i).f1.length = 0 ∨ n < (rd_T65 l i).f1.length
    · rw [if_pos h3]
    · rw [if_neg h3, if_pos]
      unfold placesB at h
      rw [decide_eq_true (by omega)] at h
      simpa using h

theorem idx_l1 (cs : List S65) (n : Nat) (hn : cs.length ≤ 9223372036854775807) (hm : ∀ i, (rd_T65 cs i).f1.length ≤ 9223372036854775807) (i d : Nat) (hi : i < cs.length) (hnm : nameB (rd_T65 cs i).f0 = true) (ih : Evs (fun k => alumref20_indexes.l0 k cs n ((i + 1 : Nat) : Int)) (fromE (idxE cs n) (i + 1) d)) : ∀ (e j : Nat), j ≤ i → i - j = e → (∀ m, m < j → ¬ (rd_T65 cs m).f0.toList = (rd_T65 cs i).f0.toList) →
    Evs (fun k => alumref20_indexes.l1 k cs n (i : Int) (j : Int)) (fromE (idxE cs n) i (d + 1))
  | 0, j, h0, h1, h2 => by
    obtain rfl : j = i := by omega
    have hd := dupI_false h2
    refine ((places_ref (rd_T65 cs j).f1 n (hm j)).bind (f := fun k t => if t = true then alumref20_indexes.l0 k cs n (wrap64 ((j : Int) + 1)) else some 1) ?_).step (fun k => ?_)
    · cases hp : placesB (rd_T65 cs j).f1 n with
      | true =>
        rw [fromE_miss (by rw [idxE_places hnm hd, if_pos hp])]
        refine ih.congr (fun k => ?_)
        rw [if_pos rfl, wrap_succ hi hn]
      | false => exact Evs.const (by rw [fromE_hit (e := 1) (by rw [idxE_places hnm hd, if_neg (by rw [hp]; simp)]) (by decide)])
    · simp only [alumref20_indexes.l1]
      rw [if_neg (by omega), if_pos (by omega), if_pos (by omega)]
  | e + 1, j, h0, h1, h2 => by
    by_cases h : (rd_T65 cs j).f0.toList = (rd_T65 cs i).f0.toList
    · refine (Evs.const (g := some 6) ?_).step (fun k => ?_)
      · rw [fromE_hit (e := 6) (by unfold idxE; rw [if_neg (by rw [hnm]; simp), if_pos (dupI_true (j := j) (by omega) (by omega) h)]) (by decide)]
      · simp only [alumref20_indexes.l1]
        rw [if_pos (by omega), if_pos (by omega), if_pos (by omega), if_pos (by omega), if_pos (by omega), if_pos h]
    · refine (idx_l1 cs n hn hm i d hi hnm ih e (j + 1) (by omega) (by omega) (fun m hm => ?_)).step (fun k => ?_)
      · rcases Nat.lt_succ_iff_lt_or_eq.1 hm with h' | rfl
        · exact h2 m h'
        · exact h
      · simp only [alumref20_indexes.l1]
        rw [if_pos (by omega), if_pos (by omega), if_pos (by omega), if_pos (by omega), if_pos (by omega), if_neg h, wrap_succ (show j < cs.length by omega) hn]
theorem idx_l0 (cs : List S65) (n : Nat) (hn : cs.length ≤ 9223372036854775807) (hm : ∀ i, (rd_T65 cs i).f1.length ≤ 9223372036854775807) : ∀ (d i : Nat), i ≤ cs.length → cs.length - i = d → Evs (fun k => alumref20_indexes.l0 k cs n (i : Int)) (fromE (idxE cs n) i d)
  | 0, i, h0, h1 => (Evs.const (g := some 0) rfl).step (fun k => by
      simp only [alumref20_indexes.l0]
      rw [if_neg (by omega)])
  | d + 1, i, h0, h1 => by
    refine ((Evs.name (rd_T65 cs i).f0).bind (f := fun k t => if t = true then alumref20_indexes.l1 k cs n (i : Int) 0 else some 5) ?_).step (fun k => ?_)
    · cases hnm : nameB (rd_T65 cs i).f0 with
      | true =>
        refine (idx_l1 cs n hn hm i d (by omega) hnm (idx_l0 cs n hn hm d (i + 1) (by omega) (by omega)) i 0 (by omega) (by omega) (fun m hm => by omega)).congr (fun k => ?_)
        rw [if_pos rfl]
        rfl
      | false => exact Evs.const (by rw [fromE_hit (e := 5) (by unfold idxE; rw [if_pos hnm]) (by decide)])
    · simp only [alumref20_indexes.l0]
      rw [if_pos (by omega), if_pos (by omega)]
theorem idx_ref (cs : List S65) (n : Nat) (hn : cs.length ≤ 9223372036854775807) (hm : ∀ i, (rd_T65 cs i).f1.length ≤ 9223372036854775807) : Evs (fun k => alumref20_indexes.f k cs n) (firstE (idxE cs n) cs.length) := by
  rw [firstE_from]
  exact idx_l0 cs n hn hm cs.length 0 (by omega) (by omega)

def validN (v : S40) : Bool := isNull v || validB v
theorem Valid_ref (v : S40) : alumref20_Valid.f v.f0 v.f1 v.f2 = some (validN v) := by
  unfold alumref20_Valid.f validN isNull validB
  by_cases h0 : v.f0 = 0
  · rw [if_pos h0]
    by_cases h1 : v.f1 = 0
    · rw [if_pos h1]
      simp [h0, h1]
    · rw [if_neg h1]
      simp [h0, h1]
  · rw [if_neg h0]
    have e0 : (v.f0 == 0) = false := beq_eq_false_iff_ne.2 h0
    rw [e0]
    have ee : (v.f2.toList == ([] : List UInt8)) = decide (v.f2.toList = []) := by cases v.f2.toList <;> simp
    rw [ee]
    by_cases h1 : v.f0 = 1
    · rw [if_pos h1, if_pos h1]
      by_cases h2 : v.f1 ≥ -549755813888
      · by_cases h3 : v.f1 ≤ 549755813887
        · rw [if_pos h2, if_pos h3]
          simp [h3]
          intro _
          omega
        · rw [if_pos h2, if_neg h3]
          simp [h3]
      · rw [if_neg h2]
        simp
        intro _ _
        omega
    · rw [if_neg h1, if_neg h1]
      by_cases h2 : v.f0 = 2
      · rw [if_pos h2]
        by_cases h3 : v.f1 = 0
        · rw [if_pos h3]
          simp [h2, h3]
          omega
        · rw [if_neg h3]
          simp [h2, h3]
      · rw [if_neg h2]
        by_cases h3 : v.f0 = 3
        · rw [if_pos h3, if_pos h3]
          by_cases h4 : v.f1 = 0
          · simp [h4]
          · by_cases h5 : v.f1 = 1 <;> simp [h4, h5]
        · rw [if_neg h3, if_neg h3, if_neg h2]
          rfl
theorem checks_l0 (ks : List S42) (cs : List S56) (hn : ks.length ≤ 9223372036854775807) (hc : firstE (colE cs) cs.length = 0) : ∀ (d i : Nat), i ≤ ks.length → ks.length - i = d → Evs (fun k => alumref20_checks.l0 k ks cs (i : Int)) (fromE (chkE ks cs) i d)
  | 0, i, h0, h1 => (Evs.const (g := some 0) rfl).step (fun k => by
      simp only [alumref20_checks.l0]
      rw [if_neg (by omega)])
  | d + 1, i, h0, h1 => by
    have ih := checks_l0 ks cs hn hc d (i + 1) (by omega) (by omega)
    let z := rd_T42 ks (i : Int)
    have hT : ∀ {g : Nat → Option Int}, (chkE ks cs i = 1) → (∀ k, g (k + 1) = alumref20_checks.j1 k ks cs (i : Int) true z.f0 z.f1 z.f2.f0 z.f2.f1 z.f2.f2) → Evs g (fromE (chkE ks cs) i (d + 1)) := by
      intro g hE hg
      refine ((Evs.const (g := some 1) ?_).step (g := fun k => alumref20_checks.j1 k ks cs (i : Int) true z.f0 z.f1 z.f2.f0 z.f2.f1 z.f2.f2) (fun k => ?_)).step hg
      · rw [fromE_hit (e := 1) hE (by decide)]
      · simp [alumref20_checks.j1]
    by_cases g0 : (rd_T42 ks (i : Int)).f0 < 0
    · exact hT (by unfold chkE; rw [if_pos (Or.inl g0)]) (fun k => by
        simp only [alumref20_checks.l0]
        rw [if_pos (by omega), if_pos (by omega), if_pos g0])
    · by_cases g1 : (rd_T42 ks (i : Int)).f0 ≥ (cs.length : Int)
      · exact hT (by unfold chkE; rw [if_pos (Or.inr (Or.inl g1))]) (fun k => by
          simp only [alumref20_checks.l0]
          rw [if_pos (by omega), if_pos (by omega), if_neg g0, if_pos g1])
      · by_cases g2 : (rd_T42 ks (i : Int)).f1 < 6
        · exact hT (by unfold chkE; rw [if_pos (Or.inr (Or.inr (Or.inl g2)))]) (fun k => by
            simp only [alumref20_checks.l0]
            rw [if_pos (by omega), if_pos (by omega), if_neg g0, if_neg g1, if_pos g2])
        · by_cases g3 : (rd_T42 ks (i : Int)).f1 > 11
          · exact hT (by unfold chkE; rw [if_pos (Or.inr (Or.inr (Or.inr g3)))]) (fun k => by
              simp only [alumref20_checks.l0]
              rw [if_pos (by omega), if_pos (by omega), if_neg g0, if_neg g1, if_neg g2, decide_eq_true g3])
          · have hE : chkE ks cs i = if validB z.f2 = false ∨ z.f2.f0 ≠ (rd_T56 cs z.f0).f1 then 7 else 0 := by
              unfold chkE
              rw [if_neg (by omega)]
            have hk : 1 ≤ (rd_T56 cs z.f0).f1 := by
              have hz0 : 0 ≤ z.f0 := by show 0 ≤ (rd_T42 ks (i : Int)).f0; omega
              have hz1 : z.f0 < cs.length := by show (rd_T42 ks (i : Int)).f0 < _; omega
              obtain ⟨m, hm⟩ := Int.eq_ofNat_of_zero_le hz0
              rw [hm]
              have := firstE_all hc m (by omega)
              unfold colE at this
              split at this; · cases this
              split at this; · cases this
              split at this; · cases this
              omega
            have hj : ∀ {r : Int}, Evs (fun k => if validN z.f2 = true then (if z.f2.f0 = (rd_T56 cs z.f0).f1 then alumref20_checks.l0 k ks cs (wrap64 ((i : Int) + 1)) else some 7) else some 7) r → Evs (fun k => alumref20_checks.l0 k ks cs (i : Int)) r := by
              intro r h
              refine (h.step (g := fun k => alumref20_checks.j1 k ks cs (i : Int) false z.f0 z.f1 z.f2.f0 z.f2.f1 z.f2.f2) (fun k => ?_)).step (fun k => ?_)
              · simp only [alumref20_checks.j1]
                rw [if_neg (by simp), Valid_ref, Option.bind_some]
                by_cases hv : validN z.f2 = true
                · rw [if_pos hv, if_pos hv, if_pos (show 0 ≤ z.f0 by show 0 ≤ (rd_T42 ks (i : Int)).f0; omega), if_pos (show z.f0 < cs.length by show (rd_T42 ks (i : Int)).f0 < _; omega)]
                · rw [if_neg hv, if_neg hv]
              · simp only [alumref20_checks.l0]
                rw [if_pos (by omega), if_pos (by omega), if_neg g0, if_neg g1, if_neg g2, decide_eq_false g3]
            refine hj ?_
            by_cases hv : validB z.f2 = true
            · have hv2 : validN z.f2 = true := by unfold validN; rw [hv]; simp
              by_cases hq : z.f2.f0 = (rd_T56 cs z.f0).f1
              · rw [fromE_miss (by rw [hE, if_neg]; rintro (h | h); · rw [hv] at h; cases h
                                   · exact h hq)]
                refine ih.congr (fun k => ?_)
                rw [if_pos hv2, if_pos hq, wrap_succ (show i < ks.length by omega) hn]
              · rw [fromE_hit (e := 7) (by rw [hE, if_pos (Or.inr hq)]) (by decide)]
                exact ⟨0, fun k _ => by show (if _ then _ else _) = _; rw [if_pos hv2, if_neg hq]⟩
            · rw [fromE_hit (e := 7) (by rw [hE, if_pos (Or.inl (by simpa using hv))]) (by decide)]
              by_cases hn : validN z.f2 = true
              · have h0 : z.f2.f0 = 0 := by
                  unfold validN isNull at hn
                  rw [show validB z.f2 = false by simpa using hv] at hn
                  simp only [Bool.or_false, Bool.and_eq_true, beq_iff_eq] at hn
                  exact hn.1
                exact ⟨0, fun k _ => by show (if _ then _ else _) = _; rw [if_pos hn, if_neg (by omega)]⟩
              · exact ⟨0, fun k _ => by show (if _ then _ else _) = _; rw [if_neg hn]⟩
theorem checks_ref (ks : List S42) (cs : List S56) (hn : ks.length ≤ 9223372036854775807) (hc : firstE (colE cs) cs.length = 0) : Evs (fun k => alumref20_checks.f k ks cs) (firstE (chkE ks cs) ks.length) := by
  rw [firstE_from]
  exact checks_l0 ks cs hn hc ks.length 0 (by omega) (by omega)
theorem Check_ref (nm : ByteArray) (cs : List S56) (xs : List S65) (ks : List S42) (h1 : cs.length ≤ 9223372036854775807) (h2 : xs.length ≤ 9223372036854775807) (hm : ∀ i, (rd_T65 xs i).f1.length ≤ 9223372036854775807) (h3 : ks.length ≤ 9223372036854775807) :
    Evs (fun k => alumref20_Check.f k nm cs xs ks) (checkE nm cs xs ks) := by
  unfold checkE
  refine (Evs.name nm).bind (f := fun k t => if t = true then (if (cs.length : Int) = 0 then alumref20_Check.j0 k true nm cs xs ks else alumref20_Check.j0 k (decide ((cs.length : Int) > 8)) nm cs xs ks) else some 5) ?_
  cases hn : nameB nm with
  | false => exact Evs.const (by rw [if_pos rfl])
  | true =>
    rw [if_neg (show ¬ (true = false) by simp)]
    by_cases g0 : cs.length = 0
    · rw [if_pos (Or.inl g0)]
      refine ((Evs.const (g := some 2) rfl).step (g := fun k => alumref20_Check.j0 k true nm cs xs ks) (fun k => ?_)).congr (fun k => ?_)
      · simp [alumref20_Check.j0]
      · rw [if_pos rfl, if_pos (by omega)]
    by_cases g1 : 8 < cs.length
    · rw [if_pos (Or.inr g1)]
      refine ((Evs.const (g := some 2) rfl).step (g := fun k => alumref20_Check.j0 k true nm cs xs ks) (fun k => ?_)).congr (fun k => ?_)
      · simp [alumref20_Check.j0]
      · rw [if_pos rfl, if_neg (by omega), decide_eq_true (by omega)]
    rw [if_neg (by omega)]
    refine Evs.congr (f := fun k => alumref20_Check.j0 k false nm cs xs ks) ?_ (fun k => by rw [if_pos rfl, if_neg (by omega), decide_eq_false (by omega)])
    refine (((cols_ref cs h1).bind (f := fun k t149 => if t149 = 0 then (if (xs.length : Int) > 4 then (some 2) else ((alumref20_indexes.f k xs (cs.length : Int)).bind fun t150 => (if t150 = 0 then (if (ks.length : Int) > 4 then (some 2) else ((alumref20_checks.f k ks cs).bind fun t151 => (some t151))) else (some t150)))) else (some t149)) ?_)).step (fun k => ?_)
    rotate_left
    · simp only [alumref20_Check.j0]
      rw [if_neg (by simp)]
    by_cases g2 : firstE (colE cs) cs.length = 0
    rotate_left
    · rw [if_pos g2]
      exact Evs.all (fun k => by rw [if_neg g2])
    rw [if_neg (by rw [g2]; simp)]
    by_cases g3 : 4 < xs.length
    · rw [if_pos g3]
      exact Evs.all (fun k => by rw [if_pos g2, if_pos (by omega)])
    rw [if_neg g3]
    refine Evs.congr (((idx_ref xs cs.length h2 hm).bind (f := fun k t150 => (if t150 = 0 then (if (ks.length : Int) > 4 then (some 2) else ((alumref20_checks.f k ks cs).bind fun t151 => (some t151))) else (some t150))) ?_)) (fun k => by rw [if_pos g2, if_neg (by omega)])
    by_cases g4 : firstE (idxE xs cs.length) xs.length = 0
    rotate_left
    · rw [if_pos g4]
      exact Evs.all (fun k => by rw [if_neg g4])
    rw [if_neg (by rw [g4]; simp)]
    by_cases g5 : 4 < ks.length
    · rw [if_pos g5]
      exact Evs.all (fun k => by rw [if_pos g4, if_pos (by omega)])
    rw [if_neg g5]
    exact Evs.congr ((checks_ref ks cs h3 g2).bind (f := fun k t => some t) (Evs.const rfl)) (fun k => by rw [if_pos g4, if_neg (by omega)])
def fewB (cs : List S56) (xs : List S65) (ks : List S42) : Bool := decide (cs.length ≤ 20) && decide (xs.length ≤ 20) && decide (ks.length ≤ 20) && xs.all (fun x => decide (x.f1.length ≤ 20))
theorem few_l0 (nm : ByteArray) (cs : List S56) (xs : List S65) (ks : List S42) (hn : xs.length ≤ 9223372036854775807) : ∀ (d i : Nat), i ≤ xs.length → xs.length - i = d → Evs (fun k => alumref20_Few.l0 k (i : Int) nm cs xs ks) ((xs.drop i).all (fun x => decide (x.f1.length ≤ 20)))
  | 0, i, h0, h1 => by
    refine (Evs.const (g := some true) ?_).step (fun k => ?_)
    · rw [List.drop_eq_nil_of_le (by omega)]; rfl
    · simp only [alumref20_Few.l0]
      rw [if_neg (by omega)]
  | d + 1, i, h0, h1 => by
    rw [List.drop_eq_getElem_cons (show i < xs.length by omega), List.all_cons]
    by_cases g : (xs[i]'(by omega)).f1.length ≤ 20
    · refine (few_l0 nm cs xs ks hn d (i + 1) (by omega) (by omega)).step (fun k => ?_) |> (fun h => by rw [decide_eq_true g, Bool.true_and]; exact h)
      simp only [alumref20_Few.l0]
      rw [if_pos (by omega), if_pos (by omega), rd65_nat xs i (by omega), if_neg (by omega), wrap_succ (show i < xs.length by omega) hn]
    · refine (Evs.const (g := some false) (by rw [decide_eq_false g]; rfl)).step (fun k => ?_)
      simp only [alumref20_Few.l0]
      rw [if_pos (by omega), if_pos (by omega), rd65_nat xs i (by omega), if_pos (by omega)]
theorem Few_ref (nm : ByteArray) (cs : List S56) (xs : List S65) (ks : List S42) (hn : xs.length ≤ 9223372036854775807) : Evs (fun k => alumref20_Few.f k nm cs xs ks) (fewB cs xs ks) := by
  have hT : Evs (fun k => alumref20_Few.j0 k true nm cs xs ks) false := (Evs.const (g := some false) rfl).step (fun k => by
    simp [alumref20_Few.j0])
  unfold fewB
  by_cases g1 : cs.length ≤ 20
  rotate_left
  · rw [decide_eq_false g1]
    refine hT.congr (fun k => ?_)
    unfold alumref20_Few.f
    rw [if_pos (by omega)]
  by_cases g2 : xs.length ≤ 20
  rotate_left
  · rw [decide_eq_false g2, Bool.and_false, Bool.false_and, Bool.false_and]
    refine hT.congr (fun k => ?_)
    unfold alumref20_Few.f
    rw [if_neg (by omega), if_pos (by omega)]
  by_cases g3 : ks.length ≤ 20
  rotate_left
  · rw [decide_eq_false g3, Bool.and_false, Bool.false_and]
    refine hT.congr (fun k => ?_)
    unfold alumref20_Few.f
    rw [if_neg (by omega), if_neg (by omega), decide_eq_true (by omega)]
  rw [decide_eq_true g1, decide_eq_true g2, decide_eq_true g3]
  have h := few_l0 nm cs xs ks hn xs.length 0 (by omega) (by omega)
  rw [List.drop_zero] at h
  refine (h.step (g := fun k => alumref20_Few.j0 k false nm cs xs ks) (fun k => ?_)).congr (fun k => ?_)
  · simp only [alumref20_Few.j0]
    rw [if_neg (by simp)]
    rfl
  · unfold alumref20_Few.f
    rw [if_neg (by omega), if_neg (by omega), decide_eq_false (by omega)]
theorem len65 {w : World} {A : Option Addr} {n : Nat} {xs : List S65} (h : Kd.C k65 w A n xs) (i : Int) : (rd_T65 xs i).f1.length ≤ 9223372036854775807 := by
  by_cases hi : i.toNat < n
  · obtain ⟨ad, A1, c1, _, _, _, _, _, hC⟩ := at_T65 h (i.toNat : Int) (by omega) (by omega)
    have := hC.2.1
    rwa [show rd_T65 xs (i.toNat : Int) = rd_T65 xs i by unfold rd_T65; rw [Int.toNat_natCast]] at this
  · unfold rd_T65
    rw [List.getD_eq_getElem?_getD, List.getElem?_eq_none (by have := h.1; omega)]
    decide
theorem c27 (nm : ByteArray) (A1 : Option Addr) (c1 : Nat) (cs : List S56) (A2 : Option Addr) (c2 : Nat) (xs : List S65) (A3 : Option Addr) (c3 : Nat) (ks : List S42) (w : World) (hr1 : Kd.C k56 w A1 cs.length cs) (hc1 : cs.length ≤ c1) (hr2 : Kd.C k65 w A2 xs.length xs) (hc2 : xs.length ≤ c2) (hr3 : Kd.C k42 w A3 ks.length ks) (hc3 : ks.length ≤ c3) :
    Calls Try.prog 27 #[.agg #[.string nm, .slice A1 cs.length c1, .slice A2 xs.length c2, .slice A3 ks.length c3]] w fun e w' => e = .returned (.int .i64 (checkE nm cs xs ks)) ∧ Below w.heap.size w w' := by
  obtain ⟨k, h⟩ := (Check_ref nm cs xs ks hr1.2.1 hr2.2.1 (len65 hr2) hr3.2.1).get
  exact alumref20_Check.calls k nm A1 c1 cs A2 c2 xs A3 c3 ks _ w hr1 hc1 hr2 hc2 hr3 hc3 h
end Go.Proofs.Ytkopbaikmlajmaa.Q
