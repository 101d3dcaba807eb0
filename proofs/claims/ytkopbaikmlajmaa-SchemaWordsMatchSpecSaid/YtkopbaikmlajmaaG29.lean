/- The reference's words of a table are those that the program's Words says. -/
import Derived.Test.YtkopbaikmlajmaaG27
import Derived.Test.YtkopbaikmlajmaaDA
import Derived.Test.YtkopbaikmlajmaaF29
import Derived.Test.YtkopbaikmlajmaaFA
namespace Go.Proofs.Ytkopbaikmlajmaa.Q
open Go.RowKit Go.Proofs.YtkopbaikmlajmaaW.PrintWords Go.Proofs.YtkopbaikmlajmaaW.PrintLast Go.Proofs.YtkopbaikmlajmaaW.PrintMore
set_option linter.unusedVariables false
set_option linter.unusedSimpArgs false
theorem bt_out (s : ByteArray) (i : Int) (h : (s.size : Int) ≤ i) : bt s i = 0 := by
  unfold bt
  rw [dif_neg (by omega)]
theorem wrap64_small (n : Int) (h0 : -9223372036854775808 ≤ n) (h1 : n ≤ 9223372036854775807) : wrap64 n = n := by unfold wrap64; omega
theorem text_l1 (s : ByteArray) (hs : s.size ≤ 1000000) (x3 : List Int) (j : Nat) (hj : 5 * j < s.size) (hx : x3.length ≤ 10000000) (r : List Int)
    (ih : Evs (fun k => alumref20_Text.l0 k s (x3 ++ [chunkW s j]) ((5 * (j + 1) : Nat) : Int)) r) : ∀ (d i : Nat), i + d = 5 →
    Evs (fun k => alumref20_Text.l1 k s x3 ((5 * j : Nat) : Int) (cw s j i) (i : Int)) r
  | 0, i, h => by
    obtain rfl : i = 5 := by omega
    refine ih.step (fun k => ?_)
    simp only [alumref20_Text.l1]
    rw [if_neg (by omega), if_pos (by omega), wrap64_small _ (by omega) (by omega)]
    congr 1
  | d + 1, i, h => by
    refine (text_l1 s hs x3 j hj hx r ih d (i + 1) (by omega)).step (fun k => ?_)
    have hc := cw_range s j i
    have hp : (256 : Int) ^ i ≤ 4294967296 := by
      rcases (show i = 0 ∨ i = 1 ∨ i = 2 ∨ i = 3 ∨ i = 4 by omega) with e | e | e | e | e <;> subst e <;> decide
    have hb := bt_range s ((5 * j + i : Nat) : Int)
    simp only [alumref20_Text.l1]
    rw [if_pos (by omega), wrap64_small (((5 * j : Nat) : Int) + i) (by omega) (by omega), wrap64_small (cw s j i * 256) (by omega) (by omega), wrap64_small ((i : Int) + 1) (by omega) (by omega)]
    have e : ((5 * j : Nat) : Int) + i = ((5 * j + i : Nat) : Int) := by omega
    rw [e]
    by_cases hlt : ((5 * j + i : Nat) : Int) < s.size
    · rw [if_pos hlt, if_pos (by omega), wrap64_small (bt s _) (by omega) (by omega), wrap64_small _ (by omega) (by omega)]
      rfl
    · rw [if_neg hlt, wrap64_small _ (by omega) (by omega), show cw s j i * 256 + 0 = cw s j (i + 1) by rw [cw, bt_out s _ (by omega)]]
      rfl
theorem text_l0 (s : ByteArray) (hs : s.size ≤ 1000000) : ∀ (d j : Nat) (x3 : List Int), j ≤ (s.size + 4) / 5 → (s.size + 4) / 5 - j = d → x3.length + d ≤ 10000000 →
    Evs (fun k => alumref20_Text.l0 k s x3 ((5 * j : Nat) : Int)) (x3 ++ (List.range d).map (fun i => chunkW s (j + i)))
  | 0, j, x3, h0, h1, h2 => by
    refine (Evs.const (g := some x3) (by simp)).step (fun k => ?_)
    simp only [alumref20_Text.l0]
    rw [if_neg (by omega)]
  | d + 1, j, x3, h0, h1, h2 => by
    have ih := text_l0 s hs d (j + 1) (x3 ++ [chunkW s j]) (by omega) (by omega) (by simp; omega)
    have e : x3 ++ (List.range (d + 1)).map (fun i => chunkW s (j + i)) = x3 ++ [chunkW s j] ++ (List.range d).map (fun i => chunkW s (j + 1 + i)) := by
      rw [List.range_succ_eq_map, List.map_cons, List.map_map, List.append_assoc]
      congr 2
      refine List.map_congr_left (fun i _ => ?_)
      simp only [Function.comp]
      congr 1
      omega
    rw [e]
    refine (text_l1 s hs x3 j (by omega) (by omega) _ ih 5 0 (by omega)).step (fun k => ?_)
    simp only [alumref20_Text.l0]
    rw [if_pos (by omega)]
    rfl
theorem Text_ref (s : ByteArray) (hs : s.size ≤ 1000000) : Evs (fun k => alumref20_Text.f k s) (textW s) := by
  have h := text_l0 s hs ((s.size + 4) / 5) 0 [] (by omega) (by omega) (by simp; omega)
  simp only [List.nil_append, Nat.zero_add] at h
  exact h
theorem const_ref (v : S40) (h : validB v = true) : Evs (fun k => alumref20_constant.f k v.f0 v.f1 v.f2) (valW v) := by
  unfold valW
  rcases validB_text h with ⟨a, b, c, _⟩ | ⟨a, b, _⟩ | ⟨a, b, c⟩
  · refine Evs.all (fun k => ?_)
    unfold alumref20_constant.f
    rw [if_pos a, if_pos a, wrap64_small _ (by omega) (by omega)]
  · refine Evs.all (fun k => ?_)
    unfold alumref20_constant.f
    rw [if_neg (by omega), if_pos a, if_neg (by omega), if_pos a]
  · rw [if_neg (by omega), if_neg (by omega)]
    refine Evs.congr ((Text_ref v.f2 (by omega)).bind (f := fun k t => some ((v.f2.size : Int) :: t)) (Evs.const rfl)) (fun k => ?_)
    unfold alumref20_constant.f
    rw [if_neg (by omega), if_neg (by omega), Option.bind_some]
    cases ht : alumref20_Text.f k v.f2 with
    | none => rfl
    | some t =>
      have : t = textW v.f2 := by
        obtain ⟨K, hK⟩ := Text_ref v.f2 (by omega)
        obtain ⟨K2, hK2⟩ := Evs.of (alumref20_Text.mono v.f2) ht
        exact Option.some.inj ((hK2 (max K K2) (by omega)).symm.trans (hK (max K K2) (by omega)))
      rw [Option.bind_some, Option.bind_some, if_pos (by rw [this, textW_length]; simp; omega)]
      rfl
theorem valW_length {v : S40} (h : validB v = true) : (valW v).length ≤ 10 := by
  unfold valW
  rcases validB_text h with ⟨a, b, c, _⟩ | ⟨a, b, _⟩ | ⟨a, b, c⟩
  · rw [if_pos a]; simp
  · rw [if_neg (by omega), if_pos a]; simp
  · rw [if_neg (by omega), if_neg (by omega), List.length_cons, textW_length]; omega
section
variable {nm : ByteArray} {cs : List S56} {xs : List S65} {ks : List S42}
theorem rd42_nat' (l : List S42) (i : Nat) (h : i < l.length) : rd_T42 l (i : Int) = l[i] := by
  unfold rd_T42
  rw [Int.toNat_natCast, List.getD_eq_getElem?_getD, List.getElem?_eq_getElem h]; rfl
theorem words_l3 (T : OkT nm cs xs ks) : ∀ (d i : Nat) (x5 : List Int), i ≤ ks.length → ks.length - i = d → x5.length + 20 * d ≤ 100000 →
    Evs (fun k => alumref20_Words.l3 k x5 (i : Int) nm cs xs ks) (x5 ++ (ks.drop i).flatMap chkW, 0)
  | 0, i, x5, h0, h1, h2 => by
    refine (Evs.const (g := some (x5, 0)) (by rw [List.drop_eq_nil_of_le (by omega)]; simp)).step (fun k => ?_)
    simp only [alumref20_Words.l3]
    rw [if_neg (by omega)]
  | d + 1, i, x5, h0, h1, h2 => by
    have hi : i < ks.length := by omega
    obtain ⟨a1, a2, a3, a4, a5, a6⟩ := T.chk i hi
    have hl := valW_length a5
    have nk := T.nc
    rw [List.drop_eq_getElem_cons hi, List.flatMap_cons, ← rd42_nat' ks i hi, ← List.append_assoc]
    have ih := words_l3 T d (i + 1) (x5 ++ chkW (rd_T42 ks i)) (by omega) (by omega) (by rw [List.length_append]; unfold chkW; rw [List.length_cons]; omega)
    obtain ⟨K, hK⟩ := const_ref _ a5
    obtain ⟨K2, hK2⟩ := ih
    dsimp only at hK hK2
    refine ⟨max K K2 + 1, fun k hk => ?_⟩
    obtain ⟨k, rfl⟩ : ∃ m, k = m + 1 := ⟨k - 1, by omega⟩
    show alumref20_Words.l3 (k + 1) x5 (i : Int) nm cs xs ks = _
    simp only [alumref20_Words.l3]
    rw [if_pos (by omega), if_pos (by omega), if_pos (by omega), Option.bind_some, hK k (by omega), Option.bind_some, if_pos (by rw [List.length_append]; simp; omega), wrap64_small (16 * _) (by omega) (by omega), wrap64_small (_ + _) (by omega) (by omega), wrap_succ hi (by have := T.nk; omega)]
    have := hK2 k (by omega)
    rw [← this]
    unfold chkW
    simp
theorem pack_top : ∀ (l : List Int), (∀ i : Nat, i < l.length → 0 ≤ rd l (i : Int) ∧ rd l (i : Int) < 16) → 0 ≤ packI l ∧ packI l < 16 ^ l.length := fun l h => by
  have := pack_range l l.length (Nat.le_refl _) h
  rwa [List.take_length] at this
theorem words_l2 (T : OkT nm cs xs ks) (i : Nat) (hi : i < xs.length) (x5 : List Int) (hx : x5.length ≤ 90000) (r : List Int × Int)
    (ih : Evs (fun k => alumref20_Words.l1 k (x5 ++ idxW (rd_T65 xs i)) ((i + 1 : Nat) : Int) nm cs xs ks) r) : ∀ (d : Nat), d ≤ (rd_T65 xs i).f1.length →
    Evs (fun k => alumref20_Words.l2 k x5 (i : Int) (packI ((rd_T65 xs i).f1.drop d)) ((d : Int) - 1) nm cs xs ks (rd_T65 xs i).f0 (rd_T65 xs i).f1 (rd_T65 xs i).f2) r
  | 0, h0 => by
    obtain ⟨a1, a2, a3, a4, a5⟩ := T.idx i hi
    have hn := nameB_size a1
    have nc := T.nc
    have ht := trI_range (rd_T65 xs i).f2
    obtain ⟨K, hK⟩ := Text_ref (rd_T65 xs i).f0 (by omega)
    obtain ⟨K2, hK2⟩ := ih
    dsimp only at hK hK2
    refine ⟨max K K2 + 1, fun k hk => ?_⟩
    obtain ⟨k, rfl⟩ : ∃ m, k = m + 1 := ⟨k - 1, by omega⟩
    show alumref20_Words.l2 (k + 1) x5 (i : Int) _ _ nm cs xs ks _ _ _ = _
    simp only [alumref20_Words.l2]
    have e1 : alumref20_truth.f (rd_T65 xs i).f2 = some (trI (rd_T65 xs i).f2) := by
      unfold alumref20_truth.f trI
      split <;> rfl
    rw [if_neg (by omega), e1, Option.bind_some, Option.bind_some, if_pos (by simp; omega), Option.bind_some, hK k (by omega), Option.bind_some, if_pos (by rw [textW_length]; simp; omega), wrap64_small (2 * _) (by omega) (by omega), wrap64_small (trI _ + _) (by omega) (by omega), wrap64_small (32 * _) (by omega) (by omega), wrap64_small (_ + _) (by omega) (by omega), wrap_succ hi (by have := T.nx; omega), ← hK2 k (by omega)]
    unfold idxW
    simp
  | d + 1, h0 => by
    obtain ⟨a1, a2, a3, a4, a5⟩ := T.idx i hi
    have nc := T.nc
    have hd : d < (rd_T65 xs i).f1.length := by omega
    have hin : ∀ j : Nat, j < (rd_T65 xs i).f1.length → 0 ≤ rd (rd_T65 xs i).f1 (j : Int) ∧ rd (rd_T65 xs i).f1 (j : Int) < 16 := by
      intro j hj
      have := a5 j hj
      unfold badP at this
      simp only [Bool.or_eq_false_iff, decide_eq_false_iff_not] at this
      omega
    have hp := pack_top ((rd_T65 xs i).f1.drop (d + 1)) (fun j hj => by
      have hj' : d + 1 + j < (rd_T65 xs i).f1.length := by rw [List.length_drop] at hj; omega
      have := hin (d + 1 + j) hj'
      rw [rd_nat _ _ hj'] at this
      rw [rd_nat _ _ hj, List.getElem_drop]
      exact this)
    have hpw : (16 : Int) ^ ((rd_T65 xs i).f1.drop (d + 1)).length ≤ 4294967296 := by
      rw [List.length_drop]
      generalize hm : (rd_T65 xs i).f1.length - (d + 1) = m
      rcases (show m = 0 ∨ m = 1 ∨ m = 2 ∨ m = 3 ∨ m = 4 ∨ m = 5 ∨ m = 6 ∨ m = 7 by omega) with e | e | e | e | e | e | e | e <;> subst e <;> decide
    have hdd := hin d hd
    refine (words_l2 T i hi x5 hx r ih d (by omega)).step (fun k => ?_)
    simp only [alumref20_Words.l2]
    rw [if_pos (by omega), if_pos (by omega), if_pos (by omega)]
    have e1 : ((d + 1 : Nat) : Int) - 1 = (d : Int) := by omega
    rw [e1, wrap64_small (_ * 16) (by omega) (by omega), wrap64_small (_ + _) (by omega) (by omega), wrap64_small ((d : Int) - 1) (by omega) (by omega)]
    rw [List.drop_eq_getElem_cons hd, packI, rd_nat _ _ hd]
theorem words_l1 (T : OkT nm cs xs ks) : ∀ (d i : Nat) (x5 : List Int), i ≤ xs.length → xs.length - i = d → x5.length + 20 * d ≤ 80000 →
    Evs (fun k => alumref20_Words.l1 k x5 (i : Int) nm cs xs ks) (x5 ++ (xs.drop i).flatMap idxW ++ ks.flatMap chkW, 0)
  | 0, i, x5, h0, h1, h2 => by
    have hk := T.nk
    have := words_l3 T ks.length 0 x5 (by omega) (by omega) (by omega)
    rw [List.drop_zero] at this
    rw [List.drop_eq_nil_of_le (by omega), List.flatMap_nil, List.append_nil]
    refine this.step (fun k => ?_)
    simp only [alumref20_Words.l1]
    rw [if_neg (by omega)]
    rfl
  | d + 1, i, x5, h0, h1, h2 => by
    have hi : i < xs.length := by omega
    obtain ⟨a1, a2, a3, a4, a5⟩ := T.idx i hi
    have hn := nameB_size a1
    have nc := T.nc
    rw [List.drop_eq_getElem_cons hi, List.flatMap_cons, ← rd65_nat xs i hi, ← List.append_assoc]
    have ih := words_l1 T d (i + 1) (x5 ++ idxW (rd_T65 xs i)) (by omega) (by omega) (by rw [List.length_append]; unfold idxW; rw [List.length_cons, List.length_cons, textW_length]; omega)
    refine (words_l2 T i hi x5 (by omega) _ ih (rd_T65 xs i).f1.length (Nat.le_refl _)).step (fun k => ?_)
    simp only [alumref20_Words.l1]
    rw [if_pos (by omega), if_pos (by omega), List.drop_length, wrap64_small _ (by omega) (by omega)]
    rfl
theorem words_l0 (T : OkT nm cs xs ks) : ∀ (d i : Nat) (x5 : List Int), i ≤ cs.length → cs.length - i = d → x5.length + 20 * d ≤ 70000 →
    Evs (fun k => alumref20_Words.l0 k x5 (i : Int) nm cs xs ks) (x5 ++ (cs.drop i).flatMap colW ++ xs.flatMap idxW ++ ks.flatMap chkW, 0)
  | 0, i, x5, h0, h1, h2 => by
    have hk := T.nx
    have := words_l1 T xs.length 0 x5 (by omega) (by omega) (by omega)
    rw [List.drop_zero] at this
    rw [List.drop_eq_nil_of_le (by omega), List.flatMap_nil, List.append_nil]
    refine this.step (fun k => ?_)
    simp only [alumref20_Words.l0]
    rw [if_neg (by omega)]
    rfl
  | d + 1, i, x5, h0, h1, h2 => by
    have hi : i < cs.length := by omega
    obtain ⟨a1, a2, a3, a4⟩ := T.col i hi
    have hn := nameB_size a1
    have nc := T.nc
    have ht := trI_range (rd_T56 cs i).f2
    rw [List.drop_eq_getElem_cons hi, List.flatMap_cons, ← rd56_nat cs i hi, ← List.append_assoc]
    have ih := words_l0 T d (i + 1) (x5 ++ colW (rd_T56 cs i)) (by omega) (by omega) (by rw [List.length_append]; unfold colW; rw [List.length_cons, textW_length]; omega)
    obtain ⟨K, hK⟩ := Text_ref (rd_T56 cs i).f0 (by omega)
    obtain ⟨K2, hK2⟩ := ih
    dsimp only at hK hK2
    refine ⟨max K K2 + 1, fun k hk => ?_⟩
    obtain ⟨k, rfl⟩ : ∃ m, k = m + 1 := ⟨k - 1, by omega⟩
    show alumref20_Words.l0 (k + 1) x5 (i : Int) nm cs xs ks = _
    simp only [alumref20_Words.l0]
    have e1 : alumref20_truth.f (rd_T56 cs i).f2 = some (trI (rd_T56 cs i).f2) := by
      unfold alumref20_truth.f trI
      split <;> rfl
    rw [if_pos (by omega), if_pos (by omega), e1, Option.bind_some, if_pos (by omega), Option.bind_some, hK k (by omega), Option.bind_some, if_pos (by rw [textW_length]; simp; omega), wrap64_small (4 * _) (by omega) (by omega), wrap64_small (_ + 4 * _) (by omega) (by omega), wrap64_small (8 * _) (by omega) (by omega), wrap64_small (_ + _) (by omega) (by omega), wrap_succ hi (by omega), ← hK2 k (by omega)]
    unfold colW
    simp
end
theorem Words_ref (nm : ByteArray) (cs : List S56) (xs : List S65) (ks : List S42) (h1 : cs.length ≤ 9223372036854775807) (h2 : xs.length ≤ 9223372036854775807) (hm : ∀ i, (rd_T65 xs i).f1.length ≤ 9223372036854775807) (h3 : ks.length ≤ 9223372036854775807) :
    Evs (fun k => alumref20_Words.f k nm cs xs ks) (wordsE nm cs xs ks, checkE nm cs xs ks) := by
  obtain ⟨K, hK⟩ := Check_ref nm cs xs ks h1 h2 hm h3
  dsimp only at hK
  unfold wordsE
  by_cases hc : checkE nm cs xs ks = 0
  · have T := okT hc
    have hn := nameB_size T.name
    have nc := T.nc
    have nx := T.nx
    have nk := T.nk
    rw [if_pos hc]
    obtain ⟨K1, hK1⟩ := Text_ref nm (by omega)
    have ih := words_l0 T cs.length 0 (headW nm cs xs ks) (by omega) (by omega) (by unfold headW; rw [List.length_cons, textW_length]; omega)
    obtain ⟨K2, hK2⟩ := ih
    dsimp only at hK1 hK2
    refine ⟨max K (max K1 K2), fun k hk => ?_⟩
    show alumref20_Words.f k nm cs xs ks = _
    unfold alumref20_Words.f
    rw [hK k (by omega), Option.bind_some, if_pos hc, Option.bind_some, hK1 k (by omega), Option.bind_some, if_pos (by rw [textW_length]; simp; omega), wrap64_small (16 * _) (by omega) (by omega), wrap64_small (_ + 16 * _) (by omega) (by omega), wrap64_small (256 * _) (by omega) (by omega), wrap64_small (_ + 256 * _) (by omega) (by omega), wrap64_small (4096 * _) (by omega) (by omega), wrap64_small (_ + _) (by omega) (by omega)]
    have := hK2 k (by omega)
    rw [List.drop_zero] at this
    rw [hc]
    unfold wordsL
    exact this
  · refine ⟨K, fun k hk => ?_⟩
    show alumref20_Words.f k nm cs xs ks = _
    unfold alumref20_Words.f
    rw [hK k hk, Option.bind_some, if_neg hc, if_neg hc]
/-- Are two lists of numbers equal? -/
theorem same_l0 (a b : List Int) (hl : a.length = b.length) (hn : a.length ≤ 9223372036854775807) : ∀ (d i : Nat), i ≤ a.length → a.length - i = d → Evs (fun k => alumref20_SameInts.l0 k a b (i : Int)) (decide (a.drop i = b.drop i))
  | 0, i, h0, h1 => by
    refine (Evs.const (g := some true) (by rw [List.drop_eq_nil_of_le (by omega), List.drop_eq_nil_of_le (by omega)]; rfl)).step (fun k => ?_)
    simp only [alumref20_SameInts.l0]
    rw [if_neg (by omega)]
  | d + 1, i, h0, h1 => by
    have hi : i < a.length := by omega
    have hj : i < b.length := by omega
    rw [List.drop_eq_getElem_cons hi, List.drop_eq_getElem_cons hj]
    by_cases h : rd a (i : Int) = rd b (i : Int)
    · have h' := h
      rw [rd_nat a i hi, rd_nat b i hj] at h'
      rw [h']
      simp only [List.cons.injEq, true_and]
      refine (same_l0 a b hl hn d (i + 1) (by omega) (by omega)).step (fun k => ?_)
      simp only [alumref20_SameInts.l0]
      rw [if_pos (by omega), if_pos (by omega), if_pos (by omega), if_pos h, wrap_succ hi hn]
    · have h' := h
      rw [rd_nat a i hi, rd_nat b i hj] at h'
      refine (Evs.const (g := some false) (by rw [decide_eq_false (fun e => h' (List.cons.inj e).1)])).step (fun k => ?_)
      simp only [alumref20_SameInts.l0]
      rw [if_pos (by omega), if_pos (by omega), if_pos (by omega), if_neg h]
theorem Same_ref (a b : List Int) (hn : a.length ≤ 9223372036854775807) : Evs (fun k => alumref20_SameInts.f k a b) (decide (a = b)) := by
  by_cases hl : a.length = b.length
  · have := same_l0 a b hl hn a.length 0 (by omega) (by omega)
    rw [List.drop_zero, List.drop_zero] at this
    refine this.congr (fun k => ?_)
    unfold alumref20_SameInts.f
    rw [if_pos (by omega)]
    rfl
  · refine Evs.all (fun k => ?_)
    unfold alumref20_SameInts.f
    rw [if_neg (by omega), decide_eq_false (fun e => hl (by rw [e]))]
end Go.Proofs.Ytkopbaikmlajmaa.Q
