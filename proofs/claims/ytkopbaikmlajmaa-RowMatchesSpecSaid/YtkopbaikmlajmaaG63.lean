import Derived.Test.YtkopbaikmlajmaaG27
import Derived.Test.YtkopbaikmlajmaaF62
import Derived.Test.YtkopbaikmlajmaaPB
namespace Go.Proofs.Ytkopbaikmlajmaa.Q
open Go.RowKit Go.Proofs.YtkopbaikmlajmaaW.PrintWords Go.Proofs.YtkopbaikmlajmaaW.PrintLast Go.Proofs.YtkopbaikmlajmaaW.PrintMore
set_option linter.unusedVariables false
set_option linter.unusedSimpArgs false
theorem word_eq (x : Int) : alumref21_word.f x = some (!noWord x) := by
 unfold alumref21_word.f noWord
 by_cases h : x < 0
 ·rw [if_neg (by omega), decide_eq_true h]; simp
 rw [if_pos (by omega), decide_eq_false h]
 by_cases h2 : x ≤ 1099511627775
 ·rw [decide_eq_true h2, decide_eq_false (by omega)]; rfl
 rw [decide_eq_false h2, decide_eq_true (by omega)]; rfl
theorem Long_eq (n : Nat) (h : (n : Int) ≤ 9000000000000000000) : alumref21_Long.f (n : Int) = some (((n + 4) / 5 : Nat) : Int) := by
 unfold alumref21_Long.f
 rw [Int.tmod_eq_emod_of_nonneg (by omega), Int.tdiv_eq_ediv_of_nonneg (by omega)]
 by_cases h0 : (n : Int) % 5 = 0
 ·rw [if_pos h0]
  congr 1
  unfold wrap64
  omega
 rw [if_neg h0]
 congr 1
 unfold wrap64
 omega
theorem bytes5_eq (w : Int) : [w / 4294967296 % 256, w / 16777216 % 256, w / 65536 % 256, w / 256 % 256, w % 256] = bytes5 w := by
 simp [bytes5, byteAt, List.range_succ]
theorem refUnp_l1 (n : Nat) (b : List Int) (hb : b.length ≤ 1000000000000) (hn : n ≤ b.length) : ∀ (d i : Nat), i + d = b.length → Evs (fun k => alumref21_Unpack.l1 k (n : Int) b (i : Int)) (if (b.drop i).any (fun x => x != 0) = true then ((⟨#[]⟩ : ByteArray), (3 : Int)) else (strOfNums (b.take n), 0))
 | 0, i, h => by
  rw [List.drop_eq_nil_of_le (by omega), if_neg (by simp)]
  refine (Evs.const (g := some (strOfNums (b.take n), (0 : Int))) rfl).step (fun k => ?_)
  simp only [alumref21_Unpack.l1]
  rw [if_neg (by omega), if_pos (by omega), if_pos (by omega), Int.toNat_natCast]
 | d + 1, i, h => by
  have hw : wrap64 ((i : Int) + 1) = ((i + 1 : Nat) : Int) := wrap_succ (show i < b.length by omega) (by omega)
  have hd : b.drop i = rd b (i : Int) :: b.drop (i + 1) := by
   rw [List.drop_eq_getElem_cons (by omega)]
   congr 1
   unfold rd
   rw [Int.toNat_natCast, List.getD_eq_getElem?_getD, List.getElem?_eq_getElem (by omega)]
   rfl
  by_cases hz : rd b (i : Int) = 0
  ·have e : (b.drop i).any (fun x => x != 0) = (b.drop (i + 1)).any (fun x => x != 0) := by rw [hd, List.any_cons, hz]; rfl
   rw [e]
   refine (refUnp_l1 n b hb hn d (i + 1) (by omega)).step (fun k => ?_)
   simp only [alumref21_Unpack.l1]
   rw [if_pos (by omega), if_pos (by omega), if_pos hz, hw]
  have e : (b.drop i).any (fun x => x != 0) = true := by rw [hd, List.any_cons, bne_iff_ne.2 hz]; rfl
  rw [if_pos e]
  refine (Evs.const (g := some ((⟨#[]⟩ : ByteArray), (3 : Int))) rfl).step (fun k => ?_)
  simp only [alumref21_Unpack.l1]
  rw [if_pos (by omega), if_pos (by omega), if_neg hz]
theorem unp_bad (l : List Int) (n K : Nat) (hk : K = (n + 4) / 5) (hl : K ≤ l.length) (j : Nat) (hj : j < K) (hw : noWord (rd l (j : Int)) = true) : unpE l (n : Int) = 3 := by
 unfold unpE
 rw [Int.toNat_natCast, if_neg (by omega), if_pos]
 rw [List.any_eq_true]
 refine ⟨rd l (j : Int), ?_, hw⟩
 rw [List.mem_take_iff_getElem]
 exact ⟨j, by omega, by unfold rd; rw [Int.toNat_natCast, List.getD_eq_getElem?_getD, List.getElem?_eq_getElem (by omega)]; rfl⟩
theorem unp_good (l : List Int) (n K : Nat) (hk : K = (n + 4) / 5) (hl : K ≤ l.length) (h : ∀ j, j < K → noWord (rd l (j : Int)) = false) : unpE l (n : Int) = if ((unpB l n).drop n).any (fun x => x != 0) = true then 3 else 0 := by
 unfold unpE
 rw [Int.toNat_natCast, if_neg (by omega), if_neg]
 rw [List.any_eq_true]
 rintro ⟨x, hx, hw⟩
 obtain ⟨j, hj, e⟩ := List.mem_take_iff_getElem.1 hx
 have := h j (by omega)
 unfold rd at this
 rw [Int.toNat_natCast, List.getD_eq_getElem?_getD, List.getElem?_eq_getElem (by omega)] at this
 simp only [Option.getD_some] at this
 rw [e, hw] at this
 cases this
theorem refUnp_l0 (l : List Int) (n K : Nat) (hm : l.length ≤ 1000000000) (hn : (n : Int) ≤ 9000000000000000000) (hk : K = (n + 4) / 5) (hl : K ≤ l.length) : ∀ (d i : Nat), i + d = K → (∀ j, j < i → noWord (rd l (j : Int)) = false) → Evs (fun k => alumref21_Unpack.l0 k l (n : Int) ((l.take i).flatMap bytes5) (i : Int)) (unpS l (n : Int), unpE l (n : Int))
 | 0, i, h, hj => by
  obtain rfl : i = K := by omega
  have hB : (l.take i).flatMap bytes5 = unpB l n := by unfold unpB; rw [hk]
  have hlen : (unpB l n).length = 5 * i := by rw [← hB, flat5_length, List.length_take]; omega
  have hg := unp_good l n i hk hl hj
  have key := refUnp_l1 n (unpB l n) (by omega) (by omega) ((unpB l n).length - n) n (by omega)
  rw [hB]
  refine Evs.step (f := fun k => alumref21_Unpack.l1 k (n : Int) (unpB l n) (n : Int)) ?_ (fun k => ?_)
  ·have e : (unpS l (n : Int), unpE l (n : Int)) = if ((unpB l n).drop n).any (fun x => x != 0) = true then ((⟨#[]⟩ : ByteArray), (3 : Int)) else (strOfNums ((unpB l n).take n), 0) := by
    by_cases hz : ((unpB l n).drop n).any (fun x => x != 0) = true
    ·rw [if_pos hz] at hg ⊢
     unfold unpS
     rw [hg]
     rfl
    rw [if_neg hz] at hg ⊢
    unfold unpS
    rw [hg, if_pos rfl, Int.toNat_natCast]
   rw [e]
   exact key
  simp only [alumref21_Unpack.l0]
  rw [Long_eq n hn, Option.bind_some, if_neg (by omega)]
 | d + 1, i, h, hj => by
  have hw : wrap64 ((i : Int) + 1) = ((i + 1 : Nat) : Int) := wrap_succ (show i < l.length by omega) (by omega)
  cases hq : noWord (rd l (i : Int)) with
  | true =>
   have hb := unp_bad l n K hk hl i (by omega) hq
   refine (Evs.const (g := some ((⟨#[]⟩ : ByteArray), (3 : Int))) (by unfold unpS; rw [hb]; rfl)).step (fun k => ?_)
   simp only [alumref21_Unpack.l0]
   rw [Long_eq n hn, Option.bind_some, if_pos (by omega), if_pos (by omega), if_pos (by omega), word_eq, hq, Option.bind_some, if_neg (by decide)]
  | false =>
   have := refUnp_l0 l n K hm hn hk hl d (i + 1) (by omega) (fun j hjj => (Nat.lt_succ_iff_lt_or_eq.1 hjj).elim (hj j) (fun e => e ▸ hq))
   rw [flat5_take l i (by omega)] at this
   refine this.step (fun k => ?_)
   simp only [alumref21_Unpack.l0]
   rw [Long_eq n hn, Option.bind_some, if_pos (by omega), if_pos (by omega), if_pos (by omega), word_eq, hq, Option.bind_some, if_pos (by decide), Option.bind_some, bytes5_eq, if_pos (by rw [flat5_length, bytes5_length, List.length_take]; omega), hw]
theorem refUnp_eq (l : List Int) (n : Int) (hm : l.length ≤ 1000000000) (hn : n ≤ 9223372036854775807) : Evs (fun k => alumref21_Unpack.f k l n) (unpS l n, unpE l n) := by
 have bad : unpE l n = 3 → Evs (fun k => alumref21_Unpack.j0 k l n true) (unpS l n, unpE l n) := by
  intro h
  refine (Evs.const (g := some ((⟨#[]⟩ : ByteArray), (3 : Int))) (by unfold unpS; rw [h]; rfl)).step (fun k => ?_)
  simp only [alumref21_Unpack.j0]
  rw [if_pos trivial]
 by_cases h0 : n < 0
 ·refine (bad (by unfold unpE; rw [if_pos (.inl h0)])).congr (fun k => ?_)
  unfold alumref21_Unpack.f
  rw [if_pos h0]
 obtain ⟨m, rfl⟩ := Int.eq_ofNat_of_zero_le (show 0 ≤ n by omega)
 have ht : wrap64 (Int.tdiv (m : Int) 5) = ((m / 5 : Nat) : Int) := by rw [Int.tdiv_eq_ediv_of_nonneg (by omega)]; unfold wrap64; omega
 by_cases h1 : l.length < (m + 4) / 5
 ·have hE : unpE l (m : Int) = 3 := by unfold unpE; rw [Int.toNat_natCast, if_pos (.inr h1)]
  by_cases h5 : l.length < m / 5
  ·refine (bad hE).congr (fun k => ?_)
   unfold alumref21_Unpack.f
   rw [if_neg (by omega), ht, if_pos (by omega)]
  refine (bad hE).congr (fun k => ?_)
  unfold alumref21_Unpack.f
  rw [if_neg (by omega), ht, if_neg (by omega), Long_eq m (by omega), Option.bind_some, decide_eq_true (by omega)]
 refine Evs.congr ?_ (fun k => by
  unfold alumref21_Unpack.f
  rw [if_neg (by omega), ht, if_neg (by omega), Long_eq m (by omega), Option.bind_some, decide_eq_false (by omega)])
 refine (refUnp_l0 l m _ hm (by omega) rfl (by omega) ((m + 4) / 5) 0 (by omega) (fun j hj => by omega)).step (fun k => ?_)
 simp only [alumref21_Unpack.j0]
 rw [if_neg (by decide)]
 rfl
end Go.Proofs.Ytkopbaikmlajmaa.Q
