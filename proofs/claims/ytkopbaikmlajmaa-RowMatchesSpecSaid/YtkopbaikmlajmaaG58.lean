import Derived.Test.YtkopbaikmlajmaaRB
import Derived.Test.YtkopbaikmlajmaaG98
import Derived.Test.YtkopbaikmlajmaaG116
import Derived.Test.YtkopbaikmlajmaaF58
namespace Go.Proofs.Ytkopbaikmlajmaa.Q
open Go.RowKit Go.Proofs.YtkopbaikmlajmaaW.PrintWords Go.Proofs.YtkopbaikmlajmaaW.PrintLast Go.Proofs.YtkopbaikmlajmaaW.PrintMore
set_option linter.unusedVariables false
set_option linter.unusedSimpArgs false
def decA (p : Option (List S40 × Nat)) : List S40 × Int × Int := match p with | some (r, i) => (r, (i : Int), 0) | none => ([], 0, 3)
theorem shr_small' (u i : Nat) (h : i ≤ 64) : shr .i64 (u : Int) (i : Int) = ((u / 2 ^ i : Nat) : Int) := by
 unfold shr
 rw [Int.toNat_natCast, show min i IntKind.i64.bits = i from Nat.min_eq_left h, Int.natCast_ediv, Int.natCast_pow]
 rfl
theorem refDec_l0 (nm : ByteArray) (cs : List S56) (xs : List S65) (ks : List S42) (l : List Int) (n u : Nat) (hc : cs.length ≤ 60) (hl : 1 ≤ l.length) (hm : l.length ≤ 1000000) : ∀ (d i : Nat) (out : List S40) (at_ : Nat), i + d = cs.length → decS cs n u l i = some (out, at_) → out.length = i →
  Evs (fun k => alumref21_Decode.l0 k l (n : Int) (u : Int) out (at_ : Int) (i : Int) nm cs xs ks) (decA (decS cs n u l cs.length))
 | 0, i, out, at_, h, hs, ho => by
  obtain rfl : i = cs.length := by omega
  rw [hs]
  refine (Evs.const (g := some (out, (at_ : Int), (0 : Int))) rfl).step (fun k => ?_)
  simp only [alumref21_Decode.l0]
  rw [if_neg (by omega)]
 | d + 1, i, out, at_, h, hs, ho => by
  have hi : i < cs.length := by omega
  have hw : wrap64 ((i : Int) + 1) = ((i + 1 : Nat) : Int) := wrap_succ hi (by omega)
  obtain ⟨_, ha1, hal⟩ := decS_app [] hl i out at_ hs
  have null : nullB n u i = true → Evs (fun k => alumref21_Decode.j3 k l (n : Int) (u : Int) out (at_ : Int) (i : Int) true nm cs xs ks) (decA (decS cs n u l cs.length)) := by
   intro hn
   cases hf : (rd_T56 cs (i : Int)).f2 with
   | true =>
    have ih := refDec_l0 nm cs xs ks l n u hc hl hm d (i + 1) _ at_ (by omega) (decS_null hs hn hf) (by rw [List.length_append, ho]; rfl)
    refine Evs.step (f := fun k => alumref21_Decode.j4 k l (n : Int) (u : Int) out (at_ : Int) (i : Int) true false nm cs xs ks) ?_ (fun k => ?_)
    ·refine ih.step (fun k => ?_)
     simp only [alumref21_Decode.j4]
     rw [if_neg (by decide), if_pos trivial, if_pos (by omega), hw]
    simp only [alumref21_Decode.j3]
    rw [if_pos trivial, if_pos (by omega), if_pos (by omega), hf]
    rfl
   | false =>
    have hx : decS cs n u l cs.length = none := decS_bad hs hn hf hi
    rw [hx]
    refine Evs.step (f := fun k => alumref21_Decode.j4 k l (n : Int) (u : Int) out (at_ : Int) (i : Int) true true nm cs xs ks) ?_ (fun k => ?_)
    ·refine (Evs.const (g := some (([] : List S40), (0 : Int), (3 : Int))) rfl).step (fun k => ?_)
     simp only [alumref21_Decode.j4]
     rw [if_pos trivial]
    simp only [alumref21_Decode.j3]
    rw [if_pos trivial, if_pos (by omega), if_pos (by omega), hf]
    rfl
  have val : nullB n u i = false → Evs (fun k => alumref21_Decode.j3 k l (n : Int) (u : Int) out (at_ : Int) (i : Int) false nm cs xs ks) (decA (decS cs n u l cs.length)) := by
   intro hn
   refine Evs.step (f := fun k => alumref21_Decode.j4 k l (n : Int) (u : Int) out (at_ : Int) (i : Int) false false nm cs xs ks) ?_ (fun k => by simp only [alumref21_Decode.j3]; rw [if_neg (by decide)])
   have h1 := one_eq (rd_T56 cs (i : Int)).f1 l at_ (by omega)
   cases hv : valD (rd_T56 cs (i : Int)).f1 l at_ with
   | none =>
    have hx : decS cs n u l cs.length = none := decS_noval hs hn hv hi
    have hE : oneE (rd_T56 cs (i : Int)).f1 l at_ = (0, 0, ⟨#[]⟩, 0) := by unfold oneE; rw [hv]
    rw [hE] at h1
    rw [hx]
    obtain ⟨K, hK⟩ := h1
    dsimp only at hK
    refine ⟨K + 1, fun k hk => ?_⟩
    obtain ⟨k, rfl⟩ : ∃ m, k = m + 1 := ⟨k - 1, by omega⟩
    simp only [alumref21_Decode.j4]
    rw [if_neg (by decide), if_neg (by decide), if_pos (by omega), if_pos (by omega), if_pos (by omega), if_pos (by omega), Int.toNat_natCast, hK k (by omega), Option.bind_some]
    rfl
   | some p =>
    obtain ⟨v, j⟩ := p
    obtain ⟨_, hj1, hj2⟩ := valD_app [] hv
    have hE : oneE (rd_T56 cs (i : Int)).f1 l at_ = (v.f0, v.f1, v.f2, ((j - at_ : Nat) : Int)) := by unfold oneE; rw [hv]
    rw [hE] at h1
    have ih := refDec_l0 nm cs xs ks l n u hc hl hm d (i + 1) _ j (by omega) (decS_val hs hn hv) (by rw [List.length_append, ho]; rfl)
    obtain ⟨K, hK⟩ := h1
    obtain ⟨K2, hK2⟩ := ih
    dsimp only at hK hK2
    refine ⟨max K K2 + 1, fun k hk => ?_⟩
    obtain ⟨k, rfl⟩ : ∃ m, k = m + 1 := ⟨k - 1, by omega⟩
    simp only [alumref21_Decode.j4]
    rw [if_neg (by decide), if_neg (by decide), if_pos (by omega), if_pos (by omega), if_pos (by omega), if_pos (by omega), Int.toNat_natCast, hK k (by omega), Option.bind_some]
    dsimp only
    rw [if_neg (by omega), if_pos (by omega), hw, wrap64_in _ (by omega) (by omega), show (at_ : Int) + ((j - at_ : Nat) : Int) = (j : Int) by omega]
    exact hK2 k (by omega)
  by_cases hn : n ≤ i
  ·refine (null (by unfold nullB; rw [decide_eq_true hn]; rfl)).step (fun k => ?_)
   simp only [alumref21_Decode.l0]
   rw [if_pos (by omega), if_pos (by omega)]
  have hb : nullB n u i = decide (u / 2 ^ i % 2 = 1) := by unfold nullB; rw [decide_eq_false hn, Bool.false_or]
  have hbit : (Int.tmod (shr .i64 (u : Int) (i : Int)) 2 == 1) = decide (u / 2 ^ i % 2 = 1) := by
   rw [shr_small' u i (by omega)]
   generalize u / 2 ^ i = q
   rw [Int.tmod_eq_emod_of_nonneg (by omega), Bool.eq_iff_iff, beq_iff_eq, decide_eq_true_eq]
   omega
  have go : Evs (fun k => alumref21_Decode.j3 k l (n : Int) (u : Int) out (at_ : Int) (i : Int) (decide (u / 2 ^ i % 2 = 1)) nm cs xs ks) (decA (decS cs n u l cs.length)) := by
   cases hq : decide (u / 2 ^ i % 2 = 1) with
   | true => exact null (by rw [hb, hq])
   | false => exact val (by rw [hb, hq])
  refine go.step (fun k => ?_)
  simp only [alumref21_Decode.l0]
  rw [if_pos (by omega), if_neg (by omega), if_pos (by omega), hbit]
theorem decR_A (cs : List S56) (l : List Int) : decR cs l = decA (decE cs l) := rfl
theorem refDec_eq (nm : ByteArray) (cs : List S56) (xs : List S65) (ks : List S42) (l : List Int) (hc : cs.length ≤ 20) (hm : l.length ≤ 1000000) : Evs (fun k => alumref21_Decode.f k nm cs xs ks l) (decR cs l) := by
 rw [decR_A]
 have bad : decE cs l = none → Evs (fun k => alumref21_Decode.j0 k l true nm cs xs ks) (decA (decE cs l)) := by
  intro h
  rw [h]
  refine (Evs.const (g := some (([] : List S40), (0 : Int), (3 : Int))) rfl).step (fun k => ?_)
  simp only [alumref21_Decode.j0]
  rw [if_pos trivial]
 by_cases hl : l.length = 0
 ·refine (bad (by unfold decE rdW; rw [if_neg (by omega)]; rfl)).congr (fun k => ?_)
  unfold alumref21_Decode.f
  rw [if_pos (by omega)]
 have hf : ∀ k, alumref21_Decode.f k nm cs xs ks l = alumref21_Decode.j0 k l (noWord (rd l 0)) nm cs xs ks := fun k => by
  unfold alumref21_Decode.f
  rw [if_neg (by omega), if_pos (by omega), word_eq, Option.bind_some, Bool.not_not]
 refine Evs.congr ?_ hf
 have hrw := rdW_of (l := l) (i := 0) (by omega)
 cases hw : noWord (rd l 0) with
 | true =>
  refine bad ?_
  unfold decE
  rw [hrw, show rd l ((0 : Nat) : Int) = rd l 0 from rfl, hw]
  rfl
 | false =>
  rw [show rd l ((0 : Nat) : Int) = rd l 0 from rfl, hw] at hrw
  have hr : rdW l 0 = some (rd l 0) := hrw
  obtain ⟨_, h0, h1, _⟩ := rdW_some hr
  obtain ⟨m, hmm⟩ := Int.eq_ofNat_of_zero_le h0
  rw [hmm] at h0 h1 hr
  have hE : decE cs l = if m / 256 < 1 ∨ cs.length < m / 256 ∨ m % 256 / 2 ^ (m / 256) ≠ 0 then none else decS cs (m / 256) (m % 256) l cs.length := by
   unfold decE
   rw [hr, Option.bind_some, Int.toNat_natCast]
  have e1 : wrap64 (Int.tdiv (m : Int) 256) = ((m / 256 : Nat) : Int) := by
   rw [Int.tdiv_eq_ediv_of_nonneg (by omega), wrap64_in _ (by omega) (by omega)]
   omega
  have e2 : Int.tmod (m : Int) 256 = ((m % 256 : Nat) : Int) := by
   rw [Int.tmod_eq_emod_of_nonneg (by omega)]
   omega
  have no : decE cs l = none → Evs (fun k => alumref21_Decode.j1 k l ((m / 256 : Nat) : Int) ((m % 256 : Nat) : Int) true nm cs xs ks) (decA (decE cs l)) := by
   intro h
   rw [h]
   refine (Evs.const (g := some (([] : List S40), (0 : Int), (3 : Int))) rfl).step (fun k => ?_)
   simp only [alumref21_Decode.j1]
   rw [if_pos trivial]
  by_cases g1 : m / 256 < 1
  ·refine (no (by rw [hE, if_pos (.inl g1)])).step (fun k => ?_)
   simp only [alumref21_Decode.j0]
   rw [if_neg (by decide), if_pos (by omega), hmm, e1, e2, if_pos (by omega)]
  by_cases g2 : cs.length < m / 256
  ·refine (no (by rw [hE, if_pos (.inr (.inl g2))])).step (fun k => ?_)
   simp only [alumref21_Decode.j0]
   rw [if_neg (by decide), if_pos (by omega), hmm, e1, e2, if_neg (by omega), if_pos (by omega)]
  have hsh := shl_one (i := m / 256) (by omega)
  have hdec : decide (((m % 256 : Nat) : Int) ≥ shl .i64 1 ((m / 256 : Nat) : Int)) = decide (m % 256 / 2 ^ (m / 256) ≠ 0) := by
   rw [hsh, decide_eq_decide]
   have hp : 0 < 2 ^ (m / 256) := Nat.two_pow_pos _
   generalize 2 ^ (m / 256) = q at hp ⊢
   rw [Ne, Nat.div_eq_zero_iff]
   omega
  have go : Evs (fun k => alumref21_Decode.j1 k l ((m / 256 : Nat) : Int) ((m % 256 : Nat) : Int) (decide (m % 256 / 2 ^ (m / 256) ≠ 0)) nm cs xs ks) (decA (decE cs l)) := by
   by_cases g3 : m % 256 / 2 ^ (m / 256) ≠ 0
   ·rw [decide_eq_true g3]
    exact no (by rw [hE, if_pos (.inr (.inr g3))])
   rw [decide_eq_false g3, hE, if_neg (by omega)]
   refine (refDec_l0 nm cs xs ks l (m / 256) (m % 256) (by omega) (by omega) hm cs.length 0 [] 1 (by omega) rfl rfl).step (fun k => ?_)
   simp only [alumref21_Decode.j1]
   rw [if_neg (by decide)]
   rfl
  refine go.step (fun k => ?_)
  simp only [alumref21_Decode.j0]
  rw [if_neg (by decide), if_pos (by omega), hmm, e1, e2, if_neg (by omega), if_neg (by omega), if_pos (by omega), hdec]
end Go.Proofs.Ytkopbaikmlajmaa.Q
