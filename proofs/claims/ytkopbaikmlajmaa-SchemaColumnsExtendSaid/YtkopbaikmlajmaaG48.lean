/- Rows: what Extend makes, in plain words; that a row is the same as itself. -/
import Derived.Test.YtkopbaikmlajmaaG27
import Derived.Test.YtkopbaikmlajmaaFA
import Derived.Test.YtkopbaikmlajmaaF48
import Derived.Test.YtkopbaikmlajmaaF47
namespace Go.Proofs.Ytkopbaikmlajmaa.Q
open Go.RowKit Go.Proofs.YtkopbaikmlajmaaW.PrintWords Go.Proofs.YtkopbaikmlajmaaW.PrintLast Go.Proofs.YtkopbaikmlajmaaW.PrintMore
set_option linter.unusedVariables false
set_option linter.unusedSimpArgs false
theorem sameRow_l0 (a : List S40) (hn : a.length ≤ 9223372036854775807) : ∀ (d i : Nat), i ≤ a.length → a.length - i = d → Evs (fun k => alumref20_SameRow.l0 k a a (i : Int)) true
  | 0, i, h0, h1 => by
    refine (Evs.const (g := some true) rfl).step (fun k => ?_)
    simp only [alumref20_SameRow.l0]
    rw [if_neg (by omega)]
  | d + 1, i, h0, h1 => by
    refine (sameRow_l0 a hn d (i + 1) (by omega) (by omega)).step (fun k => ?_)
    simp only [alumref20_SameRow.l0]
    rw [if_pos (by omega), if_pos (by omega), if_pos (by omega), if_neg (by simp), wrap_succ (show i < a.length by omega) hn]
theorem sameRow_refl (a : List S40) (hn : a.length ≤ 9223372036854775807) : Evs (fun k => alumref20_SameRow.f k a a) true := by
  refine (sameRow_l0 a hn a.length 0 (by omega) (by omega)).congr (fun k => ?_)
  unfold alumref20_SameRow.f
  rw [if_pos rfl]
  rfl
/-- A row with nulls for further columns. -/
def extE (cs : List S56) (r : List S40) : List S40 := r ++ List.replicate (cs.length - r.length) z40
theorem extend_eq (nm : ByteArray) (cs : List S56) (xs : List S65) (ks : List S42) (r : List S40) (h1 : cs.length ≤ 1000) (h2 : r.length ≤ 1000) : schema_Extend.f nm cs xs ks r = some (extE cs r) := by
  have e : mx 0 (wrap64 ((cs.length : Int) - (r.length : Int))) = ((cs.length - r.length : Nat) : Int) := by
    unfold mx wrap64
    omega
  unfold schema_Extend.f slices_Clone_Row.f extE
  rw [if_pos (by omega), Option.bind_some, e, if_pos (by omega), Int.toNat_natCast, if_pos (by omega)]
theorem refExt_l0 (nm : ByteArray) (cs : List S56) (xs : List S65) (ks : List S42) (h1 : cs.length ≤ 1000) : ∀ (d : Nat) (x : List S40), cs.length - x.length = d → Evs (fun k => alumref20_Extend.l0 k x nm cs xs ks) (x ++ List.replicate d z40)
  | 0, x, h => by
    refine (Evs.const (g := some x) (by simp)).step (fun k => ?_)
    simp only [alumref20_Extend.l0]
    rw [if_neg (by omega)]
  | d + 1, x, h => by
    have := refExt_l0 nm cs xs ks h1 d (x ++ [z40]) (by simp; omega)
    rw [List.append_assoc, List.singleton_append, ← List.replicate_succ] at this
    refine this.step (fun k => ?_)
    simp only [alumref20_Extend.l0]
    rw [if_pos (by omega), if_pos (by omega)]
    rfl
theorem refExt (nm : ByteArray) (cs : List S56) (xs : List S65) (ks : List S42) (r : List S40) (h1 : cs.length ≤ 1000) (h2 : r.length ≤ 1000) : Evs (fun k => alumref20_Extend.f k nm cs xs ks r) (extE cs r) := by
  refine (refExt_l0 nm cs xs ks h1 (cs.length - r.length) r rfl).congr (fun k => ?_)
  unfold alumref20_Extend.f
  rw [Option.bind_some, List.nil_append, if_pos (by simp; omega)]
theorem fewB_len {cs : List S56} {xs : List S65} {ks : List S42} (h : fewB cs xs ks = true) : cs.length ≤ 20 ∧ xs.length ≤ 20 ∧ ks.length ≤ 20 := by
  unfold fewB at h
  simp only [Bool.and_eq_true, decide_eq_true_eq] at h
  exact ⟨h.1.1.1, h.1.1.2, h.1.2⟩
end Go.Proofs.Ytkopbaikmlajmaa.Q
