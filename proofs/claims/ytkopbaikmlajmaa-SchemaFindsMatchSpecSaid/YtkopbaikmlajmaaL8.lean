/- The walk of the statement about Column and Index: true for every table and every name. -/
import Derived.Test.YtkopbaikmlajmaaF8
import Derived.Test.YtkopbaikmlajmaaG27
import Derived.Test.YtkopbaikmlajmaaO
namespace Go.Proofs.Ytkopbaikmlajmaa.Q
open Go.RowKit Go.Proofs.YtkopbaikmlajmaaW.PrintWords Go.Proofs.YtkopbaikmlajmaaW.PrintLast Go.Proofs.YtkopbaikmlajmaaW.PrintMore
set_option linter.unusedVariables false
set_option linter.unusedSimpArgs false
theorem refCol_l0 (nm : ByteArray) (cs : List S56) (xs : List S65) (ks : List S42) (s : ByteArray) (hn : cs.length ≤ 9223372036854775807) : ∀ (d i : Nat), i ≤ cs.length → cs.length - i = d → (∀ j, j < i → (fun x : S56 => x.f0.toList == s.toList) (cs.getD j z56) = false) →
    Evs (fun k => alumref20_Column.l0 k s (i : Int) nm cs xs ks) (max 0 (at56 cs s), decide (0 ≤ at56 cs s))
  | 0, i, h0, h1, h2 => by
    refine (Evs.const (g := some (0, false)) ?_).step (fun k => ?_)
    · unfold at56
      rw [ixOf_none _ cs z56 (fun j hj => h2 j (by omega))]
      rfl
    · simp only [alumref20_Column.l0]
      rw [if_neg (by omega)]
  | d + 1, i, h0, h1, h2 => by
    by_cases h : (rd_T56 cs i).f0.toList = s.toList
    · refine (Evs.const (g := some ((i : Int), true)) ?_).step (fun k => ?_)
      · unfold at56
        rw [ixOf_hit (fun x : S56 => x.f0.toList == s.toList) cs i z56 (by omega) h2 (beq_iff_eq.2 h : ((rd_T56 cs i).f0.toList == s.toList) = true), Int.max_eq_right (by omega), show decide ((0 : Int) ≤ (i : Int)) = true from decide_eq_true (by omega)]
      · simp only [alumref20_Column.l0]
        rw [if_pos (by omega), if_pos (by omega), if_pos h]
    · refine (refCol_l0 nm cs xs ks s hn d (i + 1) (by omega) (by omega) (fun j hj => ?_)).step (fun k => ?_)
      · rcases Nat.lt_succ_iff_lt_or_eq.1 hj with h' | rfl
        · exact h2 j h'
        · exact (beq_eq_false_iff_ne.2 h : ((rd_T56 cs j).f0.toList == s.toList) = false)
      · simp only [alumref20_Column.l0]
        rw [if_pos (by omega), if_pos (by omega), if_neg h, wrap_succ (show i < cs.length by omega) hn]
theorem refIdx_l0 (nm : ByteArray) (cs : List S56) (xs : List S65) (ks : List S42) (s : ByteArray) (hn : xs.length ≤ 9223372036854775807) : ∀ (d i : Nat), i ≤ xs.length → xs.length - i = d → (∀ j, j < i → (fun x : S65 => x.f0.toList == s.toList) (xs.getD j z65) = false) →
    Evs (fun k => alumref20_Index.l0 k s (i : Int) nm cs xs ks) (max 0 (at65 xs s), decide (0 ≤ at65 xs s))
  | 0, i, h0, h1, h2 => by
    refine (Evs.const (g := some (0, false)) ?_).step (fun k => ?_)
    · unfold at65
      rw [ixOf_none _ xs z65 (fun j hj => h2 j (by omega))]
      rfl
    · simp only [alumref20_Index.l0]
      rw [if_neg (by omega)]
  | d + 1, i, h0, h1, h2 => by
    by_cases h : (rd_T65 xs i).f0.toList = s.toList
    · refine (Evs.const (g := some ((i : Int), true)) ?_).step (fun k => ?_)
      · unfold at65
        rw [ixOf_hit (fun x : S65 => x.f0.toList == s.toList) xs i z65 (by omega) h2 (beq_iff_eq.2 h : ((rd_T65 xs i).f0.toList == s.toList) = true), Int.max_eq_right (by omega), show decide ((0 : Int) ≤ (i : Int)) = true from decide_eq_true (by omega)]
      · simp only [alumref20_Index.l0]
        rw [if_pos (by omega), if_pos (by omega), if_pos h]
    · refine (refIdx_l0 nm cs xs ks s hn d (i + 1) (by omega) (by omega) (fun j hj => ?_)).step (fun k => ?_)
      · rcases Nat.lt_succ_iff_lt_or_eq.1 hj with h' | rfl
        · exact h2 j h'
        · exact (beq_eq_false_iff_ne.2 h : ((rd_T65 xs j).f0.toList == s.toList) = false)
      · simp only [alumref20_Index.l0]
        rw [if_pos (by omega), if_pos (by omega), if_neg h, wrap_succ (show i < xs.length by omega) hn]
theorem refCol (nm : ByteArray) (cs : List S56) (xs : List S65) (ks : List S42) (s : ByteArray) (hn : cs.length ≤ 9223372036854775807) : Evs (fun k => alumref20_Column.f k nm cs xs ks s) (max 0 (at56 cs s), decide (0 ≤ at56 cs s)) :=
  refCol_l0 nm cs xs ks s hn cs.length 0 (by omega) (by omega) (fun j hj => by omega)
theorem refIdx (nm : ByteArray) (cs : List S56) (xs : List S65) (ks : List S42) (s : ByteArray) (hn : xs.length ≤ 9223372036854775807) : Evs (fun k => alumref20_Index.f k nm cs xs ks s) (max 0 (at65 xs s), decide (0 ≤ at65 xs s)) :=
  refIdx_l0 nm cs xs ks s hn xs.length 0 (by omega) (by omega) (fun j hj => by omega)
theorem p8 (nm : ByteArray) (cs : List S56) (xs : List S65) (ks : List S42) (s : ByteArray) (h1 : cs.length ≤ 9223372036854775807) (h2 : xs.length ≤ 9223372036854775807) :
    Evs (fun k => alumlaw20_SchemaFindsMatchSpec.f k nm cs xs ks s) true := by
  obtain ⟨K1, e1⟩ := Few_ref nm cs xs ks h2
  obtain ⟨K2, e2⟩ := refCol nm cs xs ks s h1
  obtain ⟨K3, e3⟩ := refIdx nm cs xs ks s h2
  dsimp only at e1 e2 e3
  refine ⟨max K1 (max K2 K3), fun k hk => ?_⟩
  show alumlaw20_SchemaFindsMatchSpec.f k nm cs xs ks s = some true
  unfold alumlaw20_SchemaFindsMatchSpec.f schema_Column.f schema_Index.f alumlaw20_sanity.f
  rw [e1 k (by omega), e2 k (by omega), e3 k (by omega)]
  cases fewB cs xs ks <;> simp
theorem w8 (nm : ByteArray) (A1 : Option Addr) (c1 : Nat) (cs : List S56) (A2 : Option Addr) (c2 : Nat) (xs : List S65) (A3 : Option Addr) (c3 : Nat) (ks : List S42) (s : ByteArray) (w : World) (hT : Tab w nm A1 c1 cs A2 c2 xs A3 c3 ks) (hs : s.size ≤ 140737488351232) :
    Calls Try.prog 8 #[.agg #[.string nm, .slice A1 cs.length c1, .slice A2 xs.length c2, .slice A3 ks.length c3], .string s] w fun e w' => e = .returned (.bool true) ∧ Below w.heap.size w w' := by
  obtain ⟨k, h⟩ := (p8 nm cs xs ks s hT.r1.2.1 hT.r2.2.1).get
  exact alumlaw20_SchemaFindsMatchSpec.calls k nm A1 c1 cs A2 c2 xs A3 c3 ks s true w hT.r1 hT.l1 hT.r2 hT.l2 hT.r3 hT.l3 h
end Go.Proofs.Ytkopbaikmlajmaa.Q
