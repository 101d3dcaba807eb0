/- The walk of the statement about Fits and Extend: true for every table and every row. -/
import Derived.Test.YtkopbaikmlajmaaF10
import Derived.Test.YtkopbaikmlajmaaG48
import Derived.Test.YtkopbaikmlajmaaO
namespace Go.Proofs.Ytkopbaikmlajmaa.Q
open Go.RowKit Go.Proofs.YtkopbaikmlajmaaW.PrintWords Go.Proofs.YtkopbaikmlajmaaW.PrintLast Go.Proofs.YtkopbaikmlajmaaW.PrintMore
set_option linter.unusedVariables false
set_option linter.unusedSimpArgs false
theorem fits_j0t (nm : ByteArray) (cs : List S56) (xs : List S65) (ks : List S42) (r : List S40) : Evs (fun k => alumlaw20_SchemaFitsMatchesSpec.j0 k r true true nm cs xs ks) true :=
  (Evs.const (g := some true) rfl).step (fun k => by simp [alumlaw20_SchemaFitsMatchesSpec.j0])
theorem p10 (nm : ByteArray) (cs : List S56) (xs : List S65) (ks : List S42) (r : List S40) (h2 : xs.length ≤ 9223372036854775807) :
    Evs (fun k => alumlaw20_SchemaFitsMatchesSpec.f k nm cs xs ks r) true := by
  obtain ⟨K1, e1⟩ := Few_ref nm cs xs ks h2
  obtain ⟨K2, e2⟩ := fits_j0t nm cs xs ks r
  dsimp only at e1 e2
  cases hf : fewB cs xs ks with
  | false =>
    refine ⟨max K1 K2, fun k hk => ?_⟩
    show alumlaw20_SchemaFitsMatchesSpec.f k nm cs xs ks r = some true
    unfold alumlaw20_SchemaFitsMatchesSpec.f alumlaw20_sanity.f
    rw [e1 k (by omega), hf]
    exact e2 k (by omega)
  | true =>
    by_cases hr : (r.length : Int) > 20
    · refine ⟨max K1 K2, fun k hk => ?_⟩
      show alumlaw20_SchemaFitsMatchesSpec.f k nm cs xs ks r = some true
      unfold alumlaw20_SchemaFitsMatchesSpec.f alumlaw20_sanity.f
      rw [e1 k (by omega), hf, decide_eq_true hr]
      exact e2 k (by omega)
    · have hl := (fewB_len hf).1
      have hx := extend_eq nm cs xs ks r (by omega) (by omega)
      obtain ⟨K3, e3⟩ := refExt nm cs xs ks r (by omega) (by omega)
      obtain ⟨K4, e4⟩ := sameRow_refl (extE cs r) (by unfold extE; simp; omega)
      dsimp only at e3 e4
      refine ⟨max K1 (max K3 K4) + 1, fun k hk => ?_⟩
      obtain ⟨k, rfl⟩ : ∃ m, k = m + 1 := ⟨k - 1, by omega⟩
      show alumlaw20_SchemaFitsMatchesSpec.f (k + 1) nm cs xs ks r = some true
      unfold alumlaw20_SchemaFitsMatchesSpec.f alumlaw20_sanity.f
      rw [e1 (k + 1) (by omega), hf, decide_eq_false hr]
      simp only [Option.bind_some, if_true, alumlaw20_SchemaFitsMatchesSpec.j0, Bool.false_eq_true, if_false]
      rw [hx]
      unfold schema_Fits.f alumref20_Fits.f
      simp only [Option.bind_some, if_true]
      rw [e3 k (by omega)]
      simp only [Option.bind_some]
      rw [e4 k (by omega)]
      rfl
theorem w10 (nm : ByteArray) (A1 : Option Addr) (c1 : Nat) (cs : List S56) (A2 : Option Addr) (c2 : Nat) (xs : List S65) (A3 : Option Addr) (c3 : Nat) (ks : List S42) (A4 : Option Addr) (c4 : Nat) (r : List S40) (w : World) (hT : Tab w nm A1 c1 cs A2 c2 xs A3 c3 ks) (hr : Kd.C k40 w A4 r.length r) (hc : r.length ≤ c4) (hp : ∀ x, x ∈ r → p40 x) :
    Calls Try.prog 10 #[.agg #[.string nm, .slice A1 cs.length c1, .slice A2 xs.length c2, .slice A3 ks.length c3], .slice A4 r.length c4] w fun e w' => e = .returned (.bool true) ∧ Below w.heap.size w w' := by
  obtain ⟨k, h⟩ := (p10 nm cs xs ks r hT.r2.2.1).get
  exact alumlaw20_SchemaFitsMatchesSpec.calls k nm A1 c1 cs A2 c2 xs A3 c3 ks A4 c4 r true w hT.r1 hT.l1 hT.r2 hT.l2 hT.r3 hT.l3 hr hc h
end Go.Proofs.Ytkopbaikmlajmaa.Q
