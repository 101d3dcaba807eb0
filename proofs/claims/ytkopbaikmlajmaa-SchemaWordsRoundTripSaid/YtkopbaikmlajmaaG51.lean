/- trimmed to what these claims' texts use -/
import Derived.Test.YtkopbaikmlajmaaF51
import Derived.Test.YtkopbaikmlajmaaG27
import Derived.Test.YtkopbaikmlajmaaO
namespace Go.Proofs.Ytkopbaikmlajmaa.Q
open Go.RowKit Go.Proofs.YtkopbaikmlajmaaW.PrintWords Go.Proofs.YtkopbaikmlajmaaW.PrintLast Go.Proofs.YtkopbaikmlajmaaW.PrintMore
set_option linter.unusedVariables false
set_option linter.unusedSimpArgs false
theorem ints_refl_l0 (a : List Int) (hn : a.length ≤ 9223372036854775807) : ∀ (d i : Nat), i + d = a.length → Evs (fun k => alumref20_SameInts.l0 k a a (i : Int)) true
 | 0, i, h => by
  refine (Evs.const (g := some true) rfl).step (fun k => ?_)
  simp only [alumref20_SameInts.l0]
  rw [if_neg (by omega)]
 | d + 1, i, h => by
  refine (ints_refl_l0 a hn d (i + 1) (by omega)).step (fun k => ?_)
  simp only [alumref20_SameInts.l0]
  rw [if_pos (by omega), if_pos (by omega), if_pos (by omega), if_pos trivial, wrap_succ (show i < a.length by omega) hn]
theorem ints_refl (a : List Int) (hn : a.length ≤ 9223372036854775807) : Evs (fun k => alumref20_SameInts.f k a a) true := by
 refine (ints_refl_l0 a hn a.length 0 (by omega)).congr (fun k => ?_)
 unfold alumref20_SameInts.f
 rw [if_pos rfl]
 rfl
section
variable (nm : ByteArray) (cs : List S56) (xs : List S65) (ks : List S42)
theorem same_l2 (hk : ks.length ≤ 9223372036854775807) : ∀ (d i : Nat), i + d = ks.length → Evs (fun k => alumref20_Same.l2 k (i : Int) nm cs xs ks nm cs xs ks) true
 | 0, i, h => by
  refine (Evs.const (g := some true) rfl).step (fun k => ?_)
  simp only [alumref20_Same.l2]
  rw [if_neg (by omega)]
 | d + 1, i, h => by
  refine (same_l2 hk d (i + 1) (by omega)).step (fun k => ?_)
  simp only [alumref20_Same.l2]
  rw [if_pos (by omega), if_pos (by omega), if_pos (by omega), if_neg (by simp), wrap_succ (show i < ks.length by omega) hk]
theorem same_l1 (hk : ks.length ≤ 9223372036854775807) (hx : xs.length ≤ 9223372036854775807) (hm : ∀ i, (rd_T65 xs i).f1.length ≤ 9223372036854775807) : ∀ (d i : Nat), i + d = xs.length → Evs (fun k => alumref20_Same.l1 k (i : Int) nm cs xs ks nm cs xs ks) true
 | 0, i, h => by
  refine (same_l2 nm cs xs ks hk ks.length 0 (by omega)).step (fun k => ?_)
  simp only [alumref20_Same.l1]
  rw [if_neg (by omega)]
  rfl
 | d + 1, i, h => by
  obtain ⟨K, hK⟩ := same_l1 hk hx hm d (i + 1) (by omega)
  obtain ⟨K2, hK2⟩ := ints_refl (rd_T65 xs (i : Int)).f1 (hm _)
  dsimp only at hK hK2
  refine ⟨max K K2 + 1, fun k hk => ?_⟩
  obtain ⟨k, rfl⟩ : ∃ m, k = m + 1 := ⟨k - 1, by omega⟩
  simp only [alumref20_Same.l1]
  rw [if_pos (by omega), if_pos (by omega), if_pos (by omega), hK2 k (by omega), Option.bind_some, wrap_succ (show i < xs.length by omega) hx]
  simp only [if_true, bne_self_eq_false, Bool.false_eq_true, if_false]
  exact hK k (by omega)
theorem same_l0T (hk : ks.length ≤ 9223372036854775807) (hx : xs.length ≤ 9223372036854775807) (hm : ∀ i, (rd_T65 xs i).f1.length ≤ 9223372036854775807) (hc : cs.length ≤ 9223372036854775807) : ∀ (d i : Nat), i + d = cs.length → Evs (fun k => alumref20_Same.l0 k (i : Int) nm cs xs ks nm cs xs ks) true
 | 0, i, h => by
  refine (same_l1 nm cs xs ks hk hx hm xs.length 0 (by omega)).step (fun k => ?_)
  simp only [alumref20_Same.l0]
  rw [if_neg (by omega)]
  rfl
 | d + 1, i, h => by
  refine (same_l0T hk hx hm hc d (i + 1) (by omega)).step (fun k => ?_)
  simp only [alumref20_Same.l0]
  rw [if_pos (by omega), if_pos (by omega), if_pos (by omega), if_neg (by simp), wrap_succ (show i < cs.length by omega) hc]
theorem sameT_refl (hk : ks.length ≤ 9223372036854775807) (hx : xs.length ≤ 9223372036854775807) (hm : ∀ i, (rd_T65 xs i).f1.length ≤ 9223372036854775807) (hc : cs.length ≤ 9223372036854775807) : Evs (fun k => alumref20_Same.f k nm cs xs ks nm cs xs ks) true := by
 have h := same_l0T nm cs xs ks hk hx hm hc cs.length 0 (by omega)
 refine Evs.congr (f := fun k => alumref20_Same.j0 k false nm cs xs ks nm cs xs ks) ?_ (fun k => ?_)
 ·refine h.step (fun k => ?_)
  simp only [alumref20_Same.j0]
  rw [if_neg (by decide)]
  rfl
 ·unfold alumref20_Same.f
  rw [if_pos rfl, if_pos rfl, if_pos rfl, show ((ks.length : Int) != (ks.length : Int)) = false by simp]
end
/-- The reference's Same of two tables that read alike. -/
theorem c51same (nm : ByteArray) (A1 : Option Addr) (c1 : Nat) (cs : List S56) (A2 : Option Addr) (c2 : Nat) (xs : List S65) (A3 : Option Addr) (c3 : Nat) (ks : List S42) (B1 : Option Addr) (d1 : Nat) (B2 : Option Addr) (d2 : Nat) (B3 : Option Addr) (d3 : Nat) (w : World)
  (h1 : Kd.C k56 w A1 cs.length cs) (l1 : cs.length ≤ c1) (h2 : Kd.C k65 w A2 xs.length xs) (l2 : xs.length ≤ c2) (h3 : Kd.C k42 w A3 ks.length ks) (l3 : ks.length ≤ c3)
  (g1 : Kd.C k56 w B1 cs.length cs) (m1 : cs.length ≤ d1) (g2 : Kd.C k65 w B2 xs.length xs) (m2 : xs.length ≤ d2) (g3 : Kd.C k42 w B3 ks.length ks) (m3 : ks.length ≤ d3) :
  Calls Try.prog 51 #[.agg #[.string nm, .slice A1 cs.length c1, .slice A2 xs.length c2, .slice A3 ks.length c3], .agg #[.string nm, .slice B1 cs.length d1, .slice B2 xs.length d2, .slice B3 ks.length d3]] w fun e w' => e = .returned (.bool true) ∧ Below w.heap.size w w' := by
 obtain ⟨k, h⟩ := (sameT_refl nm cs xs ks h3.2.1 h2.2.1 (len65 h2) h1.2.1).get
 exact alumref20_Same.calls k nm A1 c1 cs A2 c2 xs A3 c3 ks nm B1 d1 cs B2 d2 xs B3 d3 ks true w h1 l1 h2 l2 h3 l3 g1 m1 g2 m2 g3 m3 h
end Go.Proofs.Ytkopbaikmlajmaa.Q
