/- cmp.Compare at strings, and the reference's comparison of values (functions 130 and 137 of the seat); for all arguments. -/
import Derived.Test.YtkopbaikmlajmaaF144
import Derived.Test.YtkopbaikmlajmaaH
import Derived.WalkLawsBesides
namespace Go.Proofs.Ytkopbaikmlajmaa.Q
open Go.RowKit Go.Proofs.YtkopbaikmlajmaaW.PrintWords Go.Proofs.YtkopbaikmlajmaaW.PrintLast Go.Proofs.YtkopbaikmlajmaaW.PrintMore

/-- Two strings compared. -/
def cmpS (a b : ByteArray) : Int := if Op.bytesLess a.toList b.toList = true then -1 else if a.toList = b.toList then 0 else 1
/-- Two values of one kind compared. -/
def cmpV (a b : S40) : Int := if a.f1 < b.f1 then -1 else if b.f1 < a.f1 then 1 else cmpS a.f2 b.f2
def cmp_Compare_string.f (a b : ByteArray) : Option Int := some (cmpS a b)
set_option maxHeartbeats 400000 in
theorem cmp_Compare_string.calls (a0 : ByteArray) (a1 : ByteArray) (r : Int) (w : World) (h : cmp_Compare_string.f a0 a1 = some r) :
    Calls Try.prog 130 #[.string a0, .string a1] w fun e w' => e = .returned (.int .i64 r) ∧ Drawn0 w w' := by
  have HR := Aside0.mk (Option.some.inj h)
  clear h
  have HN : Aside0 (∀ (s : ByteArray) (w : World), Calls Try.prog 144 #[.string s] w fun e w' => e = .returned (.bool false) ∧ Drawn0 w w') := ⟨fun s w => cmp_isNaN_string.calls s false w (by simp [cmp_isNaN_string.f])⟩
  cases h1 : Op.bytesLess a0.toList a1.toList with
  | true =>
    have HE : Aside0 (cmpS a0 a1 = -1) := ⟨by unfold cmpS; rw [if_pos h1]⟩
    go_enter Try.func130, Try.ntmps130
    go_wp2_with (go_at_call 144; refine (HN.out _ _).mono ?_; rintro e w' ⟨rfl, ⟨nd, rfl⟩⟩)
    go_ret
    exact ⟨by rw [← HR.out, HE.out]; rfl, by repeat (first | exact Drawn0.refl _ | apply Drawn0.step)⟩
  | false =>
    by_cases h2 : a0.toList = a1.toList
    · have HE : Aside0 (cmpS a0 a1 = 0) := ⟨by unfold cmpS; rw [if_neg (by rw [h1]; simp), if_pos h2]⟩
      have b2 : (a0.toList == a1.toList) = true := beq_iff_eq.2 h2
      clear h2
      go_enter Try.func130, Try.ntmps130
      go_wp2_with (go_at_call 144; refine (HN.out _ _).mono ?_; rintro e w' ⟨rfl, ⟨nd, rfl⟩⟩)
      go_ret
      exact ⟨by rw [← HR.out, HE.out]; rfl, by repeat (first | exact Drawn0.refl _ | apply Drawn0.step)⟩
    · have HE : Aside0 (cmpS a0 a1 = 1) := ⟨by unfold cmpS; rw [if_neg (by rw [h1]; simp), if_neg h2]⟩
      have b2 : (a0.toList == a1.toList) = false := beq_eq_false_iff_ne.2 h2
      clear h2
      go_enter Try.func130, Try.ntmps130
      go_wp2_with (go_at_call 144; refine (HN.out _ _).mono ?_; rintro e w' ⟨rfl, ⟨nd, rfl⟩⟩)
      go_ret
      exact ⟨by rw [← HR.out, HE.out]; rfl, by repeat (first | exact Drawn0.refl _ | apply Drawn0.step)⟩

def alumref20_Compare.f (a0_0 : Int) (a0_1 : Int) (a0_2 : ByteArray) (a1_0 : Int) (a1_1 : Int) (a1_2 : ByteArray) : Option Int := some (cmpV ⟨a0_0, a0_1, a0_2⟩ ⟨a1_0, a1_1, a1_2⟩)
set_option maxHeartbeats 800000 in
theorem alumref20_Compare.calls (a0_0 : Int) (a0_1 : Int) (a0_2 : ByteArray) (a1_0 : Int) (a1_1 : Int) (a1_2 : ByteArray) (r : Int) (w : World) (h : alumref20_Compare.f a0_0 a0_1 a0_2 a1_0 a1_1 a1_2 = some r) :
    Calls Try.prog 137 #[.agg #[.int .i64 a0_0, .int .i64 a0_1, .string a0_2], .agg #[.int .i64 a1_0, .int .i64 a1_1, .string a1_2]] w fun e w' => e = .returned (.int .i64 r) ∧ Below w.heap.size w w' := by
  have HR := Aside0.mk (Option.some.inj h)
  clear h
  have hu := Try.underlying40
  by_cases g1 : a0_1 < a1_1
  · have HE : Aside0 (cmpV ⟨a0_0, a0_1, a0_2⟩ ⟨a1_0, a1_1, a1_2⟩ = -1) := ⟨by unfold cmpV; rw [if_pos g1]⟩
    have d1 : decide (a0_1 < a1_1) = true := decide_eq_true g1
    go_enter Try.func137, Try.ntmps137
    go_wp2_with fail
    go_ret
    exact ⟨by rw [← HR.out, HE.out]; rfl, below_alloc (below_al w _) _⟩
  have d1 : decide (a0_1 < a1_1) = false := decide_eq_false g1
  by_cases g2 : a1_1 < a0_1
  · have HE : Aside0 (cmpV ⟨a0_0, a0_1, a0_2⟩ ⟨a1_0, a1_1, a1_2⟩ = 1) := ⟨by unfold cmpV; rw [if_neg g1, if_pos g2]⟩
    have d2 : decide (a1_1 < a0_1) = true := decide_eq_true g2
    have d3 : (a0_1 == a1_1) = false := beq_eq_false_iff_ne.2 (by omega)
    go_enter Try.func137, Try.ntmps137
    go_wp2_with fail
    go_ret
    exact ⟨by rw [← HR.out, HE.out]; rfl, below_alloc (below_al w _) _⟩
  have d2 : decide (a1_1 < a0_1) = false := decide_eq_false g2
  have d3 : (a0_1 == a1_1) = true := beq_iff_eq.2 (by omega)
  cases h1 : Op.bytesLess a0_2.toList a1_2.toList with
  | true =>
    have HE : Aside0 (cmpV ⟨a0_0, a0_1, a0_2⟩ ⟨a1_0, a1_1, a1_2⟩ = -1) := ⟨by unfold cmpV cmpS; rw [if_neg g1, if_neg g2, if_pos h1]⟩
    clear g1 g2
    go_enter Try.func137, Try.ntmps137
    go_wp2_with fail
    go_ret
    exact ⟨by rw [← HR.out, HE.out]; rfl, below_alloc (below_al w _) _⟩
  | false =>
    by_cases h2 : a0_2.toList = a1_2.toList
    · have HE : Aside0 (cmpV ⟨a0_0, a0_1, a0_2⟩ ⟨a1_0, a1_1, a1_2⟩ = 0) := ⟨by unfold cmpV cmpS; rw [if_neg g1, if_neg g2, if_neg (by rw [h1]; simp), if_pos h2]⟩
      have b2 : (a0_2.toList == a1_2.toList) = true := beq_iff_eq.2 h2
      clear h2 g1 g2
      go_enter Try.func137, Try.ntmps137
      go_wp2_with fail
      go_ret
      exact ⟨by rw [← HR.out, HE.out]; rfl, below_alloc (below_al w _) _⟩
    · have HE : Aside0 (cmpV ⟨a0_0, a0_1, a0_2⟩ ⟨a1_0, a1_1, a1_2⟩ = 1) := ⟨by unfold cmpV cmpS; rw [if_neg g1, if_neg g2, if_neg (by rw [h1]; simp), if_neg h2]⟩
      have b2 : (a0_2.toList == a1_2.toList) = false := beq_eq_false_iff_ne.2 h2
      clear h2 g1 g2
      go_enter Try.func137, Try.ntmps137
      go_wp2_with fail
      go_ret
      exact ⟨by rw [← HR.out, HE.out]; rfl, below_alloc (below_al w _) _⟩
end Go.Proofs.Ytkopbaikmlajmaa.Q
