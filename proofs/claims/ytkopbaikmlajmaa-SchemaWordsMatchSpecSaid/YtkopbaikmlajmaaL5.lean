/- The walk of the statement about Words: true for every table. -/
import Derived.Test.YtkopbaikmlajmaaF5
import Derived.Test.YtkopbaikmlajmaaG29
import Derived.Test.YtkopbaikmlajmaaO
namespace Go.Proofs.Ytkopbaikmlajmaa.Q
open Go.RowKit Go.Proofs.YtkopbaikmlajmaaW.PrintWords Go.Proofs.YtkopbaikmlajmaaW.PrintLast Go.Proofs.YtkopbaikmlajmaaW.PrintMore
set_option linter.unusedVariables false
set_option linter.unusedSimpArgs false
theorem wordsL_length {nm : ByteArray} {cs : List S56} {xs : List S65} {ks : List S42} (T : OkT nm cs xs ks) : (wordsL nm cs xs ks).length ≤ 1000000 := by
  have hb : ∀ {α : Type} (f : α → List Int) (l : List α), (∀ x, x ∈ l → (f x).length ≤ 20) → (l.flatMap f).length ≤ 20 * l.length := by
    intro α f l
    induction l with
    | nil => intro _; simp
    | cons a l ih =>
      intro h
      rw [List.flatMap_cons, List.length_append, List.length_cons]
      have := ih (fun x hx => h x (List.mem_cons_of_mem _ hx))
      have := h a List.mem_cons_self
      omega
  have hn := nameB_size T.name
  have nc := T.nc
  have nx := T.nx
  have nk := T.nk
  have h1 := hb colW cs (fun x hx => by
    obtain ⟨i, hi, rfl⟩ := List.getElem_of_mem hx
    have := nameB_size (T.col i hi).1
    rw [rd56_nat cs i hi] at this
    unfold colW
    rw [List.length_cons, textW_length]
    omega)
  have h2 := hb idxW xs (fun x hx => by
    obtain ⟨i, hi, rfl⟩ := List.getElem_of_mem hx
    have := nameB_size (T.idx i hi).1
    rw [rd65_nat xs i hi] at this
    unfold idxW
    rw [List.length_cons, List.length_cons, textW_length]
    omega)
  have h3 := hb chkW ks (fun x hx => by
    obtain ⟨i, hi, rfl⟩ := List.getElem_of_mem hx
    have := valW_length (T.chk i hi).2.2.2.2.1
    rw [rd42_nat' ks i hi] at this
    unfold chkW
    rw [List.length_cons]
    omega)
  unfold wordsL headW
  simp only [List.length_append, List.length_cons, textW_length]
  omega
theorem wordsE_length (nm : ByteArray) (cs : List S56) (xs : List S65) (ks : List S42) : (wordsE nm cs xs ks).length ≤ 1000000 := by
  unfold wordsE
  split
  · rename_i h
    exact wordsL_length (okT h)
  · simp
theorem p5 (nm : ByteArray) (cs : List S56) (xs : List S65) (ks : List S42) (h1 : cs.length ≤ 9223372036854775807) (h2 : xs.length ≤ 9223372036854775807) (hm : ∀ i, (rd_T65 xs i).f1.length ≤ 9223372036854775807) (h3 : ks.length ≤ 9223372036854775807) :
    Evs (fun k => alumlaw20_SchemaWordsMatchSpec.f k nm cs xs ks) true := by
  obtain ⟨K1, e1⟩ := Few_ref nm cs xs ks h2
  obtain ⟨K2, e2⟩ := Words_ref nm cs xs ks h1 h2 hm h3
  obtain ⟨K3, e3⟩ := Same_ref (wordsE nm cs xs ks) (wordsE nm cs xs ks) (by have := wordsE_length nm cs xs ks; omega)
  dsimp only at e1 e2 e3
  refine ⟨max K1 (max K2 K3), fun k hk => ?_⟩
  show alumlaw20_SchemaWordsMatchSpec.f k nm cs xs ks = some true
  unfold alumlaw20_SchemaWordsMatchSpec.f schema_Words.f alumlaw20_sanity.f
  rw [e1 k (by omega), e2 k (by omega)]
  simp only [Option.bind_some]
  rw [e3 k (by omega)]
  cases fewB cs xs ks <;> simp
theorem w5 (nm : ByteArray) (A1 : Option Addr) (c1 : Nat) (cs : List S56) (A2 : Option Addr) (c2 : Nat) (xs : List S65) (A3 : Option Addr) (c3 : Nat) (ks : List S42) (w : World) (hT : Tab w nm A1 c1 cs A2 c2 xs A3 c3 ks) :
    Calls Try.prog 5 #[.agg #[.string nm, .slice A1 cs.length c1, .slice A2 xs.length c2, .slice A3 ks.length c3]] w fun e w' => e = .returned (.bool true) ∧ Below w.heap.size w w' := by
  obtain ⟨k, h⟩ := (p5 nm cs xs ks hT.r1.2.1 hT.r2.2.1 (len65 hT.r2) hT.r3.2.1).get
  exact alumlaw20_SchemaWordsMatchSpec.calls k nm A1 c1 cs A2 c2 xs A3 c3 ks true w hT.r1 hT.l1 hT.r2 hT.l2 hT.r3 hT.l3 h
end Go.Proofs.Ytkopbaikmlajmaa.Q
