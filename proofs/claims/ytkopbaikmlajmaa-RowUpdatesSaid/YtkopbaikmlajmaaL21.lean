/- trimmed to what this claim's texts name -/
import Derived.Test.YtkopbaikmlajmaaO
import Derived.Test.YtkopbaikmlajmaaG21
import Derived.Test.YtkopbaikmlajmaaG32
import Derived.Test.YtkopbaikmlajmaaF33
import Derived.Test.YtkopbaikmlajmaaG36
namespace Go.Proofs.Ytkopbaikmlajmaa.Q
open Go.RowKit Go.Proofs.YtkopbaikmlajmaaW.PrintWords Go.Proofs.YtkopbaikmlajmaaW.PrintLast Go.Proofs.YtkopbaikmlajmaaW.PrintMore
set_option linter.unusedVariables false
set_option linter.unusedSimpArgs false
section
variable (A4 : Option Addr) (c4 : Nat) (r : List S40) (A5 : Option Addr) (c5 : Nat) (o : List S40) (A6 : Option Addr) (c6 : Nat) (cols : List Int) (w : World)
theorem c35 (hr : Kd.C k40 w A4 r.length r) (hc : r.length ≤ c4) (h6 : (Kd.int .i64).C w A6 cols.length cols) (hc6 : cols.length ≤ c6) (hm : cols.length ≤ 1000000) :
    Calls Try.prog 35 #[.slice A4 r.length c4, .slice A6 cols.length c6] w fun e w' => ∃ A c, e = .returned (.tuple #[.slice A (projE r cols).1.length c, .int .i64 (projE r cols).2]) ∧ (projE r cols).1.length ≤ c ∧ Kd.C k40 w' A (projE r cols).1.length (projE r cols).1 ∧ Below w.heap.size w w' := by
  obtain ⟨k, h⟩ := (proj_eq r cols hm).get
  refine (row_Project.calls k A4 c4 r A6 c6 cols (projE r cols).1 (projE r cols).2 w hr hc h6 hc6 h).mono ?_
  rintro e w' ⟨v, rfl, hR, hb⟩
  obtain ⟨A, c, rfl, hl, hC⟩ := Kd.R_reads hR
  exact ⟨A, c, rfl, hl, hC, hb⟩
theorem c36 (hr : Kd.C k40 w A4 r.length r) (hc : r.length ≤ c4) (h5 : Kd.C k40 w A5 o.length o) (hc5 : o.length ≤ c5) (h1 : r.length ≤ 1000000) (h2 : o.length ≤ 1000000) :
    Calls Try.prog 36 #[.slice A4 r.length c4, .slice A5 o.length c5] w fun e w' => ∃ A c, e = .returned (.slice A (diffE r o).length c) ∧ (diffE r o).length ≤ c ∧ (Kd.int .i64).C w' A (diffE r o).length (diffE r o) ∧ Below w.heap.size w w' := by
  obtain ⟨k, h⟩ := (diff_eq r o h1 h2).get
  refine (row_Diff.calls k A4 c4 r A5 c5 o _ w hr hc h5 hc5 h).mono ?_
  rintro e w' ⟨v, rfl, hR, hb⟩
  obtain ⟨A, c, rfl, hl, hC⟩ := Kd.R_reads hR
  exact ⟨A, c, rfl, hl, hC, hb⟩
theorem c37same (h6 : Kd.C k40 w A5 r.length r) (hc6 : r.length ≤ c5) (h4 : Kd.C k40 w A4 r.length r) (hc4 : r.length ≤ c4) (hm : r.length ≤ 1000000) :
    Calls Try.prog 37 #[.slice A5 r.length c5, .slice A4 r.length c4] w fun e w' => e = .returned (.bool true) ∧ Below w.heap.size w w' := by
  obtain ⟨k, h⟩ := (same21_refl r hm).get
  exact alumref21_Same.calls k A5 c5 r A4 c4 r true w h6 hc6 h4 hc4 h
end
theorem updS_len {r : List S40} {cols : List Int} {vals : List S40} : ∀ (i : Nat) (o : List S40), updS r cols vals i = some o → o.length = r.length
  | 0, o, h => by cases h; rfl
  | i + 1, o, h => by
    have h' : (updS r cols vals i).bind (fun o => if (cols.take i).contains (rd cols (i : Int)) = true then none else some (o.set (rd cols (i : Int)).toNat (rd_T40 vals (i : Int)))) = some o := h
    cases hu : updS r cols vals i with
    | none => rw [hu] at h'; cases h'
    | some q =>
      rw [hu] at h'
      simp only [Option.bind_some] at h'
      split at h'
      · cases h'
      · cases h'
        rw [List.length_set]
        exact updS_len i q hu
theorem updR_len (nm : ByteArray) (cs : List S56) (xs : List S65) (ks : List S42) (r : List S40) (cols : List Int) (vals : List S40) : (updR nm cs xs ks r cols vals).1.length ≤ r.length := by
  unfold updR
  split
  · simp
  · cases h : updS r cols vals cols.length with
    | none => simp
    | some o =>
      simp only
      split
      · exact Nat.le_of_eq (updS_len _ _ h)
      · simp
theorem c32two (nm : ByteArray) (A1 : Option Addr) (c1 : Nat) (cs : List S56) (A2 : Option Addr) (c2 : Nat) (xs : List S65) (A3 : Option Addr) (c3 : Nat) (ks : List S42) (A4 : Option Addr) (c4 : Nat) (r : List S40) (A5 : Option Addr) (c5 : Nat) (o : List S40) (b : Nat) (w : World) (hT : Tab w nm A1 c1 cs A2 c2 xs A3 c3 ks)
    (hb : w.heap[b]? = some (.cells #[.slice A4 r.length c4, .slice A5 o.length c5] 37 (0, 0))) (h4 : Kd.C k40 w A4 r.length r) (hc4 : r.length ≤ c4) (h5 : Kd.C k40 w A5 o.length o) (hc5 : o.length ≤ c5) :
    Calls Try.prog 32 #[.agg #[.string nm, .slice A1 cs.length c1, .slice A2 xs.length c2, .slice A3 ks.length c3], .slice (some ⟨b, 0, none⟩) 2 2] w fun e w' => e = .returned (.bool (valid21 nm cs xs ks [r, o])) ∧ Below w.heap.size w w' := by
  obtain ⟨k, h⟩ := (valid21_eq nm cs xs ks [r, o] hT.r1.2.1 hT.r2.2.1 (len65 hT.r2) hT.r3.2.1 (by simp) (by
    intro q hq
    rcases List.mem_cons.1 hq with rfl | hq
    · exact h4.2.1
    · obtain rfl := List.mem_singleton.1 hq
      exact h5.2.1)).get
  exact alumref21_Valid.calls k nm A1 c1 cs A2 c2 xs A3 c3 ks (some ⟨b, 0, none⟩) 2 [r, o] _ w hT.r1 hT.l1 hT.r2 hT.l2 hT.r3 hT.l3 (C_rows hb h4 hc4 h5 hc5) (Nat.le_refl 2) h
end Go.Proofs.Ytkopbaikmlajmaa.Q
