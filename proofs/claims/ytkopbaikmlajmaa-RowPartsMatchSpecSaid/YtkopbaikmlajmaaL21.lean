/- trimmed to what this claim's texts name -/
import Derived.Test.YtkopbaikmlajmaaO
import Derived.Test.YtkopbaikmlajmaaG21
import Derived.Test.YtkopbaikmlajmaaG32
import Derived.Test.YtkopbaikmlajmaaF33
import Derived.Test.YtkopbaikmlajmaaG36
namespace Go.Proofs.Ytkopbaikmlajmaa.Q
open Go.RowKit Go.Proofs.YtkopbaikmlajmaaW.PrintWords Go.Proofs.YtkopbaikmlajmaaW.PrintLast Go.Proofs.YtkopbaikmlajmaaW.PrintMore
set_option linter.unusedVariables false
set_option linter.unusedSimpArgs false
section
variable (A4 : Option Addr) (c4 : Nat) (r : List S40) (A5 : Option Addr) (c5 : Nat) (o : List S40) (A6 : Option Addr) (c6 : Nat) (cols : List Int) (w : World)
theorem c35 (hr : Kd.C k40 w A4 r.length r) (hc : r.length ≤ c4) (h6 : (Kd.int .i64).C w A6 cols.length cols) (hc6 : cols.length ≤ c6) (hm : cols.length ≤ 1000000) :
    Calls Try.prog 35 #[.slice A4 r.length c4, .slice A6 cols.length c6] w fun e w' => ∃ A c, e = .returned (.tuple #[.slice A (projE r cols).1.length c, .int .i64 (projE r cols).2]) ∧ (projE r cols).1.length ≤ c ∧ Kd.C k40 w' A (projE r cols).1.length (projE r cols).1 ∧ Below w.heap.size w w' := by
  obtain ⟨k, h⟩ := (proj_eq r cols hm).get
  refine (row_Project.calls k A4 c4 r A6 c6 cols (projE r cols).1 (projE r cols).2 w hr hc h6 hc6 h).mono ?_
  rintro e w' ⟨v, rfl, hR, hb⟩
  obtain ⟨A, c, rfl, hl, hC⟩ := Kd.R_reads hR
  exact ⟨A, c, rfl, hl, hC, hb⟩
theorem c65 (hr : Kd.C k40 w A4 r.length r) (hc : r.length ≤ c4) (h6 : (Kd.int .i64).C w A6 cols.length cols) (hc6 : cols.length ≤ c6) (hm : cols.length ≤ 1000000) :
    Calls Try.prog 65 #[.slice A4 r.length c4, .slice A6 cols.length c6] w fun e w' => ∃ A c, e = .returned (.tuple #[.slice A (projE r cols).1.length c, .int .i64 (projE r cols).2]) ∧ (projE r cols).1.length ≤ c ∧ Kd.C k40 w' A (projE r cols).1.length (projE r cols).1 ∧ Below w.heap.size w w' := by
  obtain ⟨k, h⟩ := (refProj_eq r cols hm).get
  refine (alumref21_Project.calls k A4 c4 r A6 c6 cols (projE r cols).1 (projE r cols).2 w hr hc h6 hc6 h).mono ?_
  rintro e w' ⟨v, rfl, hR, hb⟩
  obtain ⟨A, c, rfl, hl, hC⟩ := Kd.R_reads hR
  exact ⟨A, c, rfl, hl, hC, hb⟩
theorem c36 (hr : Kd.C k40 w A4 r.length r) (hc : r.length ≤ c4) (h5 : Kd.C k40 w A5 o.length o) (hc5 : o.length ≤ c5) (h1 : r.length ≤ 1000000) (h2 : o.length ≤ 1000000) :
    Calls Try.prog 36 #[.slice A4 r.length c4, .slice A5 o.length c5] w fun e w' => ∃ A c, e = .returned (.slice A (diffE r o).length c) ∧ (diffE r o).length ≤ c ∧ (Kd.int .i64).C w' A (diffE r o).length (diffE r o) ∧ Below w.heap.size w w' := by
  obtain ⟨k, h⟩ := (diff_eq r o h1 h2).get
  refine (row_Diff.calls k A4 c4 r A5 c5 o _ w hr hc h5 hc5 h).mono ?_
  rintro e w' ⟨v, rfl, hR, hb⟩
  obtain ⟨A, c, rfl, hl, hC⟩ := Kd.R_reads hR
  exact ⟨A, c, rfl, hl, hC, hb⟩
theorem c67 (hr : Kd.C k40 w A4 r.length r) (hc : r.length ≤ c4) (h5 : Kd.C k40 w A5 o.length o) (hc5 : o.length ≤ c5) (h1 : r.length ≤ 1000000) (h2 : o.length ≤ 1000000) :
    Calls Try.prog 67 #[.slice A4 r.length c4, .slice A5 o.length c5] w fun e w' => ∃ A c, e = .returned (.slice A (diffE r o).length c) ∧ (diffE r o).length ≤ c ∧ (Kd.int .i64).C w' A (diffE r o).length (diffE r o) ∧ Below w.heap.size w w' := by
  obtain ⟨k, h⟩ := (refDiff_eq r o h1 h2).get
  refine (alumref21_Diff.calls k A4 c4 r A5 c5 o _ w hr hc h5 hc5 h).mono ?_
  rintro e w' ⟨v, rfl, hR, hb⟩
  obtain ⟨A, c, rfl, hl, hC⟩ := Kd.R_reads hR
  exact ⟨A, c, rfl, hl, hC, hb⟩
theorem c30same (h6 : (Kd.int .i64).C w A6 cols.length cols) (hc6 : cols.length ≤ c6) (h4 : (Kd.int .i64).C w A4 cols.length cols) (hc4 : cols.length ≤ c4) :
    Calls Try.prog 30 #[.slice A6 cols.length c6, .slice A4 cols.length c4] w fun e w' => e = .returned (.bool true) ∧ Drawn0 w w' := by
  obtain ⟨k, h⟩ := (sameInts_refl cols h6.2.1).get
  exact alumref20_SameInts.calls k A6 c6 cols A4 c4 cols true w h6 hc6 h4 hc4 h
theorem c37same (h6 : Kd.C k40 w A5 r.length r) (hc6 : r.length ≤ c5) (h4 : Kd.C k40 w A4 r.length r) (hc4 : r.length ≤ c4) (hm : r.length ≤ 1000000) :
    Calls Try.prog 37 #[.slice A5 r.length c5, .slice A4 r.length c4] w fun e w' => e = .returned (.bool true) ∧ Below w.heap.size w w' := by
  obtain ⟨k, h⟩ := (same21_refl r hm).get
  exact alumref21_Same.calls k A5 c5 r A4 c4 r true w h6 hc6 h4 hc4 h
end
theorem projT_len (r : List S40) (cols : List Int) : ∀ (d i : Nat) (out : List S40), (projT r cols i d out).1.length ≤ out.length + d
  | 0, i, out => by rw [projT]; exact Nat.le_refl _
  | d + 1, i, out => by
    rw [projT]
    split
    · simp
    · have := projT_len r cols d (i + 1) (out ++ [rd_T40 r (rd cols (i : Int))])
      rw [List.length_append, List.length_singleton] at this
      omega
theorem updS_len {r : List S40} {cols : List Int} {vals : List S40} : ∀ (i : Nat) (o : List S40), updS r cols vals i = some o → o.length = r.length
  | 0, o, h => by cases h; rfl
  | i + 1, o, h => by
    have h' : (updS r cols vals i).bind (fun o => if (cols.take i).contains (rd cols (i : Int)) = true then none else some (o.set (rd cols (i : Int)).toNat (rd_T40 vals (i : Int)))) = some o := h
    cases hu : updS r cols vals i with
    | none => rw [hu] at h'; cases h'
    | some q =>
      rw [hu] at h'
      simp only [Option.bind_some] at h'
      split at h'
      · cases h'
      · cases h'
        rw [List.length_set]
        exact updS_len i q hu
theorem updR_len (nm : ByteArray) (cs : List S56) (xs : List S65) (ks : List S42) (r : List S40) (cols : List Int) (vals : List S40) : (updR nm cs xs ks r cols vals).1.length ≤ r.length := by
  unfold updR
  split
  · simp
  · cases h : updS r cols vals cols.length with
    | none => simp
    | some o =>
      simp only
      split
      · exact Nat.le_of_eq (updS_len _ _ h)
      · simp
theorem c32two (nm : ByteArray) (A1 : Option Addr) (c1 : Nat) (cs : List S56) (A2 : Option Addr) (c2 : Nat) (xs : List S65) (A3 : Option Addr) (c3 : Nat) (ks : List S42) (A4 : Option Addr) (c4 : Nat) (r : List S40) (A5 : Option Addr) (c5 : Nat) (o : List S40) (b : Nat) (w : World) (hT : Tab w nm A1 c1 cs A2 c2 xs A3 c3 ks)
    (hb : w.heap[b]? = some (.cells #[.slice A4 r.length c4, .slice A5 o.length c5] 37 (0, 0))) (h4 : Kd.C k40 w A4 r.length r) (hc4 : r.length ≤ c4) (h5 : Kd.C k40 w A5 o.length o) (hc5 : o.length ≤ c5) :
    Calls Try.prog 32 #[.agg #[.string nm, .slice A1 cs.length c1, .slice A2 xs.length c2, .slice A3 ks.length c3], .slice (some ⟨b, 0, none⟩) 2 2] w fun e w' => e = .returned (.bool (valid21 nm cs xs ks [r, o])) ∧ Below w.heap.size w w' := by
  obtain ⟨k, h⟩ := (valid21_eq nm cs xs ks [r, o] hT.r1.2.1 hT.r2.2.1 (len65 hT.r2) hT.r3.2.1 (by simp) (by
    intro q hq
    rcases List.mem_cons.1 hq with rfl | hq
    · exact h4.2.1
    · obtain rfl := List.mem_singleton.1 hq
      exact h5.2.1)).get
  exact alumref21_Valid.calls k nm A1 c1 cs A2 c2 xs A3 c3 ks (some ⟨b, 0, none⟩) 2 [r, o] _ w hT.r1 hT.l1 hT.r2 hT.l2 hT.r3 hT.l3 (C_rows hb h4 hc4 h5 hc5) (Nat.le_refl 2) h
set_option maxHeartbeats 4000000 in
set_option maxRecDepth 100000 in
theorem w21 (nm : ByteArray) (A1 : Option Addr) (c1 : Nat) (cs : List S56) (A2 : Option Addr) (c2 : Nat) (xs : List S65) (A3 : Option Addr) (c3 : Nat) (ks : List S42) (A4 : Option Addr) (c4 : Nat) (r : List S40) (A5 : Option Addr) (c5 : Nat) (o : List S40) (A6 : Option Addr) (c6 : Nat) (cols : List Int) (w : World) (hT : Tab w nm A1 c1 cs A2 c2 xs A3 c3 ks) (hr : Kd.C k40 w A4 r.length r) (hc : r.length ≤ c4) (hp : ∀ x, x ∈ r → p40 x) (hr5 : Kd.C k40 w A5 o.length o) (hc5 : o.length ≤ c5) (hp5 : ∀ x, x ∈ o → p40 x) (hr6 : (Kd.int .i64).C w A6 cols.length cols) (hc6 : cols.length ≤ c6) (hp6 : ∀ x, x ∈ cols → inI x) :
    Calls Try.prog 21 #[.agg #[.string nm, .slice A1 cs.length c1, .slice A2 xs.length c2, .slice A3 ks.length c3], .slice A4 r.length c4, .slice A5 o.length c5, .slice A6 cols.length c6] w fun e w' => e = .returned (.bool true) ∧ Below w.heap.size w w' := by
  have hu28 := Try.underlying28
  have m6 : cols.length ≤ 9223372036854775807 := hr6.2.1
  have T := Aside0.mk hT
  have R4 := Aside0.mk hr
  have C4 := Aside0.mk hc
  have R5 := Aside0.mk hr5
  have C5 := Aside0.mk hc5
  have R6 := Aside0.mk hr6
  have C6 := Aside0.mk hc6
  clear hT hr hc hp hr5 hc5 hp5 hr6 hc6 hp6
  go_enter Try.func21, Try.ntmps21
  go_wp2_with fail
  obtain ⟨w0, hw0⟩ : ∃ w0, w0 = (w.alloc (.cells #[.string nm, .slice A1 cs.length c1, .slice A2 xs.length c2, .slice A3 ks.length c3] 28)).alloc (.cells #[.slice A4 r.length c4, .slice A5 o.length c5] 37) := ⟨_, rfl⟩
  have HB := Aside0.mk (show Below w.heap.size w w0 from hw0 ▸ below_step (below_al w _) (below_al _ _))
  have HT0 := Aside0.mk (show w0.heap[w.heap.size]? = some (.cells #[.string nm, .slice A1 cs.length c1, .slice A2 xs.length c2, .slice A3 ks.length c3] 28 (0, 0)) from hw0 ▸ blk_alloc (blk_new w _) _)
  have HV0 := Aside0.mk (show w0.heap[w.heap.size + 1]? = some (.cells #[.slice A4 r.length c4, .slice A5 o.length c5] 37 (0, 0)) by
    rw [hw0, show w.heap.size + 1 = (w.alloc (.cells #[.string nm, .slice A1 cs.length c1, .slice A2 xs.length c2, .slice A3 ks.length c3] 28)).heap.size by simp]; exact blk_new _ _)
  rw [← hw0]
  clear hw0
  obtain ⟨b, hb⟩ : ∃ b, b = w.heap.size := ⟨_, rfl⟩
  rw [← hb] at HT0 HV0 ⊢
  clear hb
  replace T := Aside0.mk (T.out.below HB.out)
  replace R4 := Aside0.mk (Kd.C_below R4.out HB.out)
  replace R5 := Aside0.mk (Kd.C_below R5.out HB.out)
  replace R6 := Aside0.mk (Kd.C_below R6.out HB.out)
  refine (c32two nm A1 c1 cs A2 c2 xs A3 c3 ks A4 c4 r A5 c5 o (b + 1) w0 T.out HV0.out R4.out C4.out R5.out C5.out).mono ?_
  rintro e w1 ⟨rfl, hb⟩
  have HC := Aside0.mk hb
  clear hb
  cases hV : valid21 nm cs xs ks [r, o] with
  | false =>
    go_wp2_with (go_at_call 33; refine (c33 _).mono ?_; rintro e w2 ⟨rfl, hb⟩)
    go_ret
    exact ⟨rfl, below_step HB.out (below_step HC.out hb)⟩
  | true =>
  obtain ⟨_, _, hall⟩ := valid21_parts hV
  have hr20 := (hall r (by simp)).1
  have ho20 := (hall o (by simp)).1
  clear hV hall
  by_cases hlen : 20 < cols.length
  · have h1 : decide ((20 : Int) < (cols.length : Int)) = true := decide_eq_true (by omega)
    have h2 : decide (20 < cols.length) = true := decide_eq_true (by omega)
    go_wp2_with (go_at_call 33; refine (c33 _).mono ?_; rintro e w2 ⟨rfl, hb⟩)
    go_ret
    exact ⟨rfl, below_step HB.out (below_step HC.out hb)⟩
  have h1 : decide ((20 : Int) < (cols.length : Int)) = false := decide_eq_false (by omega)
  have h2 : decide (20 < cols.length) = false := decide_eq_false (by omega)
  have HL := Aside0.mk (show cols.length ≤ 20 by omega)
  have HR20 := Aside0.mk hr20
  have HO20 := Aside0.mk ho20
  clear hr20 ho20 hlen m6
  go_wp2_with fail
  clear h1 h2
  refine (c35 A4 c4 r A6 c6 cols w1 (Kd.C_below R4.out HC.out) C4.out (Kd.C_below R6.out HC.out) C6.out (by have := HL.out; omega)).mono ?_
  rintro e w2 ⟨Aa, ca, rfl, hla, hCa, hb⟩
  replace HC := Aside0.mk (below_step HC.out hb)
  have LA := Aside0.mk hla
  have CA := Aside0.mk hCa
  clear hb hla hCa
  go_wp2_with fail
  refine (c65 A4 c4 r A6 c6 cols w2 (Kd.C_below R4.out HC.out) C4.out (Kd.C_below R6.out HC.out) C6.out (by have := HL.out; omega)).mono ?_
  rintro e w3 ⟨Ab, cb, rfl, hla, hCa, hb⟩
  replace HC := Aside0.mk (below_step HC.out hb)
  replace CA := Aside0.mk (Kd.C_below CA.out hb)
  have LB := Aside0.mk hla
  have CB := Aside0.mk hCa
  clear hb hla hCa w1 w2
  have hT := (HC.out.block _ (Array.getElem?_eq_some_iff.1 HT0.out).1).trans HT0.out
  have t0 := show w3.cell? ⟨b, 0, none⟩ = some (.string nm) from blk_cell hT 0
  have t1 := show w3.cell? ⟨b, 1, none⟩ = some (.slice A1 cs.length c1) from blk_cell hT 1
  have t2 := show w3.cell? ⟨b, 2, none⟩ = some (.slice A2 xs.length c2) from blk_cell hT 2
  have t3 := show w3.cell? ⟨b, 3, none⟩ = some (.slice A3 ks.length c3) from blk_cell hT 3
  clear hT
  go_wp2_with fail
  clear t0 t1 t2 t3
  have T1 := T.out.below HC.out
  refine (c34 nm A1 c1 cs A2 c2 xs A3 c3 ks A4 c4 r A6 c6 cols A5 c5 o w3 T1.r1 T1.l1 T1.r2 T1.l2 T1.r3 T1.l3 (Kd.C_below R4.out HC.out) C4.out (by have := HR20.out; omega) (Kd.C_below R6.out HC.out) C6.out (Kd.C_below R5.out HC.out) C5.out).mono ?_
  clear T1
  rintro e w4 ⟨v, rfl, hR, hb⟩
  obtain ⟨Ax, cx, rfl, hla, hCa⟩ := Kd.R_reads hR
  replace HC := Aside0.mk (below_step HC.out hb)
  replace CA := Aside0.mk (Kd.C_below CA.out hb)
  replace CB := Aside0.mk (Kd.C_below CB.out hb)
  have LX := Aside0.mk hla
  have CX := Aside0.mk hCa
  clear hb hla hCa hR w3
  have hT := (HC.out.block _ (Array.getElem?_eq_some_iff.1 HT0.out).1).trans HT0.out
  have t0 := show w4.cell? ⟨b, 0, none⟩ = some (.string nm) from blk_cell hT 0
  have t1 := show w4.cell? ⟨b, 1, none⟩ = some (.slice A1 cs.length c1) from blk_cell hT 1
  have t2 := show w4.cell? ⟨b, 2, none⟩ = some (.slice A2 xs.length c2) from blk_cell hT 2
  have t3 := show w4.cell? ⟨b, 3, none⟩ = some (.slice A3 ks.length c3) from blk_cell hT 3
  clear hT
  go_wp2_with fail
  clear t0 t1 t2 t3
  have T1 := T.out.below HC.out
  obtain ⟨k, hk⟩ := (refUpd_eq nm cs xs ks r cols o (by have := HR20.out; omega) (by have := HL.out; omega)).get
  refine (alumref21_Update.calls k nm A1 c1 cs A2 c2 xs A3 c3 ks A4 c4 r A6 c6 cols A5 c5 o (updR nm cs xs ks r cols o).1 (updR nm cs xs ks r cols o).2 w4 T1.r1 T1.l1 T1.r2 T1.l2 T1.r3 T1.l3 (Kd.C_below R4.out HC.out) C4.out (Kd.C_below R6.out HC.out) C6.out (Kd.C_below R5.out HC.out) C5.out hk).mono ?_
  clear T1 hk
  rintro e w5 ⟨v, rfl, hR, hb⟩
  obtain ⟨Ay, cy, rfl, hla, hCa⟩ := Kd.R_reads hR
  replace HC := Aside0.mk (below_step HC.out hb)
  replace CA := Aside0.mk (Kd.C_below CA.out hb)
  replace CB := Aside0.mk (Kd.C_below CB.out hb)
  replace CX := Aside0.mk (Kd.C_below CX.out hb)
  have LY := Aside0.mk hla
  have CY := Aside0.mk hCa
  clear hb hla hCa hR w4
  go_wp2_with fail
  refine (c33 w5).mono ?_
  rintro e w6 ⟨rfl, hb⟩
  replace HC := Aside0.mk (below_step HC.out hb)
  replace CA := Aside0.mk (Kd.C_below CA.out hb)
  replace CB := Aside0.mk (Kd.C_below CB.out hb)
  replace CX := Aside0.mk (Kd.C_below CX.out hb)
  replace CY := Aside0.mk (Kd.C_below CY.out hb)
  clear hb w5
  have HPL := Aside0.mk (show (projE r cols).1.length ≤ 1000000 by
    have := projT_len r cols cols.length 0 []
    unfold projE
    have := HL.out
    simp at *
    omega)
  have HUL := Aside0.mk (show (updR nm cs xs ks r cols o).1.length ≤ 1000000 by
    have := updR_len nm cs xs ks r cols o
    have := HR20.out
    omega)
  generalize (projE r cols) = pp at *
  generalize (updR nm cs xs ks r cols o) = uu at *
  obtain ⟨pl, pe⟩ := pp
  obtain ⟨ul, ue⟩ := uu
  go_wp2_with fail
  refine (c37same Ab cb pl Aa ca w6 CA.out LA.out CB.out LB.out HPL.out).mono ?_
  rintro e w7 ⟨rfl, hb⟩
  replace HC := Aside0.mk (below_step HC.out hb)
  replace CX := Aside0.mk (Kd.C_below CX.out hb)
  replace CY := Aside0.mk (Kd.C_below CY.out hb)
  clear hb CA CB
  go_wp2_with fail
  refine (c37same Ay cy ul Ax cx w7 CX.out LX.out CY.out LY.out HUL.out).mono ?_
  rintro e w8 ⟨rfl, hb⟩
  replace HC := Aside0.mk (below_step HC.out hb)
  clear hb CX CY
  go_wp2_with fail
  refine (c36 A4 c4 r A5 c5 o w8 (Kd.C_below R4.out HC.out) C4.out (Kd.C_below R5.out HC.out) C5.out (by have := HR20.out; omega) (by have := HO20.out; omega)).mono ?_
  rintro e w9 ⟨Ad, cd, rfl, hla, hCa, hb⟩
  replace HC := Aside0.mk (below_step HC.out hb)
  have LD := Aside0.mk hla
  have CD := Aside0.mk hCa
  clear hb hla hCa
  go_wp2_with fail
  refine (c67 A4 c4 r A5 c5 o w9 (Kd.C_below R4.out HC.out) C4.out (Kd.C_below R5.out HC.out) C5.out (by have := HR20.out; omega) (by have := HO20.out; omega)).mono ?_
  rintro e w10 ⟨Ae, ce, rfl, hla, hCa, hb⟩
  replace HC := Aside0.mk (below_step HC.out hb)
  replace CD := Aside0.mk (Kd.C_below CD.out hb)
  have LE := Aside0.mk hla
  have CE := Aside0.mk hCa
  clear hb hla hCa
  go_wp2_with fail
  refine (c30same Ae ce Ad cd (diffE r o) w10 CD.out LD.out CE.out LE.out).mono ?_
  rintro e w11 ⟨rfl, hd⟩
  replace HC := Aside0.mk (below_step HC.out hd.below)
  go_wp2_with fail
  go_ret
  exact ⟨rfl, below_step HB.out HC.out⟩
end Go.Proofs.Ytkopbaikmlajmaa.Q
