/- trimmed to what this claim's texts name -/
import Derived.Test.YtkopbaikmlajmaaL21
import Derived.Test.YtkopbaikmlajmaaG7
namespace Go.Proofs.Ytkopbaikmlajmaa.Q
open Go.RowKit Go.Proofs.YtkopbaikmlajmaaW.PrintWords Go.Proofs.YtkopbaikmlajmaaW.PrintLast Go.Proofs.YtkopbaikmlajmaaW.PrintMore
set_option linter.unusedVariables false
set_option linter.unusedSimpArgs false
theorem updR_err (nm : ByteArray) (cs : List S56) (xs : List S65) (ks : List S42) (r : List S40) (cols : List Int) (vals : List S40) (h : (updR nm cs xs ks r cols vals).2 ≠ 0) : (updR nm cs xs ks r cols vals).1 = [] := by
  unfold updR at h ⊢
  split
  · rfl
  · rename_i hc
    rw [if_neg hc] at h
    cases hu : updS r cols vals cols.length with
    | none => rfl
    | some o =>
      rw [hu] at h
      simp only at h ⊢
      split
      · rename_i hf
        rw [if_pos hf] at h
        exact absurd rfl h
      · rfl
theorem rd_mem (d : List Int) (k : Nat) (h : k < d.length) : rd d (k : Int) ∈ d := by
  unfold rd
  rw [Int.toNat_natCast, List.getD_eq_getElem?_getD, List.getElem?_eq_getElem h]
  exact List.getElem_mem h
theorem rd_sorted (d : List Int) (m : Nat) (h : m + 1 < d.length) (hs : d.Pairwise (· < ·)) : rd d (m : Int) < rd d ((m + 1 : Nat) : Int) := by
  unfold rd
  rw [Int.toNat_natCast, Int.toNat_natCast, List.getD_eq_getElem?_getD, List.getD_eq_getElem?_getD, List.getElem?_eq_getElem (by omega), List.getElem?_eq_getElem h]
  exact List.pairwise_iff_getElem.1 hs m (m + 1) (by omega) h (by omega)
set_option maxHeartbeats 4000000 in
set_option maxRecDepth 100000 in
theorem w7 (nm : ByteArray) (A1 : Option Addr) (c1 : Nat) (cs : List S56) (A2 : Option Addr) (c2 : Nat) (xs : List S65) (A3 : Option Addr) (c3 : Nat) (ks : List S42) (A4 : Option Addr) (c4 : Nat) (r : List S40) (A6 : Option Addr) (c6 : Nat) (cols : List Int) (A5 : Option Addr) (c5 : Nat) (o : List S40) (w : World) (hT : Tab w nm A1 c1 cs A2 c2 xs A3 c3 ks) (hr : Kd.C k40 w A4 r.length r) (hc : r.length ≤ c4) (hp : ∀ x, x ∈ r → p40 x) (hr6 : (Kd.int .i64).C w A6 cols.length cols) (hc6 : cols.length ≤ c6) (hp6 : ∀ x, x ∈ cols → inI x) (hr5 : Kd.C k40 w A5 o.length o) (hc5 : o.length ≤ c5) (hp5 : ∀ x, x ∈ o → p40 x) :
    Calls Try.prog 7 #[.agg #[.string nm, .slice A1 cs.length c1, .slice A2 xs.length c2, .slice A3 ks.length c3], .slice A4 r.length c4, .slice A6 cols.length c6, .slice A5 o.length c5] w fun e w' => e = .returned (.bool true) ∧ Below w.heap.size w w' := by
  have hu28 := Try.underlying28
  have T := Aside0.mk hT
  have R4 := Aside0.mk hr
  have C4 := Aside0.mk hc
  have R5 := Aside0.mk hr5
  have C5 := Aside0.mk hc5
  have R6 := Aside0.mk hr6
  have C6 := Aside0.mk hc6
  clear hT hr hc hp hr5 hc5 hp5 hr6 hc6 hp6
  go_enter Try.func7, Try.ntmps7
  go_wp2_with fail
  obtain ⟨w0, hw0⟩ : ∃ w0, w0 = (w.alloc (.cells #[.string nm, .slice A1 cs.length c1, .slice A2 xs.length c2, .slice A3 ks.length c3] 28)).alloc (.cells #[.slice A4 r.length c4, .slice A5 o.length c5] 37) := ⟨_, rfl⟩
  have HB := Aside0.mk (show Below w.heap.size w w0 from hw0 ▸ below_step (below_al w _) (below_al _ _))
  have HT0 := Aside0.mk (show w0.heap[w.heap.size]? = some (.cells #[.string nm, .slice A1 cs.length c1, .slice A2 xs.length c2, .slice A3 ks.length c3] 28 (0, 0)) from hw0 ▸ blk_alloc (blk_new w _) _)
  have HV0 := Aside0.mk (show w0.heap[w.heap.size + 1]? = some (.cells #[.slice A4 r.length c4, .slice A5 o.length c5] 37 (0, 0)) by
    rw [hw0, show w.heap.size + 1 = (w.alloc (.cells #[.string nm, .slice A1 cs.length c1, .slice A2 xs.length c2, .slice A3 ks.length c3] 28)).heap.size by simp]; exact blk_new _ _)
  rw [← hw0]
  clear hw0
  obtain ⟨b, hb⟩ : ∃ b, b = w.heap.size := ⟨_, rfl⟩
  rw [← hb] at HT0 HV0 ⊢
  clear hb
  replace T := Aside0.mk (T.out.below HB.out)
  replace R4 := Aside0.mk (Kd.C_below R4.out HB.out)
  replace R5 := Aside0.mk (Kd.C_below R5.out HB.out)
  replace R6 := Aside0.mk (Kd.C_below R6.out HB.out)
  refine (c32two nm A1 c1 cs A2 c2 xs A3 c3 ks A4 c4 r A5 c5 o (b + 1) w0 T.out HV0.out R4.out C4.out R5.out C5.out).mono ?_
  rintro e w1 ⟨rfl, hb⟩
  have HC := Aside0.mk hb
  clear hb
  cases hV : valid21 nm cs xs ks [r, o] with
  | false =>
    go_wp2_with (go_at_call 33; refine (c33 _).mono ?_; rintro e w2 ⟨rfl, hb⟩)
    go_ret
    exact ⟨rfl, below_step HB.out (below_step HC.out hb)⟩
  | true =>
  obtain ⟨_, _, hall⟩ := valid21_parts hV
  have hr20 := (hall r (by simp)).1
  have ho20 := (hall o (by simp)).1
  clear hV hall
  by_cases hlen : 20 < cols.length
  · have h1 : decide ((20 : Int) < (cols.length : Int)) = true := decide_eq_true (by omega)
    have h2 : decide (20 < cols.length) = true := decide_eq_true (by omega)
    go_wp2_with (go_at_call 33; refine (c33 _).mono ?_; rintro e w2 ⟨rfl, hb⟩)
    go_ret
    exact ⟨rfl, below_step HB.out (below_step HC.out hb)⟩
  have h1 : decide ((20 : Int) < (cols.length : Int)) = false := decide_eq_false (by omega)
  have h2 : decide (20 < cols.length) = false := decide_eq_false (by omega)
  have HL := Aside0.mk (show cols.length ≤ 20 by omega)
  have HR20 := Aside0.mk hr20
  have HO20 := Aside0.mk ho20
  clear hr20 ho20 hlen
  have hT := (HC.out.block _ (Array.getElem?_eq_some_iff.1 HT0.out).1).trans HT0.out
  have t0 := show w1.cell? ⟨b, 0, none⟩ = some (.string nm) from blk_cell hT 0
  have t1 := show w1.cell? ⟨b, 1, none⟩ = some (.slice A1 cs.length c1) from blk_cell hT 1
  have t2 := show w1.cell? ⟨b, 2, none⟩ = some (.slice A2 xs.length c2) from blk_cell hT 2
  have t3 := show w1.cell? ⟨b, 3, none⟩ = some (.slice A3 ks.length c3) from blk_cell hT 3
  clear hT
  go_wp2_with fail
  clear t0 t1 t2 t3 h1 h2
  have T1 := T.out.below HC.out
  refine (c34 nm A1 c1 cs A2 c2 xs A3 c3 ks A4 c4 r A6 c6 cols A5 c5 o w1 T1.r1 T1.l1 T1.r2 T1.l2 T1.r3 T1.l3 (Kd.C_below R4.out HC.out) C4.out (by have := HR20.out; omega) (Kd.C_below R6.out HC.out) C6.out (Kd.C_below R5.out HC.out) C5.out).mono ?_
  clear T1
  rintro e w2 ⟨v, rfl, hR, hb⟩
  obtain ⟨Ax, cx, rfl, hla, hCa⟩ := Kd.R_reads hR
  replace HC := Aside0.mk (below_step HC.out hb)
  have LX := Aside0.mk hla
  have CX := Aside0.mk hCa
  clear hb hla hCa hR w1
  have hlx := updR_len nm cs xs ks r cols o
  cases hu : updR nm cs xs ks r cols o with
  | mk x ue =>
  rw [hu] at LX CX hlx
  by_cases he : ue = 0
  case neg =>
    obtain rfl : x = [] := by
      have := updR_err nm cs xs ks r cols o (by rw [hu]; exact he)
      rw [hu] at this
      exact this
    have he' : (ue != 0) = true := bne_iff_ne.2 he
    clear hu
    go_wp2_with (go_at_call 33; refine (c33 _).mono ?_; rintro e w3 ⟨rfl, hb⟩)
    go_ret
    exact ⟨rfl, below_step HB.out (below_step HC.out hb)⟩
  subst he
  have HLX := Aside0.mk (show x.length ≤ 20 by have := HR20.out; simp at hlx; omega)
  obtain ⟨q1, q2, q3, q4, q5⟩ := upd_law nm cs xs ks r cols o x hu (by have := HLX.out; omega)
  have Q1 := Aside0.mk q1
  have Q2 := Aside0.mk q2
  have Q3 := Aside0.mk q3
  have Q4 := Aside0.mk q4
  have Q5 := Aside0.mk q5
  clear hu hlx q1 q2 q3 q4 q5
  replace LX := Aside0.mk (show x.length ≤ cx from LX.out)
  replace CX := Aside0.mk (show Kd.C k40 w2 Ax x.length x from CX.out)
  go_wp2_with fail
  refine (c35 Ax cx x A6 c6 cols w2 CX.out LX.out (Kd.C_below R6.out HC.out) C6.out (by have := HL.out; omega)).mono ?_
  rw [Q1.out]
  rintro e w3 ⟨Ap, cp, rfl, hla, hCa, hb⟩
  replace HC := Aside0.mk (below_step HC.out hb)
  replace CX := Aside0.mk (Kd.C_below CX.out hb)
  have LP := Aside0.mk hla
  have CP := Aside0.mk hCa
  clear hb hla hCa w2
  go_wp2_with fail
  refine (c36 A4 c4 r Ax cx x w3 (Kd.C_below R4.out HC.out) C4.out CX.out LX.out (by have := HR20.out; omega) (by have := HLX.out; omega)).mono ?_
  rintro e w4 ⟨Ad, cd, rfl, hla, hCa, hb⟩
  replace HC := Aside0.mk (below_step HC.out hb)
  replace CX := Aside0.mk (Kd.C_below CX.out hb)
  replace CP := Aside0.mk (Kd.C_below CP.out hb)
  have LD := Aside0.mk hla
  have CD := Aside0.mk hCa
  clear hb hla hCa w3
  generalize diffE r x = d at *
  have hmd : d.length ≤ 9223372036854775807 := CD.out.2.1
  have hmc : cols.length ≤ 9223372036854775807 := R6.out.2.1
  go_wp2_with fail
  go_loopw [15] (fun v15 wr => ∃ k : Nat, k ≤ d.length ∧ v15 = .int .i64 k ∧ Aside0 (Below w4.heap.size w4 wr)) (fun v _ => d.length - (intOf v).toNat)
  case atStart => exact ⟨0, Nat.zero_le _, rfl, ⟨Below.refl _ _⟩⟩
  case round =>
    obtain ⟨k, hk, rfl, HBk⟩ := hrel
    by_cases hlt : k < d.length
    · obtain ⟨ad, rfl, hx0⟩ := Kd.at_int CD.out (k : Int) (by omega) (by omega)
      simp only [Int.toNat_natCast] at hx0
      have HX := Aside0.mk hx0
      clear hx0
      go_wp2_with fail
      go_loopw [16, 17] (fun v16 v17 wq => ∃ (i : Nat) (g : Bool), i ≤ cols.length ∧ v16 = .bool g ∧ v17 = .int .i64 i ∧ Aside0 (g = true ↔ ∃ j : Nat, j < i ∧ rd cols (j : Int) = rd d (k : Int)) ∧ Aside0 (Below w4.heap.size w4 wq)) (fun _ v _ => cols.length - (intOf v).toNat)
      case atStart => exact ⟨0, false, Nat.zero_le _, rfl, rfl, ⟨⟨fun h => (by cases h), fun ⟨j, hj, _⟩ => by omega⟩⟩, HBk⟩
      case round =>
        clear HBk
        obtain ⟨i, g, hi, rfl, rfl, HG, HBi⟩ := hrel
        by_cases hli : i < cols.length
        · obtain ⟨ac, rfl, hy0⟩ := Kd.at_int R6.out (i : Int) (by omega) (by omega)
          simp only [Int.toNat_natCast] at hy0
          have HY := Aside0.mk (keep HC.out hy0)
          clear hy0
          cases g with
          | true =>
            go_wp2_with fail
            refine region_reads (by kernel_rfl) (by kernel_rfl) ?_
            rintro w5 hw5
            have HB5 := Aside0.mk (below_step HBi.out (hw5 ▸ below_dr _))
            clear hw5
            iterate 13 (with_reducible refine wpStill_step (fun K hK => ?_); go_simp; (first | with_reducible refine hK _ ?_ | (rw [if_neg (by simp [undef])]; with_reducible refine hK _ ?_)); clear hK K)
            with_reducible refine wpStill_nil ?_
            go_wp2_with fail
            go_roundw
            case rel =>
              refine ⟨i + 1, true, by omega, rfl, by go_num, ⟨⟨fun _ => ?_, fun _ => rfl⟩⟩, HB5⟩
              obtain ⟨j, hj, e⟩ := HG.out.1 (by trivial)
              exact ⟨j, by omega, e⟩
            case measure => simp [intOf]; omega
          | false =>
            have hno : ¬ ∃ j : Nat, j < i ∧ rd cols (j : Int) = rd d (k : Int) := fun h => by have := HG.out.2 h; cases this
            have HNO := Aside0.mk hno
            clear hno
            by_cases heq : rd cols (i : Int) = rd d (k : Int)
            · have hbe : (rd cols (i : Int) == rd d (k : Int)) = true := beq_iff_eq.2 heq
              have HEQ := Aside0.mk heq
              clear heq
              go_wp2_with fail
              refine region_reads (by kernel_rfl) (by kernel_rfl) ?_
              rintro w5 hw5
              have HB5 := Aside0.mk (below_step HBi.out (hw5 ▸ below_dr _))
              have x0 := keep HB5.out HX.out
              have y0 := keep HB5.out HY.out
              clear hw5
              iterate 13 (with_reducible refine wpStill_step (fun K hK => ?_); go_simp; (first | with_reducible refine hK _ ?_ | (rw [if_neg (by simp [undef])]; with_reducible refine hK _ ?_)); clear hK K)
              with_reducible refine wpStill_nil ?_
              go_wp2_with fail
              go_roundw
              case rel => exact ⟨i + 1, true, by omega, by simp, by go_num, ⟨⟨fun _ => ⟨i, by omega, HEQ.out⟩, fun _ => rfl⟩⟩, HB5⟩
              case measure => simp [intOf]; omega
            · have hbe : (rd cols (i : Int) == rd d (k : Int)) = false := beq_eq_false_iff_ne.2 heq
              have HEQ := Aside0.mk heq
              clear heq
              go_wp2_with fail
              refine region_reads (by kernel_rfl) (by kernel_rfl) ?_
              rintro w5 hw5
              have HB5 := Aside0.mk (below_step HBi.out (hw5 ▸ below_dr _))
              have x0 := keep HB5.out HX.out
              have y0 := keep HB5.out HY.out
              clear hw5
              iterate 13 (with_reducible refine wpStill_step (fun K hK => ?_); go_simp; (first | with_reducible refine hK _ ?_ | (rw [if_neg (by simp [undef])]; with_reducible refine hK _ ?_)); clear hK K)
              with_reducible refine wpStill_nil ?_
              go_wp2_with fail
              go_roundw
              case rel =>
                refine ⟨i + 1, false, by omega, by simp, by go_num, ⟨⟨fun h => (by cases h), fun ⟨j, hj, e⟩ => ?_⟩⟩, HB5⟩
                rcases Nat.lt_succ_iff_lt_or_eq.1 hj with h | rfl
                · exact absurd ⟨j, h, e⟩ HNO.out
                · exact absurd e HEQ.out
              case measure => simp [intOf]; omega
        · obtain rfl : i = cols.length := by omega
          obtain ⟨hd0, hd1, jj, hjj, ejj⟩ := Q5.out (rd d (k : Int)) (rd_mem d k hlt)
          obtain rfl : g = true := HG.out.2 ⟨jj, hjj, ejj⟩
          have e1 : decide (rd d (k : Int) < 0) = false := decide_eq_false (by omega)
          have e2 : decide ((r.length : Int) ≤ rd d (k : Int)) = false := decide_eq_false (by omega)
          clear hd0 hd1 hjj ejj
          go_wp2_with fail
          by_cases hk0 : k = 0
          · have e3 : decide ((0 : Int) < (k : Int)) = false := decide_eq_false (by omega)
            have e3' : decide (0 < k) = false := decide_eq_false (by omega)
            have HK0 := Aside0.mk hk0
            clear hk0
            refine region_reads (by kernel_rfl) (by kernel_rfl) ?_
            rintro w5 hw5
            have HB5 := Aside0.mk (below_step HBi.out (hw5 ▸ below_dr _))
            have x0 := keep HB5.out HX.out
            clear hw5
            iterate 34 (with_reducible refine wpStill_step (fun K hK => ?_); go_simp; (first | with_reducible refine hK _ ?_ | (rw [if_neg (by simp [undef])]; with_reducible refine hK _ ?_)); clear hK K)
            with_reducible refine wpStill_nil ?_
            go_wp2_with fail
            go_roundw
            case rel => exact ⟨k + 1, by omega, by go_num, HB5⟩
            case measure => simp [intOf]; omega
          · obtain ⟨m, hm⟩ : ∃ m, k = m + 1 := ⟨k - 1, by omega⟩
            have hs := rd_sorted d m (by omega) Q4.out
            rw [← hm] at hs
            have e3 : decide ((0 : Int) < (k : Int)) = true := decide_eq_true (by omega)
            have e3' : decide (0 < k) = true := decide_eq_true (by omega)
            have e4 : decide (rd d (k : Int) ≤ rd d (m : Int)) = false := decide_eq_false (by omega)
            obtain ⟨ad2, ead, hm0⟩ := Kd.at_int CD.out (m : Int) (by omega) (by omega)
            injection ead with ead
            subst ead
            simp only [Int.toNat_natCast] at hm0
            have HM0 := Aside0.mk hm0
            have hz : IntKind.i64.wrap ((k : Int) - 1) = (m : Int) := by rw [wrap_i64_small _ (by omega) (by omega)]; omega
            have hmd2 : m < d.length := by omega
            have HKM := Aside0.mk hm
            clear hk0 hs hm0 hm
            refine region_reads (by kernel_rfl) (by kernel_rfl) ?_
            rintro w5 hw5
            have HB5 := Aside0.mk (below_step HBi.out (hw5 ▸ below_dr _))
            have x0 := keep HB5.out HX.out
            have m0 := keep HB5.out HM0.out
            clear hw5
            iterate 34 (with_reducible refine wpStill_step (fun K hK => ?_); go_simp; (first | with_reducible refine hK _ ?_ | (rw [if_neg (by simp [undef])]; with_reducible refine hK _ ?_)); clear hK K)
            with_reducible refine wpStill_nil ?_
            go_wp2_with fail
            go_roundw
            case rel => exact ⟨k + 1, by omega, by go_num, HB5⟩
            case measure => simp [intOf]; omega
    · obtain rfl : k = d.length := by omega
      replace HC := Aside0.mk (below_step HC.out HBk.out)
      replace CX := Aside0.mk (Kd.C_below CX.out HBk.out)
      replace CP := Aside0.mk (Kd.C_below CP.out HBk.out)
      clear HBk CD
      go_wp2_with fail
      refine (c33 wr).mono ?_
      rintro e w6 ⟨rfl, hb⟩
      replace HC := Aside0.mk (below_step HC.out hb)
      replace CX := Aside0.mk (Kd.C_below CX.out hb)
      replace CP := Aside0.mk (Kd.C_below CP.out hb)
      clear hb
      go_wp2_with fail
      refine (c37same A5 c5 o Ap cp w6 CP.out LP.out (Kd.C_below R5.out HC.out) C5.out (by have := HO20.out; omega)).mono ?_
      rintro e w7 ⟨rfl, hb⟩
      replace HC := Aside0.mk (below_step HC.out hb)
      replace CX := Aside0.mk (Kd.C_below CX.out hb)
      clear hb CP
      have hxl : x.length = r.length := Q2.out
      have hbe : ((x.length : Int) == (r.length : Int)) = true := by rw [hxl]; simp
      have hT := (HC.out.block _ (Array.getElem?_eq_some_iff.1 HT0.out).1).trans HT0.out
      have t0 := show w7.cell? ⟨b, 0, none⟩ = some (.string nm) from blk_cell hT 0
      have t1 := show w7.cell? ⟨b, 1, none⟩ = some (.slice A1 cs.length c1) from blk_cell hT 1
      have t2 := show w7.cell? ⟨b, 2, none⟩ = some (.slice A2 xs.length c2) from blk_cell hT 2
      have t3 := show w7.cell? ⟨b, 3, none⟩ = some (.slice A3 ks.length c3) from blk_cell hT 3
      clear hT hxl
      go_wp2_with fail
      clear t0 t1 t2 t3
      have T1 := T.out.below HC.out
      refine (c31 nm A1 c1 cs A2 c2 xs A3 c3 ks Ax cx x w7 T1.r1 T1.l1 T1.r2 T1.l2 T1.r3 T1.l3 CX.out LX.out).mono ?_
      rw [Q3.out]
      rintro e w8 ⟨rfl, hb⟩
      replace HC := Aside0.mk (below_step HC.out hb)
      clear hb T1
      go_wp2_with fail
      go_ret
      exact ⟨rfl, below_step HB.out HC.out⟩
end Go.Proofs.Ytkopbaikmlajmaa.Q
