/- The walk of the statement about columns that are added: true for every table, column and row. -/
import Derived.Test.YtkopbaikmlajmaaF11
import Derived.Test.YtkopbaikmlajmaaG43
import Derived.Test.YtkopbaikmlajmaaO
namespace Go.Proofs.Ytkopbaikmlajmaa.Q
open Go.RowKit Go.Proofs.YtkopbaikmlajmaaW.PrintWords Go.Proofs.YtkopbaikmlajmaaW.PrintLast Go.Proofs.YtkopbaikmlajmaaW.PrintMore
set_option linter.unusedVariables false
set_option linter.unusedSimpArgs false
theorem ext_j0t (nm : ByteArray) (cs : List S56) (xs : List S65) (ks : List S42) (c : S56) (r : List S40) : Evs (fun k => alumlaw20_SchemaColumnsExtend.j0 k r true true nm cs xs ks c.f0 c.f1 c.f2) true :=
  (Evs.const (g := some true) rfl).step (fun k => by simp [alumlaw20_SchemaColumnsExtend.j0])
theorem ext_j1t (nm : ByteArray) (cs : List S56) (xs : List S65) (ks : List S42) (r : List S40) : Evs (fun k => alumlaw20_SchemaColumnsExtend.j1 k r true true nm cs xs ks) true :=
  (Evs.const (g := some true) rfl).step (fun k => by simp [alumlaw20_SchemaColumnsExtend.j1])
theorem ext_j2 (nm : ByteArray) (cs : List S56) (xs : List S65) (ks : List S42) (r : List S40) (hl : r.length ≤ 1000) (h1 : fitsE nm cs xs ks (r ++ [z40]) = 0) (h2 : fitsE nm cs xs ks r = 1) : Evs (fun k => alumlaw20_SchemaColumnsExtend.j2 k r true (r ++ [z40]) false nm cs xs ks) true := by
  refine (Evs.const (g := some true) rfl).step (fun k => ?_)
  have e1 : rd_T40 (r ++ [z40]) (r.length : Int) = z40 := by
    unfold rd_T40
    rw [Int.toNat_natCast, List.getD_eq_getElem?_getD, List.getElem?_append_right (Nat.le_refl _), Nat.sub_self]
    rfl
  simp only [alumlaw20_SchemaColumnsExtend.j2]
  rw [if_neg (by simp), if_pos (by omega), if_pos (by simp; omega), if_pos trivial, e1, if_pos (show (z40.f0 == 0 && (z40.f1 == 0 && z40.f2.toList == ([] : List UInt8))) = true by kernel_rfl)]
  unfold schema_Fits.f
  rw [Option.bind_some, h1, if_pos rfl, Option.bind_some, h2]
  rfl
theorem ext_j1 (nm : ByteArray) (cs : List S56) (xs : List S65) (ks : List S42) (r : List S40) (hc : cs.length = r.length + 1) (hl : r.length ≤ 900) (h1 : fitsE nm cs xs ks (r ++ [z40]) = 0) (h2 : fitsE nm cs xs ks r = 1) : Evs (fun k => alumlaw20_SchemaColumnsExtend.j1 k r true false nm cs xs ks) true := by
  obtain ⟨K1, e1⟩ := ext_j2 nm cs xs ks r (by omega) h1 h2
  obtain ⟨K2, e2⟩ := sameRow_refl r (by omega)
  dsimp only at e1 e2
  refine ⟨max K1 K2 + 1, fun k hk => ?_⟩
  obtain ⟨k, rfl⟩ : ∃ m, k = m + 1 := ⟨k - 1, by omega⟩
  show alumlaw20_SchemaColumnsExtend.j1 (k + 1) r true false nm cs xs ks = some true
  simp only [alumlaw20_SchemaColumnsExtend.j1]
  have hx : extE cs r = r ++ [z40] := by
    unfold extE
    rw [hc, show r.length + 1 - r.length = 1 by omega]
    rfl
  rw [if_neg (by simp), extend_eq nm cs xs ks r (by omega) (by omega), Option.bind_some, hx, if_pos (by unfold wrap64; rw [List.length_append, List.length_singleton]; omega), if_pos (by omega), if_pos (by simp; omega), Int.toNat_natCast, List.take_left, e2 k (by omega), Option.bind_some]
  exact e1 k (by omega)
theorem p11 (nm : ByteArray) (cs : List S56) (xs : List S65) (ks : List S42) (c : S56) (r : List S40) (h2 : xs.length ≤ 9223372036854775807) :
    Evs (fun k => alumlaw20_SchemaColumnsExtend.f k nm cs xs ks c.f0 c.f1 c.f2 r) true := by
  obtain ⟨K1, e1⟩ := Few_ref nm cs xs ks h2
  obtain ⟨K2, e2⟩ := ext_j0t nm cs xs ks c r
  dsimp only at e1 e2
  have hcon : (fewB cs xs ks = false ∨ (r.length : Int) > 20) → Evs (fun k => alumlaw20_SchemaColumnsExtend.f k nm cs xs ks c.f0 c.f1 c.f2 r) true := by
    intro h
    refine ⟨max K1 K2, fun k hk => ?_⟩
    show alumlaw20_SchemaColumnsExtend.f k nm cs xs ks c.f0 c.f1 c.f2 r = some true
    unfold alumlaw20_SchemaColumnsExtend.f alumlaw20_sanity.f
    rw [e1 k (by omega)]
    simp only [Option.bind_some]
    cases hf : fewB cs xs ks with
    | false =>
      rw [if_neg (by simp)]
      exact e2 k (by omega)
    | true =>
      rw [if_pos rfl, decide_eq_true (h.resolve_left (by rw [hf]; simp))]
      exact e2 k (by omega)
  cases hf : fewB cs xs ks with
  | false => exact hcon (.inl hf)
  | true =>
  by_cases hr : (r.length : Int) > 20
  · exact hcon (.inr hr)
  have hl := (fewB_len hf).1
  have hstep : ∀ {g : Nat → Option Bool}, Evs g true → (∀ k, ((schema_AddColumn.f nm cs xs ks c.f0 c.f1 c.f2).bind fun bt415 => (if bt415.2.2.2.2 = 0 then ((schema_Fits.f nm cs xs ks r).bind fun t427 => (alumlaw20_SchemaColumnsExtend.j1 k r true (t427 != 0) bt415.1 bt415.2.1 bt415.2.2.1 bt415.2.2.2.1)) else (alumlaw20_SchemaColumnsExtend.j1 k r true true bt415.1 bt415.2.1 bt415.2.2.1 bt415.2.2.2.1))) = g k) → Evs (fun k => alumlaw20_SchemaColumnsExtend.f k nm cs xs ks c.f0 c.f1 c.f2 r) true := by
    intro g hg he
    obtain ⟨K3, e3⟩ := hg
    refine ⟨max K1 K3 + 1, fun k hk => ?_⟩
    obtain ⟨k, rfl⟩ : ∃ m, k = m + 1 := ⟨k - 1, by omega⟩
    show alumlaw20_SchemaColumnsExtend.f (k + 1) nm cs xs ks c.f0 c.f1 c.f2 r = some true
    unfold alumlaw20_SchemaColumnsExtend.f alumlaw20_sanity.f
    rw [e1 (k + 1) (by omega), hf, decide_eq_false hr]
    simp only [Option.bind_some, if_true, alumlaw20_SchemaColumnsExtend.j0, Bool.false_eq_true, if_false]
    rw [he]
    exact e3 k (by omega)
  rw [addCol_eq] at hstep
  simp only [Option.bind_some] at hstep
  obtain ⟨R, hR⟩ : ∃ R, R = addColE nm cs xs ks c := ⟨_, rfl⟩
  rw [← hR] at hstep
  by_cases h0 : R.2.2.2.2 = 0
  rotate_left
  · exact hstep (ext_j1t R.1 R.2.1 R.2.2.1 R.2.2.2.1 r) (fun k => by rw [if_neg h0])
  unfold schema_Fits.f at hstep
  simp only [Option.bind_some] at hstep
  by_cases h1 : fitsE nm cs xs ks r = 0
  rotate_left
  · exact hstep (ext_j1t R.1 R.2.1 R.2.2.1 R.2.2.2.1 r) (fun k => by rw [if_pos h0, show (fitsE nm cs xs ks r != 0) = true by simpa using h1])
  -- the table was valid, the column may be null, the wider table is valid
  have hck : checkE nm cs xs ks = 0 := by
    refine Decidable.byContradiction fun hn => ?_
    rw [fitsE_check hn] at h1
    exact hn h1
  have hb : c.f2 = true := by
    cases hb : c.f2 with
    | true => rfl
    | false =>
      rw [hR] at h0
      unfold addColE noTab at h0
      rw [if_neg (by rw [hck]; simp), if_pos hb] at h0
      cases h0
  have hw : checkE nm (cs ++ [c]) xs ks = 0 := by
    rw [hR] at h0
    unfold addColE checkedE at h0
    rw [if_neg (by rw [hck]; simp), if_neg (by rw [hb]; simp)] at h0
    refine Decidable.byContradiction fun hn => ?_
    rw [if_neg hn] at h0
    exact hn h0
  have hRe : R = (nm, cs ++ [c], xs, ks, 0) := by
    rw [hR]
    unfold addColE checkedE
    rw [if_neg (by rw [hck]; simp), if_neg (by rw [hb]; simp), if_pos hw]
  have hlen := ((fitsE_ok hck).1 h1).1
  have hf2 : fitsE nm (cs ++ [c]) xs ks r = 1 := fitsE_len hw (by simp [hlen])
  refine hstep (ext_j1 nm (cs ++ [c]) xs ks r (by simp [hlen]) (by omega) (fits_wide hb hck hw h1 ) hf2) (fun k => ?_)
  rw [if_pos h0, h1, hRe]
  rfl
theorem w11 (nm : ByteArray) (A1 : Option Addr) (c1 : Nat) (cs : List S56) (A2 : Option Addr) (c2 : Nat) (xs : List S65) (A3 : Option Addr) (c3 : Nat) (ks : List S42) (c : S56) (A4 : Option Addr) (c4 : Nat) (r : List S40) (w : World) (hT : Tab w nm A1 c1 cs A2 c2 xs A3 c3 ks) (hpc : p56 c) (hr : Kd.C k40 w A4 r.length r) (hc : r.length ≤ c4) (hp : ∀ x, x ∈ r → p40 x) :
    Calls Try.prog 11 #[.agg #[.string nm, .slice A1 cs.length c1, .slice A2 xs.length c2, .slice A3 ks.length c3], .agg #[.string c.f0, .int .i64 c.f1, .bool c.f2], .slice A4 r.length c4] w fun e w' => e = .returned (.bool true) ∧ Below w.heap.size w w' := by
  obtain ⟨k, h⟩ := (p11 nm cs xs ks c r hT.r2.2.1).get
  exact alumlaw20_SchemaColumnsExtend.calls k nm A1 c1 cs A2 c2 xs A3 c3 ks c.f0 c.f1 c.f2 A4 c4 r true w hT.r1 hT.l1 hT.r2 hT.l2 hT.r3 hT.l3 hr hc h
end Go.Proofs.Ytkopbaikmlajmaa.Q
