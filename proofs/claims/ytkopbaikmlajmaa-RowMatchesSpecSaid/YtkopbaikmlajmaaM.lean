import Derived.Test.YtkopbaikmlajmaaRB
import Derived.Test.YtkopbaikmlajmaaG98
import Derived.Test.YtkopbaikmlajmaaG32
import Derived.Test.YtkopbaikmlajmaaF42
import Derived.Test.YtkopbaikmlajmaaFA
import Derived.Test.YtkopbaikmlajmaaO
namespace Go.Proofs.Ytkopbaikmlajmaa.Q
open Go.RowKit Go.Proofs.YtkopbaikmlajmaaW.PrintWords Go.Proofs.YtkopbaikmlajmaaW.PrintLast Go.Proofs.YtkopbaikmlajmaaW.PrintMore
set_option linter.unusedVariables false
set_option linter.unusedSimpArgs false
theorem fitV_of {nm : ByteArray} {cs : List S56} {xs : List S65} {ks : List S42} {r : List S40} (h : fitsE nm cs xs ks r = 0) : checkE nm cs xs ks = 0 ∧ r.length = cs.length ∧ FitV cs r := by
 unfold fitsE at h
 split at h; · contradiction
 rename_i h1
 split at h; · cases h
 rename_i h2
 split at h; · contradiction
 rename_i h3
 refine ⟨Decidable.not_not.1 h1, Decidable.not_not.1 h2, fun k hk => ?_⟩
 have h4 := firstE_all (Decidable.not_not.1 h3) k hk
 unfold fitE at h4
 split at h4
 ·rename_i hn
  split at h4
  ·rename_i hf
   exact .inl ⟨isNull_iff hn, hf⟩
  cases h4
 split at h4
 ·cases h4
 rename_i hv
 rw [not_or] at hv
 exact .inr ⟨by simpa using hv.1, Decidable.not_not.1 hv.2⟩
theorem okR_of {cs : List S56} {r : List S40} (h : FitV cs r) (hl : r.length ≤ 20) : OkR r := by
 refine ⟨hl, fun k hk => ?_⟩
 rcases h k hk with ⟨e, _⟩ | ⟨e, _⟩
 ·left; rw [e]; rfl
 exact .inr e
theorem okR_right {r : List S40} (h : r.all validN = true) (hl : r.length ≤ 20) : OkR r := by
 refine ⟨hl, fun k hk => ?_⟩
 have h1 := List.all_eq_true.1 h _ (List.getElem_mem hk)
 rw [← rd40_nat r k hk] at h1
 unfold validN at h1
 rcases Bool.or_eq_true_iff.1 h1 with h2 | h2
 ·left; rw [isNull_iff h2]; rfl
 exact .inr h2
def encR (nm : ByteArray) (cs : List S56) (xs : List S65) (ks : List S42) (r : List S40) : List Int × Int := if fitsE nm cs xs ks r = 0 then (rowW r, 0) else ([], fitsE nm cs xs ks r)
theorem Enc_eq (nm : ByteArray) (cs : List S56) (xs : List S65) (ks : List S42) (r : List S40) : Evs (fun k => row_Encode.f k nm cs xs ks r) (encR nm cs xs ks r) := by
 unfold encR
 by_cases h : fitsE nm cs xs ks r = 0
 ·obtain ⟨h1, h2, h3⟩ := fitV_of h
  have n8 := (okT h1).nc
  rw [if_pos h]
  refine ((words_eq (okR_of h3 (by omega))).bind (f := fun k t => some (t, (0 : Int))) (Evs.const rfl)).congr (fun k => ?_)
  unfold row_Encode.f schema_Fits.f
  rw [Option.bind_some, if_pos h]
 rw [if_neg h]
 refine Evs.all (fun k => ?_)
 unfold row_Encode.f schema_Fits.f
 rw [Option.bind_some, if_neg h]
section
variable (nm : ByteArray) (A1 : Option Addr) (c1 : Nat) (cs : List S56) (A2 : Option Addr) (c2 : Nat) (xs : List S65) (A3 : Option Addr) (c3 : Nat) (ks : List S42) (A4 : Option Addr) (c4 : Nat) (r : List S40) (A6 : Option Addr) (c6 : Nat) (l : List Int) (A5 : Option Addr) (c5 : Nat) (m : List Int) (w : World)
theorem c32one (b : Nat) (hT : Tab w nm A1 c1 cs A2 c2 xs A3 c3 ks)
  (hb : w.heap[b]? = some (.cells #[.slice A4 r.length c4] 37 (0, 0))) (h4 : Kd.C k40 w A4 r.length r) (hc4 : r.length ≤ c4) :
  Calls Try.prog 32 #[.agg #[.string nm, .slice A1 cs.length c1, .slice A2 xs.length c2, .slice A3 ks.length c3], .slice (some ⟨b, 0, none⟩) 1 1] w fun e w' => e = .returned (.bool (valid21 nm cs xs ks [r])) ∧ Below w.heap.size w w' := by
 obtain ⟨k, h⟩ := (valid21_eq nm cs xs ks [r] hT.r1.2.1 hT.r2.2.1 (len65 hT.r2) hT.r3.2.1 (by simp) (by
  intro q hq
  obtain rfl := List.mem_singleton.1 hq
  exact h4.2.1)).get
 exact alumref21_Valid.calls k nm A1 c1 cs A2 c2 xs A3 c3 ks (some ⟨b, 0, none⟩) 1 [r] _ w hT.r1 hT.l1 hT.r2 hT.l2 hT.r3 hT.l3 (C_row1 hb h4 hc4) (Nat.le_refl 1) h
theorem c42 (hT : Tab w nm A1 c1 cs A2 c2 xs A3 c3 ks) (h4 : Kd.C k40 w A4 r.length r) (hc4 : r.length ≤ c4) :
  Calls Try.prog 42 #[.agg #[.string nm, .slice A1 cs.length c1, .slice A2 xs.length c2, .slice A3 ks.length c3], .slice A4 r.length c4] w fun e w' => ∃ A c, e = .returned (.tuple #[.slice A (encR nm cs xs ks r).1.length c, .int .i64 (encR nm cs xs ks r).2]) ∧ (encR nm cs xs ks r).1.length ≤ c ∧ (Kd.int .i64).C w' A (encR nm cs xs ks r).1.length (encR nm cs xs ks r).1 ∧ Below w.heap.size w w' := by
 obtain ⟨k, h⟩ := (Enc_eq nm cs xs ks r).get
 refine (row_Encode.calls k nm A1 c1 cs A2 c2 xs A3 c3 ks A4 c4 r (encR nm cs xs ks r).1 (encR nm cs xs ks r).2 w hT.r1 hT.l1 hT.r2 hT.l2 hT.r3 hT.l3 h4 hc4 h).mono ?_
 rintro e w' ⟨v, rfl, hR, hb⟩
 obtain ⟨A, c, rfl, hl, hC⟩ := Kd.R_reads hR
 exact ⟨A, c, rfl, hl, hC, hb⟩
theorem c44r (hT : Tab w nm A1 c1 cs A2 c2 xs A3 c3 ks) (hm1 : cs.length ≤ 1000000) (h6 : (Kd.int .i64).C w A6 l.length l) (hc6 : l.length ≤ c6) (hm : l.length ≤ 1000000000) :
  Calls Try.prog 44 #[.agg #[.string nm, .slice A1 cs.length c1, .slice A2 xs.length c2, .slice A3 ks.length c3], .slice A6 l.length c6] w fun e w' => ∃ A c, e = .returned (.tuple #[.slice A (decR cs l).1.length c, .int .i64 (decR cs l).2.1, .int .i64 (decR cs l).2.2]) ∧ (decR cs l).1.length ≤ c ∧ Kd.C k40 w' A (decR cs l).1.length (decR cs l).1 ∧ Below w.heap.size w w' := by
 refine (c44 nm A1 c1 cs A2 c2 xs.length A3 c3 ks.length A6 c6 l w hT.r1 hT.l1 hm1 h6 hc6 hm).mono ?_
 rintro e w' ⟨v, rfl, hR, hb⟩
 obtain ⟨A, c, rfl, hl, hC⟩ := Kd.R_reads hR
 exact ⟨A, c, rfl, hl, hC, hb⟩
theorem c59 (hr : OkR r) (h4 : Kd.C k40 w A4 r.length r) (hc4 : r.length ≤ c4) :
  Calls Try.prog 59 #[.slice A4 r.length c4] w fun e w' => e = .returned (.int .i64 ((rowW r).length : Int)) ∧ Below w.heap.size w w' := by
 obtain ⟨k, h⟩ := (Size_eq hr).get
 exact row_Size.calls k A4 c4 r _ w h4 hc4 h
end
end Go.Proofs.Ytkopbaikmlajmaa.Q
