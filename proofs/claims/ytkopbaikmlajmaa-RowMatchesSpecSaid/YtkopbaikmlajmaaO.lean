import Derived.Test.YtkopbaikmlajmaaK
import Derived.ChangeArms
import Derived.Lib.SmallJoins
import Derived.Deep.Slices
import Derived.OpenShut
namespace Go.Proofs.Ytkopbaikmlajmaa.Q
open Go.Deep Go.ChangeShapes Go.WideShapes Go.ChangeAt Go.RowKit Go.Joins Go.Proofs.YtkopbaikmlajmaaW.PrintWords Go.Proofs.YtkopbaikmlajmaaW.PrintLast Go.Proofs.YtkopbaikmlajmaaW.PrintMore
set_option linter.unusedVariables false
set_option linter.unusedSimpArgs false

def Opens {α : Type} (d : Kd α) (t : TypeId) (p : α → Prop) : Prop := ∀ (H : Type) (enc : TypeId × Value → H) (W : World) (base : Nat) (sp : Nat → Bool) (held : Bool) (fuel : Nat) (cs : List Value) (x : DataW H × List MemPlace), DataW.trod enc Try.prog W base sp held fuel t cs = some x → ∃ a, d.K W a cs ∧ p a
def inI (n : Int) : Prop := -9223372036854775808 ≤ n ∧ n ≤ 9223372036854775807
theorem wf_in {n : Int} (h : (Lit.int .i64 n).wf = true) : inI n := by
 simp only [Lit.wf, IntKind.min, IntKind.max, IntKind.signed, IntKind.bits, Bool.and_eq_true, decide_eq_true_eq, if_true] at h
 unfold inI
 omega
theorem opens_int {t : TypeId} (ht : Try.prog.underlying t = some (.int .i64)) : Opens (Kd.int .i64) t inI := by
 intro H enc W base sp held fuel cs x h
 obtain ⟨n, rfl, _, hw⟩ := DataW.trod_int ht h
 exact ⟨n, rfl, wf_in hw⟩
theorem opens_string {t : TypeId} (ht : Try.prog.underlying t = some .string) : Opens Kd.string t (fun s => s.size ≤ 9223372036854775807) := by
 intro H enc W base sp held fuel cs x h
 obtain ⟨n, rfl, _, hw⟩ := DataW.trod_string ht h
 exact ⟨n, rfl, hw⟩
theorem opens_bool {t : TypeId} (ht : Try.prog.underlying t = some .bool) : Opens Kd.bool t (fun _ => True) := by
 intro H enc W base sp held fuel cs x h
 obtain ⟨n, rfl, _⟩ := DataW.trod_bool ht h
 exact ⟨n, rfl, trivial⟩
theorem cells_at {w : World} {base n : Nat} {a : Addr} {cs : List Value} (h : w.cells? base a n = some cs) : cs.length = n ∧ ∀ i u, cs[i]? = some u → w.cell? (a.add i) = some u := by
 obtain ⟨_, h1, h2⟩ := World.cells?_some h
 refine ⟨h1, fun i u hu => ?_⟩
 have hi : i < cs.length := (List.getElem?_eq_some_iff.1 hu).1
 rw [h2 i (by omega)]
 exact hu
theorem add_add (a : Addr) (i j : Nat) : (a.add i).add j = a.add (i + j) := by
 unfold Addr.add
 by_cases hi : i = 0
 ·subst hi; simp
 by_cases hj : j = 0
 ·subst hj; simp [hi]
 simp [hi, hj, Nat.add_assoc]
theorem opens_slice {α : Type} {d : Kd α} {p : α → Prop} {t e : TypeId} (z : α) (ht : Try.prog.underlying t = some (.slice e)) (hs : Try.prog.cellsOf e = d.sz) (ho : Opens d e p) : Opens (Kd.slice e d) t (fun l => ∀ x, x ∈ l → p x) := by
 intro H enc W base sp held fuel cs x h
 rcases open_slice ht h with ⟨rfl, _⟩ | ⟨a, len, cap, m, n, D, Pl, rfl, hb, hl, hm, hmm, _, hel⟩
 ·exact ⟨[], ⟨none, 0, rfl, Nat.le_refl _, Kd.C_nil _ _⟩, fun x hx => absurd hx List.not_mem_nil⟩
 have hlm : len ≤ m := by rw [hmm]; split <;> omega
 have hE : ∀ i, i < len → ∃ a' cs', d.K W a' cs' ∧ p a' ∧ cs'.length = d.sz ∧ ∀ j u, cs'[j]? = some u → W.cell? (a.add (i * d.sz + j)) = some u := by
  intro i hi
  obtain ⟨cs', h1, h2⟩ := hel i (by omega)
  obtain ⟨a', hk, hp⟩ := ho _ _ _ _ _ _ _ _ _ h2
  rw [hs] at h1
  obtain ⟨h3, h4⟩ := cells_at h1
  refine ⟨a', cs', hk, hp, h3, fun j u hu => ?_⟩
  rw [← add_add]
  exact h4 j u hu
 classical
 refine ⟨(List.range len).map (fun i => if hi : i < len then Classical.choose (hE i hi) else z), ⟨some a, cap, by simp, by simpa using hl, by simp, by simp; exact Nat.le_trans hl hm, fun _ => ⟨a, rfl, fun j q hq => ?_⟩⟩, fun x hx => ?_⟩
 ·obtain ⟨hj, rfl⟩ : ∃ hj : j < len, (Classical.choose (hE j hj)) = q := by
   rw [List.getElem?_map] at hq
   obtain ⟨i, hi, rfl⟩ := Option.map_eq_some_iff.1 hq
   obtain ⟨h1, h2⟩ := List.getElem?_eq_some_iff.1 hi
   rw [List.getElem_range] at h2
   subst h2
   rw [List.length_range] at h1
   exact ⟨h1, by rw [dif_pos h1]⟩
  obtain ⟨cs', hk, hp, h3, h4⟩ := Classical.choose_spec (hE j hj)
  exact ⟨cs', h3, hk, h4⟩
 obtain ⟨i, hi, rfl⟩ := List.mem_map.1 hx
 have hi' := List.mem_range.1 hi
 rw [dif_pos hi']
 obtain ⟨cs', hk, hp, h3, h4⟩ := Classical.choose_spec (hE i hi')
 exact hp
def p40 (v : S40) : Prop := inI v.f0 ∧ inI v.f1 ∧ v.f2.size ≤ 9223372036854775807
def p56 (c : S56) : Prop := c.f0.size ≤ 9223372036854775807 ∧ inI c.f1
def p65 (x : S65) : Prop := x.f0.size ≤ 9223372036854775807 ∧ ∀ c, c ∈ x.f1 → inI c
def p42 (k : S42) : Prop := inI k.f0 ∧ inI k.f1 ∧ p40 k.f2
theorem ce3 : Try.prog.cellsOf 3 = 1 := by kernel_rfl
theorem ce4 : Try.prog.cellsOf 4 = 1 := by kernel_rfl
theorem ce9 : Try.prog.cellsOf 9 = 1 := by kernel_rfl
theorem ce32 : Try.prog.cellsOf 32 = 1 := by kernel_rfl
theorem ce40 : Try.prog.cellsOf 40 = 3 := by kernel_rfl
theorem ce42 : Try.prog.cellsOf 42 = 5 := by kernel_rfl
theorem ce56 : Try.prog.cellsOf 56 = 3 := by kernel_rfl
theorem ce65 : Try.prog.cellsOf 65 = 3 := by kernel_rfl
theorem parts3 {cs : List Value} {n : Nat} (h : cs.length = n + 2) : cs = cs.take 1 ++ ((cs.drop 1).take 1 ++ (cs.drop 2).take n) := by
 match cs, h with
 | a :: b :: r, h =>
  simp at h
  simp [← h]
theorem opens_40 : Opens k40 40 p40 := by
 intro H enc W base sp held fuel cs x h
 obtain ⟨y0, y1, y2, n, _, hl, h0, h1, h2⟩ := trod_struct3 Try.underlying40 h
 obtain ⟨a0, k0, p0⟩ := opens_int Try.underlying3 _ _ _ _ _ _ _ _ _ h0
 obtain ⟨a1, k1, p1⟩ := opens_int Try.underlying3 _ _ _ _ _ _ _ _ _ h1
 obtain ⟨a2, k2, p2⟩ := opens_string Try.underlying9 _ _ _ _ _ _ _ _ _ h2
 dsimp only at k0 k1 k2
 rw [ce3, List.drop_zero] at k0
 rw [ce3] at k1
 rw [ce9] at k2
 rw [ce40] at hl
 exact ⟨⟨a0, a1, a2⟩, ⟨_, _, parts3 hl, k0, _, _, rfl, k1, k2⟩, p0, p1, p2⟩
theorem opens_42 : Opens k42 42 p42 := by
 intro H enc W base sp held fuel cs x h
 obtain ⟨y0, y1, y2, n, _, hl, h0, h1, h2⟩ := trod_struct3 Try.underlying42 h
 obtain ⟨a0, k0, p0⟩ := opens_int Try.underlying3 _ _ _ _ _ _ _ _ _ h0
 obtain ⟨a1, k1, p1⟩ := opens_int Try.underlying3 _ _ _ _ _ _ _ _ _ h1
 obtain ⟨a2, k2, p2⟩ := opens_40 _ _ _ _ _ _ _ _ _ h2
 dsimp only at k0 k1 k2
 rw [ce3, List.drop_zero] at k0
 rw [ce3] at k1
 rw [ce40] at k2
 rw [ce42] at hl
 exact ⟨⟨a0, a1, a2⟩, ⟨_, _, parts3 hl, k0, _, _, rfl, k1, k2⟩, p0, p1, p2⟩
theorem opens_56 : Opens k56 56 p56 := by
 intro H enc W base sp held fuel cs x h
 obtain ⟨y0, y1, y2, n, _, hl, h0, h1, h2⟩ := trod_struct3 Try.underlying56 h
 obtain ⟨a0, k0, p0⟩ := opens_string Try.underlying9 _ _ _ _ _ _ _ _ _ h0
 obtain ⟨a1, k1, p1⟩ := opens_int Try.underlying3 _ _ _ _ _ _ _ _ _ h1
 obtain ⟨a2, k2, p2⟩ := opens_bool Try.underlying4 _ _ _ _ _ _ _ _ _ h2
 dsimp only at k0 k1 k2
 rw [ce9, List.drop_zero] at k0
 rw [ce3] at k1
 rw [ce4] at k2
 rw [ce56] at hl
 exact ⟨⟨a0, a1, a2⟩, ⟨_, _, parts3 hl, k0, _, _, rfl, k1, k2⟩, p0, p1⟩
theorem opens_65 : Opens k65 65 p65 := by
 intro H enc W base sp held fuel cs x h
 obtain ⟨y0, y1, y2, n, _, hl, h0, h1, h2⟩ := trod_struct3 Try.underlying65 h
 obtain ⟨a0, k0, p0⟩ := opens_string Try.underlying9 _ _ _ _ _ _ _ _ _ h0
 obtain ⟨a1, k1, p1⟩ := opens_slice (0 : Int) Try.underlying32 ce3 (opens_int Try.underlying3) _ _ _ _ _ _ _ _ _ h1
 obtain ⟨a2, k2, p2⟩ := opens_bool Try.underlying4 _ _ _ _ _ _ _ _ _ h2
 dsimp only at k0 k1 k2
 rw [ce9, List.drop_zero] at k0
 rw [ce32] at k1
 rw [ce4] at k2
 rw [ce65] at hl
 exact ⟨⟨a0, a1, a2⟩, ⟨_, _, parts3 hl, k0, _, _, rfl, k1, k2⟩, p0, p1⟩

structure Tab (w : World) (nm : ByteArray) (A1 : Option Addr) (c1 : Nat) (cs : List S56) (A2 : Option Addr) (c2 : Nat) (xs : List S65) (A3 : Option Addr) (c3 : Nat) (ks : List S42) : Prop where
 r1 : Kd.C k56 w A1 cs.length cs
 l1 : cs.length ≤ c1
 r2 : Kd.C k65 w A2 xs.length xs
 l2 : xs.length ≤ c2
 r3 : Kd.C k42 w A3 ks.length ks
 l3 : ks.length ≤ c3
 sz : nm.size ≤ 9223372036854775807
 p1 : ∀ x, x ∈ cs → p56 x
 p2 : ∀ x, x ∈ xs → p65 x
 p3 : ∀ x, x ∈ ks → p42 x
theorem Tab.below {w w' : World} {nm : ByteArray} {A1 : Option Addr} {c1 : Nat} {cs : List S56} {A2 : Option Addr} {c2 : Nat} {xs : List S65} {A3 : Option Addr} {c3 : Nat} {ks : List S42} (h : Tab w nm A1 c1 cs A2 c2 xs A3 c3 ks) (hb : Below w.heap.size w w') : Tab w' nm A1 c1 cs A2 c2 xs A3 c3 ks :=
 ⟨Kd.C_below h.r1 hb, h.l1, Kd.C_below h.r2 hb, h.l2, Kd.C_below h.r3 hb, h.l3, h.sz, h.p1, h.p2, h.p3⟩
theorem ce24 : Try.prog.cellsOf 24 = 1 := by kernel_rfl
theorem ce25 : Try.prog.cellsOf 25 = 1 := by kernel_rfl
theorem ce26 : Try.prog.cellsOf 26 = 1 := by kernel_rfl
theorem ce28 : Try.prog.cellsOf 28 = 4 := by kernel_rfl
theorem sliceOf {α : Type} {d : Kd α} {e : TypeId} {w : World} {l : List α} {cs : List Value} (h : (Kd.slice e d).K w l cs) : ∃ A c, cs = [.slice A l.length c] ∧ l.length ≤ c ∧ d.C w A l.length l := h
set_option maxRecDepth 100000 in
theorem open_sl {α : Type} {d : Kd α} {p : α → Prop} {t e : TypeId} {H : Type} {enc : TypeId × Value → H} {W : World} {base b0 : Nat} {sp : Nat → Bool} {held : Bool} {r : Reach} {v : Value} {D : DataW H} {ps : List MemPlace} (z : α) (ht : Try.prog.underlying t = some (.slice e)) (hs : Try.prog.cellsOf e = d.sz) (ho : Opens d e p) (hv : Value.okWide Try.prog W r b0 t v) (h : DataW.Trod enc Try.prog W base sp held t v D ps) :
  ∃ A c l, v = .slice A l.length c ∧ d.C W A l.length l ∧ l.length ≤ c ∧ ∀ x, x ∈ l → p x := by
 obtain ⟨a, len, cap, rfl⟩ := okWide_slice ht hv
 obtain ⟨fuel, hf⟩ := h
 obtain ⟨l, hk, hp⟩ := opens_slice z ht hs ho _ _ _ _ _ _ _ _ _ hf
 obtain ⟨A, c, hcs, hl, hC⟩ := sliceOf hk
 simp [Value.cells] at hcs
 obtain ⟨rfl, rfl, rfl⟩ := hcs
 exact ⟨a, cap, l, rfl, hC, hl, hp⟩
section
variable {H : Type} {enc : TypeId × Value → H} {W : World} {base b0 : Nat} {sp : Nat → Bool} {held : Bool} {r : Reach} {v : Value} {D : DataW H} {ps : List MemPlace}
set_option maxRecDepth 100000 in
theorem open32 (hv : Value.okWide Try.prog W r b0 32 v) (h : DataW.Trod enc Try.prog W base sp held 32 v D ps) : ∃ A c l, v = .slice A l.length c ∧ (Kd.int .i64).C W A l.length l ∧ l.length ≤ c ∧ ∀ x, x ∈ l → inI x :=
 open_sl (0 : Int) Try.underlying32 ce3 (opens_int Try.underlying3) hv h
set_option maxRecDepth 100000 in
theorem open37 (hv : Value.okWide Try.prog W r b0 37 v) (h : DataW.Trod enc Try.prog W base sp held 37 v D ps) : ∃ A c l, v = .slice A l.length c ∧ k40.C W A l.length l ∧ l.length ≤ c ∧ ∀ x, x ∈ l → p40 x :=
 open_sl z40 Try.underlying37 ce40 opens_40 hv h
set_option maxRecDepth 100000 in
theorem aggOf {t : TypeId} {fs : Array Field} (ht : Try.prog.underlying t = some (.struct fs)) (hv : Value.okWide Try.prog W r b0 t v) (h : DataW.Trod enc Try.prog W base sp held t v D ps) : ∃ cs fuel x, v = .agg cs ∧ DataW.trod enc Try.prog W base sp held fuel t cs.toList = some x := by
 obtain ⟨cs, rfl, _⟩ := okWide_struct ht hv
 obtain ⟨fuel, hf⟩ := h
 exact ⟨cs, fuel, _, rfl, hf⟩
set_option maxRecDepth 100000 in
theorem open28 (hv : Value.okWide Try.prog W r b0 28 v) (h : DataW.Trod enc Try.prog W base sp held 28 v D ps) :
  ∃ (nm : ByteArray) (A1 : Option Addr) (c1 : Nat) (cs : List S56) (A2 : Option Addr) (c2 : Nat) (xs : List S65) (A3 : Option Addr) (c3 : Nat) (ks : List S42), v = .agg #[.string nm, .slice A1 cs.length c1, .slice A2 xs.length c2, .slice A3 ks.length c3] ∧ Tab W nm A1 c1 cs A2 c2 xs A3 c3 ks := by
 obtain ⟨vs, fuel, y, rfl, hf⟩ := aggOf Try.underlying28 hv h
 obtain ⟨y0, y1, y2, y3, n, _, hl, h0, h1, h2, h3⟩ := trod_struct4 Try.underlying28 hf
 obtain ⟨nm, k0, p0⟩ := opens_string Try.underlying9 _ _ _ _ _ _ _ _ _ h0
 obtain ⟨cs, k1, p1⟩ := opens_slice z56 Try.underlying24 ce56 opens_56 _ _ _ _ _ _ _ _ _ h1
 obtain ⟨xs, k2, p2⟩ := opens_slice z65 Try.underlying25 ce65 opens_65 _ _ _ _ _ _ _ _ _ h2
 obtain ⟨ks, k3, p3⟩ := opens_slice z42 Try.underlying26 ce42 opens_42 _ _ _ _ _ _ _ _ _ h3
 dsimp only at k0 k1 k2 k3
 obtain ⟨A1, c1, e1, l1, g1⟩ := sliceOf k1
 obtain ⟨A2, c2, e2, l2, g2⟩ := sliceOf k2
 obtain ⟨A3, c3, e3, l3, g3⟩ := sliceOf k3
 have e0 : List.take (Try.prog.cellsOf 9) (List.drop 0 vs.toList) = [.string nm] := k0
 rw [ce9] at e0
 rw [ce24] at e1
 rw [ce25] at e2
 rw [ce26] at e3
 rw [ce28] at hl
 obtain ⟨v0, v1, v2, v3, rfl⟩ := array4 (cs := vs) (by simpa using hl)
 simp at e0 e1 e2 e3
 subst e0 e1 e2 e3
 exact ⟨nm, A1, c1, cs, A2, c2, xs, A3, c3, ks, rfl, g1, l1, g2, l2, g3, l3, p0, p1, p2, p3⟩
end
end Go.Proofs.Ytkopbaikmlajmaa.Q
