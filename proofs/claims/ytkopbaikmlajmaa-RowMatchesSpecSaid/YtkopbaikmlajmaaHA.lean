import Derived.Test.YtkopbaikmlajmaaK
import Derived.Laws.Bits64b
import Derived.Laws.BitsAllLaws
import Derived.IntWalk
import Derived.StillTailTactics
namespace Go.Proofs.Ytkopbaikmlajmaa.Q
set_option linter.unusedVariables false
set_option linter.unusedSimpArgs false
theorem wrap_i64_small (n : Int) (h0 : -9223372036854775808 ≤ n) (h1 : n ≤ 9223372036854775807) : IntKind.i64.wrap n = n := IntWalk.i64_in _ (by omega)
theorem and_i64_nat (a b : Nat) (ha : a < 9223372036854775808) (hb : b < 9223372036854775808) : bits .and .i64 (a : Int) (b : Int) = ((a &&& b : Nat) : Int) := by
 have hx : a &&& b < 2 ^ 63 := Nat.and_lt_two_pow _ (by omega)
 have h1 : (BitVec.ofInt 64 (a : Int)).toNat = a := by
  rw [BitVec.ofInt_natCast, BitVec.toNat_ofNat]; exact Nat.mod_eq_of_lt (by omega)
 have h2 : (BitVec.ofInt 64 (b : Int)).toNat = b := by
  rw [BitVec.ofInt_natCast, BitVec.toNat_ofNat]; exact Nat.mod_eq_of_lt (by omega)
 show IntKind.i64.wrap ((BitVec.ofInt 64 (a : Int) &&& BitVec.ofInt 64 (b : Int)).toNat : Int) = _
 rw [BitVec.toNat_and, h1, h2]
 exact wrap_i64_small _ (by omega) (by omega)
theorem or_i64_nat (a b : Nat) (ha : a < 9223372036854775808) (hb : b < 9223372036854775808) : bits .or .i64 (a : Int) (b : Int) = ((a ||| b : Nat) : Int) := by
 have hx : a ||| b < 2 ^ 63 := Nat.or_lt_two_pow (by omega) (by omega)
 have h1 : (BitVec.ofInt 64 (a : Int)).toNat = a := by
  rw [BitVec.ofInt_natCast, BitVec.toNat_ofNat]; exact Nat.mod_eq_of_lt (by omega)
 have h2 : (BitVec.ofInt 64 (b : Int)).toNat = b := by
  rw [BitVec.ofInt_natCast, BitVec.toNat_ofNat]; exact Nat.mod_eq_of_lt (by omega)
 show IntKind.i64.wrap ((BitVec.ofInt 64 (a : Int) ||| BitVec.ofInt 64 (b : Int)).toNat : Int) = _
 rw [BitVec.toNat_or, h1, h2]
 exact wrap_i64_small _ (by omega) (by omega)
theorem or_i64_add (a b : Int) (k : Nat) (m : Int) (ha : 0 ≤ a) (hk : a < 2 ^ k) (hb : b = m * 2 ^ k) (hm : 0 ≤ m) (hs : b < 9223372036854775808) (hka : a < 9223372036854775808) : bits .or .i64 a b = a + b := by
 have hp : (0 : Int) < 2 ^ k := Int.pow_pos (by omega)
 have hb0 : 0 ≤ b := by rw [hb]; exact Int.mul_nonneg hm (Int.le_of_lt hp)
 obtain ⟨x, rfl⟩ := Int.eq_ofNat_of_zero_le ha
 obtain ⟨y, rfl⟩ := Int.eq_ofNat_of_zero_le hb0
 obtain ⟨q, rfl⟩ := Int.eq_ofNat_of_zero_le hm
 have hx : x < 2 ^ k := by exact_mod_cast hk
 have hy : y = 2 ^ k * q := by
  have : (y : Int) = ((2 ^ k * q : Nat) : Int) := by rw [hb]; push_cast; rw [Int.mul_comm]
  exact_mod_cast this
 rw [or_i64_nat x y (by omega) (by omega), hy, Nat.or_comm, ← Nat.two_pow_add_eq_or_of_lt hx]
 push_cast
 omega
theorem or_i64_add' (a b : Int) (k : Nat) (m : Int) (ha : 0 ≤ a) (hk : a < 2 ^ k) (hb : b = m * 2 ^ k) (hm : 0 ≤ m) (hs : b < 9223372036854775808) (hka : a < 9223372036854775808) : bits .or .i64 b a = b + a := by
 have hp : (0 : Int) < 2 ^ k := Int.pow_pos (by omega)
 have hb0 : 0 ≤ b := by rw [hb]; exact Int.mul_nonneg hm (Int.le_of_lt hp)
 have := or_i64_add a b k m ha hk hb hm hs hka
 obtain ⟨x, rfl⟩ := Int.eq_ofNat_of_zero_le ha
 obtain ⟨y, rfl⟩ := Int.eq_ofNat_of_zero_le hb0
 rw [or_i64_nat x y (by omega) (by omega)] at this
 rw [or_i64_nat y x (by omega) (by omega), Nat.or_comm, this]
 omega
theorem and1_i64 (x : Int) : bits .and .i64 x 1 = x % 2 := by
 have h2 : (BitVec.ofInt 64 (1 : Int)).toNat = 1 := by rfl
 show IntKind.i64.wrap ((BitVec.ofInt 64 x &&& BitVec.ofInt 64 (1 : Int)).toNat : Int) = _
 rw [BitVec.toNat_and, h2, Nat.and_one_is_mod, BitVec.toNat_ofInt, wrap_i64_small _ (by omega) (by omega)]
 omega
theorem and1_i64_self (x : Int) : (bits .and .i64 x 1 == x) = (decide (x = 0) || decide (x = 1)) := by
 rw [and1_i64, Bool.eq_iff_iff]
 simp only [beq_iff_eq, Bool.or_eq_true, decide_eq_true_eq]
 omega
end Go.Proofs.Ytkopbaikmlajmaa.Q
namespace Go.Proofs.Ytkopbaikmlajmaa.Q
open Go.RowKit Go.Proofs.YtkopbaikmlajmaaW.PrintWords Go.Proofs.YtkopbaikmlajmaaW.PrintLast Go.Proofs.YtkopbaikmlajmaaW.PrintMore
set_option linter.unusedVariables false
set_option linter.unusedSimpArgs false

theorem keep {w w1 : World} (hb : Below w.heap.size w w1) {a : Addr} {v : Value} (h : w.cell? a = some v) : w1.cell? a = some v := (hb.cell (World.block_lt_of_cell? w _ h)).trans h
theorem below_al (w : World) (o : Obj) : Below w.heap.size w (w.alloc o) := (Below.refl _ _).alloc (Nat.le_refl _) o
theorem below_dr (w : World) : Below w.heap.size w w.drew := (Below.refl _ _).drew
theorem keep_al {w : World} {a : Addr} {v : Value} (h : w.cell? a = some v) (o : Obj) : (w.alloc o).cell? a = some v := keep (below_al w o) h

theorem region_tail {P : Program} {id : Nat} {Q : Exit → Act → World → Prop} {a : Act} {w : World} {l : List Oper} (n : Nat) (hm : P.follows .mixedOrders = true) (hB : Region.lexTailB .any l.toArray n = true)
  (h : ∀ w1, w1 = w.drew → wpStill P l.toArray w1 (fun a' => wpList P l.toArray Q (l.drop n) a' w1) (l.take n) a) : (Code.region id l.toArray true).wp P Q a w :=
 wp_region_still_tail n hm hB (h _ rfl)
theorem region_reads {P : Program} {id : Nat} {Q : Exit → Act → World → Prop} {a : Act} {w : World} {l : List Oper} (hm : P.follows .mixedOrders = true) (hB : Region.lexB .any l.toArray = true)
  (h : ∀ w1, w1 = w.drew → wpStill P l.toArray w1 (fun a' => Q .normal a' w1) l a) : (Code.region id l.toArray true).wp P Q a w :=
 wp_region_still_lit hm hB (h _ rfl)
theorem wp_then {P : Program} {o : Oper} {a : Act} {w : World} {next K : Act → World → Prop} {Q : Exit → Act → World → Prop} : o.wp P a w next (Exit.then K Q) = o.wp P a w next Q := by
 unfold Oper.wp
 generalize (execOp a.eval o).run P w = r
 cases r with
 | ok n w' =>
  cases n with
  | enter f args =>
   simp only [Oper.upon]
   congr 1
  | _ => rfl
 | halt x w' => cases x <;> rfl
def seqHead (md : Region.Mode) (ops : Array Oper) (g : Nat) : Nat → Nat → Array Bool → Bool
 | 0, k, listed => Region.lexFrom md ops g k listed
 | f + 1, k, listed => decide (Region.ready md ops listed = [k]) && seqHead md ops g f (k + 1) (listed.setIfInBounds k true)
theorem wpAny_seqHead {P : Program} {md : Region.Mode} {ops : Array Oper} {Q : Exit → Act → World → Prop} {K : Act → World → Prop} {g : Nat} : ∀ (l : List Oper) (k : Nat) (listed : Array Bool) (a : Act) (w : World), (∀ j, j < l.length → l[j]? = ops[k + j]?) →
  (∀ (listed' : Array Bool) (a' : Act) (w' : World), Region.lexFrom md ops g (k + l.length) listed' = true → K a' w' → wpAny P md ops Q g listed' a' w') →
  seqHead md ops g l.length k listed = true → wpList P ops (Exit.then K Q) l a w → wpAny P md ops Q (l.length + g) listed a w
 | [], k, listed, a, w, _, hK, hB, h => by
  simp only [List.length_nil, Nat.zero_add]
  exact hK listed a w (by simpa [seqHead] using hB) h
 | o :: l, k, listed, a, w, hl, hK, hB, h => by
  have h0 : ops[k]? = some o := by simpa using (hl 0 (by simp)).symm
  simp only [List.length_cons, seqHead, Bool.and_eq_true, decide_eq_true_eq] at hB
  rw [show (o :: l).length + g = (l.length + g) + 1 by simp only [List.length_cons]; omega]
  refine ⟨fun h1 => (by rw [hB.1] at h1; cases h1), fun i hi => ?_⟩
  rw [hB.1] at hi
  have hik : i = k := by simpa using hi
  subst hik
  have hw : wpOp P ops Q i (wpList P ops (Exit.then K Q) l) a w := by
   unfold wpOp
   simp only [h0]
   unfold wpList at h
   rw [wp_then] at h
   exact h
  exact wpOp_mono (fun a' w' h' => wpAny_seqHead l (i + 1) _ a' w' (fun j hj => by have := hl (j + 1) (by simp only [List.length_cons]; omega); simpa [Nat.add_assoc, Nat.add_comm 1 j] using this) (fun listed' a'' w'' hB' hk => hK listed' a'' w'' (by simpa [Nat.add_assoc, Nat.add_comm 1] using hB') hk) hB.2 h') hw
theorem region_mid {P : Program} {id : Nat} {Q : Exit → Act → World → Prop} {a : Act} {w : World} {l : List Oper} (n : Nat) (hm : P.follows .mixedOrders = true) (hB : (decide (n ≤ l.length) && Region.noSelect l.toArray && seqHead .any l.toArray (l.length - n) n 0 (Array.replicate l.length false)) = true)
  (h : ∀ w1, w1 = w.drew → ∀ K : Act → World → Prop, (∀ a' w', wpStill P l.toArray w' (fun a'' => Q .normal a'' w') (l.drop n) a' → K a' w') → wpList P l.toArray (Exit.then K Q) (l.take n) a w1) : (Code.region id l.toArray true).wp P Q a w := by
 simp only [Bool.and_eq_true, decide_eq_true_eq] at hB
 obtain ⟨⟨hn, hs⟩, hB⟩ := hB
 refine wp_region_any hm ?_
 have hl : (l.take n).length = n := by simp; omega
 have := wpAny_seqHead (md := .any) (Q := Q) (g := l.length - n) (l.take n) 0 (Array.replicate l.length false) a w.drew (fun j hj => by
  rw [hl] at hj
  simp [hj]) (fun listed' a' w' hB' hk => ?_) (by rw [hl]; exact hB) (h _ rfl (fun a' w' => wpStill P l.toArray w' (fun a'' => Q .normal a'' w') (l.drop n) a') (fun _ _ h => h))
 ·rw [hl, show n + (l.length - n) = l.length by omega] at this
  simpa using this
 rw [hl] at hB'
 refine wpAny_of_still (Q := fun a'' => Q .normal a'' w') (fun _ h => h) _ _ _ ?_
 have := wpAnyS_lex (md := .any) hs (l.drop n) (0 + n) listed' a' (fun j => by simp [List.getElem?_drop]) (by simpa using hB') hk
 simpa using this
def ixOf {α : Type} (p : α → Bool) (l : List α) : Int := match l.findIdx? p with | some k => k | none => -1
theorem ixOf_hit {α : Type} (p : α → Bool) (l : List α) (k : Nat) (z : α) (hk : k < l.length) (h0 : ∀ j, j < k → p (l.getD j z) = false) (h1 : p (l.getD k z) = true) : ixOf p l = k := by
 have : l.findIdx? p = some k := by
  rw [List.findIdx?_eq_some_iff_getElem]
  refine ⟨hk, by simpa [List.getD_eq_getElem?_getD, hk] using h1, fun j hj => ?_⟩
  have := h0 j hj
  rw [List.getD_eq_getElem?_getD, List.getElem?_eq_getElem (by omega)] at this
  simpa using this
 unfold ixOf
 rw [this]
theorem ixOf_none {α : Type} (p : α → Bool) (l : List α) (z : α) (h0 : ∀ j, j < l.length → p (l.getD j z) = false) : ixOf p l = -1 := by
 have : l.findIdx? p = none := by
  rw [List.findIdx?_eq_none_iff]
  intro x hx
  obtain ⟨j, hj, rfl⟩ := List.getElem_of_mem hx
  have := h0 j hj
  rw [List.getD_eq_getElem?_getD, List.getElem?_eq_getElem hj] at this
  simpa using this
 unfold ixOf
 rw [this]

end Go.Proofs.Ytkopbaikmlajmaa.Q
