/- What schema.Words computes, in plain words; what a valid table obeys. -/
import Derived.Test.YtkopbaikmlajmaaS2
import Derived.Test.YtkopbaikmlajmaaD2
import Derived.Test.YtkopbaikmlajmaaF81
namespace Go.Proofs.Ytkopbaikmlajmaa.Q
open Go.RowKit Go.Proofs.YtkopbaikmlajmaaW.PrintWords Go.Proofs.YtkopbaikmlajmaaW.PrintLast Go.Proofs.YtkopbaikmlajmaaW.PrintMore
set_option linter.unusedSimpArgs false

def trI (b : Bool) : Int := if b = true then 1 else 0
theorem trI_range (b : Bool) : 0 ≤ trI b ∧ trI b ≤ 1 := by unfold trI; split <;> omega
/-- Places as one number, four bits each, the first lowest. -/
def packI : List Int → Int
  | [] => 0
  | c :: l => packI l * 16 + c
def colW (c : S56) : List Int := (c.f1 + 4 * trI c.f2 + 8 * c.f0.size) :: textW c.f0
def idxW (x : S65) : List Int := (trI x.f2 + 2 * x.f1.length + 32 * x.f0.size) :: packI x.f1 :: textW x.f0
def valW (v : S40) : List Int := if v.f0 = 1 then [v.f1 + 549755813888] else if v.f0 = 3 then [v.f1] else (v.f2.size : Int) :: textW v.f2
def chkW (k : S42) : List Int := (k.f0 + 16 * k.f1) :: valW k.f2
def headW (nm : ByteArray) (cs : List S56) (xs : List S65) (ks : List S42) : List Int := ((cs.length : Int) + 16 * xs.length + 256 * ks.length + 4096 * nm.size) :: textW nm
/-- The words of a table that is valid. -/
def wordsL (nm : ByteArray) (cs : List S56) (xs : List S65) (ks : List S42) : List Int := headW nm cs xs ks ++ cs.flatMap colW ++ xs.flatMap idxW ++ ks.flatMap chkW
/-- The words that schema.Words returns. -/
def wordsE (nm : ByteArray) (cs : List S56) (xs : List S65) (ks : List S42) : List Int := if checkE nm cs xs ks = 0 then wordsL nm cs xs ks else []

/-- What a valid table obeys. -/
structure OkT (nm : ByteArray) (cs : List S56) (xs : List S65) (ks : List S42) : Prop where
  name : nameB nm = true
  nc : 1 ≤ cs.length ∧ cs.length ≤ 8
  col : ∀ i, i < cs.length → nameB (rd_T56 cs i).f0 = true ∧ dupC cs i = false ∧ 1 ≤ (rd_T56 cs i).f1 ∧ (rd_T56 cs i).f1 ≤ 3
  nx : xs.length ≤ 4
  idx : ∀ i, i < xs.length → nameB (rd_T65 xs i).f0 = true ∧ dupI xs i = false ∧ 1 ≤ (rd_T65 xs i).f1.length ∧ (rd_T65 xs i).f1.length ≤ cs.length ∧ ∀ k, k < (rd_T65 xs i).f1.length → badP (rd_T65 xs i).f1 cs.length k = false
  nk : ks.length ≤ 4
  chk : ∀ i, i < ks.length → 0 ≤ (rd_T42 ks i).f0 ∧ (rd_T42 ks i).f0 < cs.length ∧ 6 ≤ (rd_T42 ks i).f1 ∧ (rd_T42 ks i).f1 ≤ 11 ∧ validB (rd_T42 ks i).f2 = true ∧ (rd_T42 ks i).f2.f0 = (rd_T56 cs (rd_T42 ks i).f0).f1
theorem okT {nm : ByteArray} {cs : List S56} {xs : List S65} {ks : List S42} (h : checkE nm cs xs ks = 0) : OkT nm cs xs ks := by
  unfold checkE at h
  split at h; · cases h
  rename_i h1
  split at h; · cases h
  rename_i h2
  split at h; · contradiction
  rename_i h3
  split at h; · cases h
  rename_i h4
  split at h; · contradiction
  rename_i h5
  split at h; · cases h
  rename_i h6
  have h3' := firstE_all (Decidable.not_not.1 h3)
  have h5' := firstE_all (Decidable.not_not.1 h5)
  have h7' := firstE_all h
  refine ⟨by simpa using h1, by omega, fun i hi => ?_, by omega, fun i hi => ?_, by omega, fun i hi => ?_⟩
  · have := h3' i hi
    unfold colE at this
    split at this; · cases this
    split at this; · cases this
    split at this; · cases this
    rename_i a b c
    exact ⟨by simpa using a, by simpa using b, by omega, by omega⟩
  · have := h5' i hi
    unfold idxE at this
    split at this; · cases this
    split at this; · cases this
    split at this; · cases this
    split at this; · cases this
    rename_i a b c d
    refine ⟨by simpa using a, by simpa using b, by omega, by omega, fun k hk => ?_⟩
    rw [Bool.not_eq_true, List.any_eq_false] at d
    simpa using d k (List.mem_range.2 hk)
  · have := h7' i hi
    unfold chkE at this
    split at this; · cases this
    split at this; · cases this
    rename_i a b
    rw [not_or] at b
    exact ⟨by omega, by omega, by omega, by omega, by simpa using b.1, by simpa using b.2⟩
theorem nameB_size {s : ByteArray} (h : nameB s = true) : 1 ≤ s.size ∧ s.size ≤ 16 := by
  unfold nameB at h
  simp only [Bool.and_eq_true, decide_eq_true_eq] at h
  exact ⟨h.1.1.1.1, h.1.1.1.2⟩
theorem textW_length (s : ByteArray) : (textW s).length = (s.size + 4) / 5 := by simp [textW]
theorem validB_text {v : S40} (h : validB v = true) : v.f0 = 1 ∧ -549755813888 ≤ v.f1 ∧ v.f1 ≤ 549755813887 ∧ v.f2.toList = [] ∨ v.f0 = 3 ∧ (v.f1 = 0 ∨ v.f1 = 1) ∧ v.f2.toList = [] ∨ v.f0 = 2 ∧ v.f1 = 0 ∧ v.f2.size ≤ 40 := by
  unfold validB at h
  split at h
  · rename_i e
    simp only [Bool.and_eq_true, decide_eq_true_eq] at h
    exact .inl ⟨e, h.1.2, h.2, h.1.1⟩
  split at h
  · rename_i e
    simp only [Bool.and_eq_true, Bool.or_eq_true, decide_eq_true_eq] at h
    exact .inr (.inl ⟨e, h.2, h.1⟩)
  split at h
  · rename_i e
    simp only [Bool.and_eq_true, decide_eq_true_eq] at h
    exact .inr (.inr ⟨e, h.1, h.2⟩)
  · cases h
theorem flatMap_take {α : Type} (f : α → List Int) (l : List α) (z : α) (k : Nat) (hk : k < l.length) : (l.take (k + 1)).flatMap f = (l.take k).flatMap f ++ f (l.getD k z) := by
  rw [List.take_add_one, List.flatMap_append, List.getElem?_eq_getElem hk]
  simp [List.getD_eq_getElem?_getD, hk]
/-- A writer at block g, behind w; the memory that stood at wa stands. -/
structure St (w wa : World) (g : Nat) (wr : World) (ys : List Int) : Prop where
  ws : WS (fun _ => True) w.heap.size g wr ys
  below : Below w.heap.size w wr
  keep : KeepT wa wr
theorem St.step {w wa wr w1 : World} {g : Nat} {ys : List Int} (h : St w wa g wr ys) (hb : Below wr.heap.size wr w1) : St w wa g w1 ys :=
  ⟨h.ws.below hb, below_step h.below hb, h.keep.trans (KeepT.below hb)⟩
theorem St.al {w wa wr : World} {g : Nat} {ys : List Int} (h : St w wa g wr ys) (o : Obj) : St w wa g (wr.alloc o) ys := h.step (below_al wr o)
theorem St.add {w wa wr w1 : World} {g : Nat} {A : Option Addr} {c : Nat} {ys l : List Int} (h : St w wa g wr ys) (hb : Below wr.heap.size wr w1) (hl : (Kd.int .i64).C w1 A l.length l) (hn : ys.length + l.length ≤ 1000000000) :
    Calls Try.prog 79 #[.pointer (some ⟨g, 0, none⟩), .slice A l.length c] w1 fun e w' => e = .returned (.tuple #[]) ∧ St w wa g w' (ys ++ l) ∧ KeepT wr w' := by
  have h1 := h.step hb
  refine (c79 (fun _ => True) w.heap.size g ys A c l w1 h1.ws (fun _ _ => trivial) hl h1.below.size hn).mono ?_
  rintro e w' ⟨rfl, hw, hB, hk, _⟩
  exact ⟨rfl, ⟨hw, h1.below.trans hB, h1.keep.trans hk⟩, (KeepT.below hb).trans hk⟩
theorem St.add1 {w wa wr w1 : World} {g : Nat} {ys : List Int} (h : St w wa g wr ys) (hb : Below wr.heap.size wr w1) (x : Int) (hn : ys.length ≤ 1000000) :
    Calls Try.prog 79 #[.pointer (some ⟨g, 0, none⟩), .slice (some ⟨w1.heap.size, 0, none⟩) 1 1] (w1.alloc (.cells #[.int .i64 x] 3)) fun e w' => e = .returned (.tuple #[]) ∧ St w wa g w' (ys ++ [x]) ∧ KeepT wr w' :=
  h.add (l := [x]) (below_step hb (below_al w1 _)) (C_lit1 w1 x) (by simp; omega)
theorem St.add2 {w wa wr w1 : World} {g : Nat} {ys : List Int} (h : St w wa g wr ys) (hb : Below wr.heap.size wr w1) (x y : Int) (hn : ys.length ≤ 1000000) :
    Calls Try.prog 79 #[.pointer (some ⟨g, 0, none⟩), .slice (some ⟨w1.heap.size, 0, none⟩) 2 2] (w1.alloc (.cells #[.int .i64 x, .int .i64 y] 3)) fun e w' => e = .returned (.tuple #[]) ∧ St w wa g w' (ys ++ [x, y]) ∧ KeepT wr w' :=
  h.add (l := [x, y]) (below_step hb (below_al w1 _)) (C_lit2 w1 x y) (by simp; omega)
theorem St.add1' {w wa wr w1 : World} {g : Nat} {ys : List Int} (h : St w wa g wr ys) (hb : Below wr.heap.size wr w1) (x : Int) (B : Nat) (hB : B = w1.heap.size) (hn : ys.length ≤ 1000000) :
    Calls Try.prog 79 #[.pointer (some ⟨g, 0, none⟩), .slice (some ⟨B, 0, none⟩) 1 1] (w1.alloc (.cells #[.int .i64 x] 3)) fun e w' => e = .returned (.tuple #[]) ∧ St w wa g w' (ys ++ [x]) ∧ KeepT wr w' := by
  subst hB
  exact h.add1 hb x hn
theorem St.add2' {w wa wr w1 : World} {g : Nat} {ys : List Int} (h : St w wa g wr ys) (hb : Below wr.heap.size wr w1) (x y : Int) (B : Nat) (hB : B = w1.heap.size) (hn : ys.length ≤ 1000000) :
    Calls Try.prog 79 #[.pointer (some ⟨g, 0, none⟩), .slice (some ⟨B, 0, none⟩) 2 2] (w1.alloc (.cells #[.int .i64 x, .int .i64 y] 3)) fun e w' => e = .returned (.tuple #[]) ∧ St w wa g w' (ys ++ [x, y]) ∧ KeepT wr w' := by
  subst hB
  exact h.add2 hb x y hn
theorem bx3 {w : World} {b : Nat} {u0 u1 u2 : Value} {t : TypeId} (h : w.heap[b]? = some (.cells #[u0, u1, u2] t (0, 0))) : w.cell? ⟨b, 0, none⟩ = some u0 ∧ w.cell? ⟨b, 1, none⟩ = some u1 ∧ w.cell? ⟨b, 2, none⟩ = some u2 := ⟨blk_cell h 0, blk_cell h 1, blk_cell h 2⟩
theorem bx5 {w : World} {b : Nat} {u0 u1 u2 u3 u4 : Value} {t : TypeId} (h : w.heap[b]? = some (.cells #[u0, u1, u2, u3, u4] t (0, 0))) : w.cell? ⟨b, 0, none⟩ = some u0 ∧ w.cell? ⟨b, 1, none⟩ = some u1 ∧ w.cell? ⟨b, 2, none⟩ = some u2 ∧ w.cell? ⟨b, 3, none⟩ = some u3 ∧ w.cell? ⟨b, 4, none⟩ = some u4 := ⟨blk_cell h 0, blk_cell h 1, blk_cell h 2, blk_cell h 3, blk_cell h 4⟩
theorem St.text {w wa wr : World} {g : Nat} {ys : List Int} (h : St w wa g wr ys) (s : ByteArray) (hn : ys.length ≤ 1000000) (hs : s.size ≤ 1000000) :
    Calls Try.prog 80 #[.pointer (some ⟨g, 0, none⟩), .string s] wr fun e w' => e = .returned (.tuple #[]) ∧ St w wa g w' (ys ++ textW s) ∧ KeepT wr w' := by
  refine (c80 w.heap.size g ys s wr h.ws h.below.size (by omega)).mono ?_
  rintro e w' ⟨rfl, hw, hB, hk⟩
  exact ⟨rfl, ⟨hw, h.below.trans hB, h.keep.trans hk⟩, hk⟩

theorem flatMap_len {α : Type} (f : α → List Int) (l : List α) (z : α) (m : Nat) : ∀ k, k ≤ l.length → (∀ i, i < k → (f (l.getD i z)).length ≤ m) → ((l.take k).flatMap f).length ≤ m * k
  | 0, _, _ => by simp
  | k + 1, hk, h => by
    rw [flatMap_take f l z k (by omega), List.length_append]
    have h1 := flatMap_len f l z m k (by omega) (fun i hi => h i (by omega))
    have h2 := h k (by omega)
    rw [Nat.mul_add, Nat.mul_one]
    omega
theorem OkT.lenC {nm : ByteArray} {cs : List S56} {xs : List S65} {ks : List S42} (h : OkT nm cs xs ks) (k : Nat) (hk : k ≤ cs.length) : ((cs.take k).flatMap colW).length ≤ 5 * k := by
  refine flatMap_len colW cs z56 5 k hk (fun i hi => ?_)
  have := nameB_size (h.col i (by omega)).1
  unfold rd_T56 at this
  rw [Int.toNat_natCast] at this
  simp only [colW, textW_length, List.length_cons]
  omega
theorem OkT.lenX {nm : ByteArray} {cs : List S56} {xs : List S65} {ks : List S42} (h : OkT nm cs xs ks) (k : Nat) (hk : k ≤ xs.length) : ((xs.take k).flatMap idxW).length ≤ 6 * k := by
  refine flatMap_len idxW xs z65 6 k hk (fun i hi => ?_)
  have := nameB_size (h.idx i (by omega)).1
  unfold rd_T65 at this
  rw [Int.toNat_natCast] at this
  simp only [idxW, textW_length, List.length_cons]
  omega
theorem valW_len {v : S40} (h : validB v = true) : (valW v).length ≤ 9 := by
  unfold valW
  rcases validB_text h with ⟨h1, _⟩ | ⟨h1, _⟩ | ⟨h1, h2, h3⟩
  · rw [if_pos h1]; simp
  · rw [if_neg (by omega), if_pos h1]; simp
  · rw [if_neg (by omega), if_neg (by omega)]
    simp [textW_length]
    omega
theorem OkT.lenK {nm : ByteArray} {cs : List S56} {xs : List S65} {ks : List S42} (h : OkT nm cs xs ks) (k : Nat) (hk : k ≤ ks.length) : ((ks.take k).flatMap chkW).length ≤ 10 * k := by
  refine flatMap_len chkW ks z42 10 k hk (fun i hi => ?_)
  have := valW_len (h.chk i (by omega)).2.2.2.2.1
  unfold rd_T42 at this
  rw [Int.toNat_natCast] at this
  simp only [chkW, List.length_cons]
  omega
theorem OkT.lenH {nm : ByteArray} {cs : List S56} {xs : List S65} {ks : List S42} (h : OkT nm cs xs ks) : (headW nm cs xs ks).length ≤ 5 := by
  have := nameB_size h.name
  simp [headW, textW_length]
  omega
theorem head_bits (a b c d : Int) (ha : 0 ≤ a ∧ a < 16) (hb : 0 ≤ b ∧ b < 16) (hc : 0 ≤ c ∧ c < 16) (hd : 0 ≤ d ∧ d < 1000000) : bits .or .i64 (bits .or .i64 (bits .or .i64 a (b * 16)) (c * 256)) (d * 4096) = a + 16 * b + 256 * c + 4096 * d := by
  rw [or_i64_add a (b * 16) 4 b (by omega) (by omega) (by omega) (by omega) (by omega) (by omega), or_i64_add (a + b * 16) (c * 256) 8 c (by omega) (by omega) (by omega) (by omega) (by omega) (by omega), or_i64_add _ (d * 4096) 12 d (by omega) (by omega) (by omega) (by omega) (by omega) (by omega)]
  omega
theorem col_bits (a b d : Int) (ha : 0 ≤ a ∧ a < 4) (hb : 0 ≤ b ∧ b ≤ 1) (hd : 0 ≤ d ∧ d < 1000000) : bits .or .i64 (bits .or .i64 a (b * 4)) (d * 8) = a + 4 * b + 8 * d := by
  rw [or_i64_add a (b * 4) 2 b (by omega) (by omega) (by omega) (by omega) (by omega) (by omega), or_i64_add _ (d * 8) 3 d (by omega) (by omega) (by omega) (by omega) (by omega) (by omega)]
  omega
theorem idx_bits (a b d : Int) (ha : 0 ≤ a ∧ a ≤ 1) (hb : 0 ≤ b ∧ b < 16) (hd : 0 ≤ d ∧ d < 1000000) : bits .or .i64 (bits .or .i64 a (b * 2)) (d * 32) = a + 2 * b + 32 * d := by
  rw [or_i64_add a (b * 2) 1 b (by omega) (by omega) (by omega) (by omega) (by omega) (by omega), or_i64_add _ (d * 32) 5 d (by omega) (by omega) (by omega) (by omega) (by omega) (by omega)]
  omega
theorem chk_bits (a b : Int) (ha : 0 ≤ a ∧ a < 16) (hb : 0 ≤ b ∧ b < 1000000) : bits .or .i64 a (b * 16) = a + 16 * b := by
  rw [or_i64_add a (b * 16) 4 b (by omega) (by omega) (by omega) (by omega) (by omega) (by omega)]
  omega
theorem rd_nil (j : Nat) : rd [] (j : Int) = 0 := rfl
theorem rd_cons_zero (a : Int) (l : List Int) : rd (a :: l) ((0 : Nat) : Int) = a := rfl
theorem rd_cons_succ (a : Int) (l : List Int) (j : Nat) : rd (a :: l) ((j + 1 : Nat) : Int) = rd l (j : Int) := by unfold rd; simp
/-- One more place. -/
theorem pack_step : ∀ (l : List Int) (j : Nat), j < l.length → packI (l.take (j + 1)) = packI (l.take j) + rd l (j : Int) * 16 ^ j
  | [], j, h => by simp at h
  | a :: l, 0, _ => by simp [packI, rd]
  | a :: l, j + 1, h => by
    have ih := pack_step l j (by simpa using h)
    rw [rd_cons_succ]
    simp only [List.take_succ_cons, packI] at ih ⊢
    rw [ih, Int.pow_succ]
    have : (packI (l.take j) + rd l (j : Int) * 16 ^ j) * 16 = packI (l.take j) * 16 + rd l (j : Int) * (16 ^ j * 16) := by rw [Int.add_mul, Int.mul_assoc]
    omega
theorem pack_range : ∀ (l : List Int) (j : Nat), j ≤ l.length → (∀ i : Nat, i < j → 0 ≤ rd l (i : Int) ∧ rd l (i : Int) < 16) → 0 ≤ packI (l.take j) ∧ packI (l.take j) < 16 ^ j
  | l, 0, _, _ => by simp [packI]
  | l, j + 1, h, hr => by
    have ih := pack_range l j (by omega) (fun i hi => hr i (by omega))
    have h1 := hr j (by omega)
    rw [pack_step l j (by omega), Int.pow_succ]
    have hp : (0 : Int) < 16 ^ j := Int.pow_pos (by omega)
    have h2 : rd l (j : Int) * 16 ^ j ≤ 15 * 16 ^ j := Int.mul_le_mul_of_nonneg_right (by omega) (Int.le_of_lt hp)
    have h3 : 0 ≤ rd l (j : Int) * 16 ^ j := Int.mul_nonneg h1.1 (Int.le_of_lt hp)
    omega
theorem pack_bits (l : List Int) (j : Nat) (hj : j < l.length) (h8 : j < 8) (p0 : 0 ≤ packI (l.take j)) (p1 : packI (l.take j) < 16 ^ j) (y0 : 0 ≤ rd l (j : Int)) (y1 : rd l (j : Int) < 16) : bits .or .i64 (packI (l.take j)) (wrap64 (rd l (j : Int) * 2 ^ (4 * j))) = packI (l.take (j + 1)) := by
  have e := (by decide : ∀ j : Nat, j < 8 → (2 : Int) ^ (4 * j) = 16 ^ j) j h8
  have m := (by decide : ∀ j : Nat, j < 8 → (0 : Int) < 16 ^ j ∧ (16 : Int) ^ j ≤ 268435456) j h8
  have h2 : rd l (j : Int) * 16 ^ j ≤ 15 * 16 ^ j := Int.mul_le_mul_of_nonneg_right (by omega) (by omega)
  have h3 : 0 ≤ rd l (j : Int) * 16 ^ j := Int.mul_nonneg y0 (by omega)
  rw [pack_step l j hj, e, IntWalk.wrap64_in _ (by omega)]
  exact or_i64_add _ _ (4 * j) (rd l (j : Int)) p0 (by rw [e]; exact p1) (by rw [e]) y0 (by omega) (by omega)
theorem bit_eq (b : Bool) : schema_bit.f b = some (trI b) := by unfold schema_bit.f trI; split <;> rfl
end Go.Proofs.Ytkopbaikmlajmaa.Q
