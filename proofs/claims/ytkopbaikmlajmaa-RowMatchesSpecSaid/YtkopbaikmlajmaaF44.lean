import Derived.Test.YtkopbaikmlajmaaZ
import Derived.Test.YtkopbaikmlajmaaRA
import Derived.Test.YtkopbaikmlajmaaHA
import Derived.Test.YtkopbaikmlajmaaF70
import Derived.Test.YtkopbaikmlajmaaFA
namespace Go.Proofs.Ytkopbaikmlajmaa.Q
open Go.RowKit Go.Proofs.YtkopbaikmlajmaaW.PrintWords Go.Proofs.YtkopbaikmlajmaaW.PrintLast Go.Proofs.YtkopbaikmlajmaaW.PrintMore
set_option linter.unusedVariables false
set_option linter.unusedSimpArgs false
attribute [local go_sem ↓] Go.wp_at_zero Go.wp_at_succ
theorem Z132 {P : Prop} (h : P := by have := HBB.out; omega) : P := h
def nullB (n : Nat) (nulls : Nat) (k : Nat) : Bool := decide (n ≤ k) || decide (nulls / 2 ^ k % 2 = 1)
def decS (cs : List S56) (n nulls : Nat) (l : List Int) : Nat → Option (List S40 × Nat)
 | 0 => some ([], 1)
 | k + 1 => (decS cs n nulls l k).bind fun p =>
  if nullB n nulls k = true then (if (rd_T56 cs k).f2 = true then some (p.1 ++ [⟨0, 0, ⟨#[]⟩⟩], p.2) else none)
  else (valD (rd_T56 cs k).f1 l p.2).map fun q => (p.1 ++ [q.1], q.2)
def decE (cs : List S56) (l : List Int) : Option (List S40 × Nat) :=
 (rdW l 0).bind fun f => if f.toNat / 256 < 1 ∨ cs.length < f.toNat / 256 ∨ f.toNat % 256 / 2 ^ (f.toNat / 256) ≠ 0 then none else decS cs (f.toNat / 256) (f.toNat % 256) l cs.length
def decR (cs : List S56) (l : List Int) : List S40 × Int × Int := match decE cs l with | some (r, i) => (r, i, 0) | none => ([], 0, 3)
theorem decS_none {cs : List S56} {n nulls : Nat} {l : List Int} {k : Nat} (h : decS cs n nulls l k = none) : ∀ m, decS cs n nulls l (k + m) = none
 | 0 => h
 | m + 1 => by rw [← Nat.add_assoc]; show (decS cs n nulls l (k + m)).bind _ = none; rw [decS_none h m]; rfl
def DS (b : Nat) (nm : ByteArray) (A1 : Option Addr) (c1 n1 : Nat) (A2 : Option Addr) (c2 n2 : Nat) (A3 : Option Addr) (c3 n3 : Nat) (A : Option Addr) (n c : Nat) (v : Value) (i : Nat) (w : World) : Prop :=
 w.heap[b]? = some (.cells #[.string nm, .slice A1 n1 c1, .slice A2 n2 c2, .slice A3 n3 c3] 28 (0, 0)) ∧ w.heap[b + 1]? = some (.cells #[v] 37 (0, 0)) ∧ w.heap[b + 1 + 1]? = some (.cells #[.int .i64 0] 3 (0, 0)) ∧ w.heap[b + 1 + 1 + 1]? = some (.cells #[.int .i64 0] 30 (0, 0)) ∧ RS (b + 1 + 1 + 1 + 1) A n c i w
section
variable {b : Nat} {nm : ByteArray} {A1 : Option Addr} {c1 n1 : Nat} {A2 : Option Addr} {c2 n2 : Nat} {A3 : Option Addr} {c3 n3 : Nat} {A : Option Addr} {n c : Nat} {v : Value} {i : Nat} {w w1 : World}
theorem DS.below (h : DS b nm A1 c1 n1 A2 c2 n2 A3 c3 n3 A n c v i w) (hb : Below w.heap.size w w1) : DS b nm A1 c1 n1 A2 c2 n2 A3 c3 n3 A n c v i w1 :=
 ⟨blk_below h.1 hb, blk_below h.2.1 hb, blk_below h.2.2.1 hb, blk_below h.2.2.2.1 hb, blk_below h.2.2.2.2 hb⟩
theorem DS.kept {j : Nat} (h : DS b nm A1 c1 n1 A2 c2 n2 A3 c3 n3 A n c v i w) (hk : Kept w w1 (fun k => k = b + 1 + 1 + 1 + 1)) (hr : RS (b + 1 + 1 + 1 + 1) A n c j w1) : DS b nm A1 c1 n1 A2 c2 n2 A3 c3 n3 A n c v j w1 :=
 ⟨blk_kept h.1 hk (by omega), blk_kept h.2.1 hk (by omega), blk_kept h.2.2.1 hk (by omega), blk_kept h.2.2.2.1 hk (by omega), hr⟩
theorem DS.kept0 (h : DS b nm A1 c1 n1 A2 c2 n2 A3 c3 n3 A n c v i w) (hk : Kept w w1 (fun k => k = b + 1 + 1 + 1 + 1)) : w1.heap[b + 1]? = some (.cells #[v] 37 (0, 0)) ∧ w1.heap[b + 1 + 1]? = some (.cells #[.int .i64 0] 3 (0, 0)) ∧ w1.heap[b + 1 + 1 + 1]? = some (.cells #[.int .i64 0] 30 (0, 0)) :=
 ⟨blk_kept h.2.1 hk (by omega), blk_kept h.2.2.1 hk (by omega), blk_kept h.2.2.2.1 hk (by omega)⟩
theorem DS.grown {base : Nat} {ok : Nat → Prop} {u : Value} {xs : List S40} (h : DS b nm A1 c1 n1 A2 c2 n2 A3 c3 n3 A n c v i w) (hg : w.grownBy w1 u.ownBlock) (hR : Kd.R k40 40 w base ok u xs) : DS b nm A1 c1 n1 A2 c2 n2 A3 c3 n3 A n c v i w1 :=
 ⟨blk_grown h.1 hg (Kd.R_ne hR h.1 (by decide)), blk_grown h.2.1 hg (Kd.R_ne hR h.2.1 (by decide)), blk_grown h.2.2.1 hg (Kd.R_ne hR h.2.2.1 (by decide)), blk_grown h.2.2.2.1 hg (Kd.R_ne hR h.2.2.2.1 (by decide)), blk_grown h.2.2.2.2 hg (Kd.R_ne hR h.2.2.2.2 (by decide))⟩
theorem DS.put (h : DS b nm A1 c1 n1 A2 c2 n2 A3 c3 n3 A n c v i w) (v1 : Value) : DS b nm A1 c1 n1 A2 c2 n2 A3 c3 n3 A n c v1 i (w.setCell ⟨b + 1, 0, none⟩ v1) :=
 ⟨blk_far h.1 (by show b ≠ b + 1; omega) _, blk_put h.2.1 0 _ rfl, blk_far h.2.2.1 (by show b + 1 + 1 ≠ b + 1; omega) _, blk_far h.2.2.2.1 (by show b + 1 + 1 + 1 ≠ b + 1; omega) _, blk_far h.2.2.2.2 (by show b + 1 + 1 + 1 + 1 ≠ b + 1; omega) _⟩
end
section
variable {cs : List S56} {n nulls : Nat} {l : List Int} {k i : Nat} {out : List S40}
theorem decS_null (h : decS cs n nulls l k = some (out, i)) (hn : nullB n nulls k = true) (hf : (rd_T56 cs (k : Int)).f2 = true) : decS cs n nulls l (k + 1) = some (out ++ [⟨0, 0, ⟨#[]⟩⟩], i) := by
 show (decS cs n nulls l k).bind _ = _
 rw [h]
 show (if nullB n nulls k = true then _ else _) = _
 rw [if_pos hn, if_pos hf]
theorem decS_bad (h : decS cs n nulls l k = some (out, i)) (hn : nullB n nulls k = true) (hf : (rd_T56 cs (k : Int)).f2 = false) (hk : k < cs.length) : decS cs n nulls l cs.length = none := by
 have h1 : decS cs n nulls l (k + 1) = none := by
  show (decS cs n nulls l k).bind _ = _
  rw [h]
  show (if nullB n nulls k = true then _ else _) = _
  rw [if_pos hn, if_neg (by rw [hf]; decide)]
 have := decS_none h1 (cs.length - (k + 1))
 rwa [show k + 1 + (cs.length - (k + 1)) = cs.length by omega] at this
theorem decS_val (h : decS cs n nulls l k = some (out, i)) (hn : nullB n nulls k = false) {x : S40} {j : Nat} (hv : valD (rd_T56 cs (k : Int)).f1 l i = some (x, j)) : decS cs n nulls l (k + 1) = some (out ++ [x], j) := by
 show (decS cs n nulls l k).bind _ = _
 rw [h]
 show (if nullB n nulls k = true then _ else _) = _
 rw [if_neg (by rw [hn]; decide), hv]
 rfl
theorem decS_noval (h : decS cs n nulls l k = some (out, i)) (hn : nullB n nulls k = false) (hv : valD (rd_T56 cs (k : Int)).f1 l i = none) (hk : k < cs.length) : decS cs n nulls l cs.length = none := by
 have h1 : decS cs n nulls l (k + 1) = none := by
  show (decS cs n nulls l k).bind _ = _
  rw [h]
  show (if nullB n nulls k = true then _ else _) = _
  rw [if_neg (by rw [hn]; decide), hv]
  rfl
 have := decS_none h1 (cs.length - (k + 1))
 rwa [show k + 1 + (cs.length - (k + 1)) = cs.length by omega] at this
end
theorem shr_nat (u n : Nat) (hu : u < 256) : (u : Int) / 2 ^ min n 64 = ((u / 2 ^ n : Nat) : Int) := by
 rw [Int.natCast_ediv, Int.natCast_pow]
 by_cases h : n ≤ 64
 ·rw [Nat.min_eq_left h]; rfl
 have h1 : u / 2 ^ n = 0 := Nat.div_eq_of_lt (Nat.lt_of_lt_of_le hu (Nat.le_trans (by decide : 256 ≤ 2 ^ 8) (Nat.pow_le_pow_right (by decide) (by omega))))
 have h2 : u / 2 ^ 64 = 0 := Nat.div_eq_of_lt (by omega)
 rw [Nat.min_eq_right (by omega)]
 have e1 : ((u / 2 ^ n : Nat) : Int) = 0 := by rw [h1]; rfl
 have e2 : ((u / 2 ^ 64 : Nat) : Int) = 0 := by rw [h2]; rfl
 rw [Int.natCast_ediv, Int.natCast_pow] at e1 e2
 exact e2.trans e1.symm
set_option maxHeartbeats 1000000 in
theorem leave44 {b : Nat} {tmps : Array Value} {R : Ending → World → Prop} {v : Value} {w0 W : World} (ht4 : tmps.getD 4 undef = .pointer (some ⟨b + 1, 0, none⟩)) (ht5 : tmps.getD 5 undef = .pointer (some ⟨b + 1 + 1, 0, none⟩)) (ht6 : tmps.getD 6 undef = .pointer (some ⟨b + 1 + 1 + 1, 0, none⟩))
  (h : W.heap[b + 1]? = some (.cells #[v] 37 (0, 0)) ∧ W.heap[b + 1 + 1]? = some (.cells #[.int .i64 0] 3 (0, 0)) ∧ W.heap[b + 1 + 1 + 1]? = some (.cells #[.int .i64 0] 30 (0, 0))) (hb : w0.heap.size ≤ b) (HB : Below w0.heap.size w0 W)
  (hR : ∀ W', Below w0.heap.size w0 W' → R (.returned (.tuple #[.slice none 0 0, .int .i64 0, .int .i64 3])) W') :
  Leaves Try.prog Try.f44 tmps R [{ target := .fn (.func 101) #[.pointer (some ⟨b + 1, 0, none⟩), .pointer (some ⟨b + 1 + 1, 0, none⟩), .pointer (some ⟨b + 1 + 1 + 1, 0, none⟩)], args := #[] }] (.panicking [{ v := .iface 30 (.int .i64 3), recovered := false }]) W := by
 refine leaves_cons (f := 101) (args := #[.pointer (some ⟨b + 1, 0, none⟩), .pointer (some ⟨b + 1 + 1, 0, none⟩), .pointer (some ⟨b + 1 + 1 + 1, 0, none⟩)]) (by simp) (by simp [go_sem]) ?_
 refine (catch101_form (b + 1) (b + 1 + 1) (b + 1 + 1 + 1) _ _ _ W h.1 h.2.1 h.2.2 (by omega) (by omega) (by omega)).mono ?_
 rintro e u' w' ⟨rfl, rfl, hw⟩
 have h1 := blk_far (blk_far (blk_put (blk_drew h.1) 0 (.slice none 0 0) rfl) (p := ⟨b + 1 + 1, 0, none⟩) (by show b + 1 ≠ b + 1 + 1; omega) (.int .i64 0)) (p := ⟨b + 1 + 1 + 1, 0, none⟩) (by show b + 1 ≠ b + 1 + 1 + 1; omega) (.int .i64 3)
 have h2 := blk_far (blk_put (blk_far (blk_drew h.2.1) (p := ⟨b + 1, 0, none⟩) (by show b + 1 + 1 ≠ b + 1; omega) (.slice none 0 0)) 0 (.int .i64 0) rfl) (p := ⟨b + 1 + 1 + 1, 0, none⟩) (by show b + 1 + 1 ≠ b + 1 + 1 + 1; omega) (.int .i64 3)
 have h3 := blk_put (blk_far (blk_far (blk_drew h.2.2) (p := ⟨b + 1, 0, none⟩) (by show b + 1 + 1 + 1 ≠ b + 1; omega) (.slice none 0 0)) (p := ⟨b + 1 + 1, 0, none⟩) (by show b + 1 + 1 + 1 ≠ b + 1 + 1; omega) (.int .i64 0)) 0 (.int .i64 3) rfl
 have HB' : Below w0.heap.size w0 w' := hw ▸ below_set (below_set (below_set (below_step HB (below_dr W)) (by omega)) (by omega)) (by omega)
 rw [← hw] at h1 h2 h3
 have e1 := show w'.cell? ⟨b + 1, 0, none⟩ = some (.slice none 0 0) from blk_cell h1 0
 have e2 := show w'.cell? ⟨b + 1 + 1, 0, none⟩ = some (.int .i64 0) from blk_cell h2 0
 have e3 := show w'.cell? ⟨b + 1 + 1 + 1, 0, none⟩ = some (.int .i64 3) from blk_cell h3 0
 clear hw
 have g4 : tmps[4]?.getD undef = .pointer (some ⟨b + 1, 0, none⟩) := by simpa using ht4
 have g5 : tmps[5]?.getD undef = .pointer (some ⟨b + 1 + 1, 0, none⟩) := by simpa using ht5
 have g6 : tmps[6]?.getD undef = .pointer (some ⟨b + 1 + 1 + 1, 0, none⟩) := by simpa using ht6
 refine ⟨.tuple #[.slice none 0 0, .int .i64 0, .int .i64 3], ?_, hR _ HB'⟩
 simp [results, Try.results44, go_sem, g4, g5, g6, asAddr, e1, e2, e3]
theorem leaveOk44 {b : Nat} {tmps : Array Value} {R : Ending → World → Prop} {v : Value} {i : Int} {W : World} (ht4 : tmps.getD 4 undef = .pointer (some ⟨b + 1, 0, none⟩)) (ht5 : tmps.getD 5 undef = .pointer (some ⟨b + 1 + 1, 0, none⟩)) (ht6 : tmps.getD 6 undef = .pointer (some ⟨b + 1 + 1 + 1, 0, none⟩))
  (h1 : W.heap[b + 1]? = some (.cells #[v] 37 (0, 0))) (h2 : W.heap[b + 1 + 1]? = some (.cells #[.int .i64 i] 3 (0, 0))) (h3 : W.heap[b + 1 + 1 + 1]? = some (.cells #[.int .i64 0] 30 (0, 0)))
  (hR : R (.returned (.tuple #[v, .int .i64 i, .int .i64 0])) W) :
  Leaves Try.prog Try.f44 tmps R [{ target := .fn (.func 101) #[.pointer (some ⟨b + 1, 0, none⟩), .pointer (some ⟨b + 1 + 1, 0, none⟩), .pointer (some ⟨b + 1 + 1 + 1, 0, none⟩)], args := #[] }] .returning W := by
 refine leaves_cons (f := 101) (args := #[.pointer (some ⟨b + 1, 0, none⟩), .pointer (some ⟨b + 1 + 1, 0, none⟩), .pointer (some ⟨b + 1 + 1 + 1, 0, none⟩)]) (by simp) (by simp [go_sem]) ?_
 refine (catch101_idle _ _ _ W).mono ?_
 rintro e u' w' ⟨rfl, rfl, rfl⟩
 have e1 := show w'.cell? ⟨b + 1, 0, none⟩ = some v from blk_cell h1 0
 have e2 := show w'.cell? ⟨b + 1 + 1, 0, none⟩ = some (.int .i64 i) from blk_cell h2 0
 have e3 := show w'.cell? ⟨b + 1 + 1 + 1, 0, none⟩ = some (.int .i64 0) from blk_cell h3 0
 have g4 : tmps[4]?.getD undef = .pointer (some ⟨b + 1, 0, none⟩) := by simpa using ht4
 have g5 : tmps[5]?.getD undef = .pointer (some ⟨b + 1 + 1, 0, none⟩) := by simpa using ht5
 have g6 : tmps[6]?.getD undef = .pointer (some ⟨b + 1 + 1 + 1, 0, none⟩) := by simpa using ht6
 refine ⟨.tuple #[v, .int .i64 i, .int .i64 0], ?_, hR⟩
 simp [results, Try.results44, go_sem, g4, g5, g6, asAddr, e1, e2, e3]
def QP (b : Nat) (dl : List Deferred) (G : World → Prop) (Q : Exit → Act → World → Prop) : Exit → Act → World → Prop
 | .panic ch, a, w => ch = [{ v := .iface 30 (.int .i64 3), recovered := false }] ∧ a.tmps.getD 4 undef = .pointer (some ⟨b + 1, 0, none⟩) ∧ a.tmps.getD 5 undef = .pointer (some ⟨b + 1 + 1, 0, none⟩) ∧ a.tmps.getD 6 undef = .pointer (some ⟨b + 1 + 1 + 1, 0, none⟩) ∧ a.defers = dl ∧ G w
 | e, a, w => Q e a w
theorem QP.normal {b : Nat} {dl : List Deferred} {G : World → Prop} {Q : Exit → Act → World → Prop} {a : Act} {w : World} (h : Q .normal a w) : QP b dl G Q .normal a w := h
theorem put_getD {tmps : Array Value} {N m : Nat} {v : Value} (h : N ≠ m) : (tmps.setIfInBounds N v).getD m undef = tmps.getD m undef := by
 simp [Array.getD_eq_getD_getElem?, Array.getElem?_setIfInBounds_ne h]
theorem QP.put {b : Nat} {dl : List Deferred} {G : World → Prop} {Q : Exit → Act → World → Prop} {ch : List PanicEntry} {a : Act} {w : World} {N : Nat} {v : Value} (h4 : N ≠ 4) (h5 : N ≠ 5) (h6 : N ≠ 6) (h : QP b dl G Q (.panic ch) (a.put (some N) v) w) : QP b dl G Q (.panic ch) a w := by
 obtain ⟨h1, h2, h3, h4', h5', h6'⟩ := h
 exact ⟨h1, (put_getD h4).symm.trans h2, (put_getD h5).symm.trans h3, (put_getD h6).symm.trans h4', h5', h6'⟩
theorem wp_qp {P : Program} {b : Nat} {dl : List Deferred} {G : World → Prop} {Q : Exit → Act → World → Prop} {x : Code} {a : Act} {w : World}
  (hi : ∀ a w, a.tmps.getD 4 undef = .pointer (some ⟨b + 1, 0, none⟩) → a.tmps.getD 5 undef = .pointer (some ⟨b + 1 + 1, 0, none⟩) → a.tmps.getD 6 undef = .pointer (some ⟨b + 1 + 1 + 1, 0, none⟩) → a.defers = dl → G w → Q (.panic [{ v := .iface 30 (.int .i64 3), recovered := false }]) a w)
  (h : x.wp P (QP b dl G Q) a w) : x.wp P Q a w :=
 Code.wp_mono (fun e a w h => by
  cases e with
  | panic ch => obtain ⟨rfl, h2, h3, h4, h5, h6⟩ := h; exact hi _ _ h2 h3 h4 h5 h6
  | _ => exact h) h
theorem goesP_ {P : Program} {Q : Exit → Act → World → Prop} {ops : Array Oper} {oi : Oper} {N : Option Tmp} {a : Act} {w : World} {K : Act → World → Prop} {f : FuncId} {fn : Func} {ys : Array Operand} {ts : Array TypeId} (hf : P.funcs[f]? = some fn) (hname : (fn.name == "runtime.NumGoroutine") = false) (hb : fn.body.isSome = true) (args : Array Value)
  (hw : Region.wanted oi (yielded ops a.tmps) = true) (hop : oi.op = .call { callee := .value (.func f), args := ys, argTypes := ts }) (hargs : ys.map a.eval = args)
  (h : Calls P f args w fun e w' => ∃ ch, e = .panicked ch ∧ Q (.panic ch) a w') : if Region.wanted oi (yielded ops a.tmps) = true then Oper.wp P oi a w K Q else K (a.put N undef) w := by
 rw [if_pos hw]
 have he := enters_ hf hname hb args w
 have hrun : (execOp a.eval oi).run P w = .ok (.enter f args) w := by
  unfold execOp
  simp [hop, resolve, Deferred.ofValue, invoke, Act.eval, hargs, he]
 unfold Oper.wp
 rw [hrun, Oper.upon_enter]
 refine h.mono fun e w'' hh => ?_
 obtain ⟨ch, rfl, hk⟩ := hh
 exact hk
set_option maxHeartbeats 4000000 in
set_option maxRecDepth 100000 in
theorem c44 (nm : ByteArray) (A1 : Option Addr) (c1 : Nat) (cs : List S56) (A2 : Option Addr) (c2 : Nat) (n2 : Nat) (A3 : Option Addr) (c3 : Nat) (n3 : Nat) (A : Option Addr) (c : Nat) (l : List Int) (w : World) (hr1 : Kd.C k56 w A1 cs.length cs) (hc1 : cs.length ≤ c1) (hm1 : cs.length ≤ 1000000) (hC : (Kd.int .i64).C w A l.length l) (hc : l.length ≤ c) (hm : l.length ≤ 1000000000) :
  Calls Try.prog 44 #[.agg #[.string nm, .slice A1 cs.length c1, .slice A2 n2 c2, .slice A3 n3 c3], .slice A l.length c] w fun e w' => ∃ v, e = .returned (.tuple #[v, .int .i64 (decR cs l).2.1, .int .i64 (decR cs l).2.2]) ∧ Kd.R k40 40 w' w.heap.size (fun _ => True) v (decR cs l).1 ∧ Below w.heap.size w w' := by
 have hmf : ∀ (fn : Fn) (first cap : Array Value) (w : World), (Instr.makeFunc fn first cap).run Try.prog w = .ok (.func fn first cap) w := fun _ _ _ _ => rfl
 have hu28 := Try.underlying28
 have hu118 := Try.underlying118
 go_enter_defers Try.func44, Try.ntmps44
 go_wp2_with fail
 obtain ⟨W, hW⟩ : ∃ W, W = ((((w.alloc (.cells #[.string nm, .slice A1 cs.length c1, .slice A2 n2 c2, .slice A3 n3 c3] 28)).alloc (.cells #[.slice none 0 0] 37)).alloc (.cells #[.int .i64 0] 3)).alloc (.cells #[.int .i64 0] 30)).alloc (.cells #[.slice A l.length c, .int .i64 0] 118) := ⟨_, rfl⟩
 have HB := Aside0.mk (show Below w.heap.size w W from hW ▸ below_step (below_step (below_step (below_step (below_al w _) (below_al _ _)) (below_al _ _)) (below_al _ _)) (below_al _ _))
 obtain ⟨b, hb⟩ : ∃ b, b = w.heap.size := ⟨_, rfl⟩
 have HD := Aside0.mk (show DS b nm A1 c1 cs.length A2 c2 n2 A3 c3 n3 A l.length c (.slice none 0 0) 0 W from by
  subst hb
  refine ⟨?_, ?_, ?_, ?_, ?_⟩
  ·rw [hW]; exact blk_alloc (blk_alloc (blk_alloc (blk_alloc (blk_new _ _) _) _) _) _
  ·rw [hW, show w.heap.size + 1 = (w.alloc (.cells #[.string nm, .slice A1 cs.length c1, .slice A2 n2 c2, .slice A3 n3 c3] 28)).heap.size by simp]; exact blk_alloc (blk_alloc (blk_alloc (blk_new _ _) _) _) _
  ·rw [hW, show w.heap.size + 1 + 1 = ((w.alloc (.cells #[.string nm, .slice A1 cs.length c1, .slice A2 n2 c2, .slice A3 n3 c3] 28)).alloc (.cells #[.slice none 0 0] 37)).heap.size by simp]; exact blk_alloc (blk_alloc (blk_new _ _) _) _
  ·rw [hW, show w.heap.size + 1 + 1 + 1 = (((w.alloc (.cells #[.string nm, .slice A1 cs.length c1, .slice A2 n2 c2, .slice A3 n3 c3] 28)).alloc (.cells #[.slice none 0 0] 37)).alloc (.cells #[.int .i64 0] 3)).heap.size by simp]; exact blk_alloc (blk_new _ _) _
  show W.heap[_]? = _
  rw [hW, show w.heap.size + 1 + 1 + 1 + 1 = ((((w.alloc (.cells #[.string nm, .slice A1 cs.length c1, .slice A2 n2 c2, .slice A3 n3 c3] 28)).alloc (.cells #[.slice none 0 0] 37)).alloc (.cells #[.int .i64 0] 3)).alloc (.cells #[.int .i64 0] 30)).heap.size by simp]; exact blk_new _ _)
 rw [← hW, ← hb]
 clear hW
 have HBB := Aside0.mk (show w.heap.size ≤ b by omega)
 have HR1 := Aside0.mk hr1
 have HC := Aside0.mk hC
 have HM := Aside0.mk hm
 have HLC := Aside0.mk hc
 have HC1 := Aside0.mk hc1
 clear hb hr1 hC hm hc
 cases h : rdW l 0 with
 | none =>
  have HE := Aside0.mk (show decR cs l = ([], 0, 3) by unfold decR decE; rw [h]; rfl)
  refine (c102_no _ A c l 0 w W HB.out Z132 HD.out.2.2.2.2 HC.out h).mono ?_
  rintro e w1 ⟨he, hb1, hk⟩
  unfold badForm at he
  subst he
  refine leave44 rfl rfl rfl (HD.out.kept0 hk) HBB.out hb1 (fun W' hB' => ?_)
  rw [HE.out]
  exact ⟨_, rfl, Kd.R_nil _ _ _ _ _, hB'⟩
 | some f =>
  refine (c102_ok _ A c l 0 f w W HB.out Z132 HD.out.2.2.2.2 HC.out h).mono ?_
  rintro e w1 ⟨rfl, hs1, hb1, hk⟩
  have HB1 := Aside0.mk hb1
  have HD1 := Aside0.mk (HD.out.kept hk hs1)
  clear hs1 hb1 hk HB HD
  obtain ⟨_, hf0, hf1, _⟩ := rdW_some h
  obtain ⟨m, rfl⟩ := Int.eq_ofNat_of_zero_le hf0
  have HE := Aside0.mk (show decE cs l = if m / 256 < 1 ∨ cs.length < m / 256 ∨ m % 256 / 2 ^ (m / 256) ≠ 0 then none else decS cs (m / 256) (m % 256) l cs.length by unfold decE; rw [h]; rfl)
  obtain ⟨n, hn⟩ : ∃ n, n = m / 256 := ⟨_, rfl⟩
  obtain ⟨u, hu⟩ : ∃ u, u = m % 256 := ⟨_, rfl⟩
  have q1 : (m : Int) / 256 = (n : Int) := by omega
  have q2 : (m : Int) % 256 = (u : Int) := by omega
  have hu2 : u < 256 := by omega
  have qn : wrap64 (n : Int) = (n : Int) := by unfold wrap64; omega
  rw [← hn, ← hu] at HE
  clear h hf0 hf1 hn hu
  have t1 := show w1.cell? ⟨b, 1, none⟩ = some (.slice A1 cs.length c1) from blk_cell HD1.out.1 1
  by_cases g1 : n < 1
  ·have d1 : decide ((n : Int) < 1) = true := decide_eq_true (by omega)
   have HE2 := Aside0.mk (show decR cs l = ([], 0, 3) by unfold decR; rw [HE.out, if_pos (.inl g1)])
   clear g1 HE
   go_wp2_with fail
   refine leave44 rfl rfl rfl ⟨HD1.out.2.1, HD1.out.2.2.1, HD1.out.2.2.2.1⟩ HBB.out HB1.out (fun W' hB' => ?_)
   rw [HE2.out]
   exact ⟨_, rfl, Kd.R_nil _ _ _ _ _, hB'⟩
  have d1 : decide ((n : Int) < 1) = false := decide_eq_false (by omega)
  by_cases g2 : cs.length < n
  ·have d2 : decide ((cs.length : Int) < (n : Int)) = true := decide_eq_true (by omega)
   have HE2 := Aside0.mk (show decR cs l = ([], 0, 3) by unfold decR; rw [HE.out, if_pos (.inr (.inl g2))])
   have d2' : decide (cs.length < n) = true := decide_eq_true g2
   clear g1 g2 HE
   go_wp2_with fail
   refine leave44 rfl rfl rfl ⟨HD1.out.2.1, HD1.out.2.2.1, HD1.out.2.2.2.1⟩ HBB.out HB1.out (fun W' hB' => ?_)
   rw [HE2.out]
   exact ⟨_, rfl, Kd.R_nil _ _ _ _ _, hB'⟩
  have d2 : decide ((cs.length : Int) < (n : Int)) = false := decide_eq_false (by omega)
  have d2' : decide (cs.length < n) = false := decide_eq_false g2
  have hdiv : (u : Int) / 2 ^ min n 64 = ((u / 2 ^ n : Nat) : Int) := shr_nat u n hu2
  by_cases g3 : u / 2 ^ n ≠ 0
  ·have d3 : ((u : Int) / 2 ^ min n 64 != 0) = true := by rw [hdiv]; exact bne_iff_ne.2 (by omega)
   have HE2 := Aside0.mk (show decR cs l = ([], 0, 3) by unfold decR; rw [HE.out, if_pos (.inr (.inr g3))])
   clear g1 g2 g3 HE hdiv
   go_wp2_with fail
   refine leave44 rfl rfl rfl ⟨HD1.out.2.1, HD1.out.2.2.1, HD1.out.2.2.2.1⟩ HBB.out HB1.out (fun W' hB' => ?_)
   rw [HE2.out]
   exact ⟨_, rfl, Kd.R_nil _ _ _ _ _, hB'⟩
  have d3 : ((u : Int) / 2 ^ min n 64 != 0) = false := by rw [hdiv]; exact bne_eq_false_iff_eq.2 (by omega)
  have HE2 := Aside0.mk (show decE cs l = decS cs n u l cs.length by rw [HE.out, if_neg (by omega)])
  clear HE hdiv g2 g3
  go_wp2_with fail
  clear d3 d2 d2' d1 t1
  simp only [q2, qn]
  go_loopw [43] (fun v43 wr => ∃ (k i : Nat) (out : List S40) (v : Value), k ≤ cs.length ∧ v43 = .int .i64 k ∧ Aside0 (decS cs n u l k = some (out, i)) ∧ Aside0 (out.length = k) ∧ Aside0 (DS b nm A1 c1 cs.length A2 c2 n2 A3 c3 n3 A l.length c v i wr) ∧ Aside0 (Kd.R k40 40 wr w.heap.size (fun _ => True) v out) ∧ Aside0 (Below w.heap.size w wr)) (fun v _ => cs.length - (intOf v).toNat)
  case atStart => exact ⟨0, 1, [], _, Nat.zero_le _, rfl, ⟨rfl⟩, ⟨rfl⟩, ⟨HD1.out⟩, ⟨Kd.R_nil _ _ _ _ _⟩, ⟨HB1.out⟩⟩
  case round =>
   obtain ⟨k, i, out, v, hk, rfl, HS, HLN, HD, HO, HB⟩ := hrel
   clear HD1 HB1
   by_cases hlt : k < cs.length
   rotate_left
   ·obtain rfl : k = cs.length := by omega
    have HE3 := Aside0.mk (show decR cs l = (out, (i : Int), 0) by unfold decR; rw [HE2.out, HS.out])
    go_wp2_with fail
    have o1 := show wr.cell? ⟨b + 1, 0, none⟩ = some v from blk_cell HD.out.2.1 0
    have r1 := show wr.cell? ⟨b + 1 + 1 + 1 + 1, 1, none⟩ = some (.int .i64 (i : Int)) from blk_cell HD.out.2.2.2.2 1
    obtain ⟨Av, cv, rfl⟩ := Kd.R_slice HO.out
    refine wp_qp (b := b) (dl := []) (G := fun _ => False) (fun a' W' h4 h5 h6 hd hG => hG.elim) ?_
    refine start_ (n := 8) (S := fun w' => w'.cell? ⟨b + 1, 0, none⟩ = some (.slice Av out.length cv) ∧ w'.cell? ⟨b + 1 + 1 + 1 + 1, 1, none⟩ = some (.int .i64 (i : Int))) (ds := [6, 7]) #[false, false, false, false, false, false, false, false] (by kernel_rfl) rfl rfl ⟨o1, r1⟩ (fun hHeld => ?_)
    refine take_ (i := 0) (N := some 78) (v := ?_) (a' := ?_) #[true, false, false, false, false, false, false, false] rfl rfl (by kernel_rfl) (fun _ _ _ h => QP.put (by decide) (by decide) (by decide) h) (Or.inl ⟨by rfl, ?_⟩) hHeld ?_ ?_
    rotate_left
    ·rintro w' ⟨s0, s1⟩
     go_simp
     with_reducible rfl
    rotate_left
    ·exact Z94
    refine pure_ (i := 1) (N := some 79) (v := ?_) (a' := ?_) #[true, true, false, false, false, false, false, false] rfl rfl (by kernel_rfl) (fun _ _ _ h => QP.put (by decide) (by decide) (by decide) h) (Or.inl ⟨by rfl, ?_⟩) ?_ ?_
    rotate_left
    ·intro w'
     go_simp
     with_reducible rfl
    rotate_left
    ·exact Z94
    refine pure_ (i := 2) (N := some 80) (v := ?_) (a' := ?_) #[true, true, true, false, false, false, false, false] rfl rfl (by kernel_rfl) (fun _ _ _ h => QP.put (by decide) (by decide) (by decide) h) (Or.inl ⟨by rfl, ?_⟩) ?_ ?_
    rotate_left
    ·intro w'
     go_simp
     with_reducible rfl
    rotate_left
    ·exact Z94
    refine pure_ (i := 3) (N := some 81) (v := ?_) (a' := ?_) #[true, true, true, true, false, false, false, false] rfl rfl (by kernel_rfl) (fun _ _ _ h => QP.put (by decide) (by decide) (by decide) h) (Or.inl ⟨by rfl, ?_⟩) ?_ ?_
    rotate_left
    ·intro w'
     go_simp
     with_reducible rfl
    rotate_left
    ·exact Z94
    refine take_ (i := 4) (N := some 82) (v := ?_) (a' := ?_) #[true, true, true, true, true, false, false, false] rfl rfl (by kernel_rfl) (fun _ _ _ h => QP.put (by decide) (by decide) (by decide) h) (Or.inl ⟨by rfl, ?_⟩) hHeld ?_ ?_
    rotate_left
    ·rintro w' ⟨s0, s1⟩
     go_simp
     with_reducible rfl
    rotate_left
    ·exact Z94
    have z1 := blk_frozen HD.out.2.1 0
    have u2 := show wr.cell? ⟨b + 1 + 1, 0, none⟩ = some (.int .i64 0) from blk_cell HD.out.2.2.1 0
    have z2 := blk_frozen HD.out.2.2.1 0
    have u3 := show wr.cell? ⟨b + 1 + 1 + 1, 0, none⟩ = some (.int .i64 0) from blk_cell HD.out.2.2.2.1 0
    have z3 := blk_frozen HD.out.2.2.2.1 0
    clear hHeld
    refine one_ (i := 5) (N := none) #[true, true, true, true, true, true, false, false] rfl rfl (by kernel_rfl) (by decide) (fun K hK => ?_)
    refine skip_ (w1 := ?_) (by rfl) rfl ?_ ?_
    rotate_left
    ·go_simp
     rfl
    refine hK.out _ _ ⟨(blk_cell (DS.put (HD.out.below (below_dr _)) _).2.1 0).trans rfl, (blk_cell (DS.put (HD.out.below (below_dr _)) (.slice Av out.length cv)).2.2.2.2 1).trans rfl⟩ (fun hHeld => ?_)
    clear hK K hHeld
    refine last_ (i := 6) (N := none) #[true, true, true, true, true, true, true, false] rfl rfl (by kernel_rfl) (by decide) (fun K hK => ?_)
    refine skip_ (w1 := ?_) (by rfl) rfl ?_ ?_
    rotate_left
    ·go_simp
     rfl
    refine hK.out _ _ ?_
    clear hK K
    refine last_ (i := 7) (N := none) #[true, true, true, true, true, true, true, true] rfl rfl (by kernel_rfl) (by decide) (fun K hK => ?_)
    refine skip_ (w1 := ?_) (by rfl) rfl ?_ ?_
    rotate_left
    ·go_simp
     rfl
    refine hK.out _ _ ?_
    clear hK K
    refine done_ (by kernel_rfl) (QP.normal ?_)
    clear o1 r1 z1 u2 z2 u3 z3
    go_wp2_with fail
    obtain ⟨wz, hwz⟩ : ∃ wz, wz = (((wr.setCell ⟨b + 1, 0, none⟩ (.slice Av out.length cv)).setCell ⟨b + 1 + 1, 0, none⟩ (.int .i64 (i : Int))).setCell ⟨b + 1 + 1 + 1, 0, none⟩ (.int .i64 0)).drew := ⟨_, rfl⟩
    rw [← hwz]
    have hDp := DS.put HD.out (.slice Av out.length cv)
    have hp1 := blk_far (blk_far hDp.2.1 (p := ⟨b + 1 + 1, 0, none⟩) (by show b + 1 ≠ b + 1 + 1; omega) (.int .i64 (i : Int))) (p := ⟨b + 1 + 1 + 1, 0, none⟩) (by show b + 1 ≠ b + 1 + 1 + 1; omega) (.int .i64 0)
    have hp2 := blk_far (blk_put hDp.2.2.1 0 (.int .i64 (i : Int)) rfl) (p := ⟨b + 1 + 1 + 1, 0, none⟩) (by show b + 1 + 1 ≠ b + 1 + 1 + 1; omega) (.int .i64 0)
    have hp3 := blk_put (blk_far hDp.2.2.2.1 (p := ⟨b + 1 + 1, 0, none⟩) (by show b + 1 + 1 + 1 ≠ b + 1 + 1; omega) (.int .i64 (i : Int))) 0 (.int .i64 0) rfl
    have hO3 := Kd.R_drew (Kd.R_set (Kd.R_set (Kd.R_set HO.out HD.out.2.1 (by decide) 0 (.slice Av out.length cv)) hDp.2.2.1 (by decide) 0 (.int .i64 (i : Int))) (blk_far hDp.2.2.2.1 (p := ⟨b + 1 + 1, 0, none⟩) (by show b + 1 + 1 + 1 ≠ b + 1 + 1; omega) (.int .i64 (i : Int))) (by decide) 0 (.int .i64 0))
    replace hp1 := blk_drew hp1
    replace hp2 := blk_drew hp2
    replace hp3 := blk_drew hp3
    have hE0 : Below w.heap.size w wz := by rw [hwz]; exact below_step (below_set (below_set (below_set HB.out (show w.heap.size ≤ b + 1 by have := HBB.out; omega)) (show w.heap.size ≤ b + 1 + 1 by have := HBB.out; omega)) (show w.heap.size ≤ b + 1 + 1 + 1 by have := HBB.out; omega)) (below_dr _)
    have hO4 : Kd.R k40 40 wz w.heap.size (fun _ => True) (.slice Av out.length cv) out := hwz ▸ hO3
    rw [← hwz] at hp1 hp2 hp3
    refine leaveOk44 rfl rfl rfl hp1 hp2 hp3 ?_
    rw [HE3.out]
    exact ⟨_, rfl, hO4, hE0⟩
   obtain ⟨ad, rfl, hc0, hc1', hc2⟩ := at_T56 HR1.out (k : Int) (by omega) (by omega)
   simp only [Int.toNat_natCast] at hc0 hc1' hc2
   replace hc0 := keep HB.out hc0
   replace hc1' := keep HB.out hc1'
   replace hc2 := keep HB.out hc2
   obtain ⟨x0, hx0⟩ : ∃ x, x = (rd_T56 cs (k : Int)).f0 := ⟨_, rfl⟩
   obtain ⟨x1, hx1⟩ : ∃ x, x = (rd_T56 cs (k : Int)).f1 := ⟨_, rfl⟩
   obtain ⟨x2, hx2⟩ : ∃ x, x = (rd_T56 cs (k : Int)).f2 := ⟨_, rfl⟩
   rw [← hx0] at hc0
   rw [← hx1] at hc1'
   rw [← hx2] at hc2
   have HX1 := Aside0.mk hx1.symm
   have HX2 := Aside0.mk hx2.symm
   clear hx0 hx1 hx2
   by_cases g4 : n ≤ k
   ·have d4 : decide ((n : Int) ≤ (k : Int)) = true := decide_eq_true (by omega)
    have d4' : decide (n ≤ k) = true := decide_eq_true g4
    have HNB := Aside0.mk (show nullB n u k = true by unfold nullB; rw [d4']; rfl)
    clear g4
    cases x2 with
    | false =>
     have HDa := Aside0.mk (HD.out.below (below_al wr (.cells #[.string x0, .int .i64 x1, .bool false] 56)))
     have HBa := Aside0.mk (below_step HB.out (below_al wr (.cells #[.string x0, .int .i64 x1, .bool false] 56)))
     have HOa := Aside0.mk (Kd.R_alloc HO.out (.cells #[.string x0, .int .i64 x1, .bool false] 56))
     have o1 := show (wr.alloc (.cells #[.string x0, .int .i64 x1, .bool false] 56)).cell? ⟨b + 1, 0, none⟩ = some v from blk_cell HDa.out.2.1 0
     clear HD HB HO
     have HE3 := Aside0.mk (show decR cs l = ([], 0, 3) by unfold decR; rw [HE2.out, decS_bad HS.out HNB.out HX2.out hlt])
     go_wp2_with fail
     refine leave44 rfl rfl rfl ⟨HDa.out.2.1, HDa.out.2.2.1, HDa.out.2.2.2.1⟩ HBB.out HBa.out (fun W' hB' => ?_)
     rw [HE3.out]
     exact ⟨_, rfl, Kd.R_nil _ _ _ _ _, hB'⟩
    | true =>
     have HDa := Aside0.mk (HD.out.below (below_al wr (.cells #[.string x0, .int .i64 x1, .bool true] 56)))
     have HBa := Aside0.mk (below_step HB.out (below_al wr (.cells #[.string x0, .int .i64 x1, .bool true] 56)))
     have HOa := Aside0.mk (Kd.R_alloc HO.out (.cells #[.string x0, .int .i64 x1, .bool true] 56))
     have o1 := show (wr.alloc (.cells #[.string x0, .int .i64 x1, .bool true] 56)).cell? ⟨b + 1, 0, none⟩ = some v from blk_cell HDa.out.2.1 0
     clear HD HB HO
     have HS2 := Aside0.mk (decS_null HS.out HNB.out HX2.out)
     go_wp2_with ((with_reducible refine gate_builtin (b := .append) (xs := #[.tmp 66, .tmp 68]) rfl ?_); at_builtin; refine Kd.R_append k40 (w0 := w) w.heap.size rfl (.tmp 66) (.tmp 68) 37 40 (.agg #[(.int .i64 0), (.int .i64 0), (.string ⟨#[]⟩)]) 32 rfl Try.underlying37 info40 rfl (by decide) (by omega) v out (⟨0, 0, ⟨#[]⟩⟩ : S40) [.int .i64 0, .int .i64 0, .string ⟨#[]⟩] (fun _ => True) (fun _ => False) ?aV ?aX ?aP (fun _ hk => hk.elim) ?aF ?aO ?aB ?aS ?aL ?_; (case aV => rfl); (case aX => first | rfl | (simp [Act.eval]; done)); (case aP => exact k40_mkM _ _ _ (⟨0, 0, ⟨#[]⟩⟩ : S40)); (case aB => exact HBa.out); (case aF => exact (fun _ _ => trivial)); (case aO => exact HOa.out); (case aS => exact HBa.out.size); (case aL => have := HLN.out; omega); intro v1 w2 ho hb hg hat; obtain ⟨Av, cv, rfl⟩ := Kd.R_slice ho; rw [List.length_append, List.length_singleton] at ho; have HO2 := Aside0.mk ho; have HB2 := Aside0.mk hb; have HD2 := Aside0.mk (HDa.out.grown hg HOa.out); clear ho hb hg hat; have f1 := show w2.cell? ⟨b + 1, 0, none⟩ = some v from blk_cell HD2.out.2.1 0; have fz := blk_frozen HD2.out.2.1 0)
     go_roundw
     case rel =>
      exact ⟨k + 1, i, _, _, by omega, by go_num, HS2, ⟨by rw [List.length_append, HLN.out]; rfl⟩, ⟨HD2.out.put _⟩, ⟨Kd.R_set HO2.out HD2.out.2.1 (by decide) 0 _⟩, ⟨below_set HB2.out Z132⟩⟩
     case measure => simp [intOf]; omega
   have d4 : decide ((n : Int) ≤ (k : Int)) = false := decide_eq_false (by omega)
   have d4' : decide (n ≤ k) = false := decide_eq_false g4
   by_cases g5 : u / 2 ^ k % 2 = 1
   ·have d5 : bits .and .i64 ((u : Int) / 2 ^ min k 64) 1 = 1 := by rw [shr_nat u k hu2, and1_i64]; omega
    have HNB := Aside0.mk (show nullB n u k = true by unfold nullB; rw [decide_eq_true g5]; simp)
    clear g4 g5
    cases x2 with
    | false =>
     have HDa := Aside0.mk (HD.out.below (below_al wr (.cells #[.string x0, .int .i64 x1, .bool false] 56)))
     have HBa := Aside0.mk (below_step HB.out (below_al wr (.cells #[.string x0, .int .i64 x1, .bool false] 56)))
     have HOa := Aside0.mk (Kd.R_alloc HO.out (.cells #[.string x0, .int .i64 x1, .bool false] 56))
     have o1 := show (wr.alloc (.cells #[.string x0, .int .i64 x1, .bool false] 56)).cell? ⟨b + 1, 0, none⟩ = some v from blk_cell HDa.out.2.1 0
     clear HD HB HO
     have HE3 := Aside0.mk (show decR cs l = ([], 0, 3) by unfold decR; rw [HE2.out, decS_bad HS.out HNB.out HX2.out hlt])
     go_wp2_with fail
     refine leave44 rfl rfl rfl ⟨HDa.out.2.1, HDa.out.2.2.1, HDa.out.2.2.2.1⟩ HBB.out HBa.out (fun W' hB' => ?_)
     rw [HE3.out]
     exact ⟨_, rfl, Kd.R_nil _ _ _ _ _, hB'⟩
    | true =>
     have HDa := Aside0.mk (HD.out.below (below_al wr (.cells #[.string x0, .int .i64 x1, .bool true] 56)))
     have HBa := Aside0.mk (below_step HB.out (below_al wr (.cells #[.string x0, .int .i64 x1, .bool true] 56)))
     have HOa := Aside0.mk (Kd.R_alloc HO.out (.cells #[.string x0, .int .i64 x1, .bool true] 56))
     have o1 := show (wr.alloc (.cells #[.string x0, .int .i64 x1, .bool true] 56)).cell? ⟨b + 1, 0, none⟩ = some v from blk_cell HDa.out.2.1 0
     clear HD HB HO
     have HS2 := Aside0.mk (decS_null HS.out HNB.out HX2.out)
     go_wp2_with ((with_reducible refine gate_builtin (b := .append) (xs := #[.tmp 66, .tmp 68]) rfl ?_); at_builtin; refine Kd.R_append k40 (w0 := w) w.heap.size rfl (.tmp 66) (.tmp 68) 37 40 (.agg #[(.int .i64 0), (.int .i64 0), (.string ⟨#[]⟩)]) 32 rfl Try.underlying37 info40 rfl (by decide) (by omega) v out (⟨0, 0, ⟨#[]⟩⟩ : S40) [.int .i64 0, .int .i64 0, .string ⟨#[]⟩] (fun _ => True) (fun _ => False) ?aV ?aX ?aP (fun _ hk => hk.elim) ?aF ?aO ?aB ?aS ?aL ?_; (case aV => rfl); (case aX => first | rfl | (simp [Act.eval]; done)); (case aP => exact k40_mkM _ _ _ (⟨0, 0, ⟨#[]⟩⟩ : S40)); (case aB => exact HBa.out); (case aF => exact (fun _ _ => trivial)); (case aO => exact HOa.out); (case aS => exact HBa.out.size); (case aL => have := HLN.out; omega); intro v1 w2 ho hb hg hat; obtain ⟨Av, cv, rfl⟩ := Kd.R_slice ho; rw [List.length_append, List.length_singleton] at ho; have HO2 := Aside0.mk ho; have HB2 := Aside0.mk hb; have HD2 := Aside0.mk (HDa.out.grown hg HOa.out); clear ho hb hg hat; have f1 := show w2.cell? ⟨b + 1, 0, none⟩ = some v from blk_cell HD2.out.2.1 0; have fz := blk_frozen HD2.out.2.1 0)
     go_roundw
     case rel =>
      exact ⟨k + 1, i, _, _, by omega, by go_num, HS2, ⟨by rw [List.length_append, HLN.out]; rfl⟩, ⟨HD2.out.put _⟩, ⟨Kd.R_set HO2.out HD2.out.2.1 (by decide) 0 _⟩, ⟨below_set HB2.out Z132⟩⟩
     case measure => simp [intOf]; omega
   have d5 : bits .and .i64 ((u : Int) / 2 ^ min k 64) 1 = 0 := by rw [shr_nat u k hu2, and1_i64]; omega
   have HNB := Aside0.mk (show nullB n u k = false by unfold nullB; rw [d4', decide_eq_false g5]; rfl)
   clear g4 g5
   have HGa := Aside0.mk (blk_new wr (.cells #[.string x0, .int .i64 x1, .bool x2] 56))
   have HDz := HD
   have HDa := Aside0.mk (HD.out.below (below_al wr (.cells #[.string x0, .int .i64 x1, .bool x2] 56)))
   have HBa := Aside0.mk (below_step HB.out (below_al wr (.cells #[.string x0, .int .i64 x1, .bool x2] 56)))
   have HOa := Aside0.mk (Kd.R_alloc HO.out (.cells #[.string x0, .int .i64 x1, .bool x2] 56))
   have o1 := show (wr.alloc (.cells #[.string x0, .int .i64 x1, .bool x2] 56)).cell? ⟨b + 1, 0, none⟩ = some v from blk_cell HDa.out.2.1 0
   have p1 := show (wr.alloc (.cells #[.string x0, .int .i64 x1, .bool x2] 56)).cell? ⟨wr.heap.size, 1, none⟩ = some (.int .i64 x1) from blk_cell HGa.out 1
   have HRa := Aside0.mk (show RS (b + 1 + 1 + 1 + 1) A l.length c i (wr.alloc (.cells #[.string x0, .int .i64 x1, .bool x2] 56)).drew from blk_drew HDa.out.2.2.2.2)
   clear HD HB HO
   go_wp2_with fail
   refine wp_qp (b := b) (dl := [{ target := .fn (.func 101) #[.pointer (some ⟨b + 1, 0, none⟩), .pointer (some ⟨b + 1 + 1, 0, none⟩), .pointer (some ⟨b + 1 + 1 + 1, 0, none⟩)], args := #[] }]) (G := fun W' => Below w.heap.size w W' ∧ valD (rd_T56 cs (k : Int)).f1 l i = none ∧ W'.heap[b + 1]? = some (.cells #[v] 37 (0, 0)) ∧ W'.heap[b + 1 + 1]? = some (.cells #[.int .i64 0] 3 (0, 0)) ∧ W'.heap[b + 1 + 1 + 1]? = some (.cells #[.int .i64 0] 30 (0, 0))) ?hi ?_
   case hi =>
    intro a' W' h4 h5 h6 hd hG
    have HE3 := Aside0.mk (show decR cs l = ([], 0, 3) by unfold decR; rw [HE2.out, decS_noval HS.out HNB.out hG.2.1 hlt])
    show Leaves Try.prog Try.f44 a'.tmps _ a'.defers _ W'
    rw [hd]
    refine leave44 h4 h5 h6 hG.2.2 HBB.out hG.1 (fun W'' hB' => ?_)
    rw [HE3.out]
    exact ⟨_, rfl, Kd.R_nil _ _ _ _ _, hB'⟩
   cases hv : valD (rd_T56 cs (k : Int)).f1 l i with
   | none =>
    have hv0 := hv
    refine start_ (n := 8) (S := fun w' => w'.cell? ⟨b + 1, 0, none⟩ = some v ∧ w'.cell? ⟨wr.heap.size, 1, none⟩ = some (.int .i64 x1)) (ds := [7]) #[false, false, false, false, false, false, false, false] (by kernel_rfl) rfl rfl ⟨o1, p1⟩ (fun hHeld => ?_)
    refine take_ (i := 0) (N := some 70) (v := ?_) (a' := ?_) #[true, false, false, false, false, false, false, false] rfl rfl (by kernel_rfl) (fun _ _ _ h => QP.put (by decide) (by decide) (by decide) h) (Or.inl ⟨by rfl, ?_⟩) hHeld ?_ ?_
    rotate_left
    ·rintro w' ⟨s0, s1⟩
     go_simp
     with_reducible rfl
    rotate_left
    ·exact Z94
    refine pure_ (i := 1) (N := some 71) (v := ?_) (a' := ?_) #[true, true, false, false, false, false, false, false] rfl rfl (by kernel_rfl) (fun _ _ _ h => QP.put (by decide) (by decide) (by decide) h) (Or.inl ⟨by rfl, ?_⟩) ?_ ?_
    rotate_left
    ·intro w'
     go_simp
     with_reducible rfl
    rotate_left
    ·exact Z94
    refine pure_ (i := 2) (N := some 72) (v := ?_) (a' := ?_) #[true, true, true, false, false, false, false, false] rfl rfl (by kernel_rfl) (fun _ _ _ h => QP.put (by decide) (by decide) (by decide) h) (Or.inl ⟨by rfl, ?_⟩) ?_ ?_
    rotate_left
    ·intro w'
     go_simp
     with_reducible rfl
    rotate_left
    ·exact Z94
    refine take_ (i := 3) (N := some 73) (v := ?_) (a' := ?_) #[true, true, true, true, false, false, false, false] rfl rfl (by kernel_rfl) (fun _ _ _ h => QP.put (by decide) (by decide) (by decide) h) (Or.inl ⟨by rfl, ?_⟩) hHeld ?_ ?_
    rotate_left
    ·rintro w' ⟨s0, s1⟩
     go_simp
     with_reducible rfl
    rotate_left
    ·exact Z94
    refine one_ (i := 4) (N := some 74) #[true, true, true, true, true, false, false, false] rfl rfl (by kernel_rfl) (by decide) (fun K hK => ?_)
    refine goesP_ Try.func103 (by kernel_rfl) rfl #[.pointer (some ⟨b + 1 + 1 + 1 + 1, 0, none⟩), .int .i64 x1] (by rfl) rfl Z114 ?_
    with_reducible refine (c103 (b + 1 + 1 + 1 + 1) A c l i x1 w (wr.alloc (.cells #[.string x0, .int .i64 x1, .bool x2] 56)).drew (below_step HBa.out (below_dr _)) Z132 HRa.out HC.out HLC.out HM.out).mono ?_
    rw [HX1.out] at hv
    rw [hv]
    rintro e w' ⟨he, hb1, hk⟩
    exact ⟨_, he, rfl, rfl, rfl, rfl, rfl, hb1, rfl, (HDa.out.below (below_dr _)).kept0 hk⟩
   | some zz =>
    obtain ⟨z, j⟩ := zz
    have HS2 := Aside0.mk (decS_val HS.out HNB.out hv)
    refine start_ (n := 8) (S := fun w' => w'.cell? ⟨b + 1, 0, none⟩ = some v ∧ w'.cell? ⟨wr.heap.size, 1, none⟩ = some (.int .i64 x1)) (ds := [7]) #[false, false, false, false, false, false, false, false] (by kernel_rfl) rfl rfl ⟨o1, p1⟩ (fun hHeld => ?_)
    refine take_ (i := 0) (N := some 70) (v := ?_) (a' := ?_) #[true, false, false, false, false, false, false, false] rfl rfl (by kernel_rfl) (fun _ _ _ h => QP.put (by decide) (by decide) (by decide) h) (Or.inl ⟨by rfl, ?_⟩) hHeld ?_ ?_
    rotate_left
    ·rintro w' ⟨s0, s1⟩
     go_simp
     with_reducible rfl
    rotate_left
    ·exact Z94
    refine pure_ (i := 1) (N := some 71) (v := ?_) (a' := ?_) #[true, true, false, false, false, false, false, false] rfl rfl (by kernel_rfl) (fun _ _ _ h => QP.put (by decide) (by decide) (by decide) h) (Or.inl ⟨by rfl, ?_⟩) ?_ ?_
    rotate_left
    ·intro w'
     go_simp
     with_reducible rfl
    rotate_left
    ·exact Z94
    refine pure_ (i := 2) (N := some 72) (v := ?_) (a' := ?_) #[true, true, true, false, false, false, false, false] rfl rfl (by kernel_rfl) (fun _ _ _ h => QP.put (by decide) (by decide) (by decide) h) (Or.inl ⟨by rfl, ?_⟩) ?_ ?_
    rotate_left
    ·intro w'
     go_simp
     with_reducible rfl
    rotate_left
    ·exact Z94
    refine take_ (i := 3) (N := some 73) (v := ?_) (a' := ?_) #[true, true, true, true, false, false, false, false] rfl rfl (by kernel_rfl) (fun _ _ _ h => QP.put (by decide) (by decide) (by decide) h) (Or.inl ⟨by rfl, ?_⟩) hHeld ?_ ?_
    rotate_left
    ·rintro w' ⟨s0, s1⟩
     go_simp
     with_reducible rfl
    rotate_left
    ·exact Z94
    refine one_ (i := 4) (N := some 74) #[true, true, true, true, true, false, false, false] rfl rfl (by kernel_rfl) (by decide) (fun K hK => ?_)
    refine goes_ Try.func103 (by kernel_rfl) rfl #[.pointer (some ⟨b + 1 + 1 + 1 + 1, 0, none⟩), .int .i64 x1] (by rfl) rfl rfl Z114 ?_
    with_reducible refine (c103 (b + 1 + 1 + 1 + 1) A c l i x1 w (wr.alloc (.cells #[.string x0, .int .i64 x1, .bool x2] 56)).drew (below_step HBa.out (below_dr _)) Z132 HRa.out HC.out HLC.out HM.out).mono ?_
    rw [HX1.out] at hv
    rw [hv]
    rintro e w' ⟨rfl, hs', hb1, hk⟩
    refine ⟨_, rfl, ?_⟩
    clear hHeld
    have HBb := Aside0.mk hb1
    have HDb := Aside0.mk ((HDa.out.below (below_dr _)).kept hk hs')
    have HGb := Aside0.mk (blk_kept (blk_drew HGa.out) hk (by show wr.heap.size ≠ b + 1 + 1 + 1 + 1; have := blk_lt HDz.out.2.2.2.2; omega))
    have HOb := Aside0.mk (Kd.R_step (Kd.R_types (Kd.R_drew HOa.out) (blk_drew HDa.out.2.2.2.2) (by decide)) (fun k hk' hlt' => hk.2 k hlt' hk'.2))
    replace HOb := Aside0.mk (Kd.R_mono HOb.out (ok' := fun _ => True) (fun _ _ => trivial))
    have q1 := show w'.cell? ⟨b + 1, 0, none⟩ = some v from blk_cell HDb.out.2.1 0
    have q2 := show w'.cell? ⟨wr.heap.size, 1, none⟩ = some (.int .i64 x1) from blk_cell HGb.out 1
    clear hs' hb1 hk
    refine hK.out _ _ ⟨q1, q2⟩ (fun hHeld => ?_)
    clear hK K
    refine norm_ (a' := ?_) ?_ ?_
    rotate_left
    ·show Act.put _ (some 74) _ = _
     simp only [Act.put, toV, List.setIfInBounds_toArray, List.set_cons_zero, List.set_cons_succ, i64_w, i32_w]
     rfl
    refine one_ (i := 5) (N := some 75) #[true, true, true, true, true, true, false, false] rfl rfl (by kernel_rfl) (by decide) (fun K hK => ?_)
    refine value_ (w1 := ?_) (v := ?_) (by rfl) rfl ?_ ?_
    rotate_left 2
    ·go_simp
     constructor
     ·rfl
     rfl
    refine hK.out _ _ ⟨(blk_cell (blk_alloc HDb.out.2.1 _) 0).trans rfl, (blk_cell (blk_alloc HGb.out _) 1).trans rfl⟩ (fun hHeld => ?_)
    clear hK K
    refine norm_ (a' := ?_) ?_ ?_
    rotate_left
    ·show Act.put _ (some 75) _ = _
     simp only [Act.put, toV, List.setIfInBounds_toArray, List.set_cons_zero, List.set_cons_succ, i64_w, i32_w]
     rfl
    refine one_ (i := 6) (N := some 76) #[true, true, true, true, true, true, true, false] rfl rfl (by kernel_rfl) (by decide) (fun K hK => ?_)
    refine Kd.R_append_step k40 (w0 := w) w.heap.size (by rfl) (.tmp 70) (.tmp 75) 37 40 (.agg #[(.int .i64 0), (.int .i64 0), (.string ⟨#[]⟩)]) 32 rfl Try.underlying37 info40 rfl (by decide) (by omega) v out z [.int .i64 z.f0, .int .i64 z.f1, .string z.f2] (fun _ => True) (fun _ => False) rfl rfl ?aP (fun _ hk => hk.elim) ?aF ?aO ?aB ?aS ?aL ?_
    (case aP => exact k40_mkM _ _ _ z)
    (case aB => exact HBb.out)
    (case aF => exact (fun _ _ => trivial))
    (case aO => exact HOb.out)
    (case aS => exact HBb.out.size)
    (case aL => have := HLN.out; omega)
    intro v1 w2 ho hb hg hat
    obtain ⟨Av, cv, rfl⟩ := Kd.R_slice ho
    rw [List.length_append, List.length_singleton] at ho
    have HO2 := Aside0.mk ho
    have HB2 := Aside0.mk hb
    have HD2 := Aside0.mk (HDb.out.grown hg HOb.out)
    have HG2 := Aside0.mk (blk_grown HGb.out hg (Kd.R_ne HOb.out HGb.out (by decide)))
    clear ho hb hg hat
    have f1 := show w2.cell? ⟨b + 1, 0, none⟩ = some v from blk_cell HD2.out.2.1 0
    have fz := blk_frozen HD2.out.2.1 0
    refine hK.out _ _ ⟨f1, (blk_cell HG2.out 1).trans rfl⟩ (fun hHeld => ?_)
    clear hK K
    refine norm_ (a' := ?_) ?_ ?_
    rotate_left
    ·show Act.put _ (some 76) _ = _
     simp only [Act.put, toV, List.setIfInBounds_toArray, List.set_cons_zero, List.set_cons_succ, i64_w, i32_w]
     rfl
    refine last_ (i := 7) (N := none) #[true, true, true, true, true, true, true, true] rfl rfl (by kernel_rfl) (by decide) (fun K hK => ?_)
    refine skip_ (w1 := ?_) (by rfl) rfl ?_ ?_
    rotate_left
    ·go_simp
     rfl
    refine hK.out _ _ ?_
    clear hK K f1 fz hHeld q1 q2 o1 p1
    refine done_ (by kernel_rfl) (QP.normal ?_)
    go_wp2_with fail
    go_roundw
    case rel =>
     exact ⟨k + 1, j, _, _, by omega, by go_num, HS2, ⟨by rw [List.length_append, HLN.out]; rfl⟩, ⟨HD2.out.put _⟩, ⟨Kd.R_set HO2.out HD2.out.2.1 (by decide) 0 _⟩, ⟨below_set HB2.out Z132⟩⟩
    case measure => simp [intOf]; omega
end Go.Proofs.Ytkopbaikmlajmaa.Q
