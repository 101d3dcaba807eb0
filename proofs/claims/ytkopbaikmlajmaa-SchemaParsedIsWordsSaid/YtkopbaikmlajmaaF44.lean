/- trimmed to what these claims' texts use -/
import Derived.Test.YtkopbaikmlajmaaRA
import Derived.Test.YtkopbaikmlajmaaHA
import Derived.Test.YtkopbaikmlajmaaF70
import Derived.Test.YtkopbaikmlajmaaFA
import Derived.Deep.RegionHeld3
import Derived.Deep.DrawnRows
namespace Go.Proofs.Ytkopbaikmlajmaa.Q
open Go.RowKit Go.Proofs.YtkopbaikmlajmaaW.PrintWords Go.Proofs.YtkopbaikmlajmaaW.PrintLast Go.Proofs.YtkopbaikmlajmaaW.PrintMore
set_option linter.unusedVariables false
set_option linter.unusedSimpArgs false
attribute [local go_sem ↓] Go.wp_at_zero Go.wp_at_succ
/-- The five blocks that Decode has made: the table, its results, the reader. -/
def DS (b : Nat) (nm : ByteArray) (A1 : Option Addr) (c1 n1 : Nat) (A2 : Option Addr) (c2 n2 : Nat) (A3 : Option Addr) (c3 n3 : Nat) (A : Option Addr) (n c : Nat) (v : Value) (i : Nat) (w : World) : Prop :=
 w.heap[b]? = some (.cells #[.string nm, .slice A1 n1 c1, .slice A2 n2 c2, .slice A3 n3 c3] 28 (0, 0)) ∧ w.heap[b + 1]? = some (.cells #[v] 37 (0, 0)) ∧ w.heap[b + 1 + 1]? = some (.cells #[.int .i64 0] 3 (0, 0)) ∧ w.heap[b + 1 + 1 + 1]? = some (.cells #[.int .i64 0] 30 (0, 0)) ∧ RS (b + 1 + 1 + 1 + 1) A n c i w
section
variable {b : Nat} {nm : ByteArray} {A1 : Option Addr} {c1 n1 : Nat} {A2 : Option Addr} {c2 n2 : Nat} {A3 : Option Addr} {c3 n3 : Nat} {A : Option Addr} {n c : Nat} {v : Value} {i : Nat} {w w1 : World}
theorem DS.put (h : DS b nm A1 c1 n1 A2 c2 n2 A3 c3 n3 A n c v i w) (v1 : Value) : DS b nm A1 c1 n1 A2 c2 n2 A3 c3 n3 A n c v1 i (w.setCell ⟨b + 1, 0, none⟩ v1) :=
 ⟨blk_far h.1 (by show b ≠ b + 1; omega) _, blk_put h.2.1 0 _ rfl, blk_far h.2.2.1 (by show b + 1 + 1 ≠ b + 1; omega) _, blk_far h.2.2.2.1 (by show b + 1 + 1 + 1 ≠ b + 1; omega) _, blk_far h.2.2.2.2 (by show b + 1 + 1 + 1 + 1 ≠ b + 1; omega) _⟩
end
/-- A post that says of a panic what the deferred closure needs. -/
def QP (b : Nat) (dl : List Deferred) (G : World → Prop) (Q : Exit → Act → World → Prop) : Exit → Act → World → Prop
 | .panic ch, a, w => ch = [{ v := .iface 30 (.int .i64 3), recovered := false }] ∧ a.tmps.getD 4 undef = .pointer (some ⟨b + 1, 0, none⟩) ∧ a.tmps.getD 5 undef = .pointer (some ⟨b + 1 + 1, 0, none⟩) ∧ a.tmps.getD 6 undef = .pointer (some ⟨b + 1 + 1 + 1, 0, none⟩) ∧ a.defers = dl ∧ G w
 | e, a, w => Q e a w
theorem put_getD {tmps : Array Value} {N m : Nat} {v : Value} (h : N ≠ m) : (tmps.setIfInBounds N v).getD m undef = tmps.getD m undef := by
 simp [Array.getD_eq_getD_getElem?, Array.getElem?_setIfInBounds_ne h]
theorem QP.put {b : Nat} {dl : List Deferred} {G : World → Prop} {Q : Exit → Act → World → Prop} {ch : List PanicEntry} {a : Act} {w : World} {N : Nat} {v : Value} (h4 : N ≠ 4) (h5 : N ≠ 5) (h6 : N ≠ 6) (h : QP b dl G Q (.panic ch) (a.put (some N) v) w) : QP b dl G Q (.panic ch) a w := by
 obtain ⟨h1, h2, h3, h4', h5', h6'⟩ := h
 exact ⟨h1, (put_getD h4).symm.trans h2, (put_getD h5).symm.trans h3, (put_getD h6).symm.trans h4', h5', h6'⟩
theorem goesP_ {P : Program} {Q : Exit → Act → World → Prop} {ops : Array Oper} {oi : Oper} {N : Option Tmp} {a : Act} {w : World} {K : Act → World → Prop} {f : FuncId} {fn : Func} {ys : Array Operand} {ts : Array TypeId} (hf : P.funcs[f]? = some fn) (hname : (fn.name == "runtime.NumGoroutine") = false) (hb : fn.body.isSome = true) (args : Array Value)
  (hw : Region.wanted oi (yielded ops a.tmps) = true) (hop : oi.op = .call { callee := .value (.func f), args := ys, argTypes := ts }) (hargs : ys.map a.eval = args)
  (h : Calls P f args w fun e w' => ∃ ch, e = .panicked ch ∧ Q (.panic ch) a w') : if Region.wanted oi (yielded ops a.tmps) = true then Oper.wp P oi a w K Q else K (a.put N undef) w := by
 rw [if_pos hw]
 have he := enters_ hf hname hb args w
 have hrun : (execOp a.eval oi).run P w = .ok (.enter f args) w := by
  unfold execOp
  simp [hop, resolve, Deferred.ofValue, invoke, Act.eval, hargs, he]
 unfold Oper.wp
 rw [hrun, Oper.upon_enter]
 refine h.mono fun e w'' hh => ?_
 obtain ⟨ch, rfl, hk⟩ := hh
 exact hk
end Go.Proofs.Ytkopbaikmlajmaa.Q
