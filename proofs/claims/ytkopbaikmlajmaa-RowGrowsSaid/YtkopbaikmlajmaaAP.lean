/- trimmed to what these claims' texts use -/
import Derived.Test.YtkopbaikmlajmaaHA
import Derived.ArgAppend
namespace Go.Proofs.Ytkopbaikmlajmaa.Q
open Go.RowKit Go.Proofs.YtkopbaikmlajmaaW.PrintWords Go.Proofs.YtkopbaikmlajmaaW.PrintLast Go.Proofs.YtkopbaikmlajmaaW.PrintMore
set_option linter.unusedVariables false
set_option linter.unusedSimpArgs false
theorem run_append_full {P : Program} {α : Type} (d : Kd α) (W : World) (t ty e : TypeId) (z : Value) (bytes : Nat)
  (ht : P.underlying t = some (.slice e)) (hinfo : (P.info? e).map (fun i => (i.zero, i.size, i.bytes)) = some (some z, d.sz, bytes)) (hz : z.cells.size = d.sz) (hs0 : 0 < d.sz) (hb0 : 0 < bytes)
  (A : Option Addr) (xs : List α) (B : Option Addr) (c : Nat) (ys : List α) (hx : d.C W A xs.length xs) (hy : d.C W B ys.length ys) (hA : xs.length = 0 → ys.length ≠ 0 → A = none ∨ ∃ ad, A = some ad) (hl : (xs.length + ys.length) * bytes ≤ 140737488355328) :
  ∃ A' c' w1, (Builtin.append_ #[t, t] ty #[.slice A xs.length xs.length, .slice B ys.length c]).run P W = .ok (.slice A' (xs ++ ys).length c') w1 ∧ (xs ++ ys).length ≤ c' ∧ d.C w1 A' (xs ++ ys).length (xs ++ ys) ∧ Below W.heap.size W w1 := by
 obtain ⟨i0, hi, hzz⟩ := Option.map_eq_some_iff.1 hinfo
 simp only [Prod.mk.injEq] at hzz
 obtain ⟨hz0, hz1, hz2⟩ := hzz
 have hlen : xs.length + ys.length ≤ 140737488355328 := Nat.le_trans (Nat.le_mul_of_pos_right _ hb0) hl
 by_cases hy0 : ys.length = 0
 ·obtain rfl : ys = [] := List.eq_nil_of_length_eq_zero hy0
  refine ⟨A, xs.length, W, ?_, by simp, by simpa using hx, Below.refl _ _⟩
  rw [List.append_nil]
  cases A <;> cases B <;> simp [Builtin.append_, run_underlying ht, sizeOf, typeInfo, hi, Builtin.lenOf, Builtin.firstCells, storeCells, loadCells, loadCellsFrom]
 ·obtain ⟨bd, rfl, _⟩ := hy.2.2 (by omega)
  obtain ⟨news, hnr, hnc⟩ := ReadsRow.inner_ hy
  have fin : ∀ (v' : Value) (w' : World) (olds : List Value), Reps (d.K W) d.sz xs olds → w'.ownsRow W.heap.size e d.sz v' (xs.length + ys.length) (olds ++ news) → W.grownBy w' none →
    ∃ A' c', v' = .slice A' (xs ++ ys).length c' ∧ (xs ++ ys).length ≤ c' ∧ d.C w' A' (xs ++ ys).length (xs ++ ys) ∧ Below W.heap.size W w' := by
   intro v' w' olds hor hown hg
   have hb : Below W.heap.size W w' := (Below.refl _ _).grown hg (Nat.le_refl _) (by simp)
   have hO : OwnRow (d.K w') e d.sz w' W.heap.size v' (xs ++ ys) := ⟨olds ++ news, by rw [List.length_append]; exact hown, Kd.reps_append (hor.imp_ (fun _ _ h => d.K_below hb h)) (hnr.imp_ (fun _ _ h => d.K_below hb h))⟩
   obtain ⟨A', c', h1, h2, h3⟩ := hO.reads
   exact ⟨A', c', h1, h2, h3, hb⟩
  by_cases hnone : A = none
  ·subst hnone
   have hx0 : xs.length = 0 := by
    refine Decidable.byContradiction fun h => ?_
    obtain ⟨ad, h, _⟩ := hx.2.2 (by omega)
    cases h
   obtain rfl : xs = [] := List.eq_nil_of_length_eq_zero hx0
   obtain ⟨v', w', hrun, hown, hg, _⟩ := run_append_own (P := P) W W.heap.size t ty e i0 z d.sz bytes ht hi hz0 hz1 hz2 hz hs0 (.slice none 0 0) 0 [] (World.ownsRow_nil W W.heap.size e d.sz) bd ys.length c news hnr.1 hnc (by
    intro u hu
    obtain ⟨q, hq, rfl⟩ := List.mem_iff_getElem.1 hu
    have hql : q / d.sz < ys.length := by
     rw [Nat.div_lt_iff_lt_mul hs0]
     rw [← hnr.1]
     exact hq
    have hc := hnr.2 (q / d.sz) _ (List.getElem?_eq_getElem hql)
    refine d.K_one hc _ ?_
    rw [List.mem_iff_getElem?]
    refine ⟨q % d.sz, ?_⟩
    rw [List.getElem?_take, if_pos (Nat.mod_lt _ hs0), List.getElem?_drop, Nat.mul_comm, Nat.div_add_mod, List.getElem?_eq_getElem hq]) (by simp only [maxLen]; simp at hlen; omega) (by simpa using hl) (Nat.le_refl _)
   obtain ⟨A', c', h1, h2, h3, h4⟩ := fin v' w' [] (Reps.none _ _) (by simpa using hown) hg
   exact ⟨A', c', w', by rw [← h1]; exact hrun, h2, h3, h4⟩
  ·obtain ⟨ad, rfl⟩ := Option.ne_none_iff_exists'.1 hnone
   obtain ⟨olds, hor, hoc⟩ := ReadsRow.inner_ hx
   obtain ⟨v', w', hrun, hown, hg⟩ := run_append_arg_grows (P := P) W t ty e i0 z d.sz bytes ht hi hz0 hz1 hz2 hz hs0 ad xs.length xs.length olds hor.1 hoc bd ys.length c news hnr.1 hnc (by omega) (by simp only [maxLen]; omega) hl
   obtain ⟨A', c', h1, h2, h3, h4⟩ := fin v' w' olds hor hown hg
   exact ⟨A', c', w', by rw [← h1]; exact hrun, h2, h3, h4⟩
section
variable {P : Program} {ops : Array Oper} {rest : List Oper} {o : Oper} {a : Act} {Q : Exit → Act → World → Prop} {K : Act → World → Prop} {E : Prop} {α : Type}
theorem wp_append_full (d : Kd α) (W : World) (s x : Operand) (t e : TypeId) (z : Value) (bytes : Nat)
  (ho : o.op = .call { callee := .builtin .append, args := #[s, x], argTypes := #[t, t] })
  (ht : P.underlying t = some (.slice e)) (hinfo : (P.info? e).map (fun i => (i.zero, i.size, i.bytes)) = some (some z, d.sz, bytes)) (hz : z.cells.size = d.sz) (hs0 : 0 < d.sz) (hb0 : 0 < bytes)
  (A : Option Addr) (xs : List α) (B : Option Addr) (c : Nat) (ys : List α) (hs : a.eval s = .slice A xs.length xs.length) (hy0 : a.eval x = .slice B ys.length c) (hx : d.C W A xs.length xs) (hy : d.C W B ys.length ys) (hl : (xs.length + ys.length) * bytes ≤ 140737488355328)
  (h : ∀ zs A' c' w1, Aside0 (zs = xs ++ ys) → zs.length ≤ c' → d.C w1 A' zs.length zs → Below W.heap.size W w1 → K (a.put o.dst (.slice A' zs.length c')) w1) : o.wp P a W K Q := by
 obtain ⟨A', c', w1, hrun, h1, h2, h3⟩ := run_append_full d W t o.type e z bytes ht hinfo hz hs0 hb0 A xs B c ys hx hy (fun _ _ => by cases A <;> simp) hl
 unfold Oper.wp execOp
 simp only [ho, resolve, invoke, builtin, Sem.run_bind, Sem.run_pure, Result.andThen_ok, List.map_toArray, List.map_cons, List.map_nil, hs, hy0, hrun]
 exact h (xs ++ ys) A' c' w1 ⟨rfl⟩ h1 h2 h3
/-- In a plain region, behind a guard that holds. -/
theorem list_append_guard (hw : Region.wanted o (yielded ops a.tmps) = true) (d : Kd α) (W : World) (s x : Operand) (t e : TypeId) (z : Value) (bytes : Nat)
  (ho : o.op = .call { callee := .builtin .append, args := #[s, x], argTypes := #[t, t] })
  (ht : P.underlying t = some (.slice e)) (hinfo : (P.info? e).map (fun i => (i.zero, i.size, i.bytes)) = some (some z, d.sz, bytes)) (hz : z.cells.size = d.sz) (hs0 : 0 < d.sz) (hb0 : 0 < bytes)
  (A : Option Addr) (xs : List α) (B : Option Addr) (c : Nat) (ys : List α) (hs : a.eval s = .slice A xs.length xs.length) (hy0 : a.eval x = .slice B ys.length c) (hx : d.C W A xs.length xs) (hy : d.C W B ys.length ys) (hl : (xs.length + ys.length) * bytes ≤ 140737488355328)
  (h : ∀ zs A' c' w1, Aside0 (zs = xs ++ ys) → zs.length ≤ c' → d.C w1 A' zs.length zs → Below W.heap.size W w1 → wpList P ops Q rest (a.put o.dst (.slice A' zs.length c')) w1) : wpList P ops Q (o :: rest) a W :=
 by
 unfold wpList
 rw [if_pos hw]
 exact .inl (wp_append_full d W s x t e z bytes ho ht hinfo hz hs0 hb0 A xs B c ys hs hy0 hx hy hl h)
end
end Go.Proofs.Ytkopbaikmlajmaa.Q
