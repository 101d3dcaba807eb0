/- trimmed to what these claims' texts use -/
import Derived.Test.YtkopbaikmlajmaaF112
import Derived.Test.YtkopbaikmlajmaaF108
import Derived.Test.YtkopbaikmlajmaaF26
import Derived.Test.YtkopbaikmlajmaaF44
import Derived.Deep.RegionHeld3
import Derived.Deep.DrawnRows
namespace Go.Proofs.Ytkopbaikmlajmaa.Q
open Go.RowKit Go.Proofs.YtkopbaikmlajmaaW.PrintWords Go.Proofs.YtkopbaikmlajmaaW.PrintLast Go.Proofs.YtkopbaikmlajmaaW.PrintMore
set_option linter.unusedVariables false
set_option linter.unusedSimpArgs false
attribute [local go_sem ↓] Go.wp_at_zero Go.wp_at_succ
/-- What Parse answers: the table, and the error. -/
def parseR (l : List Int) : ByteArray × List S56 × List S65 × List S42 × Int := match parseE l with | some (nm, cs, xs, ks) => (nm, cs, xs, ks, 0) | none => (⟨#[]⟩, [], [], [], 3)
/-- A table that is returned, in reading form. -/
def TabOut (w0 : World) (r : ByteArray × List S56 × List S65 × List S42 × Int) (e : Ending) (w' : World) : Prop :=
 ∃ A1 c1 A2 c2 A3 c3, e = .returned (.tuple #[.agg #[.string r.1, .slice A1 r.2.1.length c1, .slice A2 r.2.2.1.length c2, .slice A3 r.2.2.2.1.length c3], .int .i64 r.2.2.2.2]) ∧ (r.2.1.length ≤ c1 ∧ Kd.C k56 w' A1 r.2.1.length r.2.1) ∧ (r.2.2.1.length ≤ c2 ∧ Kd.C k65 w' A2 r.2.2.1.length r.2.2.1) ∧ (r.2.2.2.1.length ≤ c3 ∧ Kd.C k42 w' A3 r.2.2.2.1.length r.2.2.2.1) ∧ Below w0.heap.size w0 w'
theorem and_mask {x : Int} (k : Nat) (h0 : 0 ≤ x) (h1 : x < 9223372036854775808) (hk : k ≤ 60) : bits .and .i64 x ((2 ^ k - 1 : Nat) : Int) = x % ((2 ^ k : Nat) : Int) := by
 obtain ⟨m, rfl⟩ := Int.eq_ofNat_of_zero_le h0
 have hp : 2 ^ k ≤ 2 ^ 60 := Nat.pow_le_pow_right (by decide) hk
 rw [and_i64_nat m (2 ^ k - 1) (by omega) (by omega), Nat.and_two_pow_sub_one_eq_mod, Int.natCast_emod]
theorem and_bit4 {x : Int} (h0 : 0 ≤ x) (h1 : x < 9223372036854775808) : (bits .and .i64 x 4 != 0) = decide (x / 4 % 2 = 1) := by
 obtain ⟨m, rfl⟩ := Int.eq_ofNat_of_zero_le h0
 have e : bits .and .i64 (m : Int) 4 = ((m &&& 4 : Nat) : Int) := and_i64_nat m 4 (by omega) (by omega)
 have e2 : m &&& 4 = (m % 8) &&& 4 := by
  rw [← Nat.and_two_pow_sub_one_eq_mod m 3, Nat.and_assoc]
  rfl
 have e3 : (m : Int) / 4 % 2 = ((m % 8 / 4 : Nat) : Int) := by omega
 rw [e, e2, e3]
 have hr : m % 8 < 8 := Nat.mod_lt _ (by decide)
 generalize m % 8 = r at hr ⊢
 rcases (show r = 0 ∨ r = 1 ∨ r = 2 ∨ r = 3 ∨ r = 4 ∨ r = 5 ∨ r = 6 ∨ r = 7 by omega) with e | e | e | e | e | e | e | e <;> subst e <;> decide
theorem digits_snoc : ∀ (j : Nat) (c : Int), digits (j + 1) c = digits j c ++ [c / 16 ^ j % 16]
 | 0, c => by rw [digits, digits, Int.pow_zero, Int.ediv_one]; rfl
 | j + 1, c => by
  rw [digits, digits_snoc j (c / 16), digits, List.cons_append, Int.pow_succ', Int.ediv_ediv_of_nonneg (by decide)]
theorem div_pow_succ (c : Int) (j : Nat) : c / 16 ^ j / 16 = c / 16 ^ (j + 1) := by rw [Int.ediv_ediv_of_nonneg (Int.pow_nonneg (by decide)), ← Int.pow_succ]
theorem takeN_none {α : Type} {f : List Int → Option (α × List Int)} {k : Nat} {l : List Int} (h : takeN f k l = none) : ∀ m, takeN f (k + m) l = none
 | 0 => h
 | m + 1 => by
  rw [← Nat.add_assoc]
  show (takeN f (k + m) l).bind _ = none
  rw [takeN_none h m]
  rfl
theorem takeN_step {α : Type} {f : List Int → Option (α × List Int)} {k : Nat} {l m m2 : List Int} {xs : List α} {x : α} (h : takeN f k l = some (xs, m)) (hx : f m = some (x, m2)) : takeN f (k + 1) l = some (xs ++ [x], m2) := by
 show (takeN f k l).bind _ = _
 rw [h, Option.bind_some]
 simp only
 rw [hx]
 rfl
theorem takeN_stop {α : Type} {f : List Int → Option (α × List Int)} {k n : Nat} {l m : List Int} {xs : List α} (h : takeN f k l = some (xs, m)) (hx : f m = none) (hk : k < n) : takeN f n l = none := by
 have h1 : takeN f (k + 1) l = none := by
  show (takeN f k l).bind _ = _
  rw [h, Option.bind_some]
  simp only
  rw [hx]
  rfl
 have := takeN_none h1 (n - (k + 1))
 rwa [show k + 1 + (n - (k + 1)) = n by omega] at this
/-- The three blocks that Parse has made: the table, the error, the reader. -/
def DP (b : Nat) (w0 : World) (v0 v1 v2 v3 : Value) (l : List Int) (w : World) : Prop :=
 w.heap[b]? = some (.cells #[v0, v1, v2, v3] 28 (0, 0)) ∧ w.heap[b + 1]? = some (.cells #[.int .i64 0] 30 (0, 0)) ∧ PS (b + 1 + 1) w0 w l
section
variable {b : Nat} {w0 w w1 : World} {v0 v1 v2 v3 : Value} {l : List Int}
theorem DP.below (h : DP b w0 v0 v1 v2 v3 l w) (hb : Below w.heap.size w w1) : DP b w0 v0 v1 v2 v3 l w1 := ⟨blk_below h.1 hb, blk_below h.2.1 hb, h.2.2.below hb⟩
theorem DP.kept {m : List Int} (h : DP b w0 v0 v1 v2 v3 l w) (hk : Kept w w1 (fun k => k = b + 1 + 1)) (hr : PS (b + 1 + 1) w0 w1 m) : DP b w0 v0 v1 v2 v3 m w1 := ⟨blk_kept h.1 hk (by omega), blk_kept h.2.1 hk (by omega), hr⟩
theorem DP.kept0 (h : DP b w0 v0 v1 v2 v3 l w) (hk : Kept w w1 (fun k => k = b + 1 + 1)) : w1.heap[b]? = some (.cells #[v0, v1, v2, v3] 28 (0, 0)) ∧ w1.heap[b + 1]? = some (.cells #[.int .i64 0] 30 (0, 0)) := ⟨blk_kept h.1 hk (by omega), blk_kept h.2.1 hk (by omega)⟩
theorem PS.grown {rb : Nat} {u : Value} (h : PS rb w0 w l) (hg : w.grownBy w1 u.ownBlock) (hn : ∀ cells, w.heap[rb]? = some (.cells cells 128 (0, 0)) → some rb ≠ u.ownBlock) : PS rb w0 w1 l := by
 obtain ⟨A, c, h1, h2, h3⟩ := h
 exact ⟨A, c, blk_grown h1 hg (hn _ h1), h2, h3⟩
theorem DP.grown {α : Type} {d : Kd α} {e base : Nat} {ok : Nat → Prop} {u : Value} {ys : List α} (h : DP b w0 v0 v1 v2 v3 l w) (hg : w.grownBy w1 u.ownBlock) (hR : Kd.R d e w base ok u ys) (e1 : e ≠ 28) (e2 : e ≠ 30) (e3 : e ≠ 128) : DP b w0 v0 v1 v2 v3 l w1 :=
 ⟨blk_grown h.1 hg (Kd.R_ne hR h.1 e1), blk_grown h.2.1 hg (Kd.R_ne hR h.2.1 e2), h.2.2.grown hg (fun _ hc => Kd.R_ne hR hc e3)⟩
theorem R_reader {α : Type} {d : Kd α} {e base rb : Nat} {u : Value} {ys : List α} (h : Kd.R d e w base (fun _ => True) u ys) (hp : PS rb w0 w l) (ht : ∀ q, q ∈ e :: d.E → q ≠ 128) (hk : Kept w w1 (fun k => k = rb)) : Kd.R d e w1 base (fun _ => True) u ys := by
 obtain ⟨A, c, h1, h2, h3⟩ := hp
 exact Kd.R_mono (Kd.R_step (Kd.R_types h h1 ht) (fun k ho hlt => hk.2 k hlt ho.2)) (fun _ _ => trivial)
theorem DP.put1 (h : DP b w0 v0 v1 v2 v3 l w) (u : Value) : DP b w0 v0 u v2 v3 l (w.setCell ⟨b, 1, none⟩ u) := ⟨blk_put h.1 1 _ rfl, blk_far h.2.1 (by show b + 1 ≠ b; omega) _, h.2.2.far (by show b + 1 + 1 ≠ b; omega) _⟩
theorem DP.put2 (h : DP b w0 v0 v1 v2 v3 l w) (u : Value) : DP b w0 v0 v1 u v3 l (w.setCell ⟨b, 2, none⟩ u) := ⟨blk_put h.1 2 _ rfl, blk_far h.2.1 (by show b + 1 ≠ b; omega) _, h.2.2.far (by show b + 1 + 1 ≠ b; omega) _⟩
theorem DP.put3 (h : DP b w0 v0 v1 v2 v3 l w) (u : Value) : DP b w0 v0 v1 v2 u l (w.setCell ⟨b, 3, none⟩ u) := ⟨blk_put h.1 3 _ rfl, blk_far h.2.1 (by show b + 1 ≠ b; omega) _, h.2.2.far (by show b + 1 + 1 ≠ b; omega) _⟩
theorem DP.put0 (h : DP b w0 v0 v1 v2 v3 l w) (u : Value) : DP b w0 u v1 v2 v3 l (w.setCell ⟨b, 0, none⟩ u) := ⟨blk_put h.1 0 _ rfl, blk_far h.2.1 (by show b + 1 ≠ b; omega) _, h.2.2.far (by show b + 1 + 1 ≠ b; omega) _⟩
end
theorem kind_at {w : World} {base g c i : Nat} {cs : List S56} {kd : Int} (h : Kd.R k56 56 w base (fun _ => True) (.slice (some ⟨g, 0, none⟩) cs.length c) cs) (hi : i < cs.length) (hk : kd = (rd_T56 cs (i : Int)).f1) : w.cell? ⟨g, i * 3 + 1, none⟩ = some (.int .i64 kd) := by
 obtain ⟨ad, ead, _, hat1, _⟩ := at_T56 (Kd.R_reads' h).2.2 (i : Int) (by omega) (by omega)
 injection ead with ead
 subst ead
 rw [show (Addr.add ⟨g, 0, none⟩ ((i : Int).toNat * 3)) = ⟨g, i * 3, none⟩ by rw [Int.toNat_natCast]; unfold Addr.add; split <;> simp_all, ← hk] at hat1
 exact hat1
set_option maxHeartbeats 1000000 in
theorem leave55 {b : Nat} {tmps : Array Value} {l : List Int} {v0 v1 v2 v3 : Value} {w0 W : World} (ht2 : tmps.getD 2 undef = .pointer (some ⟨b, 0, none⟩)) (ht3 : tmps.getD 3 undef = .pointer (some ⟨b + 1, 0, none⟩))
  (h : W.heap[b]? = some (.cells #[v0, v1, v2, v3] 28 (0, 0)) ∧ W.heap[b + 1]? = some (.cells #[.int .i64 0] 30 (0, 0))) (hb : w0.heap.size ≤ b) (HB : Below w0.heap.size w0 W) (hE : parseE l = none) :
  Leaves Try.prog Try.f55 tmps (TabOut w0 (parseR l)) [{ target := .fn (.func 108) #[.pointer (some ⟨b, 0, none⟩), .pointer (some ⟨b + 1, 0, none⟩)], args := #[] }] (.panicking [{ v := .iface 125 (.agg #[]), recovered := false }]) W := by
 have hu28 := Try.underlying28
 refine leaves_cons (f := 108) (args := #[.pointer (some ⟨b, 0, none⟩), .pointer (some ⟨b + 1, 0, none⟩)]) (by simp) (by simp [go_sem]) ?_
 refine (catch108_form b (b + 1) v0 v1 v2 v3 (.int .i64 0) W h.1 h.2 (by omega)).mono ?_
 rintro e u' w' ⟨rfl, rfl, h1, h2, h3⟩
 have hB := h3 w0 HB hb (by omega)
 have e0 := show w'.cell? ⟨b, 0, none⟩ = some (.string ⟨#[]⟩) from blk_cell h1 0
 have e1 := show w'.cell? ⟨b, 1, none⟩ = some (.slice none 0 0) from blk_cell h1 1
 have e2 := show w'.cell? ⟨b, 2, none⟩ = some (.slice none 0 0) from blk_cell h1 2
 have e3 := show w'.cell? ⟨b, 3, none⟩ = some (.slice none 0 0) from blk_cell h1 3
 have e4 := show w'.cell? ⟨b + 1, 0, none⟩ = some (.int .i64 3) from blk_cell h2 0
 have g2 : tmps[2]?.getD undef = .pointer (some ⟨b, 0, none⟩) := by simpa using ht2
 have g3 : tmps[3]?.getD undef = .pointer (some ⟨b + 1, 0, none⟩) := by simpa using ht3
 have hR : parseR l = (⟨#[]⟩, [], [], [], 3) := by unfold parseR; rw [hE]
 refine ⟨.tuple #[.agg #[.string ⟨#[]⟩, .slice none 0 0, .slice none 0 0, .slice none 0 0], .int .i64 3], ?_, ?_⟩
 ·simp [results, Try.results55, go_sem, g2, g3, asAddr, e0, e1, e2, e3, e4, hu28]
 ·rw [hR]
  exact ⟨none, 0, none, 0, none, 0, rfl, ⟨Nat.le_refl _, Kd.C_nil _ _⟩, ⟨Nat.le_refl _, Kd.C_nil _ _⟩, ⟨Nat.le_refl _, Kd.C_nil _ _⟩, hB⟩
theorem leaveOk55 {b : Nat} {tmps : Array Value} {R : Ending → World → Prop} {v0 v1 v2 v3 : Value} {W : World} (ht2 : tmps.getD 2 undef = .pointer (some ⟨b, 0, none⟩)) (ht3 : tmps.getD 3 undef = .pointer (some ⟨b + 1, 0, none⟩))
  (h1 : W.heap[b]? = some (.cells #[v0, v1, v2, v3] 28 (0, 0))) (h2 : W.heap[b + 1]? = some (.cells #[.int .i64 0] 30 (0, 0))) (hR : R (.returned (.tuple #[.agg #[v0, v1, v2, v3], .int .i64 0])) W) :
  Leaves Try.prog Try.f55 tmps R [{ target := .fn (.func 108) #[.pointer (some ⟨b, 0, none⟩), .pointer (some ⟨b + 1, 0, none⟩)], args := #[] }] .returning W := by
 have hu28 := Try.underlying28
 refine leaves_cons (f := 108) (args := #[.pointer (some ⟨b, 0, none⟩), .pointer (some ⟨b + 1, 0, none⟩)]) (by simp) (by simp [go_sem]) ?_
 refine (catch108_idle _ _ W).mono ?_
 rintro e u' w' ⟨rfl, rfl, rfl⟩
 have e0 := show w'.cell? ⟨b, 0, none⟩ = some v0 from blk_cell h1 0
 have e1 := show w'.cell? ⟨b, 1, none⟩ = some v1 from blk_cell h1 1
 have e2 := show w'.cell? ⟨b, 2, none⟩ = some v2 from blk_cell h1 2
 have e3 := show w'.cell? ⟨b, 3, none⟩ = some v3 from blk_cell h1 3
 have e4 := show w'.cell? ⟨b + 1, 0, none⟩ = some (.int .i64 0) from blk_cell h2 0
 have g2 : tmps[2]?.getD undef = .pointer (some ⟨b, 0, none⟩) := by simpa using ht2
 have g3 : tmps[3]?.getD undef = .pointer (some ⟨b + 1, 0, none⟩) := by simpa using ht3
 refine ⟨.tuple #[.agg #[v0, v1, v2, v3], .int .i64 0], ?_, hR⟩
 simp [results, Try.results55, go_sem, g2, g3, asAddr, e0, e1, e2, e3, e4, hu28]
/-- A post that says of a panic what the deferred closure needs. -/
def QP5 (b : Nat) (dl : List Deferred) (G : World → Prop) (Q : Exit → Act → World → Prop) : Exit → Act → World → Prop
 | .panic ch, a, w => ch = [{ v := .iface 125 (.agg #[]), recovered := false }] ∧ a.tmps.getD 2 undef = .pointer (some ⟨b, 0, none⟩) ∧ a.tmps.getD 3 undef = .pointer (some ⟨b + 1, 0, none⟩) ∧ a.defers = dl ∧ G w
 | e, a, w => Q e a w
theorem QP5.normal {b : Nat} {dl : List Deferred} {G : World → Prop} {Q : Exit → Act → World → Prop} {a : Act} {w : World} (h : Q .normal a w) : QP5 b dl G Q .normal a w := h
theorem QP5.put {b : Nat} {dl : List Deferred} {G : World → Prop} {Q : Exit → Act → World → Prop} {ch : List PanicEntry} {a : Act} {w : World} {N : Nat} {v : Value} (h2 : N ≠ 2) (h3 : N ≠ 3) (h : QP5 b dl G Q (.panic ch) (a.put (some N) v) w) : QP5 b dl G Q (.panic ch) a w := by
 obtain ⟨h1, h2', h3', h4', h5'⟩ := h
 exact ⟨h1, (put_getD h2).symm.trans h2', (put_getD h3).symm.trans h3', h4', h5'⟩
theorem wp_qp5 {P : Program} {b : Nat} {dl : List Deferred} {G : World → Prop} {Q : Exit → Act → World → Prop} {x : Code} {a : Act} {w : World}
  (hi : ∀ a w, a.tmps.getD 2 undef = .pointer (some ⟨b, 0, none⟩) → a.tmps.getD 3 undef = .pointer (some ⟨b + 1, 0, none⟩) → a.defers = dl → G w → Q (.panic [{ v := .iface 125 (.agg #[]), recovered := false }]) a w)
  (h : x.wp P (QP5 b dl G Q) a w) : x.wp P Q a w :=
 Code.wp_mono (fun e a w h => by
  cases e with
  | panic ch => obtain ⟨rfl, h2, h3, h4, h5⟩ := h; exact hi _ _ h2 h3 h4 h5
  | _ => exact h) h
set_option maxHeartbeats 4000000 in
set_option maxRecDepth 100000 in
theorem c55 (A : Option Addr) (c : Nat) (l : List Int) (w : World) (hC : (Kd.int .i64).C w A l.length l) (hc : l.length ≤ c) (hm : l.length ≤ 1000000) :
  Calls Try.prog 55 #[.slice A l.length c] w (TabOut w (parseR l)) := by
 have hmf : ∀ (fn : Fn) (first cap : Array Value) (w : World), (Instr.makeFunc fn first cap).run Try.prog w = .ok (.func fn first cap) w := fun _ _ _ _ => rfl
 have hu28 := Try.underlying28
 have hu128 := Try.underlying128
 go_enter_defers Try.func55, Try.ntmps55
 go_wp2_with fail
 obtain ⟨W, hW⟩ : ∃ W, W = ((w.alloc (.cells #[.string ⟨#[]⟩, .slice none 0 0, .slice none 0 0, .slice none 0 0] 28)).alloc (.cells #[.int .i64 0] 30)).alloc (.cells #[.slice A l.length c] 128) := ⟨_, rfl⟩
 have HB := Aside0.mk (show Below w.heap.size w W from hW ▸ below_step (below_step (below_al w _) (below_al _ _)) (below_al _ _))
 obtain ⟨b, hb⟩ : ∃ b, b = w.heap.size := ⟨_, rfl⟩
 have HD := Aside0.mk (show DP b w (.string ⟨#[]⟩) (.slice none 0 0) (.slice none 0 0) (.slice none 0 0) l W from by
  subst hb
  refine ⟨?_, ?_, A, c, ?_, hC, hc⟩
  ·rw [hW]; exact blk_alloc (blk_alloc (blk_new _ _) _) _
  ·rw [hW, show w.heap.size + 1 = (w.alloc (.cells #[.string ⟨#[]⟩, .slice none 0 0, .slice none 0 0, .slice none 0 0] 28)).heap.size by simp]; exact blk_alloc (blk_new _ _) _
  ·rw [hW, show w.heap.size + 1 + 1 = ((w.alloc (.cells #[.string ⟨#[]⟩, .slice none 0 0, .slice none 0 0, .slice none 0 0] 28)).alloc (.cells #[.int .i64 0] 30)).heap.size by simp]; exact blk_new _ _)
 rw [← hW, ← hb]
 clear hW
 have HBB := Aside0.mk (show w.heap.size ≤ b by omega)
 have HM := Aside0.mk hm
 clear hb hC hc hm
 refine (c109 (b + 1 + 1) 131072 l w W HB.out (by have := HBB.out; omega) HD.out.2.2).mono ?_
 cases h1 : takeW 131072 l with
 | none =>
  rintro e w1 ⟨he, hb1, hk⟩
  unfold badRead at he
  subst he
  exact leave55 rfl rfl (HD.out.kept0 hk) HBB.out hb1 (by unfold parseE; rw [h1]; rfl)
 | some p =>
 obtain ⟨u, l1⟩ := p
 rintro e w1 ⟨rfl, hs1, hb1, hk⟩
 obtain ⟨hl1, hu0, hu1⟩ := takeW_some h1
 have HP := Aside0.mk (show parseE l = (takeT (u / 4096).toNat l1).bind fun nm => (takeN takeC (u % 16).toNat nm.2).bind fun cs => (takeN takeX (u / 16 % 16).toNat cs.2).bind fun xs => (takeN (takeK cs.1) (u / 256 % 16).toNat xs.2).bind fun ks =>
  if ks.2 = [] ∧ checkE nm.1 cs.1 xs.1 ks.1 = 0 then some (nm.1, cs.1, xs.1, ks.1) else none by unfold parseE; rw [h1, Option.bind_some])
 have HM1 := Aside0.mk (show l1.length ≤ 1000000 by have := HM.out; rw [hl1] at this; simp at this; omega)
 have HB1 := Aside0.mk hb1
 have HD1 := Aside0.mk (HD.out.kept hk hs1)
 clear hs1 hb1 hk HB HD hl1 h1
 obtain ⟨n0, hn0⟩ : ∃ n : Nat, u / 4096 = (n : Int) := ⟨(u / 4096).toNat, by omega⟩
 obtain ⟨n1, hn1⟩ : ∃ n : Nat, u % 16 = (n : Int) := ⟨(u % 16).toNat, by omega⟩
 obtain ⟨n2, hn2⟩ : ∃ n : Nat, u / 16 % 16 = (n : Int) := ⟨(u / 16 % 16).toNat, by omega⟩
 obtain ⟨n3, hn3⟩ : ∃ n : Nat, u / 256 % 16 = (n : Int) := ⟨(u / 256 % 16).toNat, by omega⟩
 have m1 : bits .and .i64 u 15 = (n1 : Int) := (and_mask 4 hu0 (by omega) (by decide)).trans hn1
 have m2 : bits .and .i64 (u / 16) 15 = (n2 : Int) := (and_mask (x := u / 16) 4 (by omega) (by omega) (by decide)).trans hn2
 have m3 : bits .and .i64 (u / 256) 15 = (n3 : Int) := (and_mask (x := u / 256) 4 (by omega) (by omega) (by decide)).trans hn3
 rw [hn0, hn1, hn2, hn3, Int.toNat_natCast, Int.toNat_natCast, Int.toNat_natCast, Int.toNat_natCast] at HP
 have b0 : n0 ≤ 32 := by omega
 have b1 : n1 ≤ 15 := by omega
 have b2 : n2 ≤ 15 := by omega
 have b3 : n3 ≤ 15 := by omega
 have M2 := Aside0.mk m2
 have M3 := Aside0.mk m3
 clear hn1 hn2 hn3 m2 m3
 go_wp2_with fail
 refine (c110 (b + 1 + 1) n0 l1 w w1 HB1.out (by have := HBB.out; omega) HD1.out.2.2 HM1.out (by omega)).mono ?_
 cases h2 : takeT n0 l1 with
 | none =>
  rintro e w2 ⟨he, hb1, hk⟩
  unfold badRead at he
  subst he
  exact leave55 rfl rfl (HD1.out.kept0 hk) HBB.out hb1 (by rw [HP.out, h2]; rfl)
 | some p =>
 obtain ⟨nm, l2⟩ := p
 rintro e w2 ⟨rfl, hs1, hb1, hk⟩
 obtain ⟨hl2, _⟩ := takeT_some h2
 replace HP := Aside0.mk (show parseE l = (takeN takeC n1 l2).bind fun cs => (takeN takeX n2 cs.2).bind fun xs => (takeN (takeK cs.1) n3 xs.2).bind fun ks =>
  if ks.2 = [] ∧ checkE nm cs.1 xs.1 ks.1 = 0 then some (nm, cs.1, xs.1, ks.1) else none by rw [HP.out, h2, Option.bind_some])
 have HM2 := Aside0.mk (show l2.length ≤ 1000000 by have := HM1.out; rw [hl2] at this; simp at this; omega)
 have HB2 := Aside0.mk hb1
 have HD2 := Aside0.mk (HD1.out.kept hk hs1)
 clear hs1 hb1 hk HB1 HD1 hl2 h2 HM1
 have t0 := show w2.cell? ⟨b, 0, none⟩ = some (.string ⟨#[]⟩) from blk_cell HD2.out.1 0
 have z0 := show w2.frozen? ⟨b, 0, none⟩ = false from blk_frozen HD2.out.1 0
 go_wp2_with fail
 have HB3 := Aside0.mk (below_set (g := b) (j := 0) (v := .string nm) HB2.out HBB.out)
 have HD3 := Aside0.mk (HD2.out.put0 (.string nm))
 clear t0 z0 HB2 HD2
 go_loopw [24] (fun v24 wr => ∃ (k : Nat) (cs : List S56) (lk : List Int) (v1 : Value), k ≤ n1 ∧ v24 = .int .i64 k ∧ Aside0 (takeN takeC k l2 = some (cs, lk)) ∧ Aside0 (cs.length = k) ∧ Aside0 (lk.length ≤ 1000000) ∧ Aside0 (DP b w (.string nm) v1 (.slice none 0 0) (.slice none 0 0) lk wr) ∧ Aside0 (Kd.R k56 56 wr w.heap.size (fun _ => True) v1 cs) ∧ Aside0 (Below w.heap.size w wr)) (fun v _ => n1 - (intOf v).toNat)
 case atStart => exact ⟨0, [], l2, _, Nat.zero_le _, rfl, ⟨rfl⟩, ⟨rfl⟩, HM2, HD3, ⟨Kd.R_nil _ _ _ _ _⟩, HB3⟩
 case round =>
  clear HB3 HD3
  obtain ⟨k, cs, lk, v1, hk, rfl, HTK, HLN, HML, HD, HO, HB⟩ := hrel
  by_cases hlt : k < n1
  ·go_wp2_with fail
   refine (c109 (b + 1 + 1) 256 lk w wr HB.out (by have := HBB.out; omega) HD.out.2.2).mono ?_
   cases h3 : takeW 256 lk with
   | none =>
    rintro e w3 ⟨he, hb1, hk'⟩
    unfold badRead at he
    subst he
    exact leave55 rfl rfl (HD.out.kept0 hk') HBB.out hb1 (by rw [HP.out, takeN_stop HTK.out (show takeC lk = none by unfold takeC; rw [h3]; rfl) hlt]; rfl)
   | some p =>
   obtain ⟨x, m⟩ := p
   rintro e w3 ⟨rfl, hs1, hb1, hk'⟩
   obtain ⟨hlm, hx0, hx1⟩ := takeW_some h3
   have HMM := Aside0.mk (show m.length ≤ 1000000 by have := HML.out; rw [hlm] at this; simp at this; omega)
   have HB4 := Aside0.mk hb1
   have HD4 := Aside0.mk (HD.out.kept hk' hs1)
   have HO4 := Aside0.mk (R_reader HO.out HD.out.2.2 (by decide) hk')
   have a3 : bits .and .i64 x 3 = x % 4 := and_mask 2 hx0 (by omega) (by decide)
   have a4 : (bits .and .i64 x 4 != 0) = decide (x / 4 % 2 = 1) := and_bit4 hx0 (by omega)
   obtain ⟨n, hn⟩ : ∃ n : Nat, x / 8 = (n : Int) := ⟨(x / 8).toNat, by omega⟩
   have HX := Aside0.mk (show takeC lk = (takeT n m).map fun q => (⟨q.1, x % 4, decide (x / 4 % 2 = 1)⟩, q.2) by unfold takeC; rw [h3, Option.bind_some]; simp only [hn, Int.toNat_natCast])
   have bn : n ≤ 32 := by omega
   clear hs1 hb1 hk' hlm h3 hx0 hx1 HB HD HO
   have o1 := show w3.cell? ⟨b, 1, none⟩ = some v1 from blk_cell HD4.out.1 1
   have HPS4 := Aside0.mk (show PS (b + 1 + 1) w w3 m from HD4.out.2.2)
   go_wp2_with fail
   refine wp_qp5 (b := b) (dl := [{ target := .fn (.func 108) #[.pointer (some ⟨b, 0, none⟩), .pointer (some ⟨b + 1, 0, none⟩)], args := #[] }]) (G := fun W' => takeT n m = none ∧ Below w.heap.size w W' ∧ W'.heap[b]? = some (.cells #[.string nm, v1, .slice none 0 0, .slice none 0 0] 28 (0, 0)) ∧ W'.heap[b + 1]? = some (.cells #[.int .i64 0] 30 (0, 0))) ?hi ?_
   case hi =>
    intro a' W' h2 h3 hd hG
    show Leaves Try.prog Try.f55 a'.tmps _ a'.defers _ W'
    rw [hd]
    exact leave55 h2 h3 hG.2.2 HBB.out hG.2.1 (by rw [HP.out, takeN_stop HTK.out (show takeC lk = none by rw [HX.out, hG.1]; rfl) hlt]; rfl)
   cases ht : takeT n m with
   | none =>
    have ht0 := ht
    refine start_ (n := 16) (S := fun w' => w'.cell? ⟨b, 1, none⟩ = some v1) (ds := [15]) #[false, false, false, false, false, false, false, false, false, false, false, false, false, false, false, false] (by kernel_rfl) rfl rfl o1 (fun hHeld => ?_)
    refine pure_ (i := 0) (N := some 28) (v := ?_) (a' := ?_) #[true, false, false, false, false, false, false, false, false, false, false, false, false, false, false, false] rfl rfl (by kernel_rfl) (fun _ _ _ h => QP5.put (by decide) (by decide) h) (Or.inl ⟨by rfl, ?_⟩) ?_ ?_
    rotate_left
    ·intro w'
     go_simp
     with_reducible rfl
    rotate_left
    ·simp only [Act.put, aggV, List.setIfInBounds_toArray, List.set_cons_zero, List.set_cons_succ, i64_w, i32_w]
     rfl
    refine take_ (i := 1) (N := some 29) (v := ?_) (a' := ?_) #[true, true, false, false, false, false, false, false, false, false, false, false, false, false, false, false] rfl rfl (by kernel_rfl) (fun _ _ _ h => QP5.put (by decide) (by decide) h) (Or.inl ⟨by rfl, ?_⟩) hHeld ?_ ?_
    rotate_left
    ·rintro w' s0
     go_simp
     with_reducible rfl
    rotate_left
    ·simp only [Act.put, aggV, List.setIfInBounds_toArray, List.set_cons_zero, List.set_cons_succ, i64_w, i32_w]
     rfl
    refine pure_ (i := 2) (N := some 30) (v := ?_) (a' := ?_) #[true, true, true, false, false, false, false, false, false, false, false, false, false, false, false, false] rfl rfl (by kernel_rfl) (fun _ _ _ h => QP5.put (by decide) (by decide) h) (Or.inl ⟨by rfl, ?_⟩) ?_ ?_
    rotate_left
    ·intro w'
     go_simp
     with_reducible rfl
    rotate_left
    ·simp only [Act.put, aggV, List.setIfInBounds_toArray, List.set_cons_zero, List.set_cons_succ, i64_w, i32_w]
     rfl
    refine pure_ (i := 3) (N := some 31) (v := ?_) (a' := ?_) #[true, true, true, true, false, false, false, false, false, false, false, false, false, false, false, false] rfl rfl (by kernel_rfl) (fun _ _ _ h => QP5.put (by decide) (by decide) h) (Or.inl ⟨by rfl, ?_⟩) ?_ ?_
    rotate_left
    ·intro w'
     go_simp
     with_reducible rfl
    rotate_left
    ·simp only [Act.put, aggV, List.setIfInBounds_toArray, List.set_cons_zero, List.set_cons_succ, i64_w, i32_w]
     rfl
    refine pure_ (i := 4) (N := some 32) (v := ?_) (a' := ?_) #[true, true, true, true, true, false, false, false, false, false, false, false, false, false, false, false] rfl rfl (by kernel_rfl) (fun _ _ _ h => QP5.put (by decide) (by decide) h) (Or.inl ⟨by rfl, ?_⟩) ?_ ?_
    rotate_left
    ·intro w'
     go_simp
     with_reducible rfl
    rotate_left
    ·simp only [Act.put, aggV, List.setIfInBounds_toArray, List.set_cons_zero, List.set_cons_succ, i64_w, i32_w]
     rfl
    refine pure_ (i := 5) (N := some 33) (v := ?_) (a' := ?_) #[true, true, true, true, true, true, false, false, false, false, false, false, false, false, false, false] rfl rfl (by kernel_rfl) (fun _ _ _ h => QP5.put (by decide) (by decide) h) (Or.inl ⟨by rfl, ?_⟩) ?_ ?_
    rotate_left
    ·intro w'
     go_simp
     with_reducible rfl
    rotate_left
    ·simp only [Act.put, aggV, List.setIfInBounds_toArray, List.set_cons_zero, List.set_cons_succ, i64_w, i32_w]
     rfl
    refine pure_ (i := 6) (N := some 34) (v := ?_) (a' := ?_) #[true, true, true, true, true, true, true, false, false, false, false, false, false, false, false, false] rfl rfl (by kernel_rfl) (fun _ _ _ h => QP5.put (by decide) (by decide) h) (Or.inl ⟨by rfl, ?_⟩) ?_ ?_
    rotate_left
    ·intro w'
     go_simp
     with_reducible rfl
    rotate_left
    ·simp only [Act.put, aggV, List.setIfInBounds_toArray, List.set_cons_zero, List.set_cons_succ, i64_w, i32_w]
     rfl
    refine pure_ (i := 7) (N := some 35) (v := ?_) (a' := ?_) #[true, true, true, true, true, true, true, true, false, false, false, false, false, false, false, false] rfl rfl (by kernel_rfl) (fun _ _ _ h => QP5.put (by decide) (by decide) h) (Or.inl ⟨by rfl, ?_⟩) ?_ ?_
    rotate_left
    ·intro w'
     go_simp
     with_reducible rfl
    rotate_left
    ·simp only [Act.put, aggV, List.setIfInBounds_toArray, List.set_cons_zero, List.set_cons_succ, i64_w, i32_w]
     rfl
    refine pure_ (i := 8) (N := some 36) (v := ?_) (a' := ?_) #[true, true, true, true, true, true, true, true, true, false, false, false, false, false, false, false] rfl rfl (by kernel_rfl) (fun _ _ _ h => QP5.put (by decide) (by decide) h) (Or.inl ⟨by rfl, ?_⟩) ?_ ?_
    rotate_left
    ·intro w'
     go_simp
     with_reducible rfl
    rotate_left
    ·simp only [Act.put, aggV, List.setIfInBounds_toArray, List.set_cons_zero, List.set_cons_succ, i64_w, i32_w]
     rfl
    refine pure_ (i := 9) (N := some 37) (v := ?_) (a' := ?_) #[true, true, true, true, true, true, true, true, true, true, false, false, false, false, false, false] rfl rfl (by kernel_rfl) (fun _ _ _ h => QP5.put (by decide) (by decide) h) (Or.inl ⟨by rfl, ?_⟩) ?_ ?_
    rotate_left
    ·intro w'
     go_simp
     with_reducible rfl
    rotate_left
    ·simp only [Act.put, aggV, List.setIfInBounds_toArray, List.set_cons_zero, List.set_cons_succ, i64_w, i32_w]
     rfl
    refine one_ (i := 10) (N := some 38) #[true, true, true, true, true, true, true, true, true, true, true, false, false, false, false, false] rfl rfl (by kernel_rfl) (by decide) (fun K hK => ?_)
    refine goesP_ Try.func110 (by kernel_rfl) rfl #[.pointer (some ⟨b + 1 + 1, 0, none⟩), .int .i64 (n : Int)] (by rfl) rfl (by (try simp only [List.map_toArray, List.map_cons, List.map_nil]); first | done | rfl) ?_
    with_reducible refine (c110 (b + 1 + 1) n m w w3.drew (below_step HB4.out (below_dr _)) (by have := HBB.out; omega) (HPS4.out.below (below_dr _)) HMM.out (by omega)).mono ?_
    rw [ht]
    rintro e w' ⟨he, hb1, hk'⟩
    exact ⟨_, he, rfl, rfl, rfl, rfl, rfl, hb1, (HD4.out.below (below_dr _)).kept0 hk'⟩
   | some q =>
    obtain ⟨s, m2⟩ := q
    have HTC := Aside0.mk (show takeC lk = some (⟨s, x % 4, decide (x / 4 % 2 = 1)⟩, m2) by rw [HX.out, ht]; rfl)
    obtain ⟨hm2, hvk⟩ := takeT_some ht
    have HM2' := Aside0.mk (show m2.length ≤ 1000000 by have := HMM.out; rw [hm2] at this; simp at this; omega)
    clear hm2 hvk
    refine start_ (n := 16) (S := fun w' => w'.cell? ⟨b, 1, none⟩ = some v1) (ds := [15]) #[false, false, false, false, false, false, false, false, false, false, false, false, false, false, false, false] (by kernel_rfl) rfl rfl o1 (fun hHeld => ?_)
    refine pure_ (i := 0) (N := some 28) (v := ?_) (a' := ?_) #[true, false, false, false, false, false, false, false, false, false, false, false, false, false, false, false] rfl rfl (by kernel_rfl) (fun _ _ _ h => QP5.put (by decide) (by decide) h) (Or.inl ⟨by rfl, ?_⟩) ?_ ?_
    rotate_left
    ·intro w'
     go_simp
     with_reducible rfl
    rotate_left
    ·simp only [Act.put, aggV, List.setIfInBounds_toArray, List.set_cons_zero, List.set_cons_succ, i64_w, i32_w]
     rfl
    refine take_ (i := 1) (N := some 29) (v := ?_) (a' := ?_) #[true, true, false, false, false, false, false, false, false, false, false, false, false, false, false, false] rfl rfl (by kernel_rfl) (fun _ _ _ h => QP5.put (by decide) (by decide) h) (Or.inl ⟨by rfl, ?_⟩) hHeld ?_ ?_
    rotate_left
    ·rintro w' s0
     go_simp
     with_reducible rfl
    rotate_left
    ·simp only [Act.put, aggV, List.setIfInBounds_toArray, List.set_cons_zero, List.set_cons_succ, i64_w, i32_w]
     rfl
    refine pure_ (i := 2) (N := some 30) (v := ?_) (a' := ?_) #[true, true, true, false, false, false, false, false, false, false, false, false, false, false, false, false] rfl rfl (by kernel_rfl) (fun _ _ _ h => QP5.put (by decide) (by decide) h) (Or.inl ⟨by rfl, ?_⟩) ?_ ?_
    rotate_left
    ·intro w'
     go_simp
     with_reducible rfl
    rotate_left
    ·simp only [Act.put, aggV, List.setIfInBounds_toArray, List.set_cons_zero, List.set_cons_succ, i64_w, i32_w]
     rfl
    refine pure_ (i := 3) (N := some 31) (v := ?_) (a' := ?_) #[true, true, true, true, false, false, false, false, false, false, false, false, false, false, false, false] rfl rfl (by kernel_rfl) (fun _ _ _ h => QP5.put (by decide) (by decide) h) (Or.inl ⟨by rfl, ?_⟩) ?_ ?_
    rotate_left
    ·intro w'
     go_simp
     with_reducible rfl
    rotate_left
    ·simp only [Act.put, aggV, List.setIfInBounds_toArray, List.set_cons_zero, List.set_cons_succ, i64_w, i32_w]
     rfl
    refine pure_ (i := 4) (N := some 32) (v := ?_) (a' := ?_) #[true, true, true, true, true, false, false, false, false, false, false, false, false, false, false, false] rfl rfl (by kernel_rfl) (fun _ _ _ h => QP5.put (by decide) (by decide) h) (Or.inl ⟨by rfl, ?_⟩) ?_ ?_
    rotate_left
    ·intro w'
     go_simp
     with_reducible rfl
    rotate_left
    ·simp only [Act.put, aggV, List.setIfInBounds_toArray, List.set_cons_zero, List.set_cons_succ, i64_w, i32_w]
     rfl
    refine pure_ (i := 5) (N := some 33) (v := ?_) (a' := ?_) #[true, true, true, true, true, true, false, false, false, false, false, false, false, false, false, false] rfl rfl (by kernel_rfl) (fun _ _ _ h => QP5.put (by decide) (by decide) h) (Or.inl ⟨by rfl, ?_⟩) ?_ ?_
    rotate_left
    ·intro w'
     go_simp
     with_reducible rfl
    rotate_left
    ·simp only [Act.put, aggV, List.setIfInBounds_toArray, List.set_cons_zero, List.set_cons_succ, i64_w, i32_w]
     rfl
    refine pure_ (i := 6) (N := some 34) (v := ?_) (a' := ?_) #[true, true, true, true, true, true, true, false, false, false, false, false, false, false, false, false] rfl rfl (by kernel_rfl) (fun _ _ _ h => QP5.put (by decide) (by decide) h) (Or.inl ⟨by rfl, ?_⟩) ?_ ?_
    rotate_left
    ·intro w'
     go_simp
     with_reducible rfl
    rotate_left
    ·simp only [Act.put, aggV, List.setIfInBounds_toArray, List.set_cons_zero, List.set_cons_succ, i64_w, i32_w]
     rfl
    refine pure_ (i := 7) (N := some 35) (v := ?_) (a' := ?_) #[true, true, true, true, true, true, true, true, false, false, false, false, false, false, false, false] rfl rfl (by kernel_rfl) (fun _ _ _ h => QP5.put (by decide) (by decide) h) (Or.inl ⟨by rfl, ?_⟩) ?_ ?_
    rotate_left
    ·intro w'
     go_simp
     with_reducible rfl
    rotate_left
    ·simp only [Act.put, aggV, List.setIfInBounds_toArray, List.set_cons_zero, List.set_cons_succ, i64_w, i32_w]
     rfl
    refine pure_ (i := 8) (N := some 36) (v := ?_) (a' := ?_) #[true, true, true, true, true, true, true, true, true, false, false, false, false, false, false, false] rfl rfl (by kernel_rfl) (fun _ _ _ h => QP5.put (by decide) (by decide) h) (Or.inl ⟨by rfl, ?_⟩) ?_ ?_
    rotate_left
    ·intro w'
     go_simp
     with_reducible rfl
    rotate_left
    ·simp only [Act.put, aggV, List.setIfInBounds_toArray, List.set_cons_zero, List.set_cons_succ, i64_w, i32_w]
     rfl
    refine pure_ (i := 9) (N := some 37) (v := ?_) (a' := ?_) #[true, true, true, true, true, true, true, true, true, true, false, false, false, false, false, false] rfl rfl (by kernel_rfl) (fun _ _ _ h => QP5.put (by decide) (by decide) h) (Or.inl ⟨by rfl, ?_⟩) ?_ ?_
    rotate_left
    ·intro w'
     go_simp
     with_reducible rfl
    rotate_left
    ·simp only [Act.put, aggV, List.setIfInBounds_toArray, List.set_cons_zero, List.set_cons_succ, i64_w, i32_w]
     rfl
    refine one_ (i := 10) (N := some 38) #[true, true, true, true, true, true, true, true, true, true, true, false, false, false, false, false] rfl rfl (by kernel_rfl) (by decide) (fun K hK => ?_)
    refine goes_ Try.func110 (by kernel_rfl) rfl #[.pointer (some ⟨b + 1 + 1, 0, none⟩), .int .i64 (n : Int)] (by rfl) rfl rfl (by (try simp only [List.map_toArray, List.map_cons, List.map_nil]); first | done | rfl) ?_
    with_reducible refine (c110 (b + 1 + 1) n m w w3.drew (below_step HB4.out (below_dr _)) (by have := HBB.out; omega) (HPS4.out.below (below_dr _)) HMM.out (by omega)).mono ?_
    rw [ht]
    rintro e w' ⟨rfl, hs', hb1, hk'⟩
    refine ⟨_, rfl, ?_⟩
    clear hHeld
    have HBb := Aside0.mk hb1
    have HDb := Aside0.mk ((HD4.out.below (below_dr _)).kept hk' hs')
    have HOb := Aside0.mk (R_reader (Kd.R_drew HO4.out) (HD4.out.2.2.below (below_dr w3)) (by decide) hk')
    have q1 := show w'.cell? ⟨b, 1, none⟩ = some v1 from blk_cell HDb.out.1 1
    clear hs' hb1 hk'
    refine hK.out _ _ q1 (fun hHeld => ?_)
    clear hK K
    refine norm_ (a' := ?_) ?_ ?_
    rotate_left
    ·show Act.put _ (some 38) _ = _
     simp only [Act.put, aggV, List.setIfInBounds_toArray, List.set_cons_zero, List.set_cons_succ, i64_w, i32_w]
     rfl
    refine pure_ (i := 11) (N := some 39) (v := ?_) (a' := ?_) #[true, true, true, true, true, true, true, true, true, true, true, true, false, false, false, false] rfl rfl (by kernel_rfl) (fun _ _ _ h => QP5.put (by decide) (by decide) h) (Or.inl ⟨by rfl, ?_⟩) ?_ ?_
    rotate_left
    ·intro w'
     go_simp
     with_reducible rfl
    rotate_left
    ·simp only [Act.put, aggV, List.setIfInBounds_toArray, List.set_cons_zero, List.set_cons_succ, i64_w, i32_w]
     rfl
    refine one_ (i := 12) (N := some 40) #[true, true, true, true, true, true, true, true, true, true, true, true, true, false, false, false] rfl rfl (by kernel_rfl) (by decide) (fun K hK => ?_)
    refine value_ (w1 := ?_) (v := ?_) (by rfl) rfl ?_ ?_
    rotate_left 2
    ·go_simp
     constructor
     ·rfl
     ·rfl
    refine hK.out _ _ ((blk_cell (blk_alloc HDb.out.1 _) 1).trans rfl) (fun hHeld => ?_)
    clear hK K
    refine norm_ (a' := ?_) ?_ ?_
    rotate_left
    ·show Act.put _ (some 40) _ = _
     simp only [Act.put, aggV, List.setIfInBounds_toArray, List.set_cons_zero, List.set_cons_succ, i64_w, i32_w]
     rfl
    refine one_ (i := 13) (N := some 41) #[true, true, true, true, true, true, true, true, true, true, true, true, true, true, false, false] rfl rfl (by kernel_rfl) (by decide) (fun K hK => ?_)
    refine Kd.R_append_step k56 (w0 := w) w.heap.size (by rfl) (.tmp 29) (.tmp 40) 24 56 (.agg #[(.string ⟨#[]⟩), (.int .i64 0), (.bool false)]) 32 rfl Try.underlying24 info56 rfl (by decide) (by omega) v1 cs (⟨s, x % 4, decide (x / 4 % 2 = 1)⟩ : S56) [.string s, .int .i64 (x % 4), .bool (decide (x / 4 % 2 = 1))] (fun _ => True) (fun _ => False) rfl rfl ?aP (fun _ hk => hk.elim) ?aF ?aO ?aB ?aS ?aL ?_
    (case aP => exact k56_mkM _ _ _ (⟨s, x % 4, decide (x / 4 % 2 = 1)⟩ : S56))
    (case aB => exact HBb.out)
    (case aF => exact (fun _ _ => trivial))
    (case aO => exact HOb.out)
    (case aS => exact HBb.out.size)
    (case aL => have := HLN.out; omega)
    intro v5 w5 ho hb hg hat
    obtain ⟨Av, cv, rfl⟩ := Kd.R_slice ho
    rw [List.length_append, List.length_singleton] at ho
    have HO2 := Aside0.mk ho
    have HB2 := Aside0.mk hb
    have HD2 := Aside0.mk (HDb.out.grown hg HOb.out (by decide) (by decide) (by decide))
    clear ho hb hg hat
    have f1 := show w5.cell? ⟨b, 1, none⟩ = some v1 from blk_cell HD2.out.1 1
    have fz := blk_frozen HD2.out.1 1
    refine hK.out _ _ f1 (fun hHeld => ?_)
    clear hK K
    refine norm_ (a' := ?_) ?_ ?_
    rotate_left
    ·show Act.put _ (some 41) _ = _
     simp only [Act.put, aggV, List.setIfInBounds_toArray, List.set_cons_zero, List.set_cons_succ, i64_w, i32_w]
     rfl
    refine pure_ (i := 14) (N := some 42) (v := ?_) (a' := ?_) #[true, true, true, true, true, true, true, true, true, true, true, true, true, true, true, false] rfl rfl (by kernel_rfl) (fun _ _ _ h => QP5.put (by decide) (by decide) h) (Or.inl ⟨by rfl, ?_⟩) ?_ ?_
    rotate_left
    ·intro w'
     go_simp
     with_reducible rfl
    rotate_left
    ·simp only [Act.put, aggV, List.setIfInBounds_toArray, List.set_cons_zero, List.set_cons_succ, i64_w, i32_w]
     rfl
    refine last_ (i := 15) (N := none) #[true, true, true, true, true, true, true, true, true, true, true, true, true, true, true, true] rfl rfl (by kernel_rfl) (by decide) (fun K hK => ?_)
    refine skip_ (w1 := ?_) (by rfl) rfl ?_ ?_
    rotate_left
    ·go_simp
     rfl
    refine hK.out _ _ ?_
    clear hK K f1 fz hHeld q1 o1
    refine done_ (by kernel_rfl) (QP5.normal ?_)
    go_wp2_with fail
    go_roundw
    case rel => exact ⟨k + 1, _, m2, _, by omega, by go_num, ⟨takeN_step HTK.out HTC.out⟩, ⟨by rw [List.length_append, HLN.out]; rfl⟩, HM2', ⟨HD2.out.put1 _⟩, ⟨Kd.R_set HO2.out HD2.out.1 (by decide) 1 _⟩, ⟨below_set HB2.out HBB.out⟩⟩
    case measure => simp [intOf]; omega
  ·obtain rfl : k = n1 := by omega
   replace HP := Aside0.mk (show parseE l = (takeN takeX n2 lk).bind fun xs => (takeN (takeK cs) n3 xs.2).bind fun ks =>
    if ks.2 = [] ∧ checkE nm cs xs.1 ks.1 = 0 then some (nm, cs, xs.1, ks.1) else none by rw [HP.out, HTK.out, Option.bind_some])
   have m2 := M2.out
   clear HTK HM2 hk
   go_wp2_with fail
   clear m2
   have HO1 := HO
   have HB0 := HB
   have HDa := HD
   have HML1 := HML
   clear HO HB HD HML
   go_loopw [47] (fun v47 wq => ∃ (j : Nat) (xs : List S65) (lj : List Int) (v2 : Value), j ≤ n2 ∧ v47 = .int .i64 j ∧ Aside0 (takeN takeX j lk = some (xs, lj)) ∧ Aside0 (xs.length = j) ∧ Aside0 (lj.length ≤ 1000000) ∧ Aside0 (DP b w (.string nm) v1 v2 (.slice none 0 0) lj wq) ∧ Aside0 (Kd.R k56 56 wq w.heap.size (fun _ => True) v1 cs) ∧ Aside0 (Kd.R k65 65 wq w.heap.size (fun _ => True) v2 xs) ∧ Aside0 (Below w.heap.size w wq)) (fun v _ => n2 - (intOf v).toNat)
   case atStart => exact ⟨0, [], lk, _, Nat.zero_le _, rfl, ⟨rfl⟩, ⟨rfl⟩, HML1, HDa, HO1, ⟨Kd.R_nil _ _ _ _ _⟩, HB0⟩
   case round =>
    clear HO1 HB0 HDa HML1
    obtain ⟨j, xs, lj, v2, hj, rfl, HTJ, HLJ, HML, HD, HO1, HO2, HB⟩ := hrel
    by_cases hlt : j < n2
    ·go_wp2_with fail
     refine (c109 (b + 1 + 1) 1024 lj w wr HB.out (by have := HBB.out; omega) HD.out.2.2).mono ?_
     cases h3 : takeW 1024 lj with
     | none =>
      rintro e w3 ⟨he, hb1, hk'⟩
      unfold badRead at he
      subst he
      exact leave55 rfl rfl (HD.out.kept0 hk') HBB.out hb1 (by rw [HP.out, takeN_stop HTJ.out (show takeX lj = none by unfold takeX; rw [h3]; rfl) hlt]; rfl)
     | some p =>
     obtain ⟨x, m⟩ := p
     rintro e w3 ⟨rfl, hs1, hb1, hk'⟩
     obtain ⟨hlm, hx0, hx1⟩ := takeW_some h3
     have HMM := Aside0.mk (show m.length ≤ 1000000 by have := HML.out; rw [hlm] at this; simp at this; omega)
     replace HB := Aside0.mk hb1
     replace HO1 := Aside0.mk (R_reader HO1.out HD.out.2.2 (by decide) hk')
     replace HO2 := Aside0.mk (R_reader HO2.out HD.out.2.2 (by decide) hk')
     replace HD := Aside0.mk (HD.out.kept hk' hs1)
     clear hs1 hb1 hk' hlm
     go_wp2_with fail
     refine (c109 (b + 1 + 1) 1099511627776 m w w3 HB.out (by have := HBB.out; omega) HD.out.2.2).mono ?_
     cases h4 : takeW 1099511627776 m with
     | none =>
      rintro e w4 ⟨he, hb1, hk'⟩
      unfold badRead at he
      subst he
      exact leave55 rfl rfl (HD.out.kept0 hk') HBB.out hb1 (by rw [HP.out, takeN_stop HTJ.out (show takeX lj = none by unfold takeX; rw [h3, Option.bind_some]; simp only [h4]; rfl) hlt]; rfl)
     | some p =>
     obtain ⟨co, m2⟩ := p
     rintro e w4 ⟨rfl, hs1, hb1, hk'⟩
     obtain ⟨hlm, hc0, hc1⟩ := takeW_some h4
     have HMM2 := Aside0.mk (show m2.length ≤ 1000000 by have := HMM.out; rw [hlm] at this; simp at this; omega)
     replace HB := Aside0.mk hb1
     replace HO1 := Aside0.mk (R_reader HO1.out HD.out.2.2 (by decide) hk')
     replace HO2 := Aside0.mk (R_reader HO2.out HD.out.2.2 (by decide) hk')
     replace HD := Aside0.mk (HD.out.kept hk' hs1)
     clear hs1 hb1 hk' hlm HMM w3
     have a1 : (bits .and .i64 x 1 == 1) = decide (x % 2 = 1) := by rw [and1_i64]; exact Bool.eq_iff_iff.2 (by simp)
     obtain ⟨n, hn⟩ : ∃ n : Nat, x / 32 = (n : Int) := ⟨(x / 32).toNat, by omega⟩
     obtain ⟨nd, hnd⟩ : ∃ n : Nat, x / 2 % 16 = (n : Int) := ⟨(x / 2 % 16).toNat, by omega⟩
     have a2 : bits .and .i64 (x / 2) 15 = (nd : Int) := (and_mask (x := x / 2) 4 (by omega) (by omega) (by decide)).trans hnd
     have HX := Aside0.mk (show takeX lj = (takeT n m2).bind fun q => if co / 16 ^ nd = 0 then some (⟨q.1, digits nd co, decide (x % 2 = 1)⟩, q.2) else none by unfold takeX; rw [h3, Option.bind_some]; simp only [h4, Option.bind_some, hn, hnd, Int.toNat_natCast])
     have bn : n ≤ 32 := by omega
     have bd : nd ≤ 15 := by omega
     have HC0 := Aside0.mk (show 0 ≤ co ∧ co < 1099511627776 from ⟨hc0, hc1⟩)
     clear h3 h4 hx0 hx1 hc0 hc1 hnd
     go_wp2_with fail
     refine (c110 (b + 1 + 1) n m2 w w4 HB.out (by have := HBB.out; omega) HD.out.2.2 HMM2.out (by omega)).mono ?_
     cases ht : takeT n m2 with
     | none =>
      rintro e w5 ⟨he, hb1, hk'⟩
      unfold badRead at he
      subst he
      exact leave55 rfl rfl (HD.out.kept0 hk') HBB.out hb1 (by rw [HP.out, takeN_stop HTJ.out (show takeX lj = none by rw [HX.out, ht]; rfl) hlt]; rfl)
     | some q =>
     obtain ⟨s, m3⟩ := q
     rintro e w5 ⟨rfl, hs1, hb1, hk'⟩
     obtain ⟨hm3, _⟩ := takeT_some ht
     have HMM3 := Aside0.mk (show m3.length ≤ 1000000 by have := HMM2.out; rw [hm3] at this; simp at this; omega)
     replace HX := Aside0.mk (show takeX lj = if co / 16 ^ nd = 0 then some (⟨s, digits nd co, decide (x % 2 = 1)⟩, m3) else none by rw [HX.out, ht, Option.bind_some])
     replace HB := Aside0.mk hb1
     replace HO1 := Aside0.mk (R_reader HO1.out HD.out.2.2 (by decide) hk')
     replace HO2 := Aside0.mk (R_reader HO2.out HD.out.2.2 (by decide) hk')
     replace HD := Aside0.mk (HD.out.kept hk' hs1)
     clear hs1 hb1 hk' hm3 ht HMM2 w4 hn
     go_wp2_with fail
     clear a1
     generalize decide (x % 2 = 1) = f at HX ⊢
     obtain ⟨W6, hW6⟩ : ∃ W, W = w5.alloc (.cells #[.string s, .slice none 0 0, .bool f] 65) := ⟨_, rfl⟩
     obtain ⟨g, hg⟩ : ∃ g, g = w5.heap.size := ⟨_, rfl⟩
     have HG6 := Aside0.mk (show W6.heap[g]? = some (.cells #[.string s, .slice none 0 0, .bool f] 65 (0, 0)) by rw [hW6, hg]; exact blk_new w5 _)
     have HB6 := Aside0.mk (show Below g w5 W6 by rw [hW6, hg]; exact below_al w5 _)
     have HGE := Aside0.mk hg
     rw [← hW6, ← hg]
     clear hW6 hg a2
     go_loopw [8, 64] (fun v8 v64 wq => ∃ (i : Nat) (ci : Int) (uu : Value), i ≤ nd ∧ v8 = .int .i64 ci ∧ v64 = .int .i64 i ∧ Aside0 (ci = co / 16 ^ i) ∧ (0 ≤ ci ∧ ci < 1099511627776) ∧ Aside0 (wq.heap[g]? = some (.cells #[.string s, uu, .bool f] 65 (0, 0))) ∧ Aside0 ((Kd.int .i64).R 3 wq g (fun _ => True) uu (digits i co)) ∧ Aside0 (Below g w5 wq)) (fun _ v _ => nd - (intOf v).toNat)
     case atStart => exact ⟨0, co, _, Nat.zero_le _, rfl, rfl, ⟨by rw [Int.pow_zero, Int.ediv_one]⟩, HC0.out, HG6, ⟨Kd.R_nil _ _ _ _ _⟩, HB6⟩
     case round =>
      clear HG6 HB6
      obtain ⟨i, ci, uu, hi, rfl, rfl, HCI, hci, HG, HU, HBg⟩ := hrel
      obtain ⟨hci0, hci1⟩ := hci
      by_cases hlti : i < nd
      ·have q1 := show wr.cell? ⟨g, 1, none⟩ = some uu from blk_cell HG.out 1
       have a3 : bits .and .i64 ci 15 = ci % 16 := and_mask 4 hci0 (by omega) (by decide)
       go_wp2_with ((with_reducible refine gate_builtin (b := .append) (xs := #[.tmp 67, .tmp 70]) rfl ?_); at_builtin; refine Kd.R_append (Kd.int .i64) (w0 := w5) g rfl (.tmp 67) (.tmp 70) 32 3 (.int .i64 0) 8 rfl Try.underlying32 info3 rfl (by decide) (by omega) uu (digits i co) (ci % 16) [.int .i64 (ci % 16)] (fun _ => True) (fun _ => False) rfl rfl ?aP (fun _ hk => hk.elim) ?aF ?aO ?aB ?aS ?aL ?_; (case aP => exact rfl); (case aB => exact HBg.out); (case aF => exact (fun _ _ => trivial)); (case aO => exact HU.out); (case aS => rw [HGE.out]; exact HBg.out.size); (case aL => rw [digits_length]; omega); intro v320 w23 ho hb hgr hat; obtain ⟨Av, cv, ev⟩ := Kd.R_slice ho; rw [List.length_append, List.length_singleton, digits_length] at ev; subst ev; have HV2 := Aside0.mk ho; have HB2 := Aside0.mk hb; have HG2 := Aside0.mk (blk_grown HG.out hgr (Kd.R_ne HU.out HG.out (by decide))); have f1 := show w23.cell? ⟨g, 1, none⟩ = some uu from blk_cell HG2.out 1; have fz := blk_frozen HG2.out 1; clear ho hb hgr hat q1)
       go_roundw
       case rel =>
        refine ⟨i + 1, ci / 16, _, by omega, rfl, by go_num, ⟨by rw [HCI.out, div_pow_succ]⟩, ⟨by omega, by omega⟩, ⟨blk_put HG2.out 1 _ rfl⟩, ⟨?_⟩, ⟨HB2.out.setCell (Nat.le_refl _) _⟩⟩
        rw [digits_snoc, ← HCI.out]
        exact Kd.R_set HV2.out HG2.out (by decide) 1 _
       case measure => simp [intOf]; omega
      ·obtain rfl : i = nd := by omega
       have HBs := Aside0.mk (show Below w5.heap.size w5 wr by rw [← HGE.out]; exact HBg.out)
       have HGW := Aside0.mk (show w.heap.size ≤ g by rw [HGE.out]; exact HB.out.size)
       replace HB := Aside0.mk (below_step HB.out HBs.out)
       have HV2lt := Aside0.mk (Kd.R_lt HO2.out)
       replace HO1 := Aside0.mk (Kd.R_below HO1.out HBs.out)
       replace HO2 := Aside0.mk (Kd.R_below HO2.out HBs.out)
       replace HD := Aside0.mk (HD.out.below HBs.out)
       by_cases hz : ci = 0
       case neg =>
        have ez : (ci != 0) = true := bne_iff_ne.2 hz
        have HN := Aside0.mk (show takeX lj = none by rw [HX.out, if_neg (by rw [← HCI.out]; exact hz)])
        clear hz
        go_wp2_with fail
        refine (c111 _).mono ?_
        rintro e w6 ⟨he, rfl⟩
        unfold badRead at he
        subst he
        exact leave55 rfl rfl ⟨HD.out.1, HD.out.2.1⟩ HBB.out HB.out (by rw [HP.out, takeN_stop HTJ.out HN.out hlt]; rfl)
       have ez : (ci != 0) = false := bne_eq_false_iff_eq.2 hz
       have HN := Aside0.mk (show takeX lj = some (⟨s, digits i co, f⟩, m3) by rw [HX.out, if_pos (by rw [← HCI.out]; exact hz)])
       have HM6 := Aside0.mk (k65_mkM wr w.heap.size (fun k => g ≤ k) (⟨s, digits i co, f⟩ : S65) (v1 := uu) (Kd.R_lower (Kd.R_mono (Kd.R_bound HU.out) (fun k hk => hk.2.1)) HGW.out))
       have q0 := show wr.cell? ⟨b, 2, none⟩ = some v2 from blk_cell HD.out.1 2
       have e0 := show wr.cell? ⟨g, 0, none⟩ = some (.string s) from blk_cell HG.out 0
       have e1 := show wr.cell? ⟨g, 1, none⟩ = some uu from blk_cell HG.out 1
       have e2 := show wr.cell? ⟨g, 2, none⟩ = some (.bool f) from blk_cell HG.out 2
       have hu65 := Try.underlying65
       clear hz
       go_wp2_with ((with_reducible refine gate_builtin (b := .append) (xs := #[.tmp 80, .tmp 82]) rfl ?_); at_builtin; refine Kd.R_append k65 (w0 := w) w.heap.size rfl (.tmp 80) (.tmp 82) 25 65 (.agg #[(.string ⟨#[]⟩), (.slice none 0 0), (.bool false)]) 48 rfl Try.underlying25 info65 rfl (by decide) (by omega) v2 xs (⟨s, digits i co, f⟩ : S65) [.string s, uu, .bool f] (fun _ => True) (fun k => g ≤ k) rfl rfl ?aP ?aK ?aF ?aO ?aB ?aS ?aL ?_; (case aP => exact HM6.out); (case aK => exact (fun k hk => ⟨trivial, fun e => by have := HV2lt.out k e.symm; have := HGE.out; omega⟩)); (case aB => exact HB.out); (case aF => exact (fun _ _ => trivial)); (case aO => exact HO2.out); (case aS => exact HB.out.size); (case aL => have := HLJ.out; omega); intro v321 w24 ho hb hgr hat; obtain ⟨Av, cv, ev⟩ := Kd.R_slice ho; rw [List.length_append, List.length_singleton] at ev; subst ev; have HV3 := Aside0.mk ho; have HB3 := Aside0.mk hb; have HD3 := Aside0.mk (HD.out.grown hgr HO2.out (by decide) (by decide) (by decide)); have HO3 := Aside0.mk (Kd.R_over' HO1.out (Kd.R_typed HO2.out) (by decide) hgr); have f1 := show w24.cell? ⟨b, 2, none⟩ = some v2 from blk_cell HD3.out.1 2; have fz := blk_frozen HD3.out.1 2; clear ho hb hgr hat)
       clear q0 e0 e1 e2 f1 fz
       go_roundw
       case rel => exact ⟨j + 1, _, m3, _, by omega, by go_num, ⟨takeN_step HTJ.out HN.out⟩, ⟨by rw [List.length_append, HLJ.out]; rfl⟩, HMM3, ⟨HD3.out.put2 _⟩, ⟨Kd.R_set HO3.out HD3.out.1 (by decide) 2 _⟩, ⟨Kd.R_set HV3.out HD3.out.1 (by decide) 2 _⟩, ⟨below_set HB3.out HBB.out⟩⟩
       case measure => simp [intOf]; omega
    ·obtain rfl : j = n2 := by omega
     replace HP := Aside0.mk (show parseE l = (takeN (takeK cs) n3 lj).bind fun ks =>
      if ks.2 = [] ∧ checkE nm cs xs ks.1 = 0 then some (nm, cs, xs, ks.1) else none by rw [HP.out, HTJ.out, Option.bind_some])
     have m3 := M3.out
     clear HTJ hj
     obtain ⟨A1, c1, e1⟩ := Kd.R_slice HO1.out
     subst e1
     go_wp2_with fail
     clear m3
     have HP1 := HO1
     have HP2 := HO2
     have HB0 := HB
     have HDa := HD
     have HML1 := HML
     clear HO1 HO2 HB HD HML
     go_loopw [89] (fun v89 wq => ∃ (k3 : Nat) (ks : List S42) (lk3 : List Int) (v3 : Value), k3 ≤ n3 ∧ v89 = .int .i64 k3 ∧ Aside0 (takeN (takeK cs) k3 lj = some (ks, lk3)) ∧ Aside0 (ks.length = k3) ∧ Aside0 (lk3.length ≤ 1000000) ∧ Aside0 (DP b w (.string nm) (.slice A1 cs.length c1) v2 v3 lk3 wq) ∧ Aside0 (Kd.R k56 56 wq w.heap.size (fun _ => True) (.slice A1 cs.length c1) cs) ∧ Aside0 (Kd.R k65 65 wq w.heap.size (fun _ => True) v2 xs) ∧ Aside0 (Kd.R k42 42 wq w.heap.size (fun _ => True) v3 ks) ∧ Aside0 (Below w.heap.size w wq)) (fun v _ => n3 - (intOf v).toNat)
     case atStart => exact ⟨0, [], lj, _, Nat.zero_le _, rfl, ⟨rfl⟩, ⟨rfl⟩, HML1, HDa, HP1, HP2, ⟨Kd.R_nil _ _ _ _ _⟩, HB0⟩
     case round =>
      clear HP1 HP2 HB0 HDa HML1
      obtain ⟨k3, ks, lk3, v3, hk3, rfl, HTK3, HLK, HML, HD, HO1, HO2, HO3, HB⟩ := hrel
      by_cases hlt3 : k3 < n3
      ·go_wp2_with fail
       refine (c109 (b + 1 + 1) 512 lk3 w wr HB.out (by have := HBB.out; omega) HD.out.2.2).mono ?_
       cases h3 : takeW 512 lk3 with
       | none =>
        rintro e w3 ⟨he, hb1, hk'⟩
        unfold badRead at he
        subst he
        exact leave55 rfl rfl (HD.out.kept0 hk') HBB.out hb1 (by rw [HP.out, takeN_stop HTK3.out (show takeK cs lk3 = none by unfold takeK; rw [h3]; rfl) hlt3]; rfl)
       | some p =>
       obtain ⟨x, m⟩ := p
       rintro e w3 ⟨rfl, hs1, hb1, hk'⟩
       obtain ⟨hlm, hx0, hx1⟩ := takeW_some h3
       have HMM := Aside0.mk (show m.length ≤ 1000000 by have := HML.out; rw [hlm] at this; simp at this; omega)
       replace HB := Aside0.mk hb1
       replace HO1 := Aside0.mk (R_reader HO1.out HD.out.2.2 (by decide) hk')
       replace HO2 := Aside0.mk (R_reader HO2.out HD.out.2.2 (by decide) hk')
       replace HO3 := Aside0.mk (R_reader HO3.out HD.out.2.2 (by decide) hk')
       replace HD := Aside0.mk (HD.out.kept hk' hs1)
       obtain ⟨i, hi⟩ : ∃ i : Nat, x % 16 = (i : Int) := ⟨(x % 16).toNat, by omega⟩
       have a1 : bits .and .i64 x 15 = (i : Int) := (and_mask 4 hx0 (by omega) (by decide)).trans hi
       have HX := Aside0.mk (show takeK cs lk3 = if cs.length ≤ i then none else (takeV (rd_T56 cs (i : Int)).f1 m).map fun q => (⟨(i : Int), x / 16, q.1⟩, q.2) by
        unfold takeK
        rw [h3, Option.bind_some]
        simp only [hi]
        by_cases hc : cs.length ≤ i
        ·rw [if_pos hc, if_pos (by omega)]
        ·rw [if_neg hc, if_neg (by omega)])
       have p1 := show w3.cell? ⟨b, 1, none⟩ = some (.slice A1 cs.length c1) from blk_cell HD.out.1 1
       clear hs1 hb1 hk' hlm h3 hi
       by_cases hic : cs.length ≤ i
       ·have d1 : decide ((cs.length : Int) ≤ (i : Int)) = true := decide_eq_true (by omega)
        have d2 : decide (cs.length ≤ i) = true := decide_eq_true hic
        have HN := Aside0.mk (show takeK cs lk3 = none by rw [HX.out, if_pos hic])
        clear hic
        go_wp2_with fail
        refine (c111 _).mono ?_
        rintro e w6 ⟨he, rfl⟩
        unfold badRead at he
        subst he
        exact leave55 rfl rfl ⟨HD.out.1, HD.out.2.1⟩ HBB.out HB.out (by rw [HP.out, takeN_stop HTK3.out HN.out hlt3]; rfl)
       have d1 : decide ((cs.length : Int) ≤ (i : Int)) = false := decide_eq_false (by omega)
       have d2 : decide (cs.length ≤ i) = false := decide_eq_false hic
       replace HX := Aside0.mk (show takeK cs lk3 = (takeV (rd_T56 cs (i : Int)).f1 m).map fun q => (⟨(i : Int), x / 16, q.1⟩, q.2) by rw [HX.out, if_neg hic])
       have hilt : i < cs.length := by omega
       obtain ⟨g1, cap1, ef, _⟩ := Kd.R_form HO1.out (by omega)
       injection ef with ef1 ef2 ef3
       subst ef1
       have hat := at_T56 (Kd.R_reads' HO1.out).2.2 (i : Int) (by omega) (by omega)
       obtain ⟨ad, ead, _, hat1, _⟩ := hat
       injection ead with ead
       subst ead
       rw [show (Addr.add ⟨g1, 0, none⟩ ((i : Int).toNat * 3)) = ⟨g1, i * 3, none⟩ by rw [Int.toNat_natCast]; unfold Addr.add; split <;> simp_all] at hat1
       obtain ⟨kd, hkd⟩ : ∃ kd, kd = (rd_T56 cs (i : Int)).f1 := ⟨_, rfl⟩
       rw [← hkd] at hat1 HX
       have k1 := show w3.cell? ⟨g1, i * 3 + 1, none⟩ = some (.int .i64 kd) from hat1
       have k2 : (i : Int) < (cs.length : Int) := by omega
       have o3 := show w3.cell? ⟨b, 3, none⟩ = some v3 from blk_cell HD.out.1 3
       have HPS := Aside0.mk (show PS (b + 1 + 1) w w3 m from HD.out.2.2)
       have HKD := Aside0.mk hkd
       clear hkd hat1 hic
       go_wp2_with fail
       refine wp_qp5 (b := b) (dl := [{ target := .fn (.func 108) #[.pointer (some ⟨b, 0, none⟩), .pointer (some ⟨b + 1, 0, none⟩)], args := #[] }]) (G := fun W' => takeV kd m = none ∧ Below w.heap.size w W' ∧ W'.heap[b]? = some (.cells #[.string nm, .slice (some ⟨g1, 0, none⟩) cs.length c1, v2, v3] 28 (0, 0)) ∧ W'.heap[b + 1]? = some (.cells #[.int .i64 0] 30 (0, 0))) ?hi ?_
       case hi =>
        intro a' W' h2 h3 hd hG
        show Leaves Try.prog Try.f55 a'.tmps _ a'.defers _ W'
        rw [hd]
        exact leave55 h2 h3 hG.2.2 HBB.out hG.2.1 (by rw [HP.out, takeN_stop HTK3.out (show takeK cs lk3 = none by rw [HX.out, hG.1]; rfl) hlt3]; rfl)
       cases ht : takeV kd m with
       | none =>
        have ht0 := ht
        refine start_ (n := 20) (S := fun w' => w'.cell? ⟨b, 3, none⟩ = some v3 ∧ w'.cell? ⟨b, 1, none⟩ = some (.slice (some ⟨g1, 0, none⟩) cs.length c1) ∧ w'.cell? ⟨g1, i * 3 + 1, none⟩ = some (.int .i64 kd)) (ds := [19]) #[false, false, false, false, false, false, false, false, false, false, false, false, false, false, false, false, false, false, false, false] (by kernel_rfl) rfl rfl ⟨o3, p1, k1⟩ (fun hHeld => ?_)
        refine pure_ (i := 0) (N := some 100) (v := ?_) (a' := ?_) #[true, false, false, false, false, false, false, false, false, false, false, false, false, false, false, false, false, false, false, false] rfl rfl (by kernel_rfl) (fun _ _ _ h => QP5.put (by decide) (by decide) h) (Or.inl ⟨by rfl, ?_⟩) ?_ ?_
        rotate_left
        ·intro w'
         go_simp
         with_reducible rfl
        rotate_left
        ·simp only [Act.put, aggV, List.setIfInBounds_toArray, List.set_cons_zero, List.set_cons_succ, i64_w, i32_w]
         rfl
        refine take_ (i := 1) (N := some 101) (v := ?_) (a' := ?_) #[true, true, false, false, false, false, false, false, false, false, false, false, false, false, false, false, false, false, false, false] rfl rfl (by kernel_rfl) (fun _ _ _ h => QP5.put (by decide) (by decide) h) (Or.inl ⟨by rfl, ?_⟩) hHeld ?_ ?_
        rotate_left
        ·rintro w' ⟨s0, s1, s2⟩
         go_simp
         with_reducible rfl
        rotate_left
        ·simp only [Act.put, aggV, List.setIfInBounds_toArray, List.set_cons_zero, List.set_cons_succ, i64_w, i32_w]
         rfl
        refine pure_ (i := 2) (N := some 102) (v := ?_) (a' := ?_) #[true, true, true, false, false, false, false, false, false, false, false, false, false, false, false, false, false, false, false, false] rfl rfl (by kernel_rfl) (fun _ _ _ h => QP5.put (by decide) (by decide) h) (Or.inl ⟨by rfl, ?_⟩) ?_ ?_
        rotate_left
        ·intro w'
         go_simp
         with_reducible rfl
        rotate_left
        ·simp only [Act.put, aggV, List.setIfInBounds_toArray, List.set_cons_zero, List.set_cons_succ, i64_w, i32_w]
         rfl
        refine pure_ (i := 3) (N := some 103) (v := ?_) (a' := ?_) #[true, true, true, true, false, false, false, false, false, false, false, false, false, false, false, false, false, false, false, false] rfl rfl (by kernel_rfl) (fun _ _ _ h => QP5.put (by decide) (by decide) h) (Or.inl ⟨by rfl, ?_⟩) ?_ ?_
        rotate_left
        ·intro w'
         go_simp
         with_reducible rfl
        rotate_left
        ·simp only [Act.put, aggV, List.setIfInBounds_toArray, List.set_cons_zero, List.set_cons_succ, i64_w, i32_w]
         rfl
        refine pure_ (i := 4) (N := some 104) (v := ?_) (a' := ?_) #[true, true, true, true, true, false, false, false, false, false, false, false, false, false, false, false, false, false, false, false] rfl rfl (by kernel_rfl) (fun _ _ _ h => QP5.put (by decide) (by decide) h) (Or.inl ⟨by rfl, ?_⟩) ?_ ?_
        rotate_left
        ·intro w'
         go_simp
         with_reducible rfl
        rotate_left
        ·simp only [Act.put, aggV, List.setIfInBounds_toArray, List.set_cons_zero, List.set_cons_succ, i64_w, i32_w]
         rfl
        refine pure_ (i := 5) (N := some 105) (v := ?_) (a' := ?_) #[true, true, true, true, true, true, false, false, false, false, false, false, false, false, false, false, false, false, false, false] rfl rfl (by kernel_rfl) (fun _ _ _ h => QP5.put (by decide) (by decide) h) (Or.inl ⟨by rfl, ?_⟩) ?_ ?_
        rotate_left
        ·intro w'
         go_simp
         with_reducible rfl
        rotate_left
        ·simp only [Act.put, aggV, List.setIfInBounds_toArray, List.set_cons_zero, List.set_cons_succ, i64_w, i32_w]
         rfl
        refine pure_ (i := 6) (N := some 106) (v := ?_) (a' := ?_) #[true, true, true, true, true, true, true, false, false, false, false, false, false, false, false, false, false, false, false, false] rfl rfl (by kernel_rfl) (fun _ _ _ h => QP5.put (by decide) (by decide) h) (Or.inl ⟨by rfl, ?_⟩) ?_ ?_
        rotate_left
        ·intro w'
         go_simp
         with_reducible rfl
        rotate_left
        ·simp only [Act.put, aggV, List.setIfInBounds_toArray, List.set_cons_zero, List.set_cons_succ, i64_w, i32_w]
         rfl
        refine pure_ (i := 7) (N := some 107) (v := ?_) (a' := ?_) #[true, true, true, true, true, true, true, true, false, false, false, false, false, false, false, false, false, false, false, false] rfl rfl (by kernel_rfl) (fun _ _ _ h => QP5.put (by decide) (by decide) h) (Or.inl ⟨by rfl, ?_⟩) ?_ ?_
        rotate_left
        ·intro w'
         go_simp
         with_reducible rfl
        rotate_left
        ·simp only [Act.put, aggV, List.setIfInBounds_toArray, List.set_cons_zero, List.set_cons_succ, i64_w, i32_w]
         rfl
        refine take_ (i := 8) (N := some 108) (v := ?_) (a' := ?_) #[true, true, true, true, true, true, true, true, true, false, false, false, false, false, false, false, false, false, false, false] rfl rfl (by kernel_rfl) (fun _ _ _ h => QP5.put (by decide) (by decide) h) (Or.inl ⟨by rfl, ?_⟩) hHeld ?_ ?_
        rotate_left
        ·rintro w' ⟨s0, s1, s2⟩
         go_simp
         with_reducible rfl
        rotate_left
        ·simp only [Act.put, aggV, List.setIfInBounds_toArray, List.set_cons_zero, List.set_cons_succ, i64_w, i32_w]
         rfl
        refine pure_ (i := 9) (N := some 109) (v := ?_) (a' := ?_) #[true, true, true, true, true, true, true, true, true, true, false, false, false, false, false, false, false, false, false, false] rfl rfl (by kernel_rfl) (fun _ _ _ h => QP5.put (by decide) (by decide) h) (Or.inl ⟨by rfl, ?_⟩) ?_ ?_
        rotate_left
        ·intro w'
         go_simp
         with_reducible rfl
        rotate_left
        ·simp only [Act.put, aggV, List.setIfInBounds_toArray, List.set_cons_zero, List.set_cons_succ, i64_w, i32_w]
         rfl
        refine pure_ (i := 10) (N := some 110) (v := ?_) (a' := ?_) #[true, true, true, true, true, true, true, true, true, true, true, false, false, false, false, false, false, false, false, false] rfl rfl (by kernel_rfl) (fun _ _ _ h => QP5.put (by decide) (by decide) h) (Or.inl ⟨by rfl, ?_⟩) ?_ ?_
        rotate_left
        ·intro w'
         go_simp
         with_reducible rfl
        rotate_left
        ·simp only [Act.put, aggV, List.setIfInBounds_toArray, List.set_cons_zero, List.set_cons_succ, i64_w, i32_w]
         rfl
        refine pure_ (i := 11) (N := some 111) (v := ?_) (a' := ?_) #[true, true, true, true, true, true, true, true, true, true, true, true, false, false, false, false, false, false, false, false] rfl rfl (by kernel_rfl) (fun _ _ _ h => QP5.put (by decide) (by decide) h) (Or.inl ⟨by rfl, ?_⟩) ?_ ?_
        rotate_left
        ·intro w'
         go_simp
         with_reducible rfl
        rotate_left
        ·simp only [Act.put, aggV, List.setIfInBounds_toArray, List.set_cons_zero, List.set_cons_succ, i64_w, i32_w]
         rfl
        refine pure_ (i := 12) (N := some 112) (v := ?_) (a' := ?_) #[true, true, true, true, true, true, true, true, true, true, true, true, true, false, false, false, false, false, false, false] rfl rfl (by kernel_rfl) (fun _ _ _ h => QP5.put (by decide) (by decide) h) (Or.inl ⟨by rfl, ?_⟩) ?_ ?_
        rotate_left
        ·intro w'
         go_simp
         with_reducible rfl
        rotate_left
        ·simp only [Act.put, aggV, List.setIfInBounds_toArray, List.set_cons_zero, List.set_cons_succ, i64_w, i32_w]
         rfl
        refine take_ (i := 13) (N := some 113) (v := ?_) (a' := ?_) #[true, true, true, true, true, true, true, true, true, true, true, true, true, true, false, false, false, false, false, false] rfl rfl (by kernel_rfl) (fun _ _ _ h => QP5.put (by decide) (by decide) h) (Or.inl ⟨by rfl, ?_⟩) hHeld ?_ ?_
        rotate_left
        ·rintro w' ⟨s0, s1, s2⟩
         go_simp
         with_reducible rfl
        rotate_left
        ·simp only [Act.put, aggV, List.setIfInBounds_toArray, List.set_cons_zero, List.set_cons_succ, i64_w, i32_w]
         rfl
        refine one_ (i := 14) (N := some 114) #[true, true, true, true, true, true, true, true, true, true, true, true, true, true, true, false, false, false, false, false] rfl rfl (by kernel_rfl) (by decide) (fun K hK => ?_)
        refine goesP_ Try.func112 (by kernel_rfl) rfl #[.pointer (some ⟨b + 1 + 1, 0, none⟩), .int .i64 kd] (by rfl) rfl (by (try simp only [List.map_toArray, List.map_cons, List.map_nil]); first | done | rfl) ?_
        with_reducible refine (c112 (b + 1 + 1) m kd w w3.drew (below_step HB.out (below_dr _)) (by have := HBB.out; omega) (HPS.out.below (below_dr _)) HMM.out).mono ?_
        rw [ht]
        rintro e w' ⟨he, hb1, hk'⟩
        exact ⟨_, he, rfl, rfl, rfl, rfl, rfl, hb1, (HD.out.below (below_dr _)).kept0 hk'⟩
       | some q =>
        obtain ⟨vv, m2⟩ := q
        have HTC := Aside0.mk (show takeK cs lk3 = some (⟨(i : Int), x / 16, vv⟩, m2) by rw [HX.out, ht]; rfl)
        obtain ⟨hm2, hvk⟩ := takeV_some ht
        have HM2' := Aside0.mk (show m2.length ≤ 1000000 by have := HMM.out; rw [hm2] at this; simp at this; omega)
        clear hm2 hvk
        refine start_ (n := 20) (S := fun w' => w'.cell? ⟨b, 3, none⟩ = some v3 ∧ w'.cell? ⟨b, 1, none⟩ = some (.slice (some ⟨g1, 0, none⟩) cs.length c1) ∧ w'.cell? ⟨g1, i * 3 + 1, none⟩ = some (.int .i64 kd)) (ds := [19]) #[false, false, false, false, false, false, false, false, false, false, false, false, false, false, false, false, false, false, false, false] (by kernel_rfl) rfl rfl ⟨o3, p1, k1⟩ (fun hHeld => ?_)
        refine pure_ (i := 0) (N := some 100) (v := ?_) (a' := ?_) #[true, false, false, false, false, false, false, false, false, false, false, false, false, false, false, false, false, false, false, false] rfl rfl (by kernel_rfl) (fun _ _ _ h => QP5.put (by decide) (by decide) h) (Or.inl ⟨by rfl, ?_⟩) ?_ ?_
        rotate_left
        ·intro w'
         go_simp
         with_reducible rfl
        rotate_left
        ·simp only [Act.put, aggV, List.setIfInBounds_toArray, List.set_cons_zero, List.set_cons_succ, i64_w, i32_w]
         rfl
        refine take_ (i := 1) (N := some 101) (v := ?_) (a' := ?_) #[true, true, false, false, false, false, false, false, false, false, false, false, false, false, false, false, false, false, false, false] rfl rfl (by kernel_rfl) (fun _ _ _ h => QP5.put (by decide) (by decide) h) (Or.inl ⟨by rfl, ?_⟩) hHeld ?_ ?_
        rotate_left
        ·rintro w' ⟨s0, s1, s2⟩
         go_simp
         with_reducible rfl
        rotate_left
        ·simp only [Act.put, aggV, List.setIfInBounds_toArray, List.set_cons_zero, List.set_cons_succ, i64_w, i32_w]
         rfl
        refine pure_ (i := 2) (N := some 102) (v := ?_) (a' := ?_) #[true, true, true, false, false, false, false, false, false, false, false, false, false, false, false, false, false, false, false, false] rfl rfl (by kernel_rfl) (fun _ _ _ h => QP5.put (by decide) (by decide) h) (Or.inl ⟨by rfl, ?_⟩) ?_ ?_
        rotate_left
        ·intro w'
         go_simp
         with_reducible rfl
        rotate_left
        ·simp only [Act.put, aggV, List.setIfInBounds_toArray, List.set_cons_zero, List.set_cons_succ, i64_w, i32_w]
         rfl
        refine pure_ (i := 3) (N := some 103) (v := ?_) (a' := ?_) #[true, true, true, true, false, false, false, false, false, false, false, false, false, false, false, false, false, false, false, false] rfl rfl (by kernel_rfl) (fun _ _ _ h => QP5.put (by decide) (by decide) h) (Or.inl ⟨by rfl, ?_⟩) ?_ ?_
        rotate_left
        ·intro w'
         go_simp
         with_reducible rfl
        rotate_left
        ·simp only [Act.put, aggV, List.setIfInBounds_toArray, List.set_cons_zero, List.set_cons_succ, i64_w, i32_w]
         rfl
        refine pure_ (i := 4) (N := some 104) (v := ?_) (a' := ?_) #[true, true, true, true, true, false, false, false, false, false, false, false, false, false, false, false, false, false, false, false] rfl rfl (by kernel_rfl) (fun _ _ _ h => QP5.put (by decide) (by decide) h) (Or.inl ⟨by rfl, ?_⟩) ?_ ?_
        rotate_left
        ·intro w'
         go_simp
         with_reducible rfl
        rotate_left
        ·simp only [Act.put, aggV, List.setIfInBounds_toArray, List.set_cons_zero, List.set_cons_succ, i64_w, i32_w]
         rfl
        refine pure_ (i := 5) (N := some 105) (v := ?_) (a' := ?_) #[true, true, true, true, true, true, false, false, false, false, false, false, false, false, false, false, false, false, false, false] rfl rfl (by kernel_rfl) (fun _ _ _ h => QP5.put (by decide) (by decide) h) (Or.inl ⟨by rfl, ?_⟩) ?_ ?_
        rotate_left
        ·intro w'
         go_simp
         with_reducible rfl
        rotate_left
        ·simp only [Act.put, aggV, List.setIfInBounds_toArray, List.set_cons_zero, List.set_cons_succ, i64_w, i32_w]
         rfl
        refine pure_ (i := 6) (N := some 106) (v := ?_) (a' := ?_) #[true, true, true, true, true, true, true, false, false, false, false, false, false, false, false, false, false, false, false, false] rfl rfl (by kernel_rfl) (fun _ _ _ h => QP5.put (by decide) (by decide) h) (Or.inl ⟨by rfl, ?_⟩) ?_ ?_
        rotate_left
        ·intro w'
         go_simp
         with_reducible rfl
        rotate_left
        ·simp only [Act.put, aggV, List.setIfInBounds_toArray, List.set_cons_zero, List.set_cons_succ, i64_w, i32_w]
         rfl
        refine pure_ (i := 7) (N := some 107) (v := ?_) (a' := ?_) #[true, true, true, true, true, true, true, true, false, false, false, false, false, false, false, false, false, false, false, false] rfl rfl (by kernel_rfl) (fun _ _ _ h => QP5.put (by decide) (by decide) h) (Or.inl ⟨by rfl, ?_⟩) ?_ ?_
        rotate_left
        ·intro w'
         go_simp
         with_reducible rfl
        rotate_left
        ·simp only [Act.put, aggV, List.setIfInBounds_toArray, List.set_cons_zero, List.set_cons_succ, i64_w, i32_w]
         rfl
        refine take_ (i := 8) (N := some 108) (v := ?_) (a' := ?_) #[true, true, true, true, true, true, true, true, true, false, false, false, false, false, false, false, false, false, false, false] rfl rfl (by kernel_rfl) (fun _ _ _ h => QP5.put (by decide) (by decide) h) (Or.inl ⟨by rfl, ?_⟩) hHeld ?_ ?_
        rotate_left
        ·rintro w' ⟨s0, s1, s2⟩
         go_simp
         with_reducible rfl
        rotate_left
        ·simp only [Act.put, aggV, List.setIfInBounds_toArray, List.set_cons_zero, List.set_cons_succ, i64_w, i32_w]
         rfl
        refine pure_ (i := 9) (N := some 109) (v := ?_) (a' := ?_) #[true, true, true, true, true, true, true, true, true, true, false, false, false, false, false, false, false, false, false, false] rfl rfl (by kernel_rfl) (fun _ _ _ h => QP5.put (by decide) (by decide) h) (Or.inl ⟨by rfl, ?_⟩) ?_ ?_
        rotate_left
        ·intro w'
         go_simp
         with_reducible rfl
        rotate_left
        ·simp only [Act.put, aggV, List.setIfInBounds_toArray, List.set_cons_zero, List.set_cons_succ, i64_w, i32_w]
         rfl
        refine pure_ (i := 10) (N := some 110) (v := ?_) (a' := ?_) #[true, true, true, true, true, true, true, true, true, true, true, false, false, false, false, false, false, false, false, false] rfl rfl (by kernel_rfl) (fun _ _ _ h => QP5.put (by decide) (by decide) h) (Or.inl ⟨by rfl, ?_⟩) ?_ ?_
        rotate_left
        ·intro w'
         go_simp
         with_reducible rfl
        rotate_left
        ·simp only [Act.put, aggV, List.setIfInBounds_toArray, List.set_cons_zero, List.set_cons_succ, i64_w, i32_w]
         rfl
        refine pure_ (i := 11) (N := some 111) (v := ?_) (a' := ?_) #[true, true, true, true, true, true, true, true, true, true, true, true, false, false, false, false, false, false, false, false] rfl rfl (by kernel_rfl) (fun _ _ _ h => QP5.put (by decide) (by decide) h) (Or.inl ⟨by rfl, ?_⟩) ?_ ?_
        rotate_left
        ·intro w'
         go_simp
         with_reducible rfl
        rotate_left
        ·simp only [Act.put, aggV, List.setIfInBounds_toArray, List.set_cons_zero, List.set_cons_succ, i64_w, i32_w]
         rfl
        refine pure_ (i := 12) (N := some 112) (v := ?_) (a' := ?_) #[true, true, true, true, true, true, true, true, true, true, true, true, true, false, false, false, false, false, false, false] rfl rfl (by kernel_rfl) (fun _ _ _ h => QP5.put (by decide) (by decide) h) (Or.inl ⟨by rfl, ?_⟩) ?_ ?_
        rotate_left
        ·intro w'
         go_simp
         with_reducible rfl
        rotate_left
        ·simp only [Act.put, aggV, List.setIfInBounds_toArray, List.set_cons_zero, List.set_cons_succ, i64_w, i32_w]
         rfl
        refine take_ (i := 13) (N := some 113) (v := ?_) (a' := ?_) #[true, true, true, true, true, true, true, true, true, true, true, true, true, true, false, false, false, false, false, false] rfl rfl (by kernel_rfl) (fun _ _ _ h => QP5.put (by decide) (by decide) h) (Or.inl ⟨by rfl, ?_⟩) hHeld ?_ ?_
        rotate_left
        ·rintro w' ⟨s0, s1, s2⟩
         go_simp
         with_reducible rfl
        rotate_left
        ·simp only [Act.put, aggV, List.setIfInBounds_toArray, List.set_cons_zero, List.set_cons_succ, i64_w, i32_w]
         rfl
        refine one_ (i := 14) (N := some 114) #[true, true, true, true, true, true, true, true, true, true, true, true, true, true, true, false, false, false, false, false] rfl rfl (by kernel_rfl) (by decide) (fun K hK => ?_)
        refine goes_ Try.func112 (by kernel_rfl) rfl #[.pointer (some ⟨b + 1 + 1, 0, none⟩), .int .i64 kd] (by rfl) rfl rfl (by (try simp only [List.map_toArray, List.map_cons, List.map_nil]); first | done | rfl) ?_
        with_reducible refine (c112 (b + 1 + 1) m kd w w3.drew (below_step HB.out (below_dr _)) (by have := HBB.out; omega) (HPS.out.below (below_dr _)) HMM.out).mono ?_
        rw [ht]
        rintro e w' ⟨rfl, hs', hb1, hk'⟩
        refine ⟨_, rfl, ?_⟩
        clear hHeld
        have HBb := Aside0.mk hb1
        have HDb := Aside0.mk ((HD.out.below (below_dr _)).kept hk' hs')
        have HO1b := Aside0.mk (R_reader (Kd.R_drew HO1.out) (HD.out.2.2.below (below_dr w3)) (by decide) hk')
        have HO2b := Aside0.mk (R_reader (Kd.R_drew HO2.out) (HD.out.2.2.below (below_dr w3)) (by decide) hk')
        have HO3b := Aside0.mk (R_reader (Kd.R_drew HO3.out) (HD.out.2.2.below (below_dr w3)) (by decide) hk')
        have HK1 := Aside0.mk (kind_at HO1b.out hilt HKD.out)
        have q3 := show w'.cell? ⟨b, 3, none⟩ = some v3 from blk_cell HDb.out.1 3
        have q1 := show w'.cell? ⟨b, 1, none⟩ = some (.slice (some ⟨g1, 0, none⟩) cs.length c1) from blk_cell HDb.out.1 1
        clear hs' hb1 hk'
        refine hK.out _ _ ⟨q3, q1, HK1.out⟩ (fun hHeld => ?_)
        clear hK K
        refine norm_ (a' := ?_) ?_ ?_
        rotate_left
        ·show Act.put _ (some 114) _ = _
         simp only [Act.put, aggV, List.setIfInBounds_toArray, List.set_cons_zero, List.set_cons_succ, i64_w, i32_w]
         rfl
        refine pure_ (i := 15) (N := some 115) (v := ?_) (a' := ?_) #[true, true, true, true, true, true, true, true, true, true, true, true, true, true, true, true, false, false, false, false] rfl rfl (by kernel_rfl) (fun _ _ _ h => QP5.put (by decide) (by decide) h) (Or.inl ⟨by rfl, ?_⟩) ?_ ?_
        rotate_left
        ·intro w'
         go_simp
         with_reducible rfl
        rotate_left
        ·simp only [Act.put, aggV, List.setIfInBounds_toArray, List.set_cons_zero, List.set_cons_succ, i64_w, i32_w]
         rfl
        refine one_ (i := 16) (N := some 116) #[true, true, true, true, true, true, true, true, true, true, true, true, true, true, true, true, true, false, false, false] rfl rfl (by kernel_rfl) (by decide) (fun K hK => ?_)
        refine value_ (w1 := ?_) (v := ?_) (by rfl) rfl ?_ ?_
        rotate_left 2
        ·go_simp
         constructor
         ·rfl
         ·rfl
        refine hK.out _ _ ⟨(blk_cell (blk_alloc HDb.out.1 _) 3).trans rfl, (blk_cell (blk_alloc HDb.out.1 _) 1).trans rfl, keep_al HK1.out _⟩ (fun hHeld => ?_)
        clear hK K
        refine norm_ (a' := ?_) ?_ ?_
        rotate_left
        ·show Act.put _ (some 116) _ = _
         simp only [Act.put, aggV, List.setIfInBounds_toArray, List.set_cons_zero, List.set_cons_succ, i64_w, i32_w]
         rfl
        refine one_ (i := 17) (N := some 117) #[true, true, true, true, true, true, true, true, true, true, true, true, true, true, true, true, true, true, false, false] rfl rfl (by kernel_rfl) (by decide) (fun K hK => ?_)
        refine Kd.R_append_step k42 (w0 := w) w.heap.size (by rfl) (.tmp 101) (.tmp 116) 26 42 (.agg #[(.int .i64 0), (.int .i64 0), (.int .i64 0), (.int .i64 0), (.string ⟨#[]⟩)]) 48 rfl Try.underlying26 info42 rfl (by decide) (by omega) v3 ks (⟨(i : Int), x / 16, vv⟩ : S42) [.int .i64 (i : Int), .int .i64 (x / 16), .int .i64 vv.f0, .int .i64 vv.f1, .string vv.f2] (fun _ => True) (fun _ => False) rfl rfl ?aP (fun _ hk => hk.elim) ?aF ?aO ?aB ?aS ?aL ?_
        (case aP => exact k42_mkM _ _ _ (⟨(i : Int), x / 16, vv⟩ : S42))
        (case aB => exact HBb.out)
        (case aF => exact (fun _ _ => trivial))
        (case aO => exact HO3b.out)
        (case aS => exact HBb.out.size)
        (case aL => have := HLK.out; omega)
        intro v5 w5 ho hb hgr hat
        obtain ⟨Av, cv, rfl⟩ := Kd.R_slice ho
        rw [List.length_append, List.length_singleton] at ho
        have HO32 := Aside0.mk ho
        have HB2 := Aside0.mk hb
        have HD2 := Aside0.mk (HDb.out.grown hgr HO3b.out (by decide) (by decide) (by decide))
        have HO12 := Aside0.mk (Kd.R_over' HO1b.out (Kd.R_typed HO3b.out) (by decide) hgr)
        have HO22 := Aside0.mk (Kd.R_over' HO2b.out (Kd.R_typed HO3b.out) (by decide) hgr)
        have HK2 := Aside0.mk (kind_at HO12.out hilt HKD.out)
        clear ho hb hgr hat
        have f3 := show w5.cell? ⟨b, 3, none⟩ = some v3 from blk_cell HD2.out.1 3
        have f1 := show w5.cell? ⟨b, 1, none⟩ = some (.slice (some ⟨g1, 0, none⟩) cs.length c1) from blk_cell HD2.out.1 1
        have fz := blk_frozen HD2.out.1 3
        refine hK.out _ _ ⟨f3, f1, HK2.out⟩ (fun hHeld => ?_)
        clear hK K
        refine norm_ (a' := ?_) ?_ ?_
        rotate_left
        ·show Act.put _ (some 117) _ = _
         simp only [Act.put, aggV, List.setIfInBounds_toArray, List.set_cons_zero, List.set_cons_succ, i64_w, i32_w]
         rfl
        refine pure_ (i := 18) (N := some 118) (v := ?_) (a' := ?_) #[true, true, true, true, true, true, true, true, true, true, true, true, true, true, true, true, true, true, true, false] rfl rfl (by kernel_rfl) (fun _ _ _ h => QP5.put (by decide) (by decide) h) (Or.inl ⟨by rfl, ?_⟩) ?_ ?_
        rotate_left
        ·intro w'
         go_simp
         with_reducible rfl
        rotate_left
        ·simp only [Act.put, aggV, List.setIfInBounds_toArray, List.set_cons_zero, List.set_cons_succ, i64_w, i32_w]
         rfl
        refine last_ (i := 19) (N := none) #[true, true, true, true, true, true, true, true, true, true, true, true, true, true, true, true, true, true, true, true] rfl rfl (by kernel_rfl) (by decide) (fun K hK => ?_)
        refine skip_ (w1 := ?_) (by rfl) rfl ?_ ?_
        rotate_left
        ·go_simp
         rfl
        refine hK.out _ _ ?_
        clear hK K f1 f3 fz hHeld q1 q3 o3 p1 k1
        refine done_ (by kernel_rfl) (QP5.normal ?_)
        go_wp2_with fail
        go_roundw
        case rel => exact ⟨k3 + 1, _, m2, _, by omega, by go_num, ⟨takeN_step HTK3.out HTC.out⟩, ⟨by rw [List.length_append, HLK.out]; rfl⟩, HM2', ⟨HD2.out.put3 _⟩, ⟨Kd.R_set HO12.out HD2.out.1 (by decide) 3 _⟩, ⟨Kd.R_set HO22.out HD2.out.1 (by decide) 3 _⟩, ⟨Kd.R_set HO32.out HD2.out.1 (by decide) 3 _⟩, ⟨below_set HB2.out HBB.out⟩⟩
        case measure => simp [intOf]; omega
      ·obtain rfl : k3 = n3 := by omega
       replace HP := Aside0.mk (show parseE l = if lk3 = [] ∧ checkE nm cs xs ks = 0 then some (nm, cs, xs, ks) else none by rw [HP.out, HTK3.out, Option.bind_some])
       clear HTK3 hk3
       obtain ⟨A2, c2, e2⟩ := Kd.R_slice HO2.out
       subst e2
       obtain ⟨A3, c3, e3⟩ := Kd.R_slice HO3.out
       subst e3
       obtain ⟨Ar, cr, hr1, hr2, hr3⟩ := HD.out.2.2
       have r0 := show wr.cell? ⟨b + 1 + 1, 0, none⟩ = some (.slice Ar lk3.length cr) from blk_cell hr1 0
       clear hr1 hr2 hr3
       by_cases hle : 0 < lk3.length
       ·have d1 : decide ((0 : Int) < (lk3.length : Int)) = true := decide_eq_true (by omega)
        have d2 : decide (0 < lk3.length) = true := decide_eq_true hle
        have HN := Aside0.mk (show parseE l = none by rw [HP.out, if_neg]; intro h; rw [h.1] at hle; simp at hle)
        clear hle
        go_wp2_with fail
        refine (c111 _).mono ?_
        rintro e w6 ⟨he, rfl⟩
        unfold badRead at he
        subst he
        exact leave55 rfl rfl ⟨HD.out.1, HD.out.2.1⟩ HBB.out HB.out HN.out
       obtain rfl : lk3 = [] := List.eq_nil_of_length_eq_zero (by omega)
       have t0 := show wr.cell? ⟨b, 0, none⟩ = some (.string nm) from blk_cell HD.out.1 0
       have t1 := show wr.cell? ⟨b, 1, none⟩ = some (.slice A1 cs.length c1) from blk_cell HD.out.1 1
       have t2 := show wr.cell? ⟨b, 2, none⟩ = some (.slice A2 xs.length c2) from blk_cell HD.out.1 2
       have t3 := show wr.cell? ⟨b, 3, none⟩ = some (.slice A3 ks.length c3) from blk_cell HD.out.1 3
       clear hle
       go_wp2_with fail
       clear t0 t1 t2 t3 r0
       refine (c26 nm A1 c1 cs A2 c2 xs A3 c3 ks wr (Kd.R_reads' HO1.out).2.2 (Kd.R_reads' HO1.out).2.1 (Kd.R_reads' HO2.out).2.2 (Kd.R_reads' HO2.out).2.1 (Kd.R_reads' HO3.out).2.2 (Kd.R_reads' HO3.out).2.1).mono ?_
       rintro e w6 ⟨rfl, hb⟩
       replace HB := Aside0.mk (below_step HB.out hb)
       replace HO1 := Aside0.mk (Kd.R_below HO1.out hb)
       replace HO2 := Aside0.mk (Kd.R_below HO2.out hb)
       replace HO3 := Aside0.mk (Kd.R_below HO3.out hb)
       replace HD := Aside0.mk (HD.out.below hb)
       clear hb
       by_cases hce : checkE nm cs xs ks = 0
       case neg =>
        have ez : (checkE nm cs xs ks != 0) = true := bne_iff_ne.2 hce
        have HN := Aside0.mk (show parseE l = none by rw [HP.out, if_neg]; exact fun h => hce h.2)
        clear hce
        go_wp2_with fail
        refine (c111 _).mono ?_
        rintro e w7 ⟨he, rfl⟩
        unfold badRead at he
        subst he
        exact leave55 rfl rfl ⟨HD.out.1, HD.out.2.1⟩ HBB.out HB.out HN.out
       have HN := Aside0.mk (show parseE l = some (nm, cs, xs, ks) by rw [HP.out, if_pos ⟨trivial, hce⟩])
       rw [hce]
       clear hce
       have t0 := show w6.cell? ⟨b, 0, none⟩ = some (.string nm) from blk_cell HD.out.1 0
       have t1 := show w6.cell? ⟨b, 1, none⟩ = some (.slice A1 cs.length c1) from blk_cell HD.out.1 1
       have t2 := show w6.cell? ⟨b, 2, none⟩ = some (.slice A2 xs.length c2) from blk_cell HD.out.1 2
       have t3 := show w6.cell? ⟨b, 3, none⟩ = some (.slice A3 ks.length c3) from blk_cell HD.out.1 3
       have z0 := show w6.frozen? ⟨b, 0, none⟩ = false from blk_frozen HD.out.1 0
       have z1 := show w6.frozen? ⟨b, 1, none⟩ = false from blk_frozen HD.out.1 1
       have z2 := show w6.frozen? ⟨b, 2, none⟩ = false from blk_frozen HD.out.1 2
       have z3 := show w6.frozen? ⟨b, 3, none⟩ = false from blk_frozen HD.out.1 3
       have t4 := show w6.cell? ⟨b + 1, 0, none⟩ = some (.int .i64 0) from blk_cell HD.out.2.1 0
       have z4 := show w6.frozen? ⟨b + 1, 0, none⟩ = false from blk_frozen HD.out.2.1 0
       go_wp2_with fail
       obtain ⟨wz, hwz⟩ : ∃ wz, wz = ((((w6.setCell ⟨b, 0, none⟩ (.string nm)).setCell ⟨b, 1, none⟩ (.slice A1 cs.length c1)).setCell ⟨b, 2, none⟩ (.slice A2 xs.length c2)).setCell ⟨b, 3, none⟩ (.slice A3 ks.length c3)).setCell ⟨b + 1, 0, none⟩ (.int .i64 0) := ⟨_, rfl⟩
       rw [← hwz]
       have hD0 := HD.out.put0 (.string nm)
       have hD1 := hD0.put1 (.slice A1 cs.length c1)
       have hD2 := hD1.put2 (.slice A2 xs.length c2)
       have hD3 := hD2.put3 (.slice A3 ks.length c3)
       have hz1 : wz.heap[b]? = some (.cells #[.string nm, .slice A1 cs.length c1, .slice A2 xs.length c2, .slice A3 ks.length c3] 28 (0, 0)) := by rw [hwz]; exact blk_far hD3.1 (by show b ≠ b + 1; omega) _
       have hz2 : wz.heap[b + 1]? = some (.cells #[.int .i64 0] 30 (0, 0)) := by rw [hwz]; exact blk_put hD3.2.1 0 _ rfl
       have st : ∀ {α : Type} {d : Kd α} {e : Nat} {u : Value} {ys : List α}, Kd.R d e w6 w.heap.size (fun _ => True) u ys → (∀ q, q ∈ e :: d.E → q ≠ 28) → (∀ q, q ∈ e :: d.E → q ≠ 30) → Kd.R d e wz w.heap.size (fun _ => True) u ys := by
        intro α d e u ys h h28 h30
        rw [hwz]
        exact Kd.R_set (Kd.R_set (Kd.R_set (Kd.R_set (Kd.R_set h HD.out.1 h28 0 _) hD0.1 h28 1 _) hD1.1 h28 2 _) hD2.1 h28 3 _) hD3.2.1 h30 0 _
       have r1 := st HO1.out (by decide) (by decide)
       have r2 := st HO2.out (by decide) (by decide)
       have r3 := st HO3.out (by decide) (by decide)
       have hbz : Below w.heap.size w wz := by rw [hwz]; exact below_set (below_set (below_set (below_set (below_set HB.out HBB.out) HBB.out) HBB.out) HBB.out) (by have := HBB.out; omega)
       refine leaveOk55 rfl rfl hz1 hz2 ?_
       have hR : parseR l = (nm, cs, xs, ks, 0) := by unfold parseR; rw [HN.out]
       rw [hR]
       exact ⟨A1, c1, A2, c2, A3, c3, rfl, ⟨(Kd.R_reads' r1).2.1, (Kd.R_reads' r1).2.2⟩, ⟨(Kd.R_reads' r2).2.1, (Kd.R_reads' r2).2.2⟩, ⟨(Kd.R_reads' r3).2.1, (Kd.R_reads' r3).2.2⟩, hbz⟩
end Go.Proofs.Ytkopbaikmlajmaa.Q
