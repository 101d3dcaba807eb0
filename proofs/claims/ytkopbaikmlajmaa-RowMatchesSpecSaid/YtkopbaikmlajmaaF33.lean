import Derived.Test.YtkopbaikmlajmaaFA
import Derived.Test.YtkopbaikmlajmaaG36
import Derived.Test.YtkopbaikmlajmaaPA
import Derived.Test.YtkopbaikmlajmaaF42
import Derived.Test.YtkopbaikmlajmaaPB
import Derived.Test.YtkopbaikmlajmaaF34
import Derived.Test.YtkopbaikmlajmaaF44
namespace Go.Proofs.Ytkopbaikmlajmaa.Q
open Go.RowKit Go.Proofs.YtkopbaikmlajmaaW.PrintWords Go.Proofs.YtkopbaikmlajmaaW.PrintLast Go.Proofs.YtkopbaikmlajmaaW.PrintMore
set_option linter.unusedVariables false
set_option linter.unusedSimpArgs false
theorem flat3 {α : Type} (f : α → List Value) (hf : ∀ x, (f x).length = 3) : ∀ (xs : List α) (j : Nat) (p : α) (i : Nat), xs[j]? = some p → i < 3 → (xs.flatMap f)[j * 3 + i]? = (f p)[i]?
 | [], j, p, i, h, hi => by cases h
 | x :: xs, 0, p, i, h, hi => by
  obtain rfl := Option.some.inj h
  rw [List.flatMap_cons, Nat.zero_mul, Nat.zero_add, List.getElem?_append_left (by rw [hf]; exact hi)]
 | x :: xs, j + 1, p, i, h, hi => by
  rw [List.flatMap_cons, List.getElem?_append_right (by rw [hf]; omega), hf, show (j + 1) * 3 + i - 3 = j * 3 + i by omega]
  exact flat3 f hf xs j p i h hi
theorem C_flat {α : Type} (d : Kd α) (f : α → List Value) (hf : ∀ x, (f x).length = 3) (hs : d.sz = 3) (hk : ∀ w x, d.K w x (f x)) {W : World} {b t : Nat} {cs : Array Value} (xs : List α) (hm : xs.length ≤ 9223372036854775807) (h : W.heap[b]? = some (.cells cs t (0, 0))) (e : cs = (xs.flatMap f).toArray) : d.C W (some ⟨b, 0, none⟩) xs.length xs := by
 subst e
 refine ⟨rfl, hm, fun _ => ⟨_, rfl, fun j p hj => ⟨f p, by rw [hf, hs], hk W p, fun i u hu => ?_⟩⟩⟩
 have hi : i < 3 := by have := (List.getElem?_eq_some_iff.1 hu).1; rw [hf] at this; exact this
 have := flat3 f hf xs j p i hj hi
 rw [hu] at this
 rw [hs, add_plain, blk_cell h (j * 3 + i)]
 simpa using this
theorem C_vals {W : World} {b : Nat} {cs : Array Value} (xs : List S40) (hm : xs.length ≤ 9223372036854775807) (h : W.heap[b]? = some (.cells cs 40 (0, 0))) (e : cs = (xs.flatMap fun x => [.int .i64 x.f0, .int .i64 x.f1, .string x.f2]).toArray) : Kd.C k40 W (some ⟨b, 0, none⟩) xs.length xs :=
 C_flat k40 _ (fun _ => rfl) rfl (fun w x => k40_mk w x) xs hm h e
theorem C_ints {W : World} {b : Nat} {cs : Array Value} (xs : List Int) (hm : xs.length ≤ 9223372036854775807) (h : W.heap[b]? = some (.cells cs 3 (0, 0))) (e : cs = (xs.map (Value.int .i64)).toArray) : (Kd.int .i64).C W (some ⟨b, 0, none⟩) xs.length xs := by
 subst e
 refine ⟨rfl, hm, fun _ => ⟨_, rfl, fun j p hj => ⟨[.int .i64 p], rfl, rfl, fun i u hu => ?_⟩⟩⟩
 match i, hu with
 | 0, hu =>
  obtain rfl := Option.some.inj hu
  show W.cell? (Addr.add _ (j * 1 + 0)) = _
  rw [add_plain, blk_cell h (j * 1 + 0)]
  simp [hj]
 | i + 1, hu => cases hu
def tbl : List S56 := [⟨⟨#[97]⟩, 1, false⟩, ⟨⟨#[98]⟩, 2, true⟩, ⟨⟨#[99]⟩, 3, true⟩]
theorem sameInts_l0 (a : List Int) (hn : a.length ≤ 9223372036854775807) : ∀ (d i : Nat), i + d = a.length → Evs (fun k => alumref20_SameInts.l0 k a a (i : Int)) true
 | 0, i, h => by
  refine (Evs.const (g := some true) rfl).step (fun k => ?_)
  simp only [alumref20_SameInts.l0]
  rw [if_neg (by omega)]
 | d + 1, i, h => by
  refine (sameInts_l0 a hn d (i + 1) (by omega)).step (fun k => ?_)
  simp only [alumref20_SameInts.l0]
  rw [if_pos (by omega), if_pos (by omega), if_pos (by omega), if_pos trivial, wrap_succ (show i < a.length by omega) hn]
theorem sameInts_refl (a : List Int) (hn : a.length ≤ 9223372036854775807) : Evs (fun k => alumref20_SameInts.f k a a) true := by
 refine (sameInts_l0 a hn a.length 0 (by omega)).congr (fun k => ?_)
 unfold alumref20_SameInts.f
 rw [if_pos rfl]
 rfl
theorem c30s (A6 : Option Addr) (c6 : Nat) (A4 : Option Addr) (c4 : Nat) (cols : List Int) (w : World) (h6 : (Kd.int .i64).C w A6 cols.length cols) (hc6 : cols.length ≤ c6) (h4 : (Kd.int .i64).C w A4 cols.length cols) (hc4 : cols.length ≤ c4) :
  Calls Try.prog 30 #[.slice A6 cols.length c6, .slice A4 cols.length c4] w fun e w' => e = .returned (.bool true) ∧ Below w.heap.size w w' := by
 obtain ⟨k, h⟩ := (sameInts_refl cols h6.2.1).get
 refine (alumref20_SameInts.calls k A6 c6 cols A4 c4 cols true w h6 hc6 h4 hc4 h).mono ?_
 rintro e w' ⟨rfl, hd⟩
 exact ⟨rfl, hd.below⟩
theorem c37s (A5 : Option Addr) (c5 : Nat) (A4 : Option Addr) (c4 : Nat) (r : List S40) (w : World) (h6 : Kd.C k40 w A5 r.length r) (hc6 : r.length ≤ c5) (h4 : Kd.C k40 w A4 r.length r) (hc4 : r.length ≤ c4) (hm : r.length ≤ 1000000 := by decide) :
  Calls Try.prog 37 #[.slice A5 r.length c5, .slice A4 r.length c4] w fun e w' => e = .returned (.bool true) ∧ Below w.heap.size w w' := by
 obtain ⟨k, h⟩ := (same21_refl r hm).get
 exact alumref21_Same.calls k A5 c5 r A4 c4 r true w h6 hc6 h4 hc4 h
theorem blk_al (W : World) (o : Obj) : ∃ W', W' = W.alloc o ∧ W'.heap[W.heap.size]? = some o ∧ Below W.heap.size W W' := ⟨_, rfl, blk_new W o, below_al W o⟩
theorem c88 (w : World) : Calls Try.prog 88 #[] w fun e w' => ∃ A1 c1 A2 c2 A3 c3, e = .returned (.agg #[.string ⟨#[116]⟩, .slice A1 tbl.length c1, .slice A2 ([] : List S65).length c2, .slice A3 ([] : List S42).length c3]) ∧ Kd.C k56 w' A1 tbl.length tbl ∧ tbl.length ≤ c1 ∧ Kd.C k65 w' A2 ([] : List S65).length [] ∧ ([] : List S65).length ≤ c2 ∧ Kd.C k42 w' A3 ([] : List S42).length [] ∧ ([] : List S42).length ≤ c3 ∧ Below w.heap.size w w' := by
 refine (alumlaw21_some.calls ⟨#[116]⟩ tbl [] [] w rfl).mono ?_
 rintro e w' ⟨v1, v2, v3, rfl, h1, h2, h3, hb⟩
 obtain ⟨A1, c1, rfl, l1, C1⟩ := Kd.R_reads h1
 obtain ⟨A2, c2, rfl⟩ := Kd.S_slice h2
 obtain ⟨_, l2, C2⟩ := Kd.S_reads' h2
 obtain ⟨A3, c3, rfl, l3, C3⟩ := Kd.R_reads h3
 exact ⟨A1, c1, A2, c2, A3, c3, rfl, C1, l1, C2, l2, C3, l3, hb⟩
def one21 : List S40 := [⟨1, 3, ⟨#[]⟩⟩, ⟨2, 0, ⟨#[97, 98]⟩⟩, ⟨0, 0, ⟨#[]⟩⟩]
def two21 : List S40 := [⟨1, -1, ⟨#[]⟩⟩, ⟨0, 0, ⟨#[]⟩⟩, ⟨3, 1, ⟨#[]⟩⟩]
theorem enc_one : row_Encode.f 60 ⟨#[116]⟩ tbl [] [] one21 = some ([772, 549755813891, 2, 418255994880], 0) := by kernel_rfl
theorem enc_two : row_Encode.f 60 ⟨#[116]⟩ tbl [] [] two21 = some ([770, 549755813887, 1], 0) := by kernel_rfl
theorem dec_one : decR tbl [256, 549755813893, 7] = ([⟨1, 5, ⟨#[]⟩⟩, ⟨0, 0, ⟨#[]⟩⟩, ⟨0, 0, ⟨#[]⟩⟩], 2, 0) := by kernel_rfl
theorem dec_two : (decR tbl [512, 549755813888, 41]) = ([], 0, 3) := by kernel_rfl
theorem dec_three : (decR tbl [257]) = ([], 0, 3) := by kernel_rfl
theorem upd_one : updR ⟨#[116]⟩ tbl [] [] one21 [2] [⟨3, 1, ⟨#[]⟩⟩] = ([⟨1, 3, ⟨#[]⟩⟩, ⟨2, 0, ⟨#[97, 98]⟩⟩, ⟨3, 1, ⟨#[]⟩⟩], 0) := by kernel_rfl
theorem upd_two : updR ⟨#[116]⟩ tbl [] [] one21 [2, 2] [⟨0, 0, ⟨#[]⟩⟩, ⟨0, 0, ⟨#[]⟩⟩] = ([], 6) := by kernel_rfl
theorem pack_six : row_Pack.f 60 ⟨#[97, 98, 99, 100, 101, 102]⟩ = some [418262508645, 438086664192] := by kernel_rfl
theorem size_one : row_Size.f 60 one21 = some 4 := by kernel_rfl
theorem diff_one : row_Diff.f 60 one21 [⟨1, 3, ⟨#[]⟩⟩, ⟨2, 0, ⟨#[97, 98]⟩⟩, ⟨3, 1, ⟨#[]⟩⟩] = some [2] := by kernel_rfl
set_option maxHeartbeats 4000000 in
set_option maxRecDepth 100000 in
theorem c33 (w : World) : Calls Try.prog 33 #[] w fun e w' => e = .returned (.bool true) ∧ Below w.heap.size w w' := by
 have hu28 := Try.underlying28
 have hu40 := Try.underlying40
 go_enter Try.func33, Try.ntmps33
 go_wp2_with fail
 refine (c88 w).mono ?_
 rintro e w1 ⟨A1, c1, A2, c2, A3, c3, rfl, C1, l1, C2, l2, C3, l3, hb⟩
 have HB := Aside0.mk hb
 have HC1 := Aside0.mk C1
 have HC2 := Aside0.mk C2
 have HC3 := Aside0.mk C3
 clear hb C1 C2 C3
 have HL2 := Aside0.mk l2
 have HL3 := Aside0.mk l3
 have HL1 := Aside0.mk l1
 clear l1 l2 l3
 go_wp2_with fail
 obtain ⟨u1, hu1, ht, hb1⟩ := blk_al w1 (.cells #[.string ⟨#[116]⟩, .slice A1 tbl.length c1, .slice A2 0 c2, .slice A3 0 c3] 28)
 rw [← hu1]
 have hsz : w1.heap.size + 1 = u1.heap.size := by rw [hu1]; simp
 obtain ⟨u2, hu2, ho, hb2⟩ := blk_al u1 (.cells #[.int .i64 1, .int .i64 3, .string ⟨#[]⟩, .int .i64 2, .int .i64 0, .string ⟨#[97, 98]⟩, .int .i64 0, .int .i64 0, .string ⟨#[]⟩] 40)
 rw [← hu2, hsz]
 obtain ⟨b, hb⟩ : ∃ b, b = w1.heap.size := ⟨_, rfl⟩
 obtain ⟨g, hg⟩ : ∃ g, g = u1.heap.size := ⟨_, rfl⟩
 rw [← hb] at ht ⊢
 rw [← hg] at ho ⊢
 have HT := Aside0.mk (blk_below ht hb2)
 have HO := Aside0.mk (show Kd.C k40 u2 (some ⟨g, 0, none⟩) one21.length one21 from C_vals one21 (by decide) ho rfl)
 replace HB := Aside0.mk (below_step HB.out (below_step hb1 hb2))
 replace HC1 := Aside0.mk (Kd.C_below HC1.out (below_step hb1 hb2))
 replace HC2 := Aside0.mk (Kd.C_below HC2.out (below_step hb1 hb2))
 replace HC3 := Aside0.mk (Kd.C_below HC3.out (below_step hb1 hb2))
 clear hu1 hu2 hsz ht ho hb1 hb2 hb hg w1 u1
 refine (row_Encode.calls 60 ⟨#[116]⟩ A1 c1 tbl A2 c2 [] A3 c3 [] (some ⟨g, 0, none⟩) 3 one21 [772, 549755813891, 2, 418255994880] 0 u2 HC1.out HL1.out HC2.out HL2.out HC3.out HL3.out HO.out (Nat.le_refl 3) enc_one).mono ?_
 rintro e u3 ⟨v, rfl, hR, hb⟩
 obtain ⟨Aa, ca, rfl, hl, hC⟩ := Kd.R_reads hR
 replace HB := Aside0.mk (below_step HB.out hb)
 replace HC1 := Aside0.mk (Kd.C_below HC1.out hb)
 replace HC2 := Aside0.mk (Kd.C_below HC2.out hb)
 replace HC3 := Aside0.mk (Kd.C_below HC3.out hb)
 replace HO := Aside0.mk (Kd.C_below HO.out hb)
 replace HT := Aside0.mk (blk_below HT.out hb)
 have Ha := Aside0.mk hC
 have La := Aside0.mk hl
 clear hR hl hC hb  u2
 have t0 := show u3.cell? ⟨b, 0, none⟩ = some (.string ⟨#[116]⟩) from blk_cell HT.out 0
 have t1 := show u3.cell? ⟨b, 1, none⟩ = some (.slice A1 tbl.length c1) from blk_cell HT.out 1
 have t2 := show u3.cell? ⟨b, 2, none⟩ = some (.slice A2 0 c2) from blk_cell HT.out 2
 have t3 := show u3.cell? ⟨b, 3, none⟩ = some (.slice A3 0 c3) from blk_cell HT.out 3
 go_wp2_with fail
 clear t0 t1 t2 t3
 obtain ⟨u4, hw, hx, hb⟩ := blk_al u3 (.cells #[.int .i64 1, .int .i64 (-1), .string ⟨#[]⟩, .int .i64 0, .int .i64 0, .string ⟨#[]⟩, .int .i64 3, .int .i64 1, .string ⟨#[]⟩] 40)
 rw [← hw]
 obtain ⟨gb, hgb⟩ : ∃ gb, gb = u3.heap.size := ⟨_, rfl⟩
 rw [← hgb] at hx ⊢
 have LIT0 := Aside0.mk (show Kd.C k40 u4 (some ⟨gb, 0, none⟩) ([⟨1, -1, ⟨#[]⟩⟩, ⟨0, 0, ⟨#[]⟩⟩, ⟨3, 1, ⟨#[]⟩⟩] : List S40).length [⟨1, -1, ⟨#[]⟩⟩, ⟨0, 0, ⟨#[]⟩⟩, ⟨3, 1, ⟨#[]⟩⟩] from C_vals [⟨1, -1, ⟨#[]⟩⟩, ⟨0, 0, ⟨#[]⟩⟩, ⟨3, 1, ⟨#[]⟩⟩] (by decide) hx rfl)
 replace HB := Aside0.mk (below_step HB.out hb)
 replace HC1 := Aside0.mk (Kd.C_below HC1.out hb)
 replace HC2 := Aside0.mk (Kd.C_below HC2.out hb)
 replace HC3 := Aside0.mk (Kd.C_below HC3.out hb)
 replace HO := Aside0.mk (Kd.C_below HO.out hb)
 replace Ha := Aside0.mk (Kd.C_below Ha.out hb)
 replace HT := Aside0.mk (blk_below HT.out hb)
 clear hw hx hb hgb u3
 refine (row_Encode.calls 60 ⟨#[116]⟩ A1 c1 tbl A2 c2 [] A3 c3 [] (some ⟨gb, 0, none⟩) 3 two21 [770, 549755813887, 1] 0 u4 HC1.out HL1.out HC2.out HL2.out HC3.out HL3.out LIT0.out (Nat.le_refl 3) enc_two).mono ?_
 rintro e u5 ⟨v, rfl, hR, hb⟩
 obtain ⟨Ab, cb, rfl, hl, hC⟩ := Kd.R_reads hR
 replace HB := Aside0.mk (below_step HB.out hb)
 replace HC1 := Aside0.mk (Kd.C_below HC1.out hb)
 replace HC2 := Aside0.mk (Kd.C_below HC2.out hb)
 replace HC3 := Aside0.mk (Kd.C_below HC3.out hb)
 replace HO := Aside0.mk (Kd.C_below HO.out hb)
 replace Ha := Aside0.mk (Kd.C_below Ha.out hb)
 replace HT := Aside0.mk (blk_below HT.out hb)
 have Hb := Aside0.mk hC
 have Lb := Aside0.mk hl
 clear hR hl hC hb LIT0 u4
 have t0 := show u5.cell? ⟨b, 0, none⟩ = some (.string ⟨#[116]⟩) from blk_cell HT.out 0
 have t1 := show u5.cell? ⟨b, 1, none⟩ = some (.slice A1 tbl.length c1) from blk_cell HT.out 1
 have t2 := show u5.cell? ⟨b, 2, none⟩ = some (.slice A2 0 c2) from blk_cell HT.out 2
 have t3 := show u5.cell? ⟨b, 3, none⟩ = some (.slice A3 0 c3) from blk_cell HT.out 3
 go_wp2_with fail
 clear t0 t1 t2 t3
 obtain ⟨u6, hw, hx, hb⟩ := blk_al u5 (.cells #[.int .i64 256, .int .i64 549755813893, .int .i64 7] 3)
 rw [← hw]
 obtain ⟨gb, hgb⟩ : ∃ gb, gb = u5.heap.size := ⟨_, rfl⟩
 rw [← hgb] at hx ⊢
 have LIT0 := Aside0.mk (show (Kd.int .i64).C u6 (some ⟨gb, 0, none⟩) ([256, 549755813893, 7] : List Int).length [256, 549755813893, 7] from C_ints [256, 549755813893, 7] (by decide) hx rfl)
 replace HB := Aside0.mk (below_step HB.out hb)
 replace HC1 := Aside0.mk (Kd.C_below HC1.out hb)
 replace HC2 := Aside0.mk (Kd.C_below HC2.out hb)
 replace HC3 := Aside0.mk (Kd.C_below HC3.out hb)
 replace HO := Aside0.mk (Kd.C_below HO.out hb)
 replace Ha := Aside0.mk (Kd.C_below Ha.out hb)
 replace Hb := Aside0.mk (Kd.C_below Hb.out hb)
 replace HT := Aside0.mk (blk_below HT.out hb)
 clear hw hx hb hgb u5
 refine (c44 ⟨#[116]⟩ A1 c1 tbl A2 c2 0 A3 c3 0 (some ⟨gb, 0, none⟩) 3 [256, 549755813893, 7] u6 HC1.out HL1.out (by decide) LIT0.out (Nat.le_refl 3) (by decide)).mono ?_
 rintro e u7 ⟨v, he, hR, hb⟩
 rw [dec_one] at he hR
 subst he
 obtain ⟨Ac, cc, rfl, hl, hC⟩ := Kd.R_reads hR
 replace HB := Aside0.mk (below_step HB.out hb)
 replace HC1 := Aside0.mk (Kd.C_below HC1.out hb)
 replace HC2 := Aside0.mk (Kd.C_below HC2.out hb)
 replace HC3 := Aside0.mk (Kd.C_below HC3.out hb)
 replace HO := Aside0.mk (Kd.C_below HO.out hb)
 replace Ha := Aside0.mk (Kd.C_below Ha.out hb)
 replace Hb := Aside0.mk (Kd.C_below Hb.out hb)
 replace HT := Aside0.mk (blk_below HT.out hb)
 have Hc := Aside0.mk hC
 have Lc := Aside0.mk hl
 clear hR hl hC hb LIT0 u6
 have t0 := show u7.cell? ⟨b, 0, none⟩ = some (.string ⟨#[116]⟩) from blk_cell HT.out 0
 have t1 := show u7.cell? ⟨b, 1, none⟩ = some (.slice A1 tbl.length c1) from blk_cell HT.out 1
 have t2 := show u7.cell? ⟨b, 2, none⟩ = some (.slice A2 0 c2) from blk_cell HT.out 2
 have t3 := show u7.cell? ⟨b, 3, none⟩ = some (.slice A3 0 c3) from blk_cell HT.out 3
 go_wp2_with fail
 clear t0 t1 t2 t3
 obtain ⟨u8, hw, hx, hb⟩ := blk_al u7 (.cells #[.int .i64 512, .int .i64 549755813888, .int .i64 41] 3)
 rw [← hw]
 obtain ⟨gb, hgb⟩ : ∃ gb, gb = u7.heap.size := ⟨_, rfl⟩
 rw [← hgb] at hx ⊢
 have LIT0 := Aside0.mk (show (Kd.int .i64).C u8 (some ⟨gb, 0, none⟩) ([512, 549755813888, 41] : List Int).length [512, 549755813888, 41] from C_ints [512, 549755813888, 41] (by decide) hx rfl)
 replace HB := Aside0.mk (below_step HB.out hb)
 replace HC1 := Aside0.mk (Kd.C_below HC1.out hb)
 replace HC2 := Aside0.mk (Kd.C_below HC2.out hb)
 replace HC3 := Aside0.mk (Kd.C_below HC3.out hb)
 replace HO := Aside0.mk (Kd.C_below HO.out hb)
 replace Ha := Aside0.mk (Kd.C_below Ha.out hb)
 replace Hb := Aside0.mk (Kd.C_below Hb.out hb)
 replace Hc := Aside0.mk (Kd.C_below Hc.out hb)
 replace HT := Aside0.mk (blk_below HT.out hb)
 clear hw hx hb hgb u7
 refine (c44 ⟨#[116]⟩ A1 c1 tbl A2 c2 0 A3 c3 0 (some ⟨gb, 0, none⟩) 3 [512, 549755813888, 41] u8 HC1.out HL1.out (by decide) LIT0.out (Nat.le_refl 3) (by decide)).mono ?_
 rintro e u9 ⟨v, he, hR, hb⟩
 rw [dec_two] at he hR
 subst he
 obtain ⟨Ad, cd, rfl, hl, hC⟩ := Kd.R_reads hR
 replace HB := Aside0.mk (below_step HB.out hb)
 replace HC1 := Aside0.mk (Kd.C_below HC1.out hb)
 replace HC2 := Aside0.mk (Kd.C_below HC2.out hb)
 replace HC3 := Aside0.mk (Kd.C_below HC3.out hb)
 replace HO := Aside0.mk (Kd.C_below HO.out hb)
 replace Ha := Aside0.mk (Kd.C_below Ha.out hb)
 replace Hb := Aside0.mk (Kd.C_below Hb.out hb)
 replace Hc := Aside0.mk (Kd.C_below Hc.out hb)
 replace HT := Aside0.mk (blk_below HT.out hb)
 clear hR hl hC hb LIT0 u8
 have t0 := show u9.cell? ⟨b, 0, none⟩ = some (.string ⟨#[116]⟩) from blk_cell HT.out 0
 have t1 := show u9.cell? ⟨b, 1, none⟩ = some (.slice A1 tbl.length c1) from blk_cell HT.out 1
 have t2 := show u9.cell? ⟨b, 2, none⟩ = some (.slice A2 0 c2) from blk_cell HT.out 2
 have t3 := show u9.cell? ⟨b, 3, none⟩ = some (.slice A3 0 c3) from blk_cell HT.out 3
 go_wp2_with fail
 clear t0 t1 t2 t3
 obtain ⟨u10, hw, hx, hb⟩ := blk_al u9 (.cells #[.int .i64 257] 3)
 rw [← hw]
 obtain ⟨gb, hgb⟩ : ∃ gb, gb = u9.heap.size := ⟨_, rfl⟩
 rw [← hgb] at hx ⊢
 have LIT0 := Aside0.mk (show (Kd.int .i64).C u10 (some ⟨gb, 0, none⟩) ([257] : List Int).length [257] from C_ints [257] (by decide) hx rfl)
 replace HB := Aside0.mk (below_step HB.out hb)
 replace HC1 := Aside0.mk (Kd.C_below HC1.out hb)
 replace HC2 := Aside0.mk (Kd.C_below HC2.out hb)
 replace HC3 := Aside0.mk (Kd.C_below HC3.out hb)
 replace HO := Aside0.mk (Kd.C_below HO.out hb)
 replace Ha := Aside0.mk (Kd.C_below Ha.out hb)
 replace Hb := Aside0.mk (Kd.C_below Hb.out hb)
 replace Hc := Aside0.mk (Kd.C_below Hc.out hb)
 replace HT := Aside0.mk (blk_below HT.out hb)
 clear hw hx hb hgb u9
 refine (c44 ⟨#[116]⟩ A1 c1 tbl A2 c2 0 A3 c3 0 (some ⟨gb, 0, none⟩) 1 [257] u10 HC1.out HL1.out (by decide) LIT0.out (Nat.le_refl 1) (by decide)).mono ?_
 rintro e u11 ⟨v, he, hR, hb⟩
 rw [dec_three] at he hR
 subst he
 obtain ⟨Ae, ce, rfl, hl, hC⟩ := Kd.R_reads hR
 replace HB := Aside0.mk (below_step HB.out hb)
 replace HC1 := Aside0.mk (Kd.C_below HC1.out hb)
 replace HC2 := Aside0.mk (Kd.C_below HC2.out hb)
 replace HC3 := Aside0.mk (Kd.C_below HC3.out hb)
 replace HO := Aside0.mk (Kd.C_below HO.out hb)
 replace Ha := Aside0.mk (Kd.C_below Ha.out hb)
 replace Hb := Aside0.mk (Kd.C_below Hb.out hb)
 replace Hc := Aside0.mk (Kd.C_below Hc.out hb)
 replace HT := Aside0.mk (blk_below HT.out hb)
 clear hR hl hC hb LIT0 u10
 have t0 := show u11.cell? ⟨b, 0, none⟩ = some (.string ⟨#[116]⟩) from blk_cell HT.out 0
 have t1 := show u11.cell? ⟨b, 1, none⟩ = some (.slice A1 tbl.length c1) from blk_cell HT.out 1
 have t2 := show u11.cell? ⟨b, 2, none⟩ = some (.slice A2 0 c2) from blk_cell HT.out 2
 have t3 := show u11.cell? ⟨b, 3, none⟩ = some (.slice A3 0 c3) from blk_cell HT.out 3
 go_wp2_with fail
 clear t0 t1 t2 t3
 obtain ⟨u12, hw, hx, hb⟩ := blk_al u11 (.cells #[.int .i64 2] 3)
 have hsz : u11.heap.size + 1 = u12.heap.size := by rw [hw]; simp
 rw [← hw, hsz]
 obtain ⟨ga, hgb⟩ : ∃ gb, gb = u11.heap.size := ⟨_, rfl⟩
 rw [← hgb] at hx ⊢
 have LIT0 := Aside0.mk (show (Kd.int .i64).C u12 (some ⟨ga, 0, none⟩) ([2] : List Int).length [2] from C_ints [2] (by decide) hx rfl)
 replace HB := Aside0.mk (below_step HB.out hb)
 replace HC1 := Aside0.mk (Kd.C_below HC1.out hb)
 replace HC2 := Aside0.mk (Kd.C_below HC2.out hb)
 replace HC3 := Aside0.mk (Kd.C_below HC3.out hb)
 replace HO := Aside0.mk (Kd.C_below HO.out hb)
 replace Ha := Aside0.mk (Kd.C_below Ha.out hb)
 replace Hb := Aside0.mk (Kd.C_below Hb.out hb)
 replace Hc := Aside0.mk (Kd.C_below Hc.out hb)
 replace HT := Aside0.mk (blk_below HT.out hb)
 clear hw hx hb hgb
 obtain ⟨u13, hw, hx, hb⟩ := blk_al u12 (.cells #[.int .i64 3, .int .i64 1, .string ⟨#[]⟩] 40)
 rw [← hw]
 obtain ⟨gb, hgb⟩ : ∃ gb, gb = u12.heap.size := ⟨_, rfl⟩
 rw [← hgb] at hx ⊢
 have LIT1 := Aside0.mk (show Kd.C k40 u13 (some ⟨gb, 0, none⟩) ([⟨3, 1, ⟨#[]⟩⟩] : List S40).length [⟨3, 1, ⟨#[]⟩⟩] from C_vals [⟨3, 1, ⟨#[]⟩⟩] (by decide) hx rfl)
 replace HB := Aside0.mk (below_step HB.out hb)
 replace HC1 := Aside0.mk (Kd.C_below HC1.out hb)
 replace HC2 := Aside0.mk (Kd.C_below HC2.out hb)
 replace HC3 := Aside0.mk (Kd.C_below HC3.out hb)
 replace HO := Aside0.mk (Kd.C_below HO.out hb)
 replace Ha := Aside0.mk (Kd.C_below Ha.out hb)
 replace Hb := Aside0.mk (Kd.C_below Hb.out hb)
 replace Hc := Aside0.mk (Kd.C_below Hc.out hb)
 replace LIT0 := Aside0.mk (Kd.C_below LIT0.out hb)
 replace HT := Aside0.mk (blk_below HT.out hb)
 clear hw hx hb hgb u12 hsz
 refine (c34 ⟨#[116]⟩ A1 c1 tbl A2 c2 [] A3 c3 [] (some ⟨g, 0, none⟩) 3 one21 (some ⟨ga, 0, none⟩) 1 [2] (some ⟨gb, 0, none⟩) 1 [⟨3, 1, ⟨#[]⟩⟩] u13 HC1.out HL1.out HC2.out HL2.out HC3.out HL3.out HO.out (Nat.le_refl 3) (by decide) LIT0.out (Nat.le_refl 1) LIT1.out (Nat.le_refl 1)).mono ?_
 rintro e u14 ⟨v, he, hR, hb⟩
 rw [upd_one] at he hR
 subst he
 obtain ⟨Au, cu, rfl, hl, hC⟩ := Kd.R_reads hR
 replace HB := Aside0.mk (below_step HB.out hb)
 replace HC1 := Aside0.mk (Kd.C_below HC1.out hb)
 replace HC2 := Aside0.mk (Kd.C_below HC2.out hb)
 replace HC3 := Aside0.mk (Kd.C_below HC3.out hb)
 replace HO := Aside0.mk (Kd.C_below HO.out hb)
 replace Ha := Aside0.mk (Kd.C_below Ha.out hb)
 replace Hb := Aside0.mk (Kd.C_below Hb.out hb)
 replace Hc := Aside0.mk (Kd.C_below Hc.out hb)
 replace HT := Aside0.mk (blk_below HT.out hb)
 have Hu := Aside0.mk hC
 have Lu := Aside0.mk hl
 clear hR hl hC hb LIT0 LIT1 u13
 have t0 := show u14.cell? ⟨b, 0, none⟩ = some (.string ⟨#[116]⟩) from blk_cell HT.out 0
 have t1 := show u14.cell? ⟨b, 1, none⟩ = some (.slice A1 tbl.length c1) from blk_cell HT.out 1
 have t2 := show u14.cell? ⟨b, 2, none⟩ = some (.slice A2 0 c2) from blk_cell HT.out 2
 have t3 := show u14.cell? ⟨b, 3, none⟩ = some (.slice A3 0 c3) from blk_cell HT.out 3
 go_wp2_with fail
 clear t0 t1 t2 t3
 obtain ⟨u15, hw, hx, hb⟩ := blk_al u14 (.cells #[.int .i64 2, .int .i64 2] 3)
 have hsz : u14.heap.size + 1 = u15.heap.size := by rw [hw]; simp
 rw [← hw, hsz]
 obtain ⟨ga, hgb⟩ : ∃ gb, gb = u14.heap.size := ⟨_, rfl⟩
 rw [← hgb] at hx ⊢
 have LIT0 := Aside0.mk (show (Kd.int .i64).C u15 (some ⟨ga, 0, none⟩) ([2, 2] : List Int).length [2, 2] from C_ints [2, 2] (by decide) hx rfl)
 replace HB := Aside0.mk (below_step HB.out hb)
 replace HC1 := Aside0.mk (Kd.C_below HC1.out hb)
 replace HC2 := Aside0.mk (Kd.C_below HC2.out hb)
 replace HC3 := Aside0.mk (Kd.C_below HC3.out hb)
 replace HO := Aside0.mk (Kd.C_below HO.out hb)
 replace Ha := Aside0.mk (Kd.C_below Ha.out hb)
 replace Hb := Aside0.mk (Kd.C_below Hb.out hb)
 replace Hc := Aside0.mk (Kd.C_below Hc.out hb)
 replace Hu := Aside0.mk (Kd.C_below Hu.out hb)
 replace HT := Aside0.mk (blk_below HT.out hb)
 clear hw hx hb hgb
 obtain ⟨u16, hw, hx, hb⟩ := blk_al u15 (.cells #[.int .i64 0, .int .i64 0, .string ⟨#[]⟩, .int .i64 0, .int .i64 0, .string ⟨#[]⟩] 40)
 rw [← hw]
 obtain ⟨gb, hgb⟩ : ∃ gb, gb = u15.heap.size := ⟨_, rfl⟩
 rw [← hgb] at hx ⊢
 have LIT1 := Aside0.mk (show Kd.C k40 u16 (some ⟨gb, 0, none⟩) ([⟨0, 0, ⟨#[]⟩⟩, ⟨0, 0, ⟨#[]⟩⟩] : List S40).length [⟨0, 0, ⟨#[]⟩⟩, ⟨0, 0, ⟨#[]⟩⟩] from C_vals [⟨0, 0, ⟨#[]⟩⟩, ⟨0, 0, ⟨#[]⟩⟩] (by decide) hx rfl)
 replace HB := Aside0.mk (below_step HB.out hb)
 replace HC1 := Aside0.mk (Kd.C_below HC1.out hb)
 replace HC2 := Aside0.mk (Kd.C_below HC2.out hb)
 replace HC3 := Aside0.mk (Kd.C_below HC3.out hb)
 replace HO := Aside0.mk (Kd.C_below HO.out hb)
 replace Ha := Aside0.mk (Kd.C_below Ha.out hb)
 replace Hb := Aside0.mk (Kd.C_below Hb.out hb)
 replace Hc := Aside0.mk (Kd.C_below Hc.out hb)
 replace Hu := Aside0.mk (Kd.C_below Hu.out hb)
 replace LIT0 := Aside0.mk (Kd.C_below LIT0.out hb)
 replace HT := Aside0.mk (blk_below HT.out hb)
 clear hw hx hb hgb u15 hsz
 refine (c34 ⟨#[116]⟩ A1 c1 tbl A2 c2 [] A3 c3 [] (some ⟨g, 0, none⟩) 3 one21 (some ⟨ga, 0, none⟩) 2 [2, 2] (some ⟨gb, 0, none⟩) 2 [⟨0, 0, ⟨#[]⟩⟩, ⟨0, 0, ⟨#[]⟩⟩] u16 HC1.out HL1.out HC2.out HL2.out HC3.out HL3.out HO.out (Nat.le_refl 3) (by decide) LIT0.out (Nat.le_refl 2) LIT1.out (Nat.le_refl 2)).mono ?_
 rintro e u17 ⟨v, he, hR, hb⟩
 rw [upd_two] at he hR
 subst he
 obtain ⟨Ax, cx, rfl, hl, hC⟩ := Kd.R_reads hR
 replace HB := Aside0.mk (below_step HB.out hb)
 replace HC1 := Aside0.mk (Kd.C_below HC1.out hb)
 replace HC2 := Aside0.mk (Kd.C_below HC2.out hb)
 replace HC3 := Aside0.mk (Kd.C_below HC3.out hb)
 replace HO := Aside0.mk (Kd.C_below HO.out hb)
 replace Ha := Aside0.mk (Kd.C_below Ha.out hb)
 replace Hb := Aside0.mk (Kd.C_below Hb.out hb)
 replace Hc := Aside0.mk (Kd.C_below Hc.out hb)
 replace Hu := Aside0.mk (Kd.C_below Hu.out hb)
 replace HT := Aside0.mk (blk_below HT.out hb)
 clear hR hl hC hb LIT0 LIT1 u16
 go_wp2_with fail
 refine (row_Pack.calls 60 ⟨#[97, 98, 99, 100, 101, 102]⟩ [418262508645, 438086664192] u17 pack_six).mono ?_
 rintro e u18 ⟨v, rfl, hR, hb⟩
 obtain ⟨Ap, cp, rfl, hl, hC⟩ := Kd.R_reads hR
 replace HB := Aside0.mk (below_step HB.out hb)
 replace HC1 := Aside0.mk (Kd.C_below HC1.out hb)
 replace HC2 := Aside0.mk (Kd.C_below HC2.out hb)
 replace HC3 := Aside0.mk (Kd.C_below HC3.out hb)
 replace HO := Aside0.mk (Kd.C_below HO.out hb)
 replace Ha := Aside0.mk (Kd.C_below Ha.out hb)
 replace Hb := Aside0.mk (Kd.C_below Hb.out hb)
 replace Hc := Aside0.mk (Kd.C_below Hc.out hb)
 replace Hu := Aside0.mk (Kd.C_below Hu.out hb)
 replace HT := Aside0.mk (blk_below HT.out hb)
 have Hp := Aside0.mk hC
 have Lp := Aside0.mk hl
 clear hR hl hC hb u17
 go_wp2_with fail
 obtain ⟨u19, hw, hx, hb⟩ := blk_al u18 (.cells #[.int .i64 418262508645, .int .i64 438086664192] 3)
 rw [← hw]
 obtain ⟨gb, hgb⟩ : ∃ gb, gb = u18.heap.size := ⟨_, rfl⟩
 rw [← hgb] at hx ⊢
 have LIT0 := Aside0.mk (show (Kd.int .i64).C u19 (some ⟨gb, 0, none⟩) ([418262508645, 438086664192] : List Int).length [418262508645, 438086664192] from C_ints [418262508645, 438086664192] (by decide) hx rfl)
 replace HB := Aside0.mk (below_step HB.out hb)
 replace HC1 := Aside0.mk (Kd.C_below HC1.out hb)
 replace HC2 := Aside0.mk (Kd.C_below HC2.out hb)
 replace HC3 := Aside0.mk (Kd.C_below HC3.out hb)
 replace HO := Aside0.mk (Kd.C_below HO.out hb)
 replace Ha := Aside0.mk (Kd.C_below Ha.out hb)
 replace Hb := Aside0.mk (Kd.C_below Hb.out hb)
 replace Hc := Aside0.mk (Kd.C_below Hc.out hb)
 replace Hu := Aside0.mk (Kd.C_below Hu.out hb)
 replace Hp := Aside0.mk (Kd.C_below Hp.out hb)
 replace HT := Aside0.mk (blk_below HT.out hb)
 clear hw hx hb hgb u18
 refine (c30s Ap cp (some ⟨gb, 0, none⟩) 2 [418262508645, 438086664192] u19 Hp.out Lp.out LIT0.out (Nat.le_refl 2)).mono ?_
 rintro e u20 ⟨rfl, hb⟩
 clear Hp Lp LIT0
 replace HB := Aside0.mk (below_step HB.out hb)
 replace HC1 := Aside0.mk (Kd.C_below HC1.out hb)
 replace HC2 := Aside0.mk (Kd.C_below HC2.out hb)
 replace HC3 := Aside0.mk (Kd.C_below HC3.out hb)
 replace HO := Aside0.mk (Kd.C_below HO.out hb)
 replace Ha := Aside0.mk (Kd.C_below Ha.out hb)
 replace Hb := Aside0.mk (Kd.C_below Hb.out hb)
 replace Hc := Aside0.mk (Kd.C_below Hc.out hb)
 replace Hu := Aside0.mk (Kd.C_below Hu.out hb)
 replace HT := Aside0.mk (blk_below HT.out hb)
 clear hb u19
 go_wp2_with fail
 obtain ⟨u21, hw, hx, hb⟩ := blk_al u20 (.cells #[.int .i64 772, .int .i64 549755813891, .int .i64 2, .int .i64 418255994880] 3)
 rw [← hw]
 obtain ⟨gb, hgb⟩ : ∃ gb, gb = u20.heap.size := ⟨_, rfl⟩
 rw [← hgb] at hx ⊢
 have LIT0 := Aside0.mk (show (Kd.int .i64).C u21 (some ⟨gb, 0, none⟩) ([772, 549755813891, 2, 418255994880] : List Int).length [772, 549755813891, 2, 418255994880] from C_ints [772, 549755813891, 2, 418255994880] (by decide) hx rfl)
 replace HB := Aside0.mk (below_step HB.out hb)
 replace HC1 := Aside0.mk (Kd.C_below HC1.out hb)
 replace HC2 := Aside0.mk (Kd.C_below HC2.out hb)
 replace HC3 := Aside0.mk (Kd.C_below HC3.out hb)
 replace HO := Aside0.mk (Kd.C_below HO.out hb)
 replace Ha := Aside0.mk (Kd.C_below Ha.out hb)
 replace Hb := Aside0.mk (Kd.C_below Hb.out hb)
 replace Hc := Aside0.mk (Kd.C_below Hc.out hb)
 replace Hu := Aside0.mk (Kd.C_below Hu.out hb)
 replace HT := Aside0.mk (blk_below HT.out hb)
 clear hw hx hb hgb u20
 refine (c30s Aa ca (some ⟨gb, 0, none⟩) 4 [772, 549755813891, 2, 418255994880] u21 Ha.out La.out LIT0.out (Nat.le_refl 4)).mono ?_
 rintro e u22 ⟨rfl, hb⟩
 clear Ha La LIT0
 replace HB := Aside0.mk (below_step HB.out hb)
 replace HC1 := Aside0.mk (Kd.C_below HC1.out hb)
 replace HC2 := Aside0.mk (Kd.C_below HC2.out hb)
 replace HC3 := Aside0.mk (Kd.C_below HC3.out hb)
 replace HO := Aside0.mk (Kd.C_below HO.out hb)
 replace Hb := Aside0.mk (Kd.C_below Hb.out hb)
 replace Hc := Aside0.mk (Kd.C_below Hc.out hb)
 replace Hu := Aside0.mk (Kd.C_below Hu.out hb)
 replace HT := Aside0.mk (blk_below HT.out hb)
 clear hb u21
 go_wp2_with fail
 obtain ⟨u23, hw, hx, hb⟩ := blk_al u22 (.cells #[.int .i64 770, .int .i64 549755813887, .int .i64 1] 3)
 rw [← hw]
 obtain ⟨gb, hgb⟩ : ∃ gb, gb = u22.heap.size := ⟨_, rfl⟩
 rw [← hgb] at hx ⊢
 have LIT0 := Aside0.mk (show (Kd.int .i64).C u23 (some ⟨gb, 0, none⟩) ([770, 549755813887, 1] : List Int).length [770, 549755813887, 1] from C_ints [770, 549755813887, 1] (by decide) hx rfl)
 replace HB := Aside0.mk (below_step HB.out hb)
 replace HC1 := Aside0.mk (Kd.C_below HC1.out hb)
 replace HC2 := Aside0.mk (Kd.C_below HC2.out hb)
 replace HC3 := Aside0.mk (Kd.C_below HC3.out hb)
 replace HO := Aside0.mk (Kd.C_below HO.out hb)
 replace Hb := Aside0.mk (Kd.C_below Hb.out hb)
 replace Hc := Aside0.mk (Kd.C_below Hc.out hb)
 replace Hu := Aside0.mk (Kd.C_below Hu.out hb)
 replace HT := Aside0.mk (blk_below HT.out hb)
 clear hw hx hb hgb u22
 refine (c30s Ab cb (some ⟨gb, 0, none⟩) 3 [770, 549755813887, 1] u23 Hb.out Lb.out LIT0.out (Nat.le_refl 3)).mono ?_
 rintro e u24 ⟨rfl, hb⟩
 clear Hb Lb LIT0
 replace HB := Aside0.mk (below_step HB.out hb)
 replace HC1 := Aside0.mk (Kd.C_below HC1.out hb)
 replace HC2 := Aside0.mk (Kd.C_below HC2.out hb)
 replace HC3 := Aside0.mk (Kd.C_below HC3.out hb)
 replace HO := Aside0.mk (Kd.C_below HO.out hb)
 replace Hc := Aside0.mk (Kd.C_below Hc.out hb)
 replace Hu := Aside0.mk (Kd.C_below Hu.out hb)
 replace HT := Aside0.mk (blk_below HT.out hb)
 clear hb u23
 go_wp2_with fail
 obtain ⟨u25, hw, hx, hb⟩ := blk_al u24 (.cells #[.int .i64 1, .int .i64 5, .string ⟨#[]⟩, .int .i64 0, .int .i64 0, .string ⟨#[]⟩, .int .i64 0, .int .i64 0, .string ⟨#[]⟩] 40)
 rw [← hw]
 obtain ⟨gb, hgb⟩ : ∃ gb, gb = u24.heap.size := ⟨_, rfl⟩
 rw [← hgb] at hx ⊢
 have LIT0 := Aside0.mk (show Kd.C k40 u25 (some ⟨gb, 0, none⟩) ([⟨1, 5, ⟨#[]⟩⟩, ⟨0, 0, ⟨#[]⟩⟩, ⟨0, 0, ⟨#[]⟩⟩] : List S40).length [⟨1, 5, ⟨#[]⟩⟩, ⟨0, 0, ⟨#[]⟩⟩, ⟨0, 0, ⟨#[]⟩⟩] from C_vals [⟨1, 5, ⟨#[]⟩⟩, ⟨0, 0, ⟨#[]⟩⟩, ⟨0, 0, ⟨#[]⟩⟩] (by decide) hx rfl)
 replace HB := Aside0.mk (below_step HB.out hb)
 replace HC1 := Aside0.mk (Kd.C_below HC1.out hb)
 replace HC2 := Aside0.mk (Kd.C_below HC2.out hb)
 replace HC3 := Aside0.mk (Kd.C_below HC3.out hb)
 replace HO := Aside0.mk (Kd.C_below HO.out hb)
 replace Hc := Aside0.mk (Kd.C_below Hc.out hb)
 replace Hu := Aside0.mk (Kd.C_below Hu.out hb)
 replace HT := Aside0.mk (blk_below HT.out hb)
 clear hw hx hb hgb u24
 refine (c37s Ac cc (some ⟨gb, 0, none⟩) 3 [⟨1, 5, ⟨#[]⟩⟩, ⟨0, 0, ⟨#[]⟩⟩, ⟨0, 0, ⟨#[]⟩⟩] u25 Hc.out Lc.out LIT0.out (Nat.le_refl 3)).mono ?_
 rintro e u26 ⟨rfl, hb⟩
 clear Hc Lc LIT0
 replace HB := Aside0.mk (below_step HB.out hb)
 replace HC1 := Aside0.mk (Kd.C_below HC1.out hb)
 replace HC2 := Aside0.mk (Kd.C_below HC2.out hb)
 replace HC3 := Aside0.mk (Kd.C_below HC3.out hb)
 replace HO := Aside0.mk (Kd.C_below HO.out hb)
 replace Hu := Aside0.mk (Kd.C_below Hu.out hb)
 replace HT := Aside0.mk (blk_below HT.out hb)
 clear hb u25
 go_wp2_with fail
 refine (row_Diff.calls 60 (some ⟨g, 0, none⟩) 3 one21 Au cu _ [2] u26 HO.out (Nat.le_refl 3) Hu.out Lu.out diff_one).mono ?_
 rintro e u27 ⟨v, rfl, hR, hb⟩
 obtain ⟨Af, cf, rfl, hl, hC⟩ := Kd.R_reads hR
 clear Hu Lu
 replace HB := Aside0.mk (below_step HB.out hb)
 replace HC1 := Aside0.mk (Kd.C_below HC1.out hb)
 replace HC2 := Aside0.mk (Kd.C_below HC2.out hb)
 replace HC3 := Aside0.mk (Kd.C_below HC3.out hb)
 replace HO := Aside0.mk (Kd.C_below HO.out hb)
 replace HT := Aside0.mk (blk_below HT.out hb)
 have Hf := Aside0.mk hC
 have Lf := Aside0.mk hl
 clear hR hl hC hb u26
 go_wp2_with fail
 obtain ⟨u28, hw, hx, hb⟩ := blk_al u27 (.cells #[.int .i64 2] 3)
 rw [← hw]
 obtain ⟨gb, hgb⟩ : ∃ gb, gb = u27.heap.size := ⟨_, rfl⟩
 rw [← hgb] at hx ⊢
 have LIT0 := Aside0.mk (show (Kd.int .i64).C u28 (some ⟨gb, 0, none⟩) ([2] : List Int).length [2] from C_ints [2] (by decide) hx rfl)
 replace HB := Aside0.mk (below_step HB.out hb)
 replace HC1 := Aside0.mk (Kd.C_below HC1.out hb)
 replace HC2 := Aside0.mk (Kd.C_below HC2.out hb)
 replace HC3 := Aside0.mk (Kd.C_below HC3.out hb)
 replace HO := Aside0.mk (Kd.C_below HO.out hb)
 replace Hf := Aside0.mk (Kd.C_below Hf.out hb)
 replace HT := Aside0.mk (blk_below HT.out hb)
 clear hw hx hb hgb u27
 refine (c30s Af cf (some ⟨gb, 0, none⟩) 1 [2] u28 Hf.out Lf.out LIT0.out (Nat.le_refl 1)).mono ?_
 rintro e u29 ⟨rfl, hb⟩
 clear Hf Lf LIT0
 replace HB := Aside0.mk (below_step HB.out hb)
 replace HC1 := Aside0.mk (Kd.C_below HC1.out hb)
 replace HC2 := Aside0.mk (Kd.C_below HC2.out hb)
 replace HC3 := Aside0.mk (Kd.C_below HC3.out hb)
 replace HO := Aside0.mk (Kd.C_below HO.out hb)
 replace HT := Aside0.mk (blk_below HT.out hb)
 clear hb u28
 go_wp2_with fail
 refine (row_Size.calls 60 (some ⟨g, 0, none⟩) 3 one21 4 u29 HO.out (Nat.le_refl 3) size_one).mono ?_
 rintro e u30 ⟨rfl, hb⟩
 go_wp2_with fail
 go_ret
 exact ⟨rfl, below_step HB.out (hb)⟩
end Go.Proofs.Ytkopbaikmlajmaa.Q
