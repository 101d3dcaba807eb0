/- trimmed to what these claims' texts use -/
import Derived.Test.YtkopbaikmlajmaaRB
import Derived.Test.YtkopbaikmlajmaaDA
namespace Go.Proofs.Ytkopbaikmlajmaa.Q
open Go.RowKit Go.Proofs.YtkopbaikmlajmaaW.PrintWords Go.Proofs.YtkopbaikmlajmaaW.PrintLast Go.Proofs.YtkopbaikmlajmaaW.PrintMore
set_option linter.unusedVariables false
set_option linter.unusedSimpArgs false
theorem pack_all (l : List Int) (h : ∀ i : Nat, i < l.length → 0 ≤ rd l (i : Int) ∧ rd l (i : Int) < 16) : 0 ≤ packI l ∧ packI l < 16 ^ l.length := by
 have := pack_range l l.length (Nat.le_refl _) h
 rwa [List.take_length] at this
/-- The next word, less than a limit. -/
def takeW (lim : Int) : List Int → Option (Int × List Int)
 | [] => none
 | x :: l => if 0 ≤ x ∧ x < lim then some (x, l) else none
/-- The next string of n bytes. -/
def takeT (n : Nat) (l : List Int) : Option (ByteArray × List Int) := if unpE l (n : Int) = 0 then some (unpS l (n : Int), l.drop ((n + 4) / 5)) else none
/-- The next value of a kind. -/
def takeV (kind : Int) (l : List Int) : Option (S40 × List Int) :=
 if kind = 1 then (takeW 1099511627776 l).map fun p => (⟨1, p.1 - 549755813888, ⟨#[]⟩⟩, p.2)
 else if kind = 3 then (takeW 2 l).map fun p => (⟨3, p.1, ⟨#[]⟩⟩, p.2)
 else (takeW 41 l).bind fun p => (takeT p.1.toNat p.2).map fun q => (⟨kind, 0, q.1⟩, q.2)
/-- The next column. -/
def takeC (l : List Int) : Option (S56 × List Int) := (takeW 256 l).bind fun p => (takeT (p.1 / 8).toNat p.2).map fun q => (⟨q.1, p.1 % 4, decide (p.1 / 4 % 2 = 1)⟩, q.2)
/-- The lowest digits of a number, base 16. -/
def digits : Nat → Int → List Int
 | 0, _ => []
 | m + 1, c => c % 16 :: digits m (c / 16)
/-- The next index. -/
def takeX (l : List Int) : Option (S65 × List Int) := (takeW 1024 l).bind fun p => (takeW 1099511627776 p.2).bind fun c => (takeT (p.1 / 32).toNat c.2).bind fun q => if c.1 / 16 ^ (p.1 / 2 % 16).toNat = 0 then some (⟨q.1, digits (p.1 / 2 % 16).toNat c.1, decide (p.1 % 2 = 1)⟩, q.2) else none
/-- The next check. -/
def takeK (cs : List S56) (l : List Int) : Option (S42 × List Int) := (takeW 512 l).bind fun p => if (cs.length : Int) ≤ p.1 % 16 then none else (takeV (rd_T56 cs (p.1 % 16)).f1 p.2).map fun q => (⟨p.1 % 16, p.1 / 16, q.1⟩, q.2)
/-- The next n things. -/
def takeN {α : Type} (f : List Int → Option (α × List Int)) : Nat → List Int → Option (List α × List Int)
 | 0, l => some ([], l)
 | n + 1, l => (takeN f n l).bind fun p => (f p.2).map fun q => (p.1 ++ [q.1], q.2)
/-- The table whose words these are. -/
def parseE (l : List Int) : Option (ByteArray × List S56 × List S65 × List S42) :=
 (takeW 131072 l).bind fun h => (takeT (h.1 / 4096).toNat h.2).bind fun nm => (takeN takeC (h.1 % 16).toNat nm.2).bind fun cs => (takeN takeX (h.1 / 16 % 16).toNat cs.2).bind fun xs => (takeN (takeK cs.1) (h.1 / 256 % 16).toNat xs.2).bind fun ks =>
  if ks.2 = [] ∧ checkE nm.1 cs.1 xs.1 ks.1 = 0 then some (nm.1, cs.1, xs.1, ks.1) else none
theorem takeW_some {lim x : Int} {l m : List Int} (h : takeW lim l = some (x, m)) : l = x :: m ∧ 0 ≤ x ∧ x < lim := by
 cases l with
 | nil => cases h
 | cons y l =>
  simp only [takeW] at h
  split at h
  ·rename_i hc
   cases h
   exact ⟨rfl, hc⟩
  ·cases h
theorem takeW_cons {lim x : Int} (l : List Int) (h0 : 0 ≤ x) (h1 : x < lim) : takeW lim (x :: l) = some (x, l) := by
 simp only [takeW]
 rw [if_pos ⟨h0, h1⟩]
theorem takeT_some {n : Nat} {l m : List Int} {s : ByteArray} (h : takeT n l = some (s, m)) : l = textW s ++ m ∧ s.size = n := by
 unfold takeT at h
 split at h
 ·rename_i he
  obtain ⟨a, b⟩ := unp_words he
  cases h
  exact ⟨by rw [b, List.take_append_drop], a⟩
 ·cases h
theorem takeT_app (s : ByteArray) (m : List Int) : takeT s.size (textW s ++ m) = some (s, m) := by
 unfold takeT
 rw [if_pos (unpE_text s m), unpS_text, List.drop_left' (textW_length s)]
theorem takeV_some {kind : Int} {l m : List Int} {v : S40} (h : takeV kind l = some (v, m)) : l = valW v ++ m ∧ v.f0 = kind := by
 unfold takeV at h
 split at h
 ·rename_i h1
  cases hw : takeW 1099511627776 l with
  | none => rw [hw] at h; cases h
  | some p =>
   obtain ⟨x, q⟩ := p
   rw [hw] at h
   obtain ⟨a, _⟩ := takeW_some hw
   cases h
   refine ⟨?_, h1.symm⟩
   unfold valW
   rw [if_pos rfl, a, Int.sub_add_cancel]
   rfl
 ·rename_i h1
  split at h
  ·rename_i h3
   cases hw : takeW 2 l with
   | none => rw [hw] at h; cases h
   | some p =>
    obtain ⟨x, q⟩ := p
    rw [hw] at h
    obtain ⟨a, _⟩ := takeW_some hw
    cases h
    refine ⟨?_, h3.symm⟩
    unfold valW
    rw [if_neg (by simp), if_pos rfl, a]
    rfl
  ·rename_i h3
   cases hw : takeW 41 l with
   | none => rw [hw] at h; cases h
   | some p =>
    obtain ⟨x, q⟩ := p
    rw [hw, Option.bind_some] at h
    obtain ⟨a, b, _⟩ := takeW_some hw
    cases ht : takeT x.toNat q with
    | none => rw [ht] at h; cases h
    | some y =>
     obtain ⟨s, q2⟩ := y
     rw [ht] at h
     obtain ⟨c, d⟩ := takeT_some ht
     cases h
     refine ⟨?_, rfl⟩
     unfold valW
     rw [if_neg h1, if_neg h3, a, c]
     simp only [d, List.cons_append]
     congr 1
     omega
theorem takeV_app {v : S40} (h : validB v = true) (m : List Int) : takeV v.f0 (valW v ++ m) = some (v, m) := by
 obtain ⟨f0, f1, f2⟩ := v
 rcases validB_text h with ⟨a, b, c, d⟩ | ⟨a, b, d⟩ | ⟨a, b, c⟩
 ·simp only at a b c d
  subst a
  unfold takeV valW
  rw [if_pos rfl, if_pos rfl, List.singleton_append, takeW_cons _ (by simp only; omega) (by simp only; omega), Option.map_some]
  simp only [Int.add_sub_cancel, empty_str d]
 ·simp only at a b d
  subst a
  unfold takeV valW
  rw [if_neg (by simp), if_pos rfl, if_neg (by simp), if_pos rfl, List.singleton_append, takeW_cons _ (by simp only; omega) (by simp only; omega), Option.map_some]
  simp only [empty_str d]
 ·simp only at a b c
  subst a b
  unfold takeV valW
  rw [if_neg (by simp), if_neg (by simp), if_neg (by simp), if_neg (by simp), List.cons_append, takeW_cons _ (by simp only; omega) (by simp only; omega), Option.bind_some]
  simp only [Int.toNat_natCast, takeT_app, Option.map_some]
theorem trI_dec (x : Int) : trI (decide (x % 2 = 1)) = x % 2 := by
 unfold trI
 by_cases h : x % 2 = 1
 ·rw [if_pos (decide_eq_true h)]; omega
 ·rw [if_neg (by simpa using h)]; omega
theorem dec_trI (b : Bool) (x : Int) (h : x % 2 = trI b) : decide (x % 2 = 1) = b := by
 rw [h]
 cases b <;> rfl
theorem takeC_some {l m : List Int} {c : S56} (h : takeC l = some (c, m)) : l = colW c ++ m := by
 unfold takeC at h
 cases hw : takeW 256 l with
 | none => rw [hw] at h; cases h
 | some p =>
  obtain ⟨x, q⟩ := p
  rw [hw, Option.bind_some] at h
  obtain ⟨a, b, _⟩ := takeW_some hw
  cases ht : takeT (x / 8).toNat q with
  | none => simp only [ht] at h; cases h
  | some y =>
   obtain ⟨s, q2⟩ := y
   simp only [ht] at h
   obtain ⟨c, d⟩ := takeT_some ht
   cases h
   unfold colW
   simp only [trI_dec, a, c, d, List.cons_append]
   congr 1
   omega
theorem takeC_app {c : S56} (hn : c.f0.size ≤ 16) (hk : 1 ≤ c.f1 ∧ c.f1 ≤ 3) (m : List Int) : takeC (colW c ++ m) = some (c, m) := by
 obtain ⟨f0, f1, f2⟩ := c
 simp only at hn hk
 have ht := trI_range f2
 unfold takeC colW
 simp only [List.cons_append]
 rw [takeW_cons _ (by omega) (by omega), Option.bind_some]
 simp only
 rw [show ((f1 + 4 * trI f2 + 8 * (f0.size : Int)) / 8).toNat = f0.size by omega, takeT_app, Option.map_some, show (f1 + 4 * trI f2 + 8 * (f0.size : Int)) % 4 = f1 by omega, dec_trI f2 _ (by omega)]
theorem digits_length : ∀ (m : Nat) (c : Int), (digits m c).length = m
 | 0, _ => rfl
 | m + 1, c => by rw [digits, List.length_cons, digits_length m]
theorem pack_digits : ∀ (m : Nat) (c : Int), c / 16 ^ m = 0 → packI (digits m c) = c
 | 0, c, h => by
  rw [Int.pow_zero, Int.ediv_one] at h
  rw [h]
  rfl
 | m + 1, c, h => by
  rw [digits, packI, pack_digits m (c / 16) (by rw [Int.ediv_ediv_of_nonneg (by decide), ← Int.pow_succ']; exact h)]
  omega
theorem digits_pack : ∀ (l : List Int), (∀ x, x ∈ l → 0 ≤ x ∧ x < 16) → digits l.length (packI l) = l ∧ packI l / 16 ^ l.length = 0
 | [], _ => ⟨rfl, rfl⟩
 | c :: l, h => by
  have ih := digits_pack l (fun x hx => h x (List.mem_cons_of_mem _ hx))
  have hc := h c (List.mem_cons_self)
  have e1 : (packI l * 16 + c) % 16 = c := by omega
  have e2 : (packI l * 16 + c) / 16 = packI l := by omega
  rw [List.length_cons, digits, packI, e1, e2, ih.1, Int.pow_succ', ← Int.ediv_ediv_of_nonneg (by decide), e2, ih.2]
  exact ⟨rfl, rfl⟩
theorem takeX_some {l m : List Int} {x : S65} (h : takeX l = some (x, m)) : l = idxW x ++ m := by
 unfold takeX at h
 cases hw : takeW 1024 l with
 | none => rw [hw] at h; cases h
 | some p =>
  obtain ⟨u, q⟩ := p
  rw [hw, Option.bind_some] at h
  obtain ⟨a, b, _⟩ := takeW_some hw
  cases hv : takeW 1099511627776 q with
  | none => simp only [hv] at h; cases h
  | some y =>
   obtain ⟨c, q2⟩ := y
   simp only [hv, Option.bind_some] at h
   obtain ⟨a2, b2, _⟩ := takeW_some hv
   cases ht : takeT (u / 32).toNat q2 with
   | none => simp only [ht] at h; cases h
   | some z =>
    obtain ⟨s, q3⟩ := z
    simp only [ht, Option.bind_some] at h
    obtain ⟨d, e⟩ := takeT_some ht
    split at h
    ·rename_i hz
     cases h
     unfold idxW
     simp only [trI_dec, pack_digits _ _ hz, digits_length, a, a2, d, e, List.cons_append]
     congr 1
     omega
    ·cases h
theorem takeX_app {x : S65} (hn : x.f0.size ≤ 16) (hl : x.f1.length ≤ 8) (hx : ∀ y, y ∈ x.f1 → 0 ≤ y ∧ y < 16) (m : List Int) : takeX (idxW x ++ m) = some (x, m) := by
 obtain ⟨f0, f1, f2⟩ := x
 simp only at hn hl hx
 have ht := trI_range f2
 obtain ⟨d1, d2⟩ := digits_pack f1 hx
 have hp := pack_all f1 (fun i hi => hx _ (by
  unfold rd
  rw [Int.toNat_natCast, List.getD_eq_getElem?_getD, List.getElem?_eq_getElem hi]
  exact List.getElem_mem hi))
 have h8 : (16 : Int) ^ f1.length ≤ 16 ^ 8 := by
  have : (16 : Nat) ^ f1.length ≤ 16 ^ 8 := Nat.pow_le_pow_right (by decide) hl
  have e := Int.ofNat_le.2 this
  rw [Int.natCast_pow, Int.natCast_pow] at e
  exact e
 unfold takeX idxW
 simp only [List.cons_append]
 rw [takeW_cons _ (by omega) (by omega), Option.bind_some]
 simp only
 rw [takeW_cons _ hp.1 (by omega), Option.bind_some]
 simp only
 rw [show ((trI f2 + 2 * (f1.length : Int) + 32 * (f0.size : Int)) / 32).toNat = f0.size by omega, takeT_app, Option.bind_some, show ((trI f2 + 2 * (f1.length : Int) + 32 * (f0.size : Int)) / 2 % 16).toNat = f1.length by omega]
 simp only
 rw [if_pos d2, d1, dec_trI f2 _ (by omega)]
theorem takeK_some {cs : List S56} {l m : List Int} {k : S42} (h : takeK cs l = some (k, m)) : l = chkW k ++ m := by
 unfold takeK at h
 cases hw : takeW 512 l with
 | none => rw [hw] at h; cases h
 | some p =>
  obtain ⟨u, q⟩ := p
  rw [hw, Option.bind_some] at h
  obtain ⟨a, b, _⟩ := takeW_some hw
  split at h
  ·cases h
  ·cases hv : takeV (rd_T56 cs (u % 16)).f1 q with
   | none => simp only [hv] at h; cases h
   | some y =>
    obtain ⟨v, q2⟩ := y
    simp only [hv] at h
    obtain ⟨c, _⟩ := takeV_some hv
    cases h
    unfold chkW
    simp only [a, c, List.cons_append]
    congr 1
    omega
theorem takeK_app {cs : List S56} {k : S42} (hc : 0 ≤ k.f0 ∧ k.f0 < cs.length) (h8 : cs.length ≤ 8) (ho : 6 ≤ k.f1 ∧ k.f1 ≤ 11) (hv : validB k.f2 = true) (hk : k.f2.f0 = (rd_T56 cs k.f0).f1) (m : List Int) : takeK cs (chkW k ++ m) = some (k, m) := by
 obtain ⟨f0, f1, f2⟩ := k
 simp only at hc ho hv hk
 unfold takeK chkW
 simp only [List.cons_append]
 rw [takeW_cons _ (by omega) (by omega), Option.bind_some]
 simp only
 rw [show (f0 + 16 * f1) % 16 = f0 by omega, show (f0 + 16 * f1) / 16 = f1 by omega, if_neg (by omega), ← hk, takeV_app hv, Option.map_some]
theorem takeN_some {α : Type} {f : List Int → Option (α × List Int)} {g : α → List Int} (hf : ∀ l m x, f l = some (x, m) → l = g x ++ m) : ∀ (n : Nat) (l m : List Int) (xs : List α), takeN f n l = some (xs, m) → l = xs.flatMap g ++ m ∧ xs.length = n
 | 0, l, m, xs, h => by cases h; exact ⟨rfl, rfl⟩
 | n + 1, l, m, xs, h => by
  unfold takeN at h
  cases hn : takeN f n l with
  | none => rw [hn] at h; cases h
  | some p =>
   obtain ⟨ys, q⟩ := p
   rw [hn, Option.bind_some] at h
   obtain ⟨a, b⟩ := takeN_some hf n l q ys hn
   cases hx : f q with
   | none => simp only [hx] at h; cases h
   | some y =>
    obtain ⟨x, q2⟩ := y
    simp only [hx] at h
    have := hf _ _ _ hx
    cases h
    refine ⟨?_, by rw [List.length_append, b]; rfl⟩
    rw [a, this, List.flatMap_append, List.flatMap_singleton, List.append_assoc]
theorem takeN_app {α : Type} {f : List Int → Option (α × List Int)} {g : α → List Int} (xs : List α) (m : List Int) (hf : ∀ x, x ∈ xs → ∀ m, f (g x ++ m) = some (x, m)) : ∀ k, k ≤ xs.length → takeN f k (xs.flatMap g ++ m) = some (xs.take k, (xs.drop k).flatMap g ++ m)
 | 0, _ => rfl
 | k + 1, hk => by
  unfold takeN
  rw [takeN_app xs m hf k (by omega), Option.bind_some]
  simp only
  rw [List.drop_eq_getElem_cons (show k < xs.length by omega), List.flatMap_cons, List.append_assoc, hf _ (List.getElem_mem _), Option.map_some, List.take_add_one, List.getElem?_eq_getElem (show k < xs.length by omega)]
  rfl
theorem takeN_all {α : Type} {f : List Int → Option (α × List Int)} {g : α → List Int} (xs : List α) (m : List Int) (hf : ∀ x, x ∈ xs → ∀ m, f (g x ++ m) = some (x, m)) : takeN f xs.length (xs.flatMap g ++ m) = some (xs, m) := by
 rw [takeN_app xs m hf xs.length (Nat.le_refl _), List.take_length, List.drop_length]
 rfl
/-- What is read is valid, and its words are those that were read. -/
theorem parse_sound {l : List Int} {nm : ByteArray} {cs : List S56} {xs : List S65} {ks : List S42} (h : parseE l = some (nm, cs, xs, ks)) : checkE nm cs xs ks = 0 ∧ wordsL nm cs xs ks = l := by
 unfold parseE at h
 cases h1 : takeW 131072 l with
 | none => rw [h1] at h; cases h
 | some p =>
  obtain ⟨u, q⟩ := p
  rw [h1, Option.bind_some] at h
  obtain ⟨a1, b1, c1⟩ := takeW_some h1
  cases h2 : takeT (u / 4096).toNat q with
  | none => simp only [h2] at h; cases h
  | some p2 =>
   obtain ⟨s, q2⟩ := p2
   simp only [h2, Option.bind_some] at h
   obtain ⟨a2, b2⟩ := takeT_some h2
   cases h3 : takeN takeC (u % 16).toNat q2 with
   | none => simp only [h3] at h; cases h
   | some p3 =>
    obtain ⟨s3, q3⟩ := p3
    simp only [h3, Option.bind_some] at h
    obtain ⟨a3, b3⟩ := takeN_some (g := colW) (fun l m x => takeC_some) _ _ _ _ h3
    cases h4 : takeN takeX (u / 16 % 16).toNat q3 with
    | none => simp only [h4] at h; cases h
    | some p4 =>
     obtain ⟨s4, q4⟩ := p4
     simp only [h4, Option.bind_some] at h
     obtain ⟨a4, b4⟩ := takeN_some (g := idxW) (fun l m x => takeX_some) _ _ _ _ h4
     cases h5 : takeN (takeK s3) (u / 256 % 16).toNat q4 with
     | none => simp only [h5] at h; cases h
     | some p5 =>
      obtain ⟨s5, q5⟩ := p5
      simp only [h5, Option.bind_some] at h
      obtain ⟨a5, b5⟩ := takeN_some (g := chkW) (fun l m x => takeK_some) _ _ _ _ h5
      split at h
      ·rename_i hc
       cases h
       refine ⟨hc.2, ?_⟩
       have := hc.1
       subst this
       unfold wordsL headW
       rw [a1, a2, a3, a4, a5, b2, b3, b4, b5]
       simp only [List.cons_append, List.append_assoc, List.append_nil]
       congr 1
       omega
      ·cases h
theorem rd56_mem {cs : List S56} {c : S56} (h : c ∈ cs) : ∃ i : Nat, i < cs.length ∧ rd_T56 cs (i : Int) = c := by
 obtain ⟨i, hi, rfl⟩ := List.getElem_of_mem h
 exact ⟨i, hi, by unfold rd_T56; rw [Int.toNat_natCast, List.getD_eq_getElem?_getD, List.getElem?_eq_getElem hi]; rfl⟩
theorem rd65_mem {cs : List S65} {c : S65} (h : c ∈ cs) : ∃ i : Nat, i < cs.length ∧ rd_T65 cs (i : Int) = c := by
 obtain ⟨i, hi, rfl⟩ := List.getElem_of_mem h
 exact ⟨i, hi, by unfold rd_T65; rw [Int.toNat_natCast, List.getD_eq_getElem?_getD, List.getElem?_eq_getElem hi]; rfl⟩
theorem rd42_mem {cs : List S42} {c : S42} (h : c ∈ cs) : ∃ i : Nat, i < cs.length ∧ rd_T42 cs (i : Int) = c := by
 obtain ⟨i, hi, rfl⟩ := List.getElem_of_mem h
 exact ⟨i, hi, by unfold rd_T42; rw [Int.toNat_natCast, List.getD_eq_getElem?_getD, List.getElem?_eq_getElem hi]; rfl⟩
theorem rdI_mem {cs : List Int} {c : Int} (h : c ∈ cs) : ∃ i : Nat, i < cs.length ∧ rd cs (i : Int) = c := by
 obtain ⟨i, hi, rfl⟩ := List.getElem_of_mem h
 exact ⟨i, hi, by unfold rd; rw [Int.toNat_natCast, List.getD_eq_getElem?_getD, List.getElem?_eq_getElem hi]; rfl⟩
theorem OkT.place {nm : ByteArray} {cs : List S56} {xs : List S65} {ks : List S42} (T : OkT nm cs xs ks) {i : Nat} (hi : i < xs.length) : ∀ y, y ∈ (rd_T65 xs (i : Int)).f1 → 0 ≤ y ∧ y < 16 := by
 intro y hy
 obtain ⟨j, hj, rfl⟩ := rdI_mem hy
 have h := (T.idx i hi).2.2.2.2 j hj
 have n8 := T.nc
 unfold badP at h
 simp only [Bool.or_eq_false_iff, decide_eq_false_iff_not] at h
 omega
/-- The words of a valid table are read. -/
theorem parse_words {nm : ByteArray} {cs : List S56} {xs : List S65} {ks : List S42} (h : checkE nm cs xs ks = 0) : parseE (wordsL nm cs xs ks) = some (nm, cs, xs, ks) := by
 have T := okT h
 have n0 := nameB_size T.name
 have nc := T.nc
 have nx := T.nx
 have nk := T.nk
 have e : wordsL nm cs xs ks = ((cs.length : Int) + 16 * xs.length + 256 * ks.length + 4096 * nm.size) :: (textW nm ++ (cs.flatMap colW ++ (xs.flatMap idxW ++ (ks.flatMap chkW ++ [])))) := by
  unfold wordsL headW
  simp only [List.cons_append, List.append_assoc, List.append_nil]
 unfold parseE
 rw [e, takeW_cons _ (by omega) (by omega), Option.bind_some]
 simp only
 rw [show (((cs.length : Int) + 16 * xs.length + 256 * ks.length + 4096 * nm.size) / 4096).toNat = nm.size by omega, show (((cs.length : Int) + 16 * xs.length + 256 * ks.length + 4096 * nm.size) % 16).toNat = cs.length by omega, show (((cs.length : Int) + 16 * xs.length + 256 * ks.length + 4096 * nm.size) / 16 % 16).toNat = xs.length by omega, show (((cs.length : Int) + 16 * xs.length + 256 * ks.length + 4096 * nm.size) / 256 % 16).toNat = ks.length by omega, takeT_app, Option.bind_some]
 simp only
 rw [takeN_all cs _ (fun c hc m => by
  obtain ⟨i, hi, rfl⟩ := rd56_mem hc
  have t := T.col i hi
  exact takeC_app (by have := nameB_size t.1; omega) t.2.2 m), Option.bind_some]
 simp only
 rw [takeN_all xs _ (fun x hx m => by
  obtain ⟨i, hi, rfl⟩ := rd65_mem hx
  have t := T.idx i hi
  exact takeX_app (by have := nameB_size t.1; omega) (by omega) (T.place hi) m), Option.bind_some]
 simp only
 rw [takeN_all ks _ (fun k hk m => by
  obtain ⟨i, hi, rfl⟩ := rd42_mem hk
  have t := T.chk i hi
  exact takeK_app ⟨t.1, t.2.1⟩ nc.2 ⟨t.2.2.1, t.2.2.2.1⟩ t.2.2.2.2.1 t.2.2.2.2.2 m), Option.bind_some]
 simp only
 rw [if_pos ⟨trivial, h⟩]
theorem textW_range (s : ByteArray) : ∀ x, x ∈ textW s → 0 ≤ x ∧ x ≤ 1099511627775 := by
 intro x hx
 obtain ⟨j, _, rfl⟩ := List.mem_map.1 hx
 exact chunk_word s j
theorem valW_range {v : S40} (h : validB v = true) : ∀ x, x ∈ valW v → 0 ≤ x ∧ x ≤ 1099511627775 := by
 intro x hx
 unfold valW at hx
 rcases validB_text h with ⟨a, b, c, _⟩ | ⟨a, b, _⟩ | ⟨a, b, c⟩
 ·rw [if_pos a] at hx
  obtain rfl := List.mem_singleton.1 hx
  omega
 ·rw [if_neg (by omega), if_pos a] at hx
  obtain rfl := List.mem_singleton.1 hx
  omega
 ·rw [if_neg (by omega), if_neg (by omega)] at hx
  rcases List.mem_cons.1 hx with rfl | hx
  ·omega
  ·exact textW_range _ x hx
/-- The words of a valid table are words, and not many. -/
theorem words_range {nm : ByteArray} {cs : List S56} {xs : List S65} {ks : List S42} (h : checkE nm cs xs ks = 0) : (wordsL nm cs xs ks).length ≤ 127 ∧ ∀ x, x ∈ wordsL nm cs xs ks → 0 ≤ x ∧ x ≤ 1099511627775 := by
 have T := okT h
 have n0 := nameB_size T.name
 have nc := T.nc
 have nx := T.nx
 have nk := T.nk
 have l1 := T.lenC cs.length (Nat.le_refl _)
 have l2 := T.lenX xs.length (Nat.le_refl _)
 have l3 := T.lenK ks.length (Nat.le_refl _)
 rw [List.take_length] at l1 l2 l3
 refine ⟨by unfold wordsL; rw [List.length_append, List.length_append, List.length_append]; have := T.lenH; omega, ?_⟩
 intro x hx
 unfold wordsL at hx
 rcases List.mem_append.1 hx with hx | hx
 ·rcases List.mem_append.1 hx with hx | hx
  ·rcases List.mem_append.1 hx with hx | hx
   ·unfold headW at hx
    rcases List.mem_cons.1 hx with rfl | hx
    ·omega
    ·exact textW_range _ x hx
   ·obtain ⟨c, hc, hx⟩ := List.mem_flatMap.1 hx
    obtain ⟨i, hi, rfl⟩ := rd56_mem hc
    have t := T.col i hi
    have := nameB_size t.1
    have := trI_range (rd_T56 cs (i : Int)).f2
    unfold colW at hx
    rcases List.mem_cons.1 hx with rfl | hx
    ·omega
    ·exact textW_range _ x hx
  ·obtain ⟨c, hc, hx⟩ := List.mem_flatMap.1 hx
   obtain ⟨i, hi, rfl⟩ := rd65_mem hc
   have t := T.idx i hi
   have := nameB_size t.1
   have := trI_range (rd_T65 xs (i : Int)).f2
   unfold idxW at hx
   rcases List.mem_cons.1 hx with rfl | hx
   ·omega
   rcases List.mem_cons.1 hx with rfl | hx
   ·have hp := pack_all (rd_T65 xs (i : Int)).f1 (fun j hj => T.place hi _ (by
     unfold rd
     rw [Int.toNat_natCast, List.getD_eq_getElem?_getD, List.getElem?_eq_getElem hj]
     exact List.getElem_mem hj))
    have h8 : (16 : Int) ^ (rd_T65 xs (i : Int)).f1.length ≤ 16 ^ 8 := by
     have : (16 : Nat) ^ (rd_T65 xs (i : Int)).f1.length ≤ 16 ^ 8 := Nat.pow_le_pow_right (by decide) (by omega)
     have e := Int.ofNat_le.2 this
     rw [Int.natCast_pow, Int.natCast_pow] at e
     exact e
    omega
   ·exact textW_range _ x hx
 ·obtain ⟨c, hc, hx⟩ := List.mem_flatMap.1 hx
  obtain ⟨i, hi, rfl⟩ := rd42_mem hc
  have t := T.chk i hi
  unfold chkW at hx
  rcases List.mem_cons.1 hx with rfl | hx
  ·omega
  ·exact valW_range t.2.2.2.2.1 x hx
end Go.Proofs.Ytkopbaikmlajmaa.Q
