import Derived.Test.YtkopbaikmlajmaaZ
import Derived.Test.YtkopbaikmlajmaaF68
import Derived.Test.YtkopbaikmlajmaaHA
namespace Go.Proofs.Ytkopbaikmlajmaa.Q
open Go.RowKit Go.Proofs.YtkopbaikmlajmaaW.PrintWords Go.Proofs.YtkopbaikmlajmaaW.PrintLast Go.Proofs.YtkopbaikmlajmaaW.PrintMore
set_option linter.unusedVariables false
set_option linter.unusedSimpArgs false

theorem Z100 {P : Prop} (h : P := by omega) : P := h
theorem Z129 {P : Prop} (h : P := by rw [HO.out]; simp [okc]; omega) : P := h
theorem Z127 {P : Prop} (h : P := by rw [all_false _ _ k hlt ho.out]; rfl) : P := h
def resv : List (List UInt8) := [[97, 100, 100], [97, 110, 100], [97, 115], [97, 115, 99], [98, 101, 103, 105, 110], [98, 111, 111, 108], [98, 121], [99, 104, 101, 99, 107], [99, 111, 108, 117, 109, 110], [99, 111, 109, 109, 105, 116], [99, 111, 117, 110, 116], [99, 114, 101, 97, 116, 101], [100, 101, 108, 101, 116, 101], [100, 101, 115, 99], [100, 105, 115, 116, 105, 110, 99, 116], [100, 114, 111, 112], [102, 97, 108, 115, 101], [102, 114, 111, 109], [103, 114, 111, 117, 112], [105, 110, 100, 101, 120], [105, 110, 115, 101, 114, 116], [105, 110, 116], [105, 110, 116, 111], [105, 115], [106, 111, 105, 110], [107, 101, 121], [108, 105, 109, 105, 116], [109, 97, 120], [109, 105, 110], [110, 111, 116], [110, 117, 108, 108], [111, 110], [111, 110, 108, 121], [111, 114], [111, 114, 100, 101, 114], [114, 101, 97, 100], [114, 101, 108, 101, 97, 115, 101], [114, 111, 108, 108, 98, 97, 99, 107], [115, 97, 118, 101, 112, 111, 105, 110, 116], [115, 101, 108, 101, 99, 116], [115, 101, 114, 105, 97, 108, 105, 122, 97, 98, 108, 101], [115, 101, 116], [115, 117, 109], [116, 97, 98, 108, 101], [116, 101, 120, 116], [116, 111], [116, 114, 117, 101], [117, 110, 105, 113, 117, 101], [117, 112, 100, 97, 116, 101], [118, 97, 108, 117, 101, 115], [119, 104, 101, 114, 101]]
set_option maxRecDepth 100000 in
theorem reserved_eq (s : ByteArray) : schema_reserved.f 2 s = some (resv.contains s.toList) := by
 simp only [schema_reserved.f, schema_reserved.j0, schema_reserved.j1]
 generalize s.toList = l
 by_cases h : l ∈ resv
 ·rw [List.contains_iff_mem.2 h]
  simp only [resv, List.mem_cons, List.not_mem_nil, or_false] at h
  rcases h with rfl | rfl | rfl | rfl | rfl | rfl | rfl | rfl | rfl | rfl | rfl | rfl | rfl | rfl | rfl | rfl | rfl | rfl | rfl | rfl | rfl | rfl | rfl | rfl | rfl | rfl | rfl | rfl | rfl | rfl | rfl | rfl | rfl | rfl | rfl | rfl | rfl | rfl | rfl | rfl | rfl | rfl | rfl | rfl | rfl | rfl | rfl | rfl | rfl | rfl | rfl <;> rfl
 have h' : resv.contains l = false := by simpa using h
 rw [h']
 simp only [resv, List.mem_cons, List.not_mem_nil, or_false, not_or] at h
 obtain ⟨h0, h1, h2, h3, h4, h5, h6, h7, h8, h9, h10, h11, h12, h13, h14, h15, h16, h17, h18, h19, h20, h21, h22, h23, h24, h25, h26, h27, h28, h29, h30, h31, h32, h33, h34, h35, h36, h37, h38, h39, h40, h41, h42, h43, h44, h45, h46, h47, h48, h49, h50⟩ := h
 have b17 : (l == [102, 114, 111, 109]) = false := beq_eq_false_iff_ne.2 h17
 have b37 : (l == [114, 111, 108, 108, 98, 97, 99, 107]) = false := beq_eq_false_iff_ne.2 h37
 simp only [h0, h1, h2, h3, h4, h5, h6, h7, h8, h9, h10, h11, h12, h13, h14, h15, h16, h17, h18, h19, h20, h21, h22, h23, h24, h25, h26, h27, h28, h29, h30, h31, h32, h33, h34, h35, h36, h37, h38, h39, h40, h41, h42, h43, h44, h45, h46, h47, h48, h49, h50, b17, b37, if_neg, Bool.false_eq_true, if_false, not_false_eq_true]

def okc (c : Int) : Bool := decide (97 ≤ c ∧ c ≤ 122) || decide (48 ≤ c ∧ c ≤ 57) || decide (c = 95)
def nameB (s : ByteArray) : Bool := decide (1 ≤ s.size) && decide (s.size ≤ 16) && !resv.contains s.toList && decide (97 ≤ bt s 0) && (List.range s.size).all (fun j => okc (bt s j))

theorem toList_length (s : ByteArray) : s.toList.length = s.size := by rw [ByteArray.toList_eq]; rfl
theorem toList_ne (s : ByteArray) (h1 : 1 ≤ s.size) : (s.toList == ([] : List UInt8)) = false := by
 rw [beq_eq_false_iff_ne]
 intro h
 have := congrArg List.length h
 rw [toList_length, List.length_nil] at this
 omega
theorem all_false (n : Nat) (p : Nat → Bool) (k : Nat) (hk : k < n) (h : p k = false) : (List.range n).all p = false := by
 rw [List.all_eq_false]
 exact ⟨k, List.mem_range.2 hk, by simp [h]⟩
theorem all_true (n : Nat) (p : Nat → Bool) (h : ∀ k, k < n → p k = true) : (List.range n).all p = true := by
 rw [List.all_eq_true]
 exact fun k hk => h k (List.mem_range.1 hk)
theorem bytes_below (s : ByteArray) (w : World) : Below w.heap.size w (Lib.bytesWorld w 5 s) := ⟨rfl, rfl, rfl, by rw [Lib.bytesWorld_size]; omega, fun k hk => Lib.bytesWorld_at_old w 5 s k hk⟩
theorem bytes_cell (s : ByteArray) (w : World) (k : Nat) (hk : k < s.size) : (Lib.bytesWorld w 5 s).cell? ⟨w.heap.size, k, none⟩ = some (.int .u8 (bt s k)) := by
 rw [Lib.bytesWorld_cell w 5 s k hk, ← bt_at s k (by simpa using hk)]
 simp [List.getD_eq_getElem?_getD, hk]
 rfl
set_option maxHeartbeats 800000 in
set_option maxRecDepth 100000 in
theorem schema_Name_loop (s : ByteArray) (w : World) (h1 : 1 ≤ s.size) (h2 : s.size ≤ 16) (h3 : resv.contains s.toList = false) (h4 : 97 ≤ bt s 0) :
  Calls Try.prog 23 #[.string s] w fun e w' => e = .returned (.bool ((List.range s.size).all (fun j => okc (bt s j)))) ∧ Below w.heap.size w w' := by
 have e1 : (s.toList == ([] : List UInt8)) = false := toList_ne s h1
 have hconv := fun wx => Lib.run_convert_string_bytes (P := Try.prog) wx 9 81 5 s Try.underlying9 Try.underlying81 Try.underlying5
 have hb0 : ∀ h : 0 < s.size, ((s[0]'h).toNat : Int) = bt s 0 := bt_at s 0
 have d1 : decide ((16 : Int) < (s.size : Int)) = false := decide_eq_false (by omega)
 have d2 : decide (bt s 0 < 97) = false := decide_eq_false (by omega)
 have R := Aside0.mk (reserved_eq s)
 have H3 := Aside0.mk h3
 clear h3 h4
 go_enter Try.func23, Try.ntmps23
 go_wp2_with (go_at_call 68; refine (schema_reserved.calls 2 s false _ (by rw [R.out, H3.out])).mono ?_; rintro e w' ⟨rfl, ⟨nd, rfl⟩⟩)
 have HB : Aside0 (Below w.heap.size w (Lib.bytesWorld (w.drewN nd) 5 s)) := ⟨below_step (pw_below_drewN (Below.refl _ _) nd) (bytes_below s (w.drewN nd))⟩
 have hcell : ∀ k : Nat, k < s.size → (Lib.bytesWorld (w.drewN nd) 5 s).cell? ⟨w.heap.size, k, none⟩ = some (.int .u8 (bt s k)) := fun k hk => bytes_cell s (w.drewN nd) k hk
 clear hconv e1 hb0 d1 d2
 generalize Lib.bytesWorld (w.drewN nd) 5 s = wb at *
 go_loop [24] (fun v => ∃ k : Nat, k ≤ s.size ∧ v = .int .i64 k ∧ Aside0 (∀ j : Nat, j < k → okc (bt s j) = true)) (fun v => s.size - (intOf v).toNat)
 case atStart => exact ⟨0, Nat.zero_le _, rfl, ⟨fun j hj => by omega⟩⟩
 case round =>
  obtain ⟨k, hk, rfl, HA⟩ := hrel
  by_cases hlt : k < s.size
  ·have hc := hcell k hlt
   have hr := bt_range s k
   obtain ⟨c, hce⟩ : ∃ c, c = bt s k := ⟨_, rfl⟩
   rw [← hce] at hc hr
   have HO : Aside0 (okc (bt s k) = okc c) := ⟨by rw [hce]⟩
   clear hce
   clear hcell
   rcases (Z100 : (97 ≤ c ∧ c ≤ 122) ∨ (48 ≤ c ∧ c ≤ 57) ∨ c = 95 ∨ c < 48 ∨ (57 < c ∧ c < 95) ∨ c = 96 ∨ 122 < c) with g | g | rfl | g | g | rfl | g
   ·have hn : (c != 95) = true := bne_iff_ne.2 (by omega)
    have ho : Aside0 (okc (bt s k) = true) := ⟨Z129⟩
    clear HO
    go_wp2_with fail
    go_round
    case rel => exact ⟨k + 1, by omega, by go_num, ⟨fun j hj => (Nat.lt_succ_iff_lt_or_eq.1 hj).elim (HA.out j) (fun e => e ▸ ho.out)⟩⟩
    case measure => simp [intOf]; omega
   ·have hn : (c != 95) = true := bne_iff_ne.2 (by omega)
    have ho : Aside0 (okc (bt s k) = true) := ⟨Z129⟩
    clear HO
    go_wp2_with fail
    go_round
    case rel => exact ⟨k + 1, by omega, by go_num, ⟨fun j hj => (Nat.lt_succ_iff_lt_or_eq.1 hj).elim (HA.out j) (fun e => e ▸ ho.out)⟩⟩
    case measure => simp [intOf]; omega
   ·have ho : Aside0 (okc (bt s k) = true) := ⟨by rw [HO.out]; rfl⟩
    clear HO
    go_wp2_with fail
    go_round
    case rel => exact ⟨k + 1, by omega, by go_num, ⟨fun j hj => (Nat.lt_succ_iff_lt_or_eq.1 hj).elim (HA.out j) (fun e => e ▸ ho.out)⟩⟩
    case measure => simp [intOf]; omega
   ·have hn : (c != 95) = true := bne_iff_ne.2 (by omega)
    have ho : Aside0 (okc (bt s k) = false) := ⟨Z129⟩
    clear HO
    go_wp2_with fail
    go_ret
    exact ⟨Z127, HB.out⟩
   ·have hn : (c != 95) = true := bne_iff_ne.2 (by omega)
    have ho : Aside0 (okc (bt s k) = false) := ⟨Z129⟩
    clear HO
    go_wp2_with fail
    go_ret
    exact ⟨Z127, HB.out⟩
   ·have ho : Aside0 (okc (bt s k) = false) := ⟨by rw [HO.out]; rfl⟩
    clear HO
    go_wp2_with fail
    go_ret
    exact ⟨Z127, HB.out⟩
   have hn : (c != 95) = true := bne_iff_ne.2 (by omega)
   have ho : Aside0 (okc (bt s k) = false) := ⟨Z129⟩
   clear HO
   go_wp2_with fail
   go_ret
   exact ⟨Z127, HB.out⟩
  obtain rfl : k = s.size := by omega
  clear hcell
  go_wp2_with fail
  go_ret
  exact ⟨by rw [all_true _ _ (fun j hj => HA.out j hj)]; rfl, HB.out⟩

set_option maxHeartbeats 800000 in
set_option maxRecDepth 100000 in
theorem c23 (s : ByteArray) (w : World) : Calls Try.prog 23 #[.string s] w fun e w' => e = .returned (.bool (nameB s)) ∧ Below w.heap.size w w' := by
 by_cases g1 : 1 ≤ s.size
 ·have e1 : (s.toList == ([] : List UInt8)) = false := toList_ne s g1
  have hb0 : ∀ h : 0 < s.size, ((s[0]'h).toNat : Int) = bt s 0 := bt_at s 0
  by_cases g2 : s.size ≤ 16
  rotate_left
  ·have d1 : decide ((16 : Int) < (s.size : Int)) = true := decide_eq_true (by omega)
   have HN : Aside0 (nameB s = false) := ⟨by unfold nameB; rw [decide_eq_false g2]; simp⟩
   go_enter Try.func23, Try.ntmps23
   go_wp2_with fail
   go_ret
   exact ⟨by rw [HN.out]; rfl, Below.refl _ _⟩
  have d1 : decide ((16 : Int) < (s.size : Int)) = false := decide_eq_false (by omega)
  cases g3 : resv.contains s.toList with
  | true =>
   have R := Aside0.mk ((reserved_eq s).trans (by rw [g3]))
   have HN : Aside0 (nameB s = false) := ⟨by unfold nameB; rw [g3]; simp⟩
   clear g3
   go_enter Try.func23, Try.ntmps23
   go_wp2_with (go_at_call 68; refine (schema_reserved.calls 2 s true _ R.out).mono ?_; rintro e w' ⟨rfl, ⟨nd, rfl⟩⟩)
   go_ret
   exact ⟨by rw [HN.out]; rfl, pw_below_drewN (Below.refl _ _) _⟩
  | false =>
   by_cases g4 : 97 ≤ bt s 0
   ·have := schema_Name_loop s w g1 g2 g3 g4
    have HN : nameB s = (List.range s.size).all (fun j => okc (bt s j)) := by unfold nameB; rw [g3]; simp [g1, g2, g4]
    rw [HN]
    exact this
   have d2 : decide (bt s 0 < 97) = true := decide_eq_true (by omega)
   have R := Aside0.mk ((reserved_eq s).trans (by rw [g3]))
   have HN : Aside0 (nameB s = false) := ⟨by unfold nameB; rw [decide_eq_false g4]; simp⟩
   clear g3 g4
   go_enter Try.func23, Try.ntmps23
   go_wp2_with (go_at_call 68; refine (schema_reserved.calls 2 s false _ R.out).mono ?_; rintro e w' ⟨rfl, ⟨nd, rfl⟩⟩)
   go_ret
   exact ⟨by rw [HN.out]; rfl, pw_below_drewN (Below.refl _ _) _⟩
 have e1 : (s.toList == ([] : List UInt8)) = true := by rw [beq_iff_eq]; exact List.eq_nil_of_length_eq_zero (by rw [toList_length]; omega)
 have HN : Aside0 (nameB s = false) := ⟨by unfold nameB; rw [decide_eq_false g1]; simp⟩
 go_enter Try.func23, Try.ntmps23
 go_wp2_with fail
 go_ret
 exact ⟨by rw [HN.out]; rfl, Below.refl _ _⟩

end Go.Proofs.Ytkopbaikmlajmaa.Q
