import Derived.Test.YtkopbaikmlajmaaRows
import Derived.ProofKit
namespace Go.Proofs.Ytkopbaikmlajmaa.Q
set_option linter.unusedVariables false
set_option linter.unusedSimpArgs false
set_option maxRecDepth 100000
def joinW : List (List Char) → List Char
 | [] => []
 | [w] => w
 | w :: v :: r => w ++ Char.ofNat 32 :: joinW (v :: r)
theorem words_one : ∀ (w : List Char), w.all (fun c => c != Char.ofNat 32) = true → wordsSigns w = [w]
 | [], _ => rfl
 | c :: w, h => by
  rw [List.all_cons, Bool.and_eq_true] at h
  have hc : c ≠ Char.ofNat 32 := by simpa using h.1
  rw [wordsSigns, words_one w h.2]
  exact hc
theorem words_app : ∀ (w r : List Char), w.all (fun c => c != Char.ofNat 32) = true → wordsSigns (w ++ Char.ofNat 32 :: r) = w :: wordsSigns r
 | [], _, _ => rfl
 | c :: w, r, h => by
  rw [List.all_cons, Bool.and_eq_true] at h
  have hc : c ≠ Char.ofNat 32 := by simpa using h.1
  rw [List.cons_append, wordsSigns, words_app w r h.2]
  exact hc
theorem words_join : ∀ (ws : List (List Char)), ws ≠ [] → ws.all (fun w => w.all (fun c => c != Char.ofNat 32)) = true → wordsSigns (joinW ws) = ws
 | [], h, _ => absurd rfl h
 | [w], _, h => by
  rw [List.all_cons, Bool.and_eq_true] at h
  exact words_one w h.1
 | w :: v :: r, _, h => by
  rw [List.all_cons, Bool.and_eq_true] at h
  rw [joinW, words_app w _ h.1, words_join (v :: r) (by simp) h.2]
def headN : List (List Nat) := [[104, 97, 114, 110, 101, 115, 115], [100, 97, 98, 101, 54, 56, 57, 51, 48, 49, 57, 97, 54, 98, 51, 102, 55, 98, 97, 102, 102, 102, 51, 52, 98, 102, 99, 53, 51, 97, 52, 53, 49, 53, 53, 56, 53, 49, 56, 102, 50, 97, 48, 98, 55, 51, 51, 52, 53, 100, 51, 57, 98, 101, 98, 50, 49, 54, 97, 97, 51, 97, 53, 57], [99, 117, 116], [97, 116], [97, 108, 117, 109, 47, 97, 108, 117, 109, 108, 97, 119, 50, 48, 46, 83, 99, 104, 101, 109, 97, 78, 97, 109, 101, 77, 97, 116, 99, 104, 101, 115, 83, 112, 101, 99], [97, 108, 117, 109, 47, 97, 108, 117, 109, 108, 97, 119, 50, 48, 46, 83, 99, 104, 101, 109, 97, 67, 104, 101, 99, 107, 77, 97, 116, 99, 104, 101, 115, 83, 112, 101, 99], [97, 108, 117, 109, 47, 97, 108, 117, 109, 108, 97, 119, 50, 48, 46, 83, 99, 104, 101, 109, 97, 87, 111, 114, 100, 115, 77, 97, 116, 99, 104, 83, 112, 101, 99], [97, 108, 117, 109, 47, 97, 108, 117, 109, 108, 97, 119, 50, 48, 46, 83, 99, 104, 101, 109, 97, 67, 104, 101, 99, 107, 115, 65, 114, 101, 83, 101, 112, 97, 114, 97, 116, 101], [97, 108, 117, 109, 47, 97, 108, 117, 109, 108, 97, 119, 50, 49, 46, 82, 111, 119, 85, 112, 100, 97, 116, 101, 115], [97, 108, 117, 109, 47, 97, 108, 117, 109, 108, 97, 119, 50, 48, 46, 83, 99, 104, 101, 109, 97, 70, 105, 110, 100, 115, 77, 97, 116, 99, 104, 83, 112, 101, 99], [97, 108, 117, 109, 47, 97, 108, 117, 109, 108, 97, 119, 50, 49, 46, 82, 111, 119, 71, 114, 111, 119, 115], [97, 108, 117, 109, 47, 97, 108, 117, 109, 108, 97, 119, 50, 48, 46, 83, 99, 104, 101, 109, 97, 70, 105, 116, 115, 77, 97, 116, 99, 104, 101, 115, 83, 112, 101, 99], [97, 108, 117, 109, 47, 97, 108, 117, 109, 108, 97, 119, 50, 48, 46, 83, 99, 104, 101, 109, 97, 67, 111, 108, 117, 109, 110, 115, 69, 120, 116, 101, 110, 100], [97, 108, 117, 109, 47, 97, 108, 117, 109, 108, 97, 119, 50, 48, 46, 83, 99, 104, 101, 109, 97, 73, 110, 100, 101, 120, 101, 115, 67, 104, 97, 110, 103, 101, 78, 111, 82, 111, 119], [97, 108, 117, 109, 47, 97, 108, 117, 109, 108, 97, 119, 50, 48, 46, 83, 99, 104, 101, 109, 97, 67, 104, 97, 110, 103, 101, 115, 77, 97, 116, 99, 104, 83, 112, 101, 99], [97, 108, 117, 109, 47, 97, 108, 117, 109, 108, 97, 119, 50, 48, 46, 83, 99, 104, 101, 109, 97, 80, 97, 114, 115, 101, 77, 97, 116, 99, 104, 101, 115, 83, 112, 101, 99], [97, 108, 117, 109, 47, 97, 108, 117, 109, 108, 97, 119, 50, 48, 46, 83, 99, 104, 101, 109, 97, 87, 111, 114, 100, 115, 82, 111, 117, 110, 100, 84, 114, 105, 112], [97, 108, 117, 109, 47, 97, 108, 117, 109, 108, 97, 119, 50, 48, 46, 83, 99, 104, 101, 109, 97, 80, 97, 114, 115, 101, 100, 73, 115, 87, 111, 114, 100, 115], [97, 108, 117, 109, 47, 97, 108, 117, 109, 108, 97, 119, 50, 49, 46, 82, 111, 119, 77, 97, 116, 99, 104, 101, 115, 83, 112, 101, 99], [97, 108, 117, 109, 47, 97, 108, 117, 109, 108, 97, 119, 50, 49, 46, 82, 111, 119, 84, 101, 120, 116, 115, 77, 97, 116, 99, 104, 83, 112, 101, 99], [97, 108, 117, 109, 47, 97, 108, 117, 109, 108, 97, 119, 50, 49, 46, 82, 111, 119, 82, 101, 97, 100, 115, 87, 104, 97, 116, 73, 116, 87, 114, 111, 116, 101], [97, 108, 117, 109, 47, 97, 108, 117, 109, 108, 97, 119, 50, 49, 46, 82, 111, 119, 87, 111, 114, 100, 115, 65, 114, 101, 85, 110, 105, 113, 117, 101], [97, 108, 117, 109, 47, 97, 108, 117, 109, 108, 97, 119, 50, 49, 46, 82, 111, 119, 80, 97, 114, 116, 115, 77, 97, 116, 99, 104, 83, 112, 101, 99]]
def headC : List (List Char) := headN.map (fun w => w.map Char.ofNat)
theorem init_eq : Try.prog.initOrder = String.ofList (joinW headC) := by kernel_rfl
theorem init_words : wordsSigns Try.prog.initOrder.toList = headC := by
 rw [init_eq, String.toList_ofList]
 exact words_join headC (List.cons_ne_nil _ _) (by kernel_rfl)
def cutC : List Char := [99, 117, 116].map Char.ofNat
def tailC : List (List Char) := (headN.drop 3).map (fun w => w.map Char.ofNat)
theorem behind_c : behindMainWord headC = cutC :: tailC := by kernel_rfl
theorem strip_c : stripLifts liftWords (cutC :: tailC) = ([], cutC :: tailC) := by kernel_rfl
theorem lays_f : Try.prog.laysLater = false := by kernel_rfl
theorem bears_f : Try.prog.bearsReflect = false := by kernel_rfl
theorem door_t : Try.prog.doorFits [] = true := by kernel_rfl
theorem cut_h : ((cutC :: tailC).head? == some "cut".toList) = true := by kernel_rfl
theorem mayEnter_of {P : Program} {W : List (List Char)} {c : List Char} {r : List (List Char)} (h1 : wordsSigns P.initOrder.toList = W) (h2 : behindMainWord W = c :: r) (h3 : stripLifts liftWords (c :: r) = ([], c :: r)) (h4 : P.laysLater = false) (h5 : P.bearsReflect = false) (h6 : P.doorFits [] = true) (h7 : ((c :: r).head? == some "cut".toList) = true) : P.mayEnter = true := by
 unfold Program.mayEnter
 rw [h1, h2]
 dsimp only
 rw [h3, h4, h5]
 dsimp only
 rw [h6, h7]
 simp
theorem mayEnter_t : Try.prog.mayEnter = true := mayEnter_of init_words behind_c strip_c lays_f bears_f door_t cut_h
theorem liftsFinal_f : Try.prog.liftsFinal = false := by
 unfold Program.liftsFinal Program.headLifts
 rw [init_words]
 kernel_rfl
theorem cut_c : (cutC == "cut".toList) = true := by kernel_rfl
theorem gc_c : (cutC == "gc".toList) = false := by kernel_rfl
theorem spec_c : (cutC == "spec".toList) = false := by kernel_rfl
theorem make_of {P : Program} {W : List (List Char)} {c : List Char} {r : List (List Char)} (h1 : wordsSigns P.initOrder.toList = W) (h2 : behindMainWord W = c :: r) (h3 : (c == "gc".toList) = false) (h4 : (c == "spec".toList) = false) (h5 : (c == "cut".toList) = true) : P.make = some .cut := by
 unfold Program.make
 rw [h1, h2]
 dsimp only
 rw [h3, h4, h5]
 simp
theorem make_cut : Try.prog.make = some .cut := make_of init_words behind_c gc_c spec_c cut_c
theorem mayEnter_p : Try.pinned.checked.prog.mayEnter = true := mayEnter_t
theorem liftsFinal_p : Try.pinned.checked.prog.liftsFinal = false := liftsFinal_f
theorem make_p : Try.pinned.checked.prog.make = some .cut := make_cut
end Go.Proofs.Ytkopbaikmlajmaa.Q
