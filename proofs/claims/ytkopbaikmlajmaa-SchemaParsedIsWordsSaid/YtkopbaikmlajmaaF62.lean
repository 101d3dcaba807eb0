/- trimmed to what these claims' texts use -/
import Derived.Test.YtkopbaikmlajmaaHA
import Derived.Test.YtkopbaikmlajmaaFA
import Derived.Test.YtkopbaikmlajmaaWX
import Derived.Below
import Derived.Deep.Draws
import Derived.Deep.AppendLies
import Derived.Maps.AppendAt
import Derived.OwnWalk
import Derived.Laws.BytesArg
import Derived.Laws.MakeOwn
import Derived.Laws.OwnMore
import Derived.Deep.OwnRows
import Derived.Tactics
import Derived.Lib.ConvBytes
import Derived.Laws.Slices
import Derived.WalkKit
import Derived.KernelRfl
import Derived.RowKit3
import Derived.Deep.LoopGhost
import Derived.Deep.QuietTactic
import Derived.BigQuiet
import Derived.WideLaws
import Derived.Deep.DeepCutAuto
import Derived.Deep.CutBlock
import Derived.Deep.RegionHeld3
import Derived.Laws.Rows
import Derived.Lib.AppendStr
import Derived.ArgAppend
import Derived.Laws.IdiomCopy
import Derived.RowKit
import Derived.OrdersHeld
import Derived.Laws.BitsLemmas
import Derived.Laws.StructEq
namespace Go.Proofs.Ytkopbaikmlajmaa.Q
open Go.RowKit Go.Proofs.YtkopbaikmlajmaaW.PrintWords Go.Proofs.YtkopbaikmlajmaaW.PrintLast Go.Proofs.YtkopbaikmlajmaaW.PrintMore
set_option linter.unusedVariables false
set_option linter.unusedSimpArgs false
/-- Byte i of a word, the highest first. -/
def byteAt (w : Int) (i : Nat) : Int := w / 2 ^ (8 * (4 - i)) % 256
def bytes5 (w : Int) : List Int := (List.range 5).map (byteAt w)
/-- Is it no word? -/
def noWord (w : Int) : Bool := decide (w < 0) || decide (1099511627775 < w)
def unpB (l : List Int) (n : Nat) : List Int := (l.take ((n + 4) / 5)).flatMap bytes5
def unpE (l : List Int) (n : Int) : Int := if n < 0 ∨ l.length < (n.toNat + 4) / 5 then 3 else if (l.take ((n.toNat + 4) / 5)).any noWord = true then 3 else if ((unpB l n.toNat).drop n.toNat).any (fun x => x != 0) = true then 3 else 0
def unpS (l : List Int) (n : Int) : ByteArray := if unpE l n = 0 then strOfNums ((unpB l n.toNat).take n.toNat) else ⟨#[]⟩
theorem bytes5_length (w : Int) : (bytes5 w).length = 5 := rfl
theorem flat5_length : ∀ (l : List Int), (l.flatMap bytes5).length = 5 * l.length
 | [] => rfl
 | w :: l => by rw [List.flatMap_cons, List.length_append, flat5_length l, bytes5_length, List.length_cons]; omega
theorem flat5_take (l : List Int) (k : Nat) (hk : k < l.length) : (l.take (k + 1)).flatMap bytes5 = (l.take k).flatMap bytes5 ++ bytes5 (rd l (k : Int)) := by
 rw [List.take_add_one, List.flatMap_append, List.getElem?_eq_getElem hk]
 simp [rd, List.getD_eq_getElem?_getD, hk]
end Go.Proofs.Ytkopbaikmlajmaa.Q
