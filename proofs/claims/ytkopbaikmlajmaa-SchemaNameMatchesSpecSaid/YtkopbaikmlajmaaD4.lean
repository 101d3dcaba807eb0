/- The example that every statement of the layer plays first: its table, and what the plain words say of it. -/
import Derived.Test.YtkopbaikmlajmaaD3
namespace Go.Proofs.Ytkopbaikmlajmaa.Q
open Go.RowKit Go.Proofs.YtkopbaikmlajmaaW.PrintWords Go.Proofs.YtkopbaikmlajmaaW.PrintLast Go.Proofs.YtkopbaikmlajmaaW.PrintMore

abbrev tn : ByteArray := ⟨#[116]⟩
abbrev tc : List S56 := [⟨⟨#[97]⟩, 1, true⟩]
abbrev tk : List S42 := [⟨0, 10, ⟨1, 3, ⟨#[]⟩⟩⟩]
theorem n_a : nameB ⟨#[97]⟩ = true := by kernel_rfl
theorem n_a1 : nameB ⟨#[97, 95, 49]⟩ = true := by kernel_rfl
theorem n_A : nameB ⟨#[65]⟩ = false := by kernel_rfl
theorem n_1a : nameB ⟨#[49, 97]⟩ = false := by kernel_rfl
theorem n_sel : nameB ⟨#[115, 101, 108, 101, 99, 116]⟩ = false := by kernel_rfl
theorem n_nil : nameB ⟨#[]⟩ = false := by kernel_rfl
theorem k_t : checkE tn tc [] [] = 0 := by kernel_rfl
theorem k_c : checkE tn tc [] tk = 0 := by kernel_rfl
theorem w_t : wordsE tn tc [] [] = [4097, 498216206336, 13, 416611827712] := by kernel_rfl
theorem f_null : fitsE tn tc [] [] [⟨0, 0, ⟨#[]⟩⟩] = 0 := by kernel_rfl
theorem f_text : fitsE tn tc [] [] [⟨2, 0, ⟨#[]⟩⟩] = 7 := by kernel_rfl
theorem f_none : fitsE tn tc [] [] [] = 1 := by kernel_rfl
theorem f_three : fitsE tn tc [] tk [⟨1, 3, ⟨#[]⟩⟩] = 201 := by kernel_rfl
theorem f_four : fitsE tn tc [] tk [⟨1, 4, ⟨#[]⟩⟩] = 0 := by kernel_rfl
theorem f_free : fitsE tn tc [] tk [⟨0, 0, ⟨#[]⟩⟩] = 0 := by kernel_rfl

theorem C_one {α : Type} (d : Kd α) (w : World) (x : α) (cs : List Value) (t : TypeId) (hk : ∀ w', d.K w' x cs) : d.C (w.alloc (.cells cs.toArray t)) (some ⟨w.heap.size, 0, none⟩) [x].length [x] := by
  refine ⟨rfl, by simp, fun _ => ⟨_, rfl, fun j p hp => ?_⟩⟩
  have hj : j = 0 := by
    rcases j with _ | j
    · rfl
    · simp at hp
  subst hj
  obtain rfl : x = p := by simpa using hp
  refine ⟨cs, d.K_len (hk w), hk _, fun i u hu => ?_⟩
  have e : (Addr.add ⟨w.heap.size, 0, none⟩ (0 * d.sz + i)) = ⟨w.heap.size, i, none⟩ := by
    simp [Addr.add]
    exact fun h => h.symm
  rw [e]
  refine (blk_cell (blk_new w _) i).trans ?_
  simpa using hu
theorem C_56 (w : World) (x : S56) : k56.C (w.alloc (.cells #[.string x.f0, .int .i64 x.f1, .bool x.f2] 56)) (some ⟨w.heap.size, 0, none⟩) [x].length [x] := C_one k56 w x _ 56 (fun w' => k56_mk w' x)
theorem C_40 (w : World) (x : S40) : k40.C (w.alloc (.cells #[.int .i64 x.f0, .int .i64 x.f1, .string x.f2] 40)) (some ⟨w.heap.size, 0, none⟩) [x].length [x] := C_one k40 w x _ 40 (fun w' => k40_mk w' x)
theorem C_42 (w : World) (x : S42) : k42.C (w.alloc (.cells #[.int .i64 x.f0, .int .i64 x.f1, .int .i64 x.f2.f0, .int .i64 x.f2.f1, .string x.f2.f2] 42)) (some ⟨w.heap.size, 0, none⟩) [x].length [x] := C_one k42 w x _ 42 (fun w' => k42_mk w' x)
theorem c23' {s : ByteArray} {b : Bool} (h : nameB s = b) (w : World) : Calls Try.prog 23 #[.string s] w fun e w' => e = .returned (.bool b) ∧ Below w.heap.size w w' := h ▸ c23 s w
end Go.Proofs.Ytkopbaikmlajmaa.Q
