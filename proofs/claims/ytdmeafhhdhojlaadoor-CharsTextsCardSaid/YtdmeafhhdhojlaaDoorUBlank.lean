/- chars.Blank: what it answers, over strings.Trim. -/
import Derived.Test.YtdmeafhhdhojlaaDoorPB3
import Derived.Test.YtdmeafhhdhojlaaDoorShelfC
import Derived.Shelf.Strings.SlTrimAscii
import Derived.BigCall
import Derived.Outline
namespace Go.Proofs.YtdmeafhhdhojlaaDoor.PB
open Go.RowKit Go.Proofs.YtdmeafhhdhojlaaDoorW.PrintWords Go.Proofs.YtdmeafhhdhojlaaDoorW.PrintLast Go.Proofs.YtdmeafhhdhojlaaDoorW.PrintMore
set_option linter.unusedVariables false
set_option linter.unusedSimpArgs false
def blanksL : List UInt8 := [9, 10, 13, 32]
theorem dw_nil (p : UInt8 → Bool) : ∀ l : List UInt8, l.dropWhile p = [] ↔ ∀ x ∈ l, p x = true
  | [] => by simp
  | a :: l => by
    rw [List.dropWhile_cons]
    cases h : p a with
    | true => simp only [if_true]; rw [dw_nil p l]; simp [h]
    | false => simp [h]
theorem trim_nil (l cs : List UInt8) : Lib.trimS l cs = [] ↔ l.all (cs.contains ·) = true := by
  have key : ∀ (p : UInt8 → Bool) (m : List UInt8), (∀ x ∈ m.dropWhile p, p x = true) → ∀ x ∈ m, p x = true := by
    intro p m h x hx
    rw [← List.takeWhile_append_dropWhile (p := p) (l := m)] at hx
    rcases List.mem_append.mp hx with h1 | h1
    · exact List.all_eq_true.mp (List.all_takeWhile (p := p) (l := m)) x h1
    · exact h x h1
  unfold Lib.trimS Lib.trimLeftS Lib.trimRightS
  rw [dw_nil, List.all_eq_true]
  constructor
  · intro h x hx
    exact key _ l.reverse (fun y hy => h y (List.mem_reverse.mpr hy)) x (List.mem_reverse.mpr hx)
  · intro h x hx
    have := List.mem_reverse.mp hx
    exact h x (List.mem_reverse.mp ((List.dropWhile_sublist _).subset this))
def chars_Blank.f (a0 : ByteArray) : Option Bool := if a0.size ≤ 9223372036854775807 then some (a0.data.toList.all (blanksL.contains ·)) else none
set_option maxHeartbeats 4000000 in
set_option maxRecDepth 1000000 in
theorem chars_Blank.calls (a0 : ByteArray) (r : Bool) (w : World) (h : chars_Blank.f a0 = some r) :
    Calls Tryd.prog 20 #[.string a0] w fun e w' => e = .returned (.bool r) ∧ Below w.heap.size w w' := by
  unfold chars_Blank.f at h
  by_cases hs : a0.size ≤ 9223372036854775807
  case neg => rw [if_neg hs] at h; exact absurd h (by simp)
  rw [if_pos hs] at h
  have hr := Lib.hid (Option.some.inj h)
  clear h
  have hT : Hid (∀ w, Calls Tryd.prog 43 #[.string a0, .string ⟨#[9, 10, 13, 32]⟩] w fun e w' => e = .returned (.string ⟨(Lib.trimS a0.data.toList blanksL).toArray⟩) ∧ Below w.heap.size w w') :=
    Lib.hid (fun w => Any.strings_Trim_laid Tryd.lays160 (by kernel_rfl) a0 ⟨#[9, 10, 13, 32]⟩ w hs (by decide) (ascii_of_all (by decide)))
  go_enter Tryd.func20, Tryd.ntmps20
  go_wp2_with (go_at_call 43; refine (hT.out _).mono ?_; rintro e w5 ⟨rfl, hb⟩)
  go_ret
  refine ⟨?_, hb⟩
  have he : (Lib.trimS a0.data.toList blanksL).isEmpty = (a0.data.toList.all (blanksL.contains ·)) := by rw [Bool.eq_iff_iff, List.isEmpty_iff, trim_nil]
  show Ending.returned (.bool (Lib.trimS a0.data.toList blanksL).isEmpty) = _
  rw [he, hr.out]
end Go.Proofs.YtdmeafhhdhojlaaDoor.PB
