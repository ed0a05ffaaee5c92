/- shell.number: a word of at most four digits, over strings.Trim and strconv.Atoi. -/
import Derived.Test.YtggdffgoffmlpaaDoorUStrings
import Derived.Test.YtggdffgoffmlpaaDoorShelfE
import Derived.Lib.AtoiErrMem
import Derived.WalkKit
import Derived.BigCall
import Derived.BigGuard
import Derived.Lib.Hide
import Derived.Outline
namespace Go.Proofs.YtggdffgoffmlpaaDoor.PA
open Go.RowKit Go.Proofs.YtggdffgoffmlpaaDoorW.PrintWords Go.Proofs.YtggdffgoffmlpaaDoorW.PrintLast Go.Proofs.YtggdffgoffmlpaaDoorW.PrintMore
set_option linter.unusedVariables false
set_option linter.unusedSimpArgs false
def digSet : List UInt8 := [48, 49, 50, 51, 52, 53, 54, 55, 56, 57]
def numOk (s : ByteArray) : Bool := !s.toList.isEmpty && (decide (s.size ≤ 4) && (Lib.trimS s.data.toList digSet).isEmpty)
def shell_number.f (a0 : ByteArray) : Option (Int × Bool) := if a0.size ≤ 281474976710656 then (if numOk a0 = true then (Lib.atoi a0.data.toList).map (fun n => (n, true)) else some (0, false)) else none
set_option maxHeartbeats 4000000 in
set_option maxRecDepth 1000000 in
theorem number_walk (a0 e : ByteArray) (n : Int) (w : World)
    (hT : Hid (∀ w, Calls Tryd.prog 18 #[.string a0, .string ⟨#[48, 49, 50, 51, 52, 53, 54, 55, 56, 57]⟩] w fun ee w' => ee = .returned (.string e) ∧ Below w.heap.size w w'))
    (hA : Hid (a0.size ≤ 4 → e.toList.isEmpty = true → a0.toList.isEmpty = false → ∀ w, Calls Tryd.prog 59 #[.string a0] w fun ee w' => ee = .returned (.tuple #[.int .i64 n, .nilIface]) ∧ Below w.heap.size w w')) :
    Calls Tryd.prog 40 #[.string a0] w fun ee w' => ee = .returned (if (!a0.toList.isEmpty && (decide (a0.size ≤ 4) && e.toList.isEmpty)) = true then .tuple #[.int .i64 n, .bool true] else .tuple #[.int .i64 0, .bool false]) ∧ Below w.heap.size w w' := by
  by_cases h1 : a0.toList.isEmpty = true
  · rw [h1, if_neg (by simp)]
    go_enter Tryd.func40, Tryd.ntmps40
    go_wp2
    go_ret2
    exact ⟨rfl, Below.refl _ _⟩
  replace h1 : a0.toList.isEmpty = false := by simpa using h1
  have h1' : (!a0.toList.isEmpty) = true := by rw [h1]; rfl
  by_cases h2 : a0.size ≤ 4
  · have h2b : decide (4 < (a0.size : Int)) = false := decide_eq_false (by omega)
    have h2c : decide (a0.size ≤ 4) = true := decide_eq_true h2
    by_cases h3 : e.toList.isEmpty = true
    · have h3' : (!e.toList.isEmpty) = false := by rw [h3]; rfl
      rw [h1, h2c, h3, if_pos (show (!false && (true && true)) = true from rfl)]
      have HA := Lib.hid (hA.out h2 h3 h1)
      clear hA
      go_enter Tryd.func40, Tryd.ntmps40
      go_wp2_with (first | (go_at_call 18; (with_reducible refine (hT.out _).mono ?_); rintro ee w5 ⟨rfl, hb1⟩) | (go_at_call 59; (with_reducible refine (HA.out _).mono ?_); rintro ee w6 ⟨rfl, hb2⟩))
      go_ret2
      exact ⟨rfl, below_step hb1 hb2⟩
    · replace h3 : e.toList.isEmpty = false := by simpa using h3
      have h3' : (!e.toList.isEmpty) = true := by rw [h3]; rfl
      rw [h3, Bool.and_false, Bool.and_false, if_neg (by simp)]
      go_enter Tryd.func40, Tryd.ntmps40
      go_wp2_with (first | (go_at_call 18; (with_reducible refine (hT.out _).mono ?_); rintro ee w5 ⟨rfl, hb1⟩))
      go_ret2
      exact ⟨rfl, hb1⟩
  · have h2b : decide (4 < (a0.size : Int)) = true := decide_eq_true (by omega)
    have h2c : decide (a0.size ≤ 4) = false := decide_eq_false h2
    rw [h2c, Bool.false_and, Bool.and_false, if_neg (by simp)]
    go_enter Tryd.func40, Tryd.ntmps40
    go_wp2
    go_ret2
    exact ⟨rfl, Below.refl _ _⟩
theorem shell_number.calls (a0 : ByteArray) (r1 : Int) (r2 : Bool) (w : World) (h : shell_number.f a0 = some (r1, r2)) :
    Calls Tryd.prog 40 #[.string a0] w fun e w' => e = .returned (.tuple #[.int .i64 r1, .bool r2]) ∧ Below w.heap.size w w' := by
  unfold shell_number.f at h
  by_cases hs : a0.size ≤ 281474976710656
  case neg => rw [if_neg hs] at h; cases h
  rw [if_pos hs] at h
  have hT : Hid (∀ w, Calls Tryd.prog 18 #[.string a0, .string ⟨#[48, 49, 50, 51, 52, 53, 54, 55, 56, 57]⟩] w fun ee w' => ee = .returned (.string ⟨(Lib.trimS a0.data.toList digSet).toArray⟩) ∧ Below w.heap.size w w') := Lib.hid (fun w =>
    strings_Trim.calls a0 ⟨#[48, 49, 50, 51, 52, 53, 54, 55, 56, 57]⟩ _ w (by unfold strings_Trim.f; rw [if_pos ⟨by omega, by decide, by decide⟩]; rfl))
  have em : (⟨(Lib.trimS a0.data.toList digSet).toArray⟩ : ByteArray).toList.isEmpty = (Lib.trimS a0.data.toList digSet).isEmpty := by simp
  have e0 : (!a0.toList.isEmpty && (decide (a0.size ≤ 4) && (⟨(Lib.trimS a0.data.toList digSet).toArray⟩ : ByteArray).toList.isEmpty)) = numOk a0 := by rw [em]; rfl
  by_cases hq : numOk a0 = true
  · rw [if_pos hq] at h
    obtain ⟨n, hn, hr⟩ := Option.map_eq_some_iff.mp h
    simp only [Prod.mk.injEq] at hr
    obtain ⟨rfl, rfl⟩ := hr
    refine (number_walk a0 _ n w hT (Lib.hid fun h4 _ _ w => ?_)).mono fun e w' hw => ⟨?_, hw.2⟩
    · refine (Tryd.strconv_Atoi a0 n (by omega) hn w).mono fun e w' ⟨he, t, ht⟩ => ⟨he, ?_⟩
      rw [ht]; exact Lib.bytesWorld_below _ _ _
    · rw [hw.1, e0, if_pos hq]
  · rw [if_neg hq] at h
    simp only [Option.some.injEq, Prod.mk.injEq] at h
    obtain ⟨rfl, rfl⟩ := h
    have hq' := e0 ▸ hq
    refine (number_walk a0 _ 0 w hT (Lib.hid fun h4 h3 h1 w => ?_)).mono fun e w' hw => ⟨?_, hw.2⟩
    · exact absurd (by rw [h1, h3, decide_eq_true h4]; rfl) hq'
    · rw [hw.1, e0, if_neg hq]
end Go.Proofs.YtggdffgoffmlpaaDoor.PA
