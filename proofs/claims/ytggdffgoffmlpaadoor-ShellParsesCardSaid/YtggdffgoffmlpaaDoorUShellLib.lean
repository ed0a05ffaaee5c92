/- Library functions that shell.Parse calls, by the shelf's contracts: strings.Cut, strings.TrimLeft and strings.FieldsFunc at a blank. -/
import Derived.Test.YtggdffgoffmlpaaDoorPA0
import Derived.Test.YtggdffgoffmlpaaDoorShelf
import Derived.Test.YtggdffgoffmlpaaDoorShelfC
import Derived.Test.YtggdffgoffmlpaaDoorShelfE
import Derived.WalkKit
import Derived.BigCall
import Derived.Outline
import Derived.Lib.Hide
namespace Go.Proofs.YtggdffgoffmlpaaDoor.PA
open Go.RowKit Go.Proofs.YtggdffgoffmlpaaDoorW.PrintWords Go.Proofs.YtggdffgoffmlpaaDoorW.PrintLast Go.Proofs.YtggdffgoffmlpaaDoorW.PrintMore
set_option linter.unusedVariables false
set_option linter.unusedSimpArgs false
def strings_Cut.f (a0 a1 : ByteArray) : Option (ByteArray × ByteArray × Bool) := if a0.size < 4294967281 then some (⟨(Lib.cut a0.data.toList a1.data.toList).1.toArray⟩, ⟨(Lib.cut a0.data.toList a1.data.toList).2.1.toArray⟩, (Lib.cut a0.data.toList a1.data.toList).2.2) else none
theorem strings_Cut.calls (a0 a1 : ByteArray) (r1 r2 : ByteArray) (r3 : Bool) (w : World) (h : strings_Cut.f a0 a1 = some (r1, r2, r3)) (hG3 : Glob3 w := by first | exact Glob3.step HG3.out (by repeat (first | (with_reducible first | exact HB.out | apply below_alloc | apply pw_below_drewN | apply below_drew1) | exact HB.out | (refine below_set ?_ (Aside0.out (by assumption))))) | exact HG3.out | assumption) :
    Calls Tryd.prog 11 #[.string a0, .string a1] w fun e w' => e = .returned (.tuple #[.string r1, .string r2, .bool r3]) ∧ Below w.heap.size w w' := by
  unfold strings_Cut.f at h
  by_cases hs : a0.size < 4294967281
  · rw [if_pos hs] at h
    simp only [Option.some.injEq, Prod.mk.injEq] at h
    obtain ⟨rfl, rfl, rfl⟩ := h
    obtain ⟨m, hm⟩ := hG3.maxLen
    refine (Tryd.strings_Cut a0 a1 m w hs hm).mono ?_
    rintro e w' ⟨rfl, n, rfl⟩
    exact ⟨rfl, pw_below_drewN (Below.refl _ _) n⟩
  · rw [if_neg hs] at h; cases h
def strings_TrimLeft.f (a0 a1 : ByteArray) : Option ByteArray := if a1 = ⟨#[32]⟩ then some ⟨(Lib.trimLeftB a0.data.toList 32).toArray⟩ else none
theorem strings_TrimLeft.calls (a0 a1 : ByteArray) (r : ByteArray) (w : World) (h : strings_TrimLeft.f a0 a1 = some r) :
    Calls Tryd.prog 30 #[.string a0, .string a1] w fun e w' => e = .returned (.string r) ∧ Below w.heap.size w w' := by
  unfold strings_TrimLeft.f at h
  by_cases hs : a1 = ⟨#[32]⟩
  · rw [if_pos hs] at h
    obtain rfl := Option.some.inj h
    subst hs
    refine (Tryd.strings_TrimLeft_one a0 32 (by decide) w).mono ?_
    rintro e w' ⟨rfl, rfl⟩
    exact ⟨rfl, Below.refl _ _⟩
  · rw [if_neg hs] at h; cases h
def isSp (r : Nat) : Bool := r == 32
set_option maxRecDepth 100000 in
theorem parsed_pred (r : Nat) (h1 : r ≤ 1114111) (w : World) :
    Calls Tryd.prog 20 #[.int .i32 r] w fun e w' => e = .returned (.bool (isSp r)) ∧ Below w.heap.size w w' := by
  have he : ((r : Int) == 32) = isSp r := by
    unfold isSp
    rw [Bool.eq_iff_iff, beq_iff_eq, beq_iff_eq]
    omega
  go_enter Tryd.func20, Tryd.ntmps20
  go_wp2
  go_ret
  exact ⟨rfl, Below.refl _ _⟩
def strings_FieldsFunc.f (a0 : ByteArray) : Option (List ByteArray) := if a0.size ≤ 4294967296 then some (Lib.goFieldsP isSp a0) else none
theorem strings_FieldsFunc.calls (a0 : ByteArray) (r : List ByteArray) (w : World) (h : strings_FieldsFunc.f a0 = some r) :
    Calls Tryd.prog 19 #[.string a0, .func (.func 20) #[] #[]] w fun e w' => ∃ v, e = .returned v ∧ Kd.R Kd.string 9 w' w.heap.size (fun _ => True) v r ∧ Below w.heap.size w w' := by
  unfold strings_FieldsFunc.f at h
  by_cases hs : a0.size ≤ 4294967296
  · rw [if_pos hs] at h
    obtain rfl := Option.some.inj h
    obtain ⟨cB, hB⟩ := Option.isSome_iff_exists.mp (show Tryd.f20.body.isSome = true by kernel_rfl)
    refine (Tryd.strings_FieldsFunc_grows 20 #[] (Go.Proofs.enters_of Tryd.func20 (by kernel_rfl) hB) isSp a0 w hs (fun W' x hx _ => parsed_pred x hx W')).mono ?_
    rintro e w' ⟨A, rfl, hA, hrow, hb⟩
    exact ⟨_, rfl, Kd.R_of_own hrow (fun _ _ => trivial), hb⟩
  · rw [if_neg hs] at h; cases h
end Go.Proofs.YtggdffgoffmlpaaDoor.PA
