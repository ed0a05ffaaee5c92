/- slices.Clone of attributes. -/
import Derived.Test.YtealmfcimoomlaaGreatDoorUBuild
import Derived.WalkKit
import Derived.BigCall
namespace Go.Proofs.YtealmfcimoomlaaGreatDoor.PA
open Go.RowKit Go.Proofs.YtealmfcimoomlaaGreatDoorW.PrintWords Go.Proofs.YtealmfcimoomlaaGreatDoorW.PrintLast Go.Proofs.YtealmfcimoomlaaGreatDoorW.PrintMore
set_option linter.unusedVariables false
set_option linter.unusedSimpArgs false
theorem infoACl : (Tryz.prog.info? 61).map (fun i => (i.zero, i.size, i.bytes)) = some (some (.agg #[(.string ⟨#[]⟩), (.string ⟨#[]⟩)]), 2, 32) := by kernel_rfl
def api_Attr_56.f (l : List S61) : Option (List S61) := if l.length ≤ 1000000000000 then some l else none
theorem clone_empty (base : Nat) (W : World) (hb : base ≤ W.heap.size) : Kd.R k61 61 (W.alloc (.cells #[] 61)) base (fun _ => True) (.slice (some ⟨W.heap.size, 0, none⟩) 0 0) [] :=
  ⟨fun _ _ => trivial, [], ⟨rfl, .inr ⟨W.heap.size, 0, #[], rfl, hb, heap_alloc_new W _, Nat.le_refl _, Nat.zero_le _, rfl, rfl⟩⟩, Reps.none _ _⟩
set_option maxHeartbeats 2000000 in
set_option maxRecDepth 100000 in
theorem api_Attr_56.calls (A : Option Addr) (c : Nat) (l r : List S61) (w : World) (hr : Kd.C k61 w A l.length l) (hc : l.length ≤ c) (h : api_Attr_56.f l = some r) :
    Calls Tryz.prog 56 #[.slice A l.length c] w fun e w' => ∃ v, e = .returned v ∧ Kd.R k61 61 w' w.heap.size (fun _ => True) v r ∧ Below w.heap.size w w' := by
  unfold api_Attr_56.f at h
  by_cases hm : l.length ≤ 1000000000000
  case neg => rw [if_neg hm] at h; cases h
  rw [if_pos hm] at h
  obtain rfl := Option.some.inj h
  clear h
  have HR := Aside0.mk hr
  clear hr
  have hnil : ∀ (W : World), (binOp .eql 33 (.slice none l.length c) (.slice none 0 0)).run Tryz.prog W = .ok (.bool true) W := fun W => by kernel_rfl
  have hsome : ∀ (W : World) (ad : Addr), (binOp .eql 33 (.slice (some ad) l.length c) (.slice none 0 0)).run Tryz.prog W = .ok (.bool false) W := fun W ad => by kernel_rfl
  have hnil0 : ∀ (W : World), (binOp .eql 33 (.slice none 0 c) (.slice none 0 0)).run Tryz.prog W = .ok (.bool true) W := fun W => by kernel_rfl
  cases A with
  | none =>
    have hl : l = [] := by
      cases l with
      | nil => rfl
      | cons x t =>
        obtain ⟨ad, e, _⟩ := at_T61 HR.out 0 (by omega) (by simp only [List.length_cons]; omega)
        cases e
    subst hl
    go_enter Tryz.func56, Tryz.ntmps56
    go_wp2
    go_ret
    exact ⟨_, rfl, Kd.R_nil _ _ _ _ _, Below.refl _ _⟩
  | some ad =>
    have hal := (Below.refl w.heap.size w).alloc (Nat.le_refl _) (.cells #[] 61)
    have HO := Aside0.mk (clone_empty w.heap.size w (Nat.le_refl _))
    have HB := Aside0.mk hal
    have HC := Aside0.mk (Kd.C_below HR.out hal)
    clear hal HR
    go_enter Tryz.func56, Tryz.ntmps56
    go_wp2_with (at_builtin; refine Kd.R_append_rows k61 (w0 := w) w.heap.size rfl _ _ 33 61 (.agg #[(.string ⟨#[]⟩), (.string ⟨#[]⟩)]) 32 rfl Tryz.underlying33 infoACl rfl (by decide) (by omega) _ [] l _ _ _ (fun _ => True) (fun _ => False) rfl rfl HO.out HC.out (fun _ _ h => h) (fun _ h => h.elim) (fun _ _ => trivial) HB.out HB.out.size (by simp only [List.length_nil]; omega) ?_)
    intro v1 w1 h1 h2 h3 h4
    go_wp2
    go_ret
    exact ⟨_, rfl, h1, h2⟩
end Go.Proofs.YtealmfcimoomlaaGreatDoor.PA
