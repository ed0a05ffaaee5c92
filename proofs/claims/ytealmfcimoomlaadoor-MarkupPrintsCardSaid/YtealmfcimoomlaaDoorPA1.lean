/- Texts of this claim, one behind the other: URefPrint3, PA1. Conditions: those of each theorem. -/
import Derived.Test.YtealmfcimoomlaaDoorURefPrint2
import Derived.Test.YtealmfcimoomlaaDoorPA0
/- espalierref04.Print. -/
namespace Go.Proofs.YtealmfcimoomlaaDoor.PA
open Go.RowKit Go.Proofs.YtealmfcimoomlaaDoorW.PrintWords Go.Proofs.YtealmfcimoomlaaDoorW.PrintLast Go.Proofs.YtealmfcimoomlaaDoorW.PrintMore
set_option linter.unusedVariables false
set_option linter.unusedSimpArgs false
def espalierref04_Print.f (k : Nat) (l : List S36) : Option (ByteArray × Int) :=
  (espalierref04_Can.f k l).bind fun e => if e = 0 then (rkidsF k l []).bind fun b => if 262144 < b.length then some (⟨#[]⟩, 2) else some (⟨b.toArray⟩, 0) else some (⟨#[]⟩, e)
theorem espalierref04_Print.mono : ∀ a0 k, LeO (espalierref04_Print.f k a0) (espalierref04_Print.f (k + 1) a0) := fun a0 k =>
  LeO.bind (espalierref04_Can.mono _ _) fun e => LeO.ite (LeO.bind (rkidsF_mono k _ _) fun b => LeO.refl _) (LeO.refl _)
theorem cells_nums (l : List UInt8) : Lib.byteCells l = nums .u8 (l.map fun b => (b.toNat : Int)) := by simp [Lib.byteCells, nums]
theorem nums_str (l : List UInt8) : strOfNums (l.map fun b => (b.toNat : Int)) = ⟨l.toArray⟩ := by
  unfold strOfNums
  have : (l.map fun b => (b.toNat : Int)).map (fun x => UInt8.ofNat x.toNat) = l := by rw [List.map_map]; simp [Function.comp_def]
  simp [this]
set_option maxHeartbeats 8000000 in
set_option maxRecDepth 100000 in
theorem espalierref04_Print.calls (k : Nat) (A0 : Option Addr) (c0 : Nat) (l0 : List (S36)) (r1 : ByteArray) (r2 : Int) (w : World) (hr0 : Kd.C k36 w A0 l0.length l0) (hc0 : l0.length ≤ c0) (h : espalierref04_Print.f k l0 = some (r1, r2)) :
    Calls Tryd.prog 6 #[.slice A0 l0.length c0] w fun e w' => e = .returned (.tuple #[.string r1, .int .i64 r2]) ∧ Below w.heap.size w w' := by
  obtain ⟨e1, he1, h2⟩ := Option.bind_eq_some_iff.mp h
  have HCan := Aside0.mk (espalierref04_Can.calls k A0 c0 l0 e1 w hr0 hc0 he1)
  have HR := Aside0.mk hr0
  have HC := Aside0.mk hc0
  clear h he1 hr0 hc0
  by_cases h3 : e1 = 0
  case neg =>
    rw [if_neg h3] at h2
    obtain ⟨rfl, rfl⟩ := Prod.mk.inj (Option.some.inj h2)
    have hd3 : (e1 != 0) = true := bne_iff_ne.mpr h3
    clear h3 h2
    go_enter Tryd.func6, Tryd.ntmps6
    go_wp2_with (go_at_call 19; refine HCan.out.mono ?_; rintro e w2 ⟨rfl, hB2⟩)
    go_ret2
    exact ⟨rfl, hB2⟩
  rw [if_pos h3] at h2
  subst h3
  obtain ⟨bz, hbz, h4⟩ := Option.bind_eq_some_iff.mp h2
  have HZ := Aside0.mk hbz
  clear h2 hbz
  by_cases hf : 262144 < bz.length
  · rw [if_pos hf] at h4
    obtain ⟨rfl, rfl⟩ := Prod.mk.inj (Option.some.inj h4)
    have hd : decide ((bz.length : Int) > 262144) = true := decide_eq_true (by omega)
    have hd' : decide (262144 < (bz.length : Int)) = true := decide_eq_true (by omega)
    clear h4 hf
    go_enter Tryd.func6, Tryd.ntmps6
    go_wp2_with (first
      | (go_at_call 19; refine HCan.out.mono ?_; rintro e w2 ⟨rfl, hB2⟩; have HI := rprint_calls k w _ l0 (Nat.le_refl _) A0 c0 (.slice none 0 0) [] bz w2 HR.out HC.out (own_nil w2 _ _ 1) hB2 HZ.out)
      | (go_at_call 20; refine HI.mono ?_; rintro e w3 ⟨v', rfl, hR⟩; obtain ⟨A5, c5', rfl⟩ := hR.slice; have HR3 := Aside0.mk hR; clear hR))
    go_ret2
    exact ⟨rfl, HR3.out.bel0⟩
  · rw [if_neg hf] at h4
    obtain ⟨rfl, rfl⟩ := Prod.mk.inj (Option.some.inj h4)
    have hd : decide ((bz.length : Int) > 262144) = false := decide_eq_false (by omega)
    have hd' : decide (262144 < (bz.length : Int)) = false := decide_eq_false (by omega)
    clear h4 hf
    go_enter Tryd.func6, Tryd.ntmps6
    go_wp2_with (first
      | (go_at_call 19; refine HCan.out.mono ?_; rintro e w2 ⟨rfl, hB2⟩; have HI := rprint_calls k w _ l0 (Nat.le_refl _) A0 c0 (.slice none 0 0) [] bz w2 HR.out HC.out (own_nil w2 _ _ 1) hB2 HZ.out)
      | (go_at_call 20; refine HI.mono ?_; rintro e w3 ⟨v', rfl, hR⟩; obtain ⟨A5, c5', rfl⟩ := hR.slice; have HR3 := Aside0.mk hR; have hcv := own_string (P := Tryd.prog) (src := 40) (e := 5) (dst := 9) (by kernel_rfl) (by kernel_rfl) (by kernel_rfl) (show w3.ownsRow w.heap.size 5 1 _ _ (nums .u8 (bz.map fun b => (b.toNat : Int))) by rw [← cells_nums]; exact hR.own); rw [nums_str] at hcv; clear hR))
    go_ret2
    exact ⟨rfl, HR3.out.bel0⟩
end Go.Proofs.YtealmfcimoomlaaDoor.PA

-- Written by a program of this session (wip/tools/xprint.py: the kit's print, with given functions). Not trusted: Lean checks it.
-- squeezed
namespace Go.Proofs.YtealmfcimoomlaaDoor.PA
open Go.RowKit Go.Proofs.YtealmfcimoomlaaDoorW.PrintWords Go.Proofs.YtealmfcimoomlaaDoorW.PrintLast Go.Proofs.YtealmfcimoomlaaDoorW.PrintMore
attribute [local go_sem] max2_int min2_int max_two min_two max_three min_three max_four min_four   -- for this text's walks alone
set_option linter.unusedVariables false
set_option linter.unusedSimpArgs false

theorem eqA54 (d : Nat) (w : World) (x0 y0 : ByteArray) (x1 y1 : ByteArray) :
  (Op.equalIn (d + 2) 54 (.agg #[.string x0, .string x1]) (.agg #[.string y0, .string y1])).run Tryd.prog w = .ok (x0.toList == y0.toList && (x1.toList == y1.toList)) w := by
 refine eqA_of Tryd.underlying54 (by kernel_rfl) ?_
 refine eqf_cons (by rfl) (by go_simp; rfl) (by go_simp; rfl) (by go_simp) ?_
 exact eqf_last (by rfl) (by go_simp; rfl) (by go_simp; rfl) (by go_simp)
end Go.Proofs.YtealmfcimoomlaaDoor.PA
