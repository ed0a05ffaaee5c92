-- Written by a program of this session (wip/tools/xprint.py: the kit's print, with given functions). Not trusted: Lean checks it.
import Derived.Test.YtdmeafhhdhojlaaDoorPB0
import Derived.Test.YtdmeafhhdhojlaaDoorPB1
import Derived.Test.YtdmeafhhdhojlaaDoorPB2
import Derived.Test.YtdmeafhhdhojlaaDoorPB3
import Derived.Test.YtdmeafhhdhojlaaDoorPB4
import Derived.Test.YtdmeafhhdhojlaaDoorPB5
import Derived.Test.YtdmeafhhdhojlaaDoorPB6
import Derived.Test.YtdmeafhhdhojlaaDoorUBlank
import Derived.Test.YtdmeafhhdhojlaaDoorUCut
import Derived.Test.YtdmeafhhdhojlaaDoorUSqueeze
namespace Go.Proofs.YtdmeafhhdhojlaaDoor.PB
open Go.RowKit Go.Proofs.YtdmeafhhdhojlaaDoorW.PrintWords Go.Proofs.YtdmeafhhdhojlaaDoorW.PrintLast Go.Proofs.YtdmeafhhdhojlaaDoorW.PrintMore
attribute [local go_sem] max2_int min2_int max_two min_two max_three min_three max_four min_four   -- for this text's walks alone
set_option linter.unusedVariables false
set_option linter.unusedSimpArgs false

/-! ### espalierlaw02_CharsTexts: function 4 -/
mutual
def espalierlaw02_CharsTexts.j0 : Nat → ByteArray → Int → Int → Bool → Option (Bool)
  | 0, _, _, _, _ => none
  | k + 1, x0, x2, x3, x82 => if x82 = true then (some false) else ((chars_Name.f k x0).bind fun t191 => ((espalierref02_Name.f k x0).bind fun t192 => (if (t191 != t192) = true then (espalierlaw02_CharsTexts.j1 k x0 x2 x3 true) else ((chars_Blank.f x0).bind fun t193 => ((espalierref02_Blank.f k x0).bind fun t194 => (espalierlaw02_CharsTexts.j1 k x0 x2 x3 (t193 != t194)))))))
def espalierlaw02_CharsTexts.j1 : Nat → ByteArray → Int → Int → Bool → Option (Bool)
  | 0, _, _, _, _ => none
  | k + 1, x0, x2, x3, x94 => if x94 = true then (some false) else ((chars_Len.f k x0).bind fun bt195 => ((espalierref02_Len.f k x0).bind fun bt197 => ((chars_Cut.f k x0 x2 x3).bind fun bt199 => ((espalierref02_Cut.f k x0 x2 x3).bind fun bt201 => ((chars_Squeeze.f k x0).bind fun bt203 => ((espalierref02_Squeeze.f k x0).bind fun bt205 => (if bt195.1 = bt197.1 then (if bt195.2 = bt197.2 then (if bt199.1.toList = bt201.1.toList then (if bt199.2 = bt201.2 then (if bt203.1.toList = bt205.1.toList then (some (bt203.2 == bt205.2)) else (some false)) else (some false)) else (some false)) else (some false)) else (some false))))))))
end
def espalierlaw02_CharsTexts.f (k : Nat) (a0 : ByteArray) (a1 : Int) (a2 : Int) (a3 : Int) : Option (Bool) := (chars_First.f k a0).bind fun bt179 => ((espalierref02_First.f k a0).bind fun bt182 => ((chars_Text.f k a0).bind fun bt185 => ((espalierref02_Text.f k a0).bind fun bt187 => ((chars_Char.f k a1).bind fun t189 => ((espalierref02_Char.f a1).bind fun t190 => (if (t189 != t190) = true then (espalierlaw02_CharsTexts.j0 k a0 a2 a3 true) else (if bt179.1 = bt182.1 then (if bt179.2.1 = bt182.2.1 then (if bt179.2.2 = bt182.2.2 then (if bt185.1 = bt187.1 then (espalierlaw02_CharsTexts.j0 k a0 a2 a3 (bt185.2 != bt187.2)) else (espalierlaw02_CharsTexts.j0 k a0 a2 a3 true)) else (espalierlaw02_CharsTexts.j0 k a0 a2 a3 true)) else (espalierlaw02_CharsTexts.j0 k a0 a2 a3 true)) else (espalierlaw02_CharsTexts.j0 k a0 a2 a3 true))))))))
theorem espalierlaw02_CharsTexts.mono_l : ∀ k, (∀ y0 y1 y2 y3, LeO (espalierlaw02_CharsTexts.j0 k y0 y1 y2 y3) (espalierlaw02_CharsTexts.j0 (k + 1) y0 y1 y2 y3)) ∧ (∀ y0 y1 y2 y3, LeO (espalierlaw02_CharsTexts.j1 k y0 y1 y2 y3) (espalierlaw02_CharsTexts.j1 (k + 1) y0 y1 y2 y3))
  | 0 => ⟨fun _ _ _ _ r h => by simp [espalierlaw02_CharsTexts.j0] at h, fun _ _ _ _ r h => by simp [espalierlaw02_CharsTexts.j1] at h⟩
  | k + 1 => by
    obtain ⟨ih0, ih1⟩ := espalierlaw02_CharsTexts.mono_l k
    refine ⟨?_, ?_⟩
    · intro y0 y1 y2 y3
      unfold espalierlaw02_CharsTexts.j0
      repeat' first
      | (with_reducible exact ih0 _ _ _ _)
      | (with_reducible exact ih1 _ _ _ _)
      | (with_reducible exact chars_Char.mono _ _)
      | (with_reducible exact chars_Cut.mono _ _ _ _)
      | (with_reducible exact chars_First.mono _ _)
      | (with_reducible exact chars_Len.mono _ _)
      | (with_reducible exact chars_Name.mono _ _)
      | (with_reducible exact chars_Squeeze.mono _ _)
      | (with_reducible exact chars_Text.mono _ _)
      | (with_reducible exact espalierref02_Blank.mono _ _)
      | (with_reducible exact espalierref02_Cut.mono _ _ _ _)
      | (with_reducible exact espalierref02_First.mono _ _)
      | (with_reducible exact espalierref02_Len.mono _ _)
      | (with_reducible exact espalierref02_Name.mono _ _)
      | (with_reducible exact espalierref02_Squeeze.mono _ _)
      | (with_reducible exact espalierref02_Text.mono _ _)
      | (with_reducible exact LeO.refl _)
      | (with_reducible exact LeO.none _)
      | (with_reducible refine LeO.ite ?_ ?_)
      | (with_reducible refine LeO.bind ?_ (fun _ => ?_))
      | exact ih0 _ _ _ _
      | exact ih1 _ _ _ _
      | exact chars_Char.mono _ _
      | exact chars_Cut.mono _ _ _ _
      | exact chars_First.mono _ _
      | exact chars_Len.mono _ _
      | exact chars_Name.mono _ _
      | exact chars_Squeeze.mono _ _
      | exact chars_Text.mono _ _
      | exact espalierref02_Blank.mono _ _
      | exact espalierref02_Cut.mono _ _ _ _
      | exact espalierref02_First.mono _ _
      | exact espalierref02_Len.mono _ _
      | exact espalierref02_Name.mono _ _
      | exact espalierref02_Squeeze.mono _ _
      | exact espalierref02_Text.mono _ _
      | exact LeO.none _
      | refine LeO.ite ?_ ?_
      | refine LeO.bind ?_ (fun _ => ?_)
    · intro y0 y1 y2 y3
      unfold espalierlaw02_CharsTexts.j1
      repeat' first
      | (with_reducible exact ih0 _ _ _ _)
      | (with_reducible exact ih1 _ _ _ _)
      | (with_reducible exact chars_Char.mono _ _)
      | (with_reducible exact chars_Cut.mono _ _ _ _)
      | (with_reducible exact chars_First.mono _ _)
      | (with_reducible exact chars_Len.mono _ _)
      | (with_reducible exact chars_Name.mono _ _)
      | (with_reducible exact chars_Squeeze.mono _ _)
      | (with_reducible exact chars_Text.mono _ _)
      | (with_reducible exact espalierref02_Blank.mono _ _)
      | (with_reducible exact espalierref02_Cut.mono _ _ _ _)
      | (with_reducible exact espalierref02_First.mono _ _)
      | (with_reducible exact espalierref02_Len.mono _ _)
      | (with_reducible exact espalierref02_Name.mono _ _)
      | (with_reducible exact espalierref02_Squeeze.mono _ _)
      | (with_reducible exact espalierref02_Text.mono _ _)
      | (with_reducible exact LeO.refl _)
      | (with_reducible exact LeO.none _)
      | (with_reducible refine LeO.ite ?_ ?_)
      | (with_reducible refine LeO.bind ?_ (fun _ => ?_))
      | exact ih0 _ _ _ _
      | exact ih1 _ _ _ _
      | exact chars_Char.mono _ _
      | exact chars_Cut.mono _ _ _ _
      | exact chars_First.mono _ _
      | exact chars_Len.mono _ _
      | exact chars_Name.mono _ _
      | exact chars_Squeeze.mono _ _
      | exact chars_Text.mono _ _
      | exact espalierref02_Blank.mono _ _
      | exact espalierref02_Cut.mono _ _ _ _
      | exact espalierref02_First.mono _ _
      | exact espalierref02_Len.mono _ _
      | exact espalierref02_Name.mono _ _
      | exact espalierref02_Squeeze.mono _ _
      | exact espalierref02_Text.mono _ _
      | exact LeO.none _
      | refine LeO.ite ?_ ?_
      | refine LeO.bind ?_ (fun _ => ?_)
theorem espalierlaw02_CharsTexts.mono : ∀ a0 a1 a2 a3 k, LeO (espalierlaw02_CharsTexts.f k a0 a1 a2 a3) (espalierlaw02_CharsTexts.f (k + 1) a0 a1 a2 a3) := by
  intro a0 a1 a2 a3 k
  obtain ⟨ih0, ih1⟩ := espalierlaw02_CharsTexts.mono_l k
  unfold espalierlaw02_CharsTexts.f
  repeat' first
      | (with_reducible exact ih0 _ _ _ _)
      | (with_reducible exact ih1 _ _ _ _)
      | (with_reducible exact chars_Char.mono _ _)
      | (with_reducible exact chars_Cut.mono _ _ _ _)
      | (with_reducible exact chars_First.mono _ _)
      | (with_reducible exact chars_Len.mono _ _)
      | (with_reducible exact chars_Name.mono _ _)
      | (with_reducible exact chars_Squeeze.mono _ _)
      | (with_reducible exact chars_Text.mono _ _)
      | (with_reducible exact espalierref02_Blank.mono _ _)
      | (with_reducible exact espalierref02_Cut.mono _ _ _ _)
      | (with_reducible exact espalierref02_First.mono _ _)
      | (with_reducible exact espalierref02_Len.mono _ _)
      | (with_reducible exact espalierref02_Name.mono _ _)
      | (with_reducible exact espalierref02_Squeeze.mono _ _)
      | (with_reducible exact espalierref02_Text.mono _ _)
      | (with_reducible exact LeO.refl _)
      | (with_reducible exact LeO.none _)
      | (with_reducible refine LeO.ite ?_ ?_)
      | (with_reducible refine LeO.bind ?_ (fun _ => ?_))
      | exact ih0 _ _ _ _
      | exact ih1 _ _ _ _
      | exact chars_Char.mono _ _
      | exact chars_Cut.mono _ _ _ _
      | exact chars_First.mono _ _
      | exact chars_Len.mono _ _
      | exact chars_Name.mono _ _
      | exact chars_Squeeze.mono _ _
      | exact chars_Text.mono _ _
      | exact espalierref02_Blank.mono _ _
      | exact espalierref02_Cut.mono _ _ _ _
      | exact espalierref02_First.mono _ _
      | exact espalierref02_Len.mono _ _
      | exact espalierref02_Name.mono _ _
      | exact espalierref02_Squeeze.mono _ _
      | exact espalierref02_Text.mono _ _
      | exact LeO.none _
      | refine LeO.ite ?_ ?_
      | refine LeO.bind ?_ (fun _ => ?_)
set_option maxHeartbeats 8000000 in
set_option maxRecDepth 100000 in
theorem espalierlaw02_CharsTexts.calls (k : Nat) (a0 : ByteArray) (a1 : Int) (a2 : Int) (a3 : Int) (r : Bool) (w : World) (h : espalierlaw02_CharsTexts.f k a0 a1 a2 a3 = some r) (hG : Glob w := by first | exact Glob.step HG.out (by repeat (first | (with_reducible first | exact HB.out | apply below_alloc | apply pw_below_drewN | apply below_drew1) | exact HB.out)) | exact HG.out | assumption) :
    Calls Tryd.prog 4 #[.string a0, .int .i64 a1, .int .i64 a2, .int .i64 a3] w fun e w' => e = .returned (.bool r) ∧ Below w.heap.size w w' := by
  have HG := Aside0.mk hG
  clear hG
  have HB := Aside0.mk (Below.refl w.heap.size w)
  have H : ((chars_First.f k a0).bind fun bt179 => ((espalierref02_First.f k a0).bind fun bt182 => ((chars_Text.f k a0).bind fun bt185 => ((espalierref02_Text.f k a0).bind fun bt187 => ((chars_Char.f k a1).bind fun t189 => ((espalierref02_Char.f a1).bind fun t190 => (if (t189 != t190) = true then (espalierlaw02_CharsTexts.j0 k a0 a2 a3 true) else (if bt179.1 = bt182.1 then (if bt179.2.1 = bt182.2.1 then (if bt179.2.2 = bt182.2.2 then (if bt185.1 = bt187.1 then (espalierlaw02_CharsTexts.j0 k a0 a2 a3 (bt185.2 != bt187.2)) else (espalierlaw02_CharsTexts.j0 k a0 a2 a3 true)) else (espalierlaw02_CharsTexts.j0 k a0 a2 a3 true)) else (espalierlaw02_CharsTexts.j0 k a0 a2 a3 true)) else (espalierlaw02_CharsTexts.j0 k a0 a2 a3 true))))))))) = some r := h
  clear h
  replace H := Option.bind_eq_some_iff.mp H
  obtain ⟨⟨t179, t180, t181⟩, A50, H⟩ := H
  replace H : ((espalierref02_First.f k a0).bind fun bt182 => ((chars_Text.f k a0).bind fun bt185 => ((espalierref02_Text.f k a0).bind fun bt187 => ((chars_Char.f k a1).bind fun t189 => ((espalierref02_Char.f a1).bind fun t190 => (if (t189 != t190) = true then (espalierlaw02_CharsTexts.j0 k a0 a2 a3 true) else (if t179 = bt182.1 then (if t180 = bt182.2.1 then (if t181 = bt182.2.2 then (if bt185.1 = bt187.1 then (espalierlaw02_CharsTexts.j0 k a0 a2 a3 (bt185.2 != bt187.2)) else (espalierlaw02_CharsTexts.j0 k a0 a2 a3 true)) else (espalierlaw02_CharsTexts.j0 k a0 a2 a3 true)) else (espalierlaw02_CharsTexts.j0 k a0 a2 a3 true)) else (espalierlaw02_CharsTexts.j0 k a0 a2 a3 true)))))))) = some r := H
  have A5 := Aside0.mk A50
  clear A50
  replace H := Option.bind_eq_some_iff.mp H
  obtain ⟨⟨t182, t183, t184⟩, A60, H⟩ := H
  replace H : ((chars_Text.f k a0).bind fun bt185 => ((espalierref02_Text.f k a0).bind fun bt187 => ((chars_Char.f k a1).bind fun t189 => ((espalierref02_Char.f a1).bind fun t190 => (if (t189 != t190) = true then (espalierlaw02_CharsTexts.j0 k a0 a2 a3 true) else (if t179 = t182 then (if t180 = t183 then (if t181 = t184 then (if bt185.1 = bt187.1 then (espalierlaw02_CharsTexts.j0 k a0 a2 a3 (bt185.2 != bt187.2)) else (espalierlaw02_CharsTexts.j0 k a0 a2 a3 true)) else (espalierlaw02_CharsTexts.j0 k a0 a2 a3 true)) else (espalierlaw02_CharsTexts.j0 k a0 a2 a3 true)) else (espalierlaw02_CharsTexts.j0 k a0 a2 a3 true))))))) = some r := H
  have A6 := Aside0.mk A60
  clear A60
  replace H := Option.bind_eq_some_iff.mp H
  obtain ⟨⟨t185, t186⟩, A70, H⟩ := H
  replace H : ((espalierref02_Text.f k a0).bind fun bt187 => ((chars_Char.f k a1).bind fun t189 => ((espalierref02_Char.f a1).bind fun t190 => (if (t189 != t190) = true then (espalierlaw02_CharsTexts.j0 k a0 a2 a3 true) else (if t179 = t182 then (if t180 = t183 then (if t181 = t184 then (if t185 = bt187.1 then (espalierlaw02_CharsTexts.j0 k a0 a2 a3 (t186 != bt187.2)) else (espalierlaw02_CharsTexts.j0 k a0 a2 a3 true)) else (espalierlaw02_CharsTexts.j0 k a0 a2 a3 true)) else (espalierlaw02_CharsTexts.j0 k a0 a2 a3 true)) else (espalierlaw02_CharsTexts.j0 k a0 a2 a3 true)))))) = some r := H
  have A7 := Aside0.mk A70
  clear A70
  replace H := Option.bind_eq_some_iff.mp H
  obtain ⟨⟨t187, t188⟩, A80, H⟩ := H
  replace H : ((chars_Char.f k a1).bind fun t189 => ((espalierref02_Char.f a1).bind fun t190 => (if (t189 != t190) = true then (espalierlaw02_CharsTexts.j0 k a0 a2 a3 true) else (if t179 = t182 then (if t180 = t183 then (if t181 = t184 then (if t185 = t187 then (espalierlaw02_CharsTexts.j0 k a0 a2 a3 (t186 != t188)) else (espalierlaw02_CharsTexts.j0 k a0 a2 a3 true)) else (espalierlaw02_CharsTexts.j0 k a0 a2 a3 true)) else (espalierlaw02_CharsTexts.j0 k a0 a2 a3 true)) else (espalierlaw02_CharsTexts.j0 k a0 a2 a3 true))))) = some r := H
  have A8 := Aside0.mk A80
  clear A80
  have HC9 := Aside0.mk H
  clear H
  go_enter Tryd.func4, Tryd.ntmps4
  go_upto_region 5 with (first | ((with_reducible refine gate_callee (f := 12) rfl ?_); refine goesL_ (some 33) rfl rfl Tryd.func12 (by kernel_rfl) rfl #[.string a0] rfl (by (try simp only [List.map_toArray, List.map_cons, List.map_nil]); first | done | rfl | (simp only [List.length_drop, List.length_take]; rfl)) ?_; (with_reducible refine (chars_First.calls k a0 t179 t180 t181 _ A5.out).mono ?_); rintro e w10 ⟨rfl, hb⟩; refine ⟨_, rfl, ?_⟩; have n0_ := Aside0.mk (below_step (by repeat (first | (with_reducible first | exact HB.out | apply below_alloc | apply pw_below_drewN | apply below_drew1) | exact HB.out)) hb); clear HB; have HB := n0_; clear n0_; (try clear hb); (try clear hb2); (try clear hk); (try clear hi)) | ((with_reducible refine gate_callee (f := 13) rfl ?_); refine goesL_ (some 39) rfl rfl Tryd.func13 (by kernel_rfl) rfl #[.string a0] rfl (by (try simp only [List.map_toArray, List.map_cons, List.map_nil]); first | done | rfl | (simp only [List.length_drop, List.length_take]; rfl)) ?_; (with_reducible refine (espalierref02_First.calls k a0 t182 t183 t184 _ A6.out).mono ?_); rintro e w11 ⟨rfl, hb⟩; refine ⟨_, rfl, ?_⟩; have n0_ := Aside0.mk (below_step (by repeat (first | (with_reducible first | exact HB.out | apply below_alloc | apply pw_below_drewN | apply below_drew1) | exact HB.out)) hb); clear HB; have HB := n0_; clear n0_; (try clear hb); (try clear hb2); (try clear hk); (try clear hi)) | ((with_reducible refine gate_callee (f := 14) rfl ?_); refine goesL_ (some 45) rfl rfl Tryd.func14 (by kernel_rfl) rfl #[.string a0] rfl (by (try simp only [List.map_toArray, List.map_cons, List.map_nil]); first | done | rfl | (simp only [List.length_drop, List.length_take]; rfl)) ?_; (with_reducible refine (chars_Text.calls k a0 t185 t186 _ A7.out).mono ?_); rintro e w12 ⟨rfl, hb⟩; refine ⟨_, rfl, ?_⟩; have n0_ := Aside0.mk (below_step (by repeat (first | (with_reducible first | exact HB.out | apply below_alloc | apply pw_below_drewN | apply below_drew1) | exact HB.out)) hb); clear HB; have HB := n0_; clear n0_; (try clear hb); (try clear hb2); (try clear hk); (try clear hi)) | ((with_reducible refine gate_callee (f := 15) rfl ?_); refine goesL_ (some 50) rfl rfl Tryd.func15 (by kernel_rfl) rfl #[.string a0] rfl (by (try simp only [List.map_toArray, List.map_cons, List.map_nil]); first | done | rfl | (simp only [List.length_drop, List.length_take]; rfl)) ?_; (with_reducible refine (espalierref02_Text.calls k a0 t187 t188 _ A8.out).mono ?_); rintro e w13 ⟨rfl, hb⟩; refine ⟨_, rfl, ?_⟩; have n0_ := Aside0.mk (below_step (by repeat (first | (with_reducible first | exact HB.out | apply below_alloc | apply pw_below_drewN | apply below_drew1) | exact HB.out)) hb); clear HB; have HB := n0_; clear n0_; (try clear hb); (try clear hb2); (try clear hk); (try clear hi)))
  (try simp only [Act.put, List.setIfInBounds_toArray, List.set_cons_zero, List.set_cons_succ])
  go_cut [82] (fun v82 wc => ∃ (kq : Nat) (x82_8 : Bool), v82 = .bool x82_8 ∧ Aside0 (espalierlaw02_CharsTexts.j0 kq a0 a2 a3 x82_8 = some r) ∧ Aside0 (kq ≤ k) ∧ Aside0 (Below w.heap.size w wc))
  case first =>
    have H := HC9.out
    clear HC9
    replace H := Option.bind_eq_some_iff.mp H
    obtain ⟨t189, A140, H⟩ := H
    replace H : ((espalierref02_Char.f a1).bind fun t190 => (if (t189 != t190) = true then (espalierlaw02_CharsTexts.j0 k a0 a2 a3 true) else (if t179 = t182 then (if t180 = t183 then (if t181 = t184 then (if t185 = t187 then (espalierlaw02_CharsTexts.j0 k a0 a2 a3 (t186 != t188)) else (espalierlaw02_CharsTexts.j0 k a0 a2 a3 true)) else (espalierlaw02_CharsTexts.j0 k a0 a2 a3 true)) else (espalierlaw02_CharsTexts.j0 k a0 a2 a3 true)) else (espalierlaw02_CharsTexts.j0 k a0 a2 a3 true)))) = some r := H
    have A14 := Aside0.mk A140
    clear A140
    replace H := Option.bind_eq_some_iff.mp H
    obtain ⟨t190, A150, H⟩ := H
    replace H : (if (t189 != t190) = true then (espalierlaw02_CharsTexts.j0 k a0 a2 a3 true) else (if t179 = t182 then (if t180 = t183 then (if t181 = t184 then (if t185 = t187 then (espalierlaw02_CharsTexts.j0 k a0 a2 a3 (t186 != t188)) else (espalierlaw02_CharsTexts.j0 k a0 a2 a3 true)) else (espalierlaw02_CharsTexts.j0 k a0 a2 a3 true)) else (espalierlaw02_CharsTexts.j0 k a0 a2 a3 true)) else (espalierlaw02_CharsTexts.j0 k a0 a2 a3 true))) = some r := H
    have A15 := Aside0.mk A150
    clear A150
    by_cases c16 : (t189 != t190) = true
    · rw [if_pos c16] at H
      have c16b0 : (t189 != t190) = true := c16
      (try (have c16b1 : decide (t189 = t190) = false := by simpa using c16))
      (try (have c16b2 : (t189 == t190) = false := by simpa using c16))
      (try (have c16b3 : ¬ (t189 = t190) := by simpa using c16))
      clear c16
      (first | rw [c16b0] | (simp only [i64_w, i32_w]; rw [c16b0]) | skip)
      have H' := Aside0.mk H
      clear H
      go_wp2_with (first | ((with_reducible refine gate_callee (f := 16) rfl ?_); refine goesL_ (some 54) rfl rfl Tryd.func16 (by kernel_rfl) rfl #[.int .i64 a1] rfl (by (try simp only [List.map_toArray, List.map_cons, List.map_nil]); first | done | rfl | (simp only [List.length_drop, List.length_take]; rfl)) ?_; (with_reducible refine (chars_Char.calls k a1 t189 _ A14.out).mono ?_); rintro e w' ⟨rfl, ⟨nd, rfl⟩⟩; refine ⟨_, rfl, ?_⟩) | ((with_reducible refine gate_callee (f := 17) rfl ?_); refine goesL_ (some 56) rfl rfl Tryd.func17 (by kernel_rfl) rfl #[.int .i64 a1] rfl (by (try simp only [List.map_toArray, List.map_cons, List.map_nil]); first | done | rfl | (simp only [List.length_drop, List.length_take]; rfl)) ?_; (with_reducible refine (espalierref02_Char.calls a1 t190 _ A15.out).mono ?_); rintro e w' ⟨rfl, ⟨nd, rfl⟩⟩; refine ⟨_, rfl, ?_⟩))
      go_meet
      case rel => exact ⟨_, (true), (by first | rfl | (simp; done) | (simp [*]; done)), H', ⟨by first | omega | exact Nat.le_refl _⟩, ⟨by repeat (first | (with_reducible first | exact HB.out | apply below_alloc | apply pw_below_drewN | apply below_drew1) | exact HB.out)⟩⟩
    · rw [if_neg c16] at H
      have c16b0 : (t189 != t190) = false := by simpa using c16
      (try (have c16b1 : decide (t189 = t190) = true := by simpa using c16))
      (try (have c16b2 : (t189 == t190) = true := by simpa using c16))
      clear c16
      (first | rw [c16b0] | (simp only [i64_w, i32_w]; rw [c16b0]) | skip)
      by_cases c17 : t179 = t182
      · rw [if_pos c17] at H
        have c17b0 : (t179 == t182) = true := beq_iff_eq.mpr c17
        have c17b1 : (t179 != t182) = false := bne_eq_false_iff_eq.mpr c17
        clear c17
        by_cases c18 : t180 = t183
        · rw [if_pos c18] at H
          have c18b0 : (t180 == t183) = true := beq_iff_eq.mpr c18
          have c18b1 : (t180 != t183) = false := bne_eq_false_iff_eq.mpr c18
          clear c18
          by_cases c19 : t181 = t184
          · rw [if_pos c19] at H
            have c19b0 : (t181 == t184) = true := beq_iff_eq.mpr c19
            have c19b1 : (t181 != t184) = false := bne_eq_false_iff_eq.mpr c19
            clear c19
            by_cases c20 : t185 = t187
            · rw [if_pos c20] at H
              have c20b0 : (t185 == t187) = true := beq_iff_eq.mpr c20
              have c20b1 : (t185 != t187) = false := bne_eq_false_iff_eq.mpr c20
              clear c20
              have H' := Aside0.mk H
              clear H
              go_wp2_with (first | ((with_reducible refine gate_callee (f := 16) rfl ?_); refine goesL_ (some 54) rfl rfl Tryd.func16 (by kernel_rfl) rfl #[.int .i64 a1] rfl (by (try simp only [List.map_toArray, List.map_cons, List.map_nil]); first | done | rfl | (simp only [List.length_drop, List.length_take]; rfl)) ?_; (with_reducible refine (chars_Char.calls k a1 t189 _ A14.out).mono ?_); rintro e w' ⟨rfl, ⟨nd, rfl⟩⟩; refine ⟨_, rfl, ?_⟩) | ((with_reducible refine gate_callee (f := 17) rfl ?_); refine goesL_ (some 56) rfl rfl Tryd.func17 (by kernel_rfl) rfl #[.int .i64 a1] rfl (by (try simp only [List.map_toArray, List.map_cons, List.map_nil]); first | done | rfl | (simp only [List.length_drop, List.length_take]; rfl)) ?_; (with_reducible refine (espalierref02_Char.calls a1 t190 _ A15.out).mono ?_); rintro e w' ⟨rfl, ⟨nd, rfl⟩⟩; refine ⟨_, rfl, ?_⟩))
              go_meet
              case rel => exact ⟨_, ((t186 != t188)), (by first | rfl | (simp; done) | (simp [*]; done)), H', ⟨by first | omega | exact Nat.le_refl _⟩, ⟨by repeat (first | (with_reducible first | exact HB.out | apply below_alloc | apply pw_below_drewN | apply below_drew1) | exact HB.out)⟩⟩
            · rw [if_neg c20] at H
              have c20b0 : (t185 == t187) = false := beq_eq_false_iff_ne.mpr c20
              have c20b1 : (t185 != t187) = true := bne_iff_ne.mpr c20
              have H' := Aside0.mk H
              clear H
              go_wp2_with (first | ((with_reducible refine gate_callee (f := 16) rfl ?_); refine goesL_ (some 54) rfl rfl Tryd.func16 (by kernel_rfl) rfl #[.int .i64 a1] rfl (by (try simp only [List.map_toArray, List.map_cons, List.map_nil]); first | done | rfl | (simp only [List.length_drop, List.length_take]; rfl)) ?_; (with_reducible refine (chars_Char.calls k a1 t189 _ A14.out).mono ?_); rintro e w' ⟨rfl, ⟨nd, rfl⟩⟩; refine ⟨_, rfl, ?_⟩) | ((with_reducible refine gate_callee (f := 17) rfl ?_); refine goesL_ (some 56) rfl rfl Tryd.func17 (by kernel_rfl) rfl #[.int .i64 a1] rfl (by (try simp only [List.map_toArray, List.map_cons, List.map_nil]); first | done | rfl | (simp only [List.length_drop, List.length_take]; rfl)) ?_; (with_reducible refine (espalierref02_Char.calls a1 t190 _ A15.out).mono ?_); rintro e w' ⟨rfl, ⟨nd, rfl⟩⟩; refine ⟨_, rfl, ?_⟩))
              go_meet
              case rel => exact ⟨_, (true), (by first | rfl | (simp; done) | (simp [*]; done)), H', ⟨by first | omega | exact Nat.le_refl _⟩, ⟨by repeat (first | (with_reducible first | exact HB.out | apply below_alloc | apply pw_below_drewN | apply below_drew1) | exact HB.out)⟩⟩
          · rw [if_neg c19] at H
            have c19b0 : (t181 == t184) = false := beq_eq_false_iff_ne.mpr c19
            have c19b1 : (t181 != t184) = true := bne_iff_ne.mpr c19
            have H' := Aside0.mk H
            clear H
            go_wp2_with (first | ((with_reducible refine gate_callee (f := 16) rfl ?_); refine goesL_ (some 54) rfl rfl Tryd.func16 (by kernel_rfl) rfl #[.int .i64 a1] rfl (by (try simp only [List.map_toArray, List.map_cons, List.map_nil]); first | done | rfl | (simp only [List.length_drop, List.length_take]; rfl)) ?_; (with_reducible refine (chars_Char.calls k a1 t189 _ A14.out).mono ?_); rintro e w' ⟨rfl, ⟨nd, rfl⟩⟩; refine ⟨_, rfl, ?_⟩) | ((with_reducible refine gate_callee (f := 17) rfl ?_); refine goesL_ (some 56) rfl rfl Tryd.func17 (by kernel_rfl) rfl #[.int .i64 a1] rfl (by (try simp only [List.map_toArray, List.map_cons, List.map_nil]); first | done | rfl | (simp only [List.length_drop, List.length_take]; rfl)) ?_; (with_reducible refine (espalierref02_Char.calls a1 t190 _ A15.out).mono ?_); rintro e w' ⟨rfl, ⟨nd, rfl⟩⟩; refine ⟨_, rfl, ?_⟩))
            go_meet
            case rel => exact ⟨_, (true), (by first | rfl | (simp; done) | (simp [*]; done)), H', ⟨by first | omega | exact Nat.le_refl _⟩, ⟨by repeat (first | (with_reducible first | exact HB.out | apply below_alloc | apply pw_below_drewN | apply below_drew1) | exact HB.out)⟩⟩
        · rw [if_neg c18] at H
          have c18b0 : (t180 == t183) = false := beq_eq_false_iff_ne.mpr c18
          have c18b1 : (t180 != t183) = true := bne_iff_ne.mpr c18
          have H' := Aside0.mk H
          clear H
          go_wp2_with (first | ((with_reducible refine gate_callee (f := 16) rfl ?_); refine goesL_ (some 54) rfl rfl Tryd.func16 (by kernel_rfl) rfl #[.int .i64 a1] rfl (by (try simp only [List.map_toArray, List.map_cons, List.map_nil]); first | done | rfl | (simp only [List.length_drop, List.length_take]; rfl)) ?_; (with_reducible refine (chars_Char.calls k a1 t189 _ A14.out).mono ?_); rintro e w' ⟨rfl, ⟨nd, rfl⟩⟩; refine ⟨_, rfl, ?_⟩) | ((with_reducible refine gate_callee (f := 17) rfl ?_); refine goesL_ (some 56) rfl rfl Tryd.func17 (by kernel_rfl) rfl #[.int .i64 a1] rfl (by (try simp only [List.map_toArray, List.map_cons, List.map_nil]); first | done | rfl | (simp only [List.length_drop, List.length_take]; rfl)) ?_; (with_reducible refine (espalierref02_Char.calls a1 t190 _ A15.out).mono ?_); rintro e w' ⟨rfl, ⟨nd, rfl⟩⟩; refine ⟨_, rfl, ?_⟩))
          go_meet
          case rel => exact ⟨_, (true), (by first | rfl | (simp; done) | (simp [*]; done)), H', ⟨by first | omega | exact Nat.le_refl _⟩, ⟨by repeat (first | (with_reducible first | exact HB.out | apply below_alloc | apply pw_below_drewN | apply below_drew1) | exact HB.out)⟩⟩
      · rw [if_neg c17] at H
        have c17b0 : (t179 == t182) = false := beq_eq_false_iff_ne.mpr c17
        have c17b1 : (t179 != t182) = true := bne_iff_ne.mpr c17
        have H' := Aside0.mk H
        clear H
        go_wp2_with (first | ((with_reducible refine gate_callee (f := 16) rfl ?_); refine goesL_ (some 54) rfl rfl Tryd.func16 (by kernel_rfl) rfl #[.int .i64 a1] rfl (by (try simp only [List.map_toArray, List.map_cons, List.map_nil]); first | done | rfl | (simp only [List.length_drop, List.length_take]; rfl)) ?_; (with_reducible refine (chars_Char.calls k a1 t189 _ A14.out).mono ?_); rintro e w' ⟨rfl, ⟨nd, rfl⟩⟩; refine ⟨_, rfl, ?_⟩) | ((with_reducible refine gate_callee (f := 17) rfl ?_); refine goesL_ (some 56) rfl rfl Tryd.func17 (by kernel_rfl) rfl #[.int .i64 a1] rfl (by (try simp only [List.map_toArray, List.map_cons, List.map_nil]); first | done | rfl | (simp only [List.length_drop, List.length_take]; rfl)) ?_; (with_reducible refine (espalierref02_Char.calls a1 t190 _ A15.out).mono ?_); rintro e w' ⟨rfl, ⟨nd, rfl⟩⟩; refine ⟨_, rfl, ?_⟩))
        go_meet
        case rel => exact ⟨_, (true), (by first | rfl | (simp; done) | (simp [*]; done)), H', ⟨by first | omega | exact Nat.le_refl _⟩, ⟨by repeat (first | (with_reducible first | exact HB.out | apply below_alloc | apply pw_below_drewN | apply below_drew1) | exact HB.out)⟩⟩
  case rest =>
    clear HC9
    try clear c1
    try clear c2
    try clear p2
    try clear c4
    try clear c12
    try clear c13
    try clear c14
    try clear c15
    try clear c16
    try clear c16b0
    try clear c16b1
    try clear c16b2
    try clear c17
    try clear c17b0
    try clear c17b1
    try clear c18
    try clear c18b0
    try clear c18b1
    try clear c19
    try clear c19b0
    try clear c19b1
    try clear c20
    try clear c20b0
    try clear c20b1
    obtain ⟨kq, x82_8, rfl, HA, HJ8, HB⟩ := hcut
    cases kq with
    | zero => exact absurd HA.out (by simp [espalierlaw02_CharsTexts.j0])
    | succ kj8 =>
      have H := HA.out
      clear HA
      simp only [espalierlaw02_CharsTexts.j0] at H
      by_cases c21 : x82_8 = true
      · subst c21
        have H1 : (some false) = some r := by rw [if_pos rfl] at H; exact H
        clear H
        have H := H1
        clear H1
        obtain rfl := Option.some.inj H
        go_wp2
        go_ret
        exact ⟨by first | rfl | (simp [errW_none, errW_some] <;> rfl) | (simp [*, errW_none, errW_some] <;> rfl), by repeat (first | (with_reducible first | exact HB.out | apply below_alloc | apply pw_below_drewN | apply below_drew1) | exact HB.out)⟩
      · replace c21 := Bool.eq_false_iff.mpr c21
        subst c21
        have H1 : ((chars_Name.f kj8 a0).bind fun t191 => ((espalierref02_Name.f kj8 a0).bind fun t192 => (if (t191 != t192) = true then (espalierlaw02_CharsTexts.j1 kj8 a0 a2 a3 true) else ((chars_Blank.f a0).bind fun t193 => ((espalierref02_Blank.f kj8 a0).bind fun t194 => (espalierlaw02_CharsTexts.j1 kj8 a0 a2 a3 (t193 != t194))))))) = some r := by rw [if_neg (show ¬ (false = true) by decide)] at H; exact H
        clear H
        have H := H1
        clear H1
        have HC22 := Aside0.mk H
        clear H
        go_upto_region 7 with (fail)
        go_cut [94] (fun v94 wc => ∃ (kq : Nat) (x94_21 : Bool), v94 = .bool x94_21 ∧ Aside0 (espalierlaw02_CharsTexts.j1 kq a0 a2 a3 x94_21 = some r) ∧ Aside0 (kq ≤ kj8) ∧ Aside0 (Below w.heap.size w wc))
        case first =>
          have H := HC22.out
          clear HC22
          replace H := Option.bind_eq_some_iff.mp H
          obtain ⟨t191, A230, H⟩ := H
          replace H : ((espalierref02_Name.f kj8 a0).bind fun t192 => (if (t191 != t192) = true then (espalierlaw02_CharsTexts.j1 kj8 a0 a2 a3 true) else ((chars_Blank.f a0).bind fun t193 => ((espalierref02_Blank.f kj8 a0).bind fun t194 => (espalierlaw02_CharsTexts.j1 kj8 a0 a2 a3 (t193 != t194)))))) = some r := H
          have A23 := Aside0.mk A230
          clear A230
          replace H := Option.bind_eq_some_iff.mp H
          obtain ⟨t192, A240, H⟩ := H
          replace H : (if (t191 != t192) = true then (espalierlaw02_CharsTexts.j1 kj8 a0 a2 a3 true) else ((chars_Blank.f a0).bind fun t193 => ((espalierref02_Blank.f kj8 a0).bind fun t194 => (espalierlaw02_CharsTexts.j1 kj8 a0 a2 a3 (t193 != t194))))) = some r := H
          have A24 := Aside0.mk A240
          clear A240
          by_cases c25 : (t191 != t192) = true
          · rw [if_pos c25] at H
            have c25b0 : (t191 != t192) = true := c25
            (try (have c25b1 : decide (t191 = t192) = false := by simpa using c25))
            (try (have c25b2 : (t191 == t192) = false := by simpa using c25))
            (try (have c25b3 : ¬ (t191 = t192) := by simpa using c25))
            clear c25
            (first | rw [c25b0] | (simp only [i64_w, i32_w]; rw [c25b0]) | skip)
            have H' := Aside0.mk H
            clear H
            go_wp2_with (first | ((with_reducible refine gate_callee (f := 18) rfl ?_); refine goesL_ (some 84) rfl rfl Tryd.func18 (by kernel_rfl) rfl #[.string a0] rfl (by (try simp only [List.map_toArray, List.map_cons, List.map_nil]); first | done | rfl | (simp only [List.length_drop, List.length_take]; rfl)) ?_; (with_reducible refine (chars_Name.calls kj8 a0 t191 _ A23.out).mono ?_); rintro e w' ⟨rfl, ⟨nd, rfl⟩⟩; refine ⟨_, rfl, ?_⟩) | ((with_reducible refine gate_callee (f := 19) rfl ?_); refine goesL_ (some 86) rfl rfl Tryd.func19 (by kernel_rfl) rfl #[.string a0] rfl (by (try simp only [List.map_toArray, List.map_cons, List.map_nil]); first | done | rfl | (simp only [List.length_drop, List.length_take]; rfl)) ?_; (with_reducible refine (espalierref02_Name.calls kj8 a0 t192 _ A24.out).mono ?_); rintro e w' ⟨rfl, ⟨nd, rfl⟩⟩; refine ⟨_, rfl, ?_⟩))
            go_meet
            case rel => exact ⟨_, (true), (by first | rfl | (simp; done) | (simp [*]; done)), H', ⟨by have := HJ8.out; first | omega | exact Nat.le_refl _⟩, ⟨by repeat (first | (with_reducible first | exact HB.out | apply below_alloc | apply pw_below_drewN | apply below_drew1) | exact HB.out)⟩⟩
          · rw [if_neg c25] at H
            have c25b0 : (t191 != t192) = false := by simpa using c25
            (try (have c25b1 : decide (t191 = t192) = true := by simpa using c25))
            (try (have c25b2 : (t191 == t192) = true := by simpa using c25))
            clear c25
            (first | rw [c25b0] | (simp only [i64_w, i32_w]; rw [c25b0]) | skip)
            replace H := Option.bind_eq_some_iff.mp H
            obtain ⟨t193, A260, H⟩ := H
            replace H : ((espalierref02_Blank.f kj8 a0).bind fun t194 => (espalierlaw02_CharsTexts.j1 kj8 a0 a2 a3 (t193 != t194))) = some r := H
            have A26 := Aside0.mk A260
            clear A260
            replace H := Option.bind_eq_some_iff.mp H
            obtain ⟨t194, A270, H⟩ := H
            replace H : (espalierlaw02_CharsTexts.j1 kj8 a0 a2 a3 (t193 != t194)) = some r := H
            have A27 := Aside0.mk A270
            clear A270
            have H' := Aside0.mk H
            clear H
            go_wp2_with (first | ((with_reducible refine gate_callee (f := 18) rfl ?_); refine goesL_ (some 84) rfl rfl Tryd.func18 (by kernel_rfl) rfl #[.string a0] rfl (by (try simp only [List.map_toArray, List.map_cons, List.map_nil]); first | done | rfl | (simp only [List.length_drop, List.length_take]; rfl)) ?_; (with_reducible refine (chars_Name.calls kj8 a0 t191 _ A23.out).mono ?_); rintro e w' ⟨rfl, ⟨nd, rfl⟩⟩; refine ⟨_, rfl, ?_⟩) | ((with_reducible refine gate_callee (f := 19) rfl ?_); refine goesL_ (some 86) rfl rfl Tryd.func19 (by kernel_rfl) rfl #[.string a0] rfl (by (try simp only [List.map_toArray, List.map_cons, List.map_nil]); first | done | rfl | (simp only [List.length_drop, List.length_take]; rfl)) ?_; (with_reducible refine (espalierref02_Name.calls kj8 a0 t192 _ A24.out).mono ?_); rintro e w' ⟨rfl, ⟨nd, rfl⟩⟩; refine ⟨_, rfl, ?_⟩) | (go_at_call 20; (with_reducible refine (chars_Blank.calls a0 t193 _ A26.out).mono ?_); rintro e w28 ⟨rfl, hb⟩; have n0_ := Aside0.mk (below_step (by repeat (first | (with_reducible first | exact HB.out | apply below_alloc | apply pw_below_drewN | apply below_drew1) | exact HB.out)) hb); clear HB; have HB := n0_; clear n0_; (try clear hb); (try clear hb2); (try clear hk); (try clear hi)) | (go_at_call 21; (with_reducible refine (espalierref02_Blank.calls kj8 a0 t194 _ A27.out).mono ?_); rintro e w' ⟨rfl, ⟨nd, rfl⟩⟩))
            go_meet
            case rel => exact ⟨_, ((t193 != t194)), (by first | rfl | (simp; done) | (simp [*]; done)), H', ⟨by have := HJ8.out; first | omega | exact Nat.le_refl _⟩, ⟨by repeat (first | (with_reducible first | exact HB.out | apply below_alloc | apply pw_below_drewN | apply below_drew1) | exact HB.out)⟩⟩
        case rest =>
          clear HC22
          try clear c1
          try clear c2
          try clear p2
          try clear c4
          try clear c12
          try clear c13
          try clear c14
          try clear c15
          try clear c16
          try clear c16b0
          try clear c16b1
          try clear c16b2
          try clear c17
          try clear c17b0
          try clear c17b1
          try clear c18
          try clear c18b0
          try clear c18b1
          try clear c19
          try clear c19b0
          try clear c19b1
          try clear c20
          try clear c20b0
          try clear c20b1
          try clear c21
          try clear c25
          try clear c25b0
          try clear c25b1
          try clear c25b2
          try clear p2
          obtain ⟨kq, x94_21, rfl, HA, HJ21, HB⟩ := hcut
          cases kq with
          | zero => exact absurd HA.out (by simp [espalierlaw02_CharsTexts.j1])
          | succ kj21 =>
            have H := HA.out
            clear HA
            simp only [espalierlaw02_CharsTexts.j1] at H
            by_cases c29 : x94_21 = true
            · subst c29
              have H1 : (some false) = some r := by rw [if_pos rfl] at H; exact H
              clear H
              have H := H1
              clear H1
              obtain rfl := Option.some.inj H
              go_wp2
              go_ret
              exact ⟨by first | rfl | (simp [errW_none, errW_some] <;> rfl) | (simp [*, errW_none, errW_some] <;> rfl), by repeat (first | (with_reducible first | exact HB.out | apply below_alloc | apply pw_below_drewN | apply below_drew1) | exact HB.out)⟩
            · replace c29 := Bool.eq_false_iff.mpr c29
              subst c29
              have H1 : ((chars_Len.f kj21 a0).bind fun bt195 => ((espalierref02_Len.f kj21 a0).bind fun bt197 => ((chars_Cut.f kj21 a0 a2 a3).bind fun bt199 => ((espalierref02_Cut.f kj21 a0 a2 a3).bind fun bt201 => ((chars_Squeeze.f kj21 a0).bind fun bt203 => ((espalierref02_Squeeze.f kj21 a0).bind fun bt205 => (if bt195.1 = bt197.1 then (if bt195.2 = bt197.2 then (if bt199.1.toList = bt201.1.toList then (if bt199.2 = bt201.2 then (if bt203.1.toList = bt205.1.toList then (some (bt203.2 == bt205.2)) else (some false)) else (some false)) else (some false)) else (some false)) else (some false)))))))) = some r := by rw [if_neg (show ¬ (false = true) by decide)] at H; exact H
              clear H
              have H := H1
              clear H1
              replace H := Option.bind_eq_some_iff.mp H
              obtain ⟨⟨t195, t196⟩, A300, H⟩ := H
              replace H : ((espalierref02_Len.f kj21 a0).bind fun bt197 => ((chars_Cut.f kj21 a0 a2 a3).bind fun bt199 => ((espalierref02_Cut.f kj21 a0 a2 a3).bind fun bt201 => ((chars_Squeeze.f kj21 a0).bind fun bt203 => ((espalierref02_Squeeze.f kj21 a0).bind fun bt205 => (if t195 = bt197.1 then (if t196 = bt197.2 then (if bt199.1.toList = bt201.1.toList then (if bt199.2 = bt201.2 then (if bt203.1.toList = bt205.1.toList then (some (bt203.2 == bt205.2)) else (some false)) else (some false)) else (some false)) else (some false)) else (some false))))))) = some r := H
              have A30 := Aside0.mk A300
              clear A300
              replace H := Option.bind_eq_some_iff.mp H
              obtain ⟨⟨t197, t198⟩, A310, H⟩ := H
              replace H : ((chars_Cut.f kj21 a0 a2 a3).bind fun bt199 => ((espalierref02_Cut.f kj21 a0 a2 a3).bind fun bt201 => ((chars_Squeeze.f kj21 a0).bind fun bt203 => ((espalierref02_Squeeze.f kj21 a0).bind fun bt205 => (if t195 = t197 then (if t196 = t198 then (if bt199.1.toList = bt201.1.toList then (if bt199.2 = bt201.2 then (if bt203.1.toList = bt205.1.toList then (some (bt203.2 == bt205.2)) else (some false)) else (some false)) else (some false)) else (some false)) else (some false)))))) = some r := H
              have A31 := Aside0.mk A310
              clear A310
              replace H := Option.bind_eq_some_iff.mp H
              obtain ⟨⟨t199, t200⟩, A320, H⟩ := H
              replace H : ((espalierref02_Cut.f kj21 a0 a2 a3).bind fun bt201 => ((chars_Squeeze.f kj21 a0).bind fun bt203 => ((espalierref02_Squeeze.f kj21 a0).bind fun bt205 => (if t195 = t197 then (if t196 = t198 then (if t199.toList = bt201.1.toList then (if t200 = bt201.2 then (if bt203.1.toList = bt205.1.toList then (some (bt203.2 == bt205.2)) else (some false)) else (some false)) else (some false)) else (some false)) else (some false))))) = some r := H
              have A32 := Aside0.mk A320
              clear A320
              replace H := Option.bind_eq_some_iff.mp H
              obtain ⟨⟨t201, t202⟩, A330, H⟩ := H
              replace H : ((chars_Squeeze.f kj21 a0).bind fun bt203 => ((espalierref02_Squeeze.f kj21 a0).bind fun bt205 => (if t195 = t197 then (if t196 = t198 then (if t199.toList = t201.toList then (if t200 = t202 then (if bt203.1.toList = bt205.1.toList then (some (bt203.2 == bt205.2)) else (some false)) else (some false)) else (some false)) else (some false)) else (some false)))) = some r := H
              have A33 := Aside0.mk A330
              clear A330
              replace H := Option.bind_eq_some_iff.mp H
              obtain ⟨⟨t203, t204⟩, A340, H⟩ := H
              replace H : ((espalierref02_Squeeze.f kj21 a0).bind fun bt205 => (if t195 = t197 then (if t196 = t198 then (if t199.toList = t201.toList then (if t200 = t202 then (if t203.toList = bt205.1.toList then (some (t204 == bt205.2)) else (some false)) else (some false)) else (some false)) else (some false)) else (some false))) = some r := H
              have A34 := Aside0.mk A340
              clear A340
              replace H := Option.bind_eq_some_iff.mp H
              obtain ⟨⟨t205, t206⟩, A350, H⟩ := H
              replace H : (if t195 = t197 then (if t196 = t198 then (if t199.toList = t201.toList then (if t200 = t202 then (if t203.toList = t205.toList then (some (t204 == t206)) else (some false)) else (some false)) else (some false)) else (some false)) else (some false)) = some r := H
              have A35 := Aside0.mk A350
              clear A350
              by_cases c36 : t195 = t197
              · rw [if_pos c36] at H
                have c36b0 : (t195 == t197) = true := beq_iff_eq.mpr c36
                have c36b1 : (t195 != t197) = false := bne_eq_false_iff_eq.mpr c36
                clear c36
                by_cases c37 : t196 = t198
                · rw [if_pos c37] at H
                  have c37b0 : (t196 == t198) = true := beq_iff_eq.mpr c37
                  have c37b1 : (t196 != t198) = false := bne_eq_false_iff_eq.mpr c37
                  clear c37
                  by_cases c38 : t199.toList = t201.toList
                  · rw [if_pos c38] at H
                    have c38b0 : (t199.toList == t201.toList) = true := beq_iff_eq.mpr c38
                    have c38b1 : (t199.toList != t201.toList) = false := bne_eq_false_iff_eq.mpr c38
                    clear c38
                    by_cases c39 : t200 = t202
                    · rw [if_pos c39] at H
                      have c39b0 : (t200 == t202) = true := beq_iff_eq.mpr c39
                      have c39b1 : (t200 != t202) = false := bne_eq_false_iff_eq.mpr c39
                      clear c39
                      by_cases c40 : t203.toList = t205.toList
                      · rw [if_pos c40] at H
                        have c40b0 : (t203.toList == t205.toList) = true := beq_iff_eq.mpr c40
                        have c40b1 : (t203.toList != t205.toList) = false := bne_eq_false_iff_eq.mpr c40
                        clear c40
                        obtain rfl := Option.some.inj H
                        go_wp2_with (first | ((with_reducible refine gate_callee (f := 22) rfl ?_); refine goesL_ (some 97) rfl rfl Tryd.func22 (by kernel_rfl) rfl #[.string a0] rfl (by (try simp only [List.map_toArray, List.map_cons, List.map_nil]); first | done | rfl | (simp only [List.length_drop, List.length_take]; rfl)) ?_; (with_reducible refine (chars_Len.calls kj21 a0 t195 t196 _ A30.out).mono ?_); rintro e w41 ⟨rfl, hb⟩; refine ⟨_, rfl, ?_⟩; have n0_ := Aside0.mk (below_step (by repeat (first | (with_reducible first | exact HB.out | apply below_alloc | apply pw_below_drewN | apply below_drew1) | exact HB.out)) hb); clear HB; have HB := n0_; clear n0_; (try clear hb); (try clear hb2); (try clear hk); (try clear hi)) | ((with_reducible refine gate_callee (f := 23) rfl ?_); refine goesL_ (some 102) rfl rfl Tryd.func23 (by kernel_rfl) rfl #[.string a0] rfl (by (try simp only [List.map_toArray, List.map_cons, List.map_nil]); first | done | rfl | (simp only [List.length_drop, List.length_take]; rfl)) ?_; (with_reducible refine (espalierref02_Len.calls kj21 a0 t197 t198 _ A31.out).mono ?_); rintro e w42 ⟨rfl, hb⟩; refine ⟨_, rfl, ?_⟩; have n0_ := Aside0.mk (below_step (by repeat (first | (with_reducible first | exact HB.out | apply below_alloc | apply pw_below_drewN | apply below_drew1) | exact HB.out)) hb); clear HB; have HB := n0_; clear n0_; (try clear hb); (try clear hb2); (try clear hk); (try clear hi)) | ((with_reducible refine gate_callee (f := 24) rfl ?_); refine goesL_ (some 109) rfl rfl Tryd.func24 (by kernel_rfl) rfl #[.string a0, .int .i64 a2, .int .i64 a3] rfl (by (try simp only [List.map_toArray, List.map_cons, List.map_nil]); first | done | rfl | (simp only [List.length_drop, List.length_take]; rfl)) ?_; (with_reducible refine (chars_Cut.calls kj21 a0 a2 a3 t199 t200 _ A32.out).mono ?_); rintro e w43 ⟨rfl, hb⟩; refine ⟨_, rfl, ?_⟩; have n0_ := Aside0.mk (below_step (by repeat (first | (with_reducible first | exact HB.out | apply below_alloc | apply pw_below_drewN | apply below_drew1) | exact HB.out)) hb); clear HB; have HB := n0_; clear n0_; (try clear hb); (try clear hb2); (try clear hk); (try clear hi)) | ((with_reducible refine gate_callee (f := 25) rfl ?_); refine goesL_ (some 116) rfl rfl Tryd.func25 (by kernel_rfl) rfl #[.string a0, .int .i64 a2, .int .i64 a3] rfl (by (try simp only [List.map_toArray, List.map_cons, List.map_nil]); first | done | rfl | (simp only [List.length_drop, List.length_take]; rfl)) ?_; (with_reducible refine (espalierref02_Cut.calls kj21 a0 a2 a3 t201 t202 _ A33.out).mono ?_); rintro e w44 ⟨rfl, hb⟩; refine ⟨_, rfl, ?_⟩; have n0_ := Aside0.mk (below_step (by repeat (first | (with_reducible first | exact HB.out | apply below_alloc | apply pw_below_drewN | apply below_drew1) | exact HB.out)) hb); clear HB; have HB := n0_; clear n0_; (try clear hb); (try clear hb2); (try clear hk); (try clear hi)) | ((with_reducible refine gate_callee (f := 26) rfl ?_); refine goesL_ (some 121) rfl rfl Tryd.func26 (by kernel_rfl) rfl #[.string a0] rfl (by (try simp only [List.map_toArray, List.map_cons, List.map_nil]); first | done | rfl | (simp only [List.length_drop, List.length_take]; rfl)) ?_; (with_reducible refine (chars_Squeeze.calls kj21 a0 t203 t204 _ A34.out).mono ?_); rintro e w45 ⟨rfl, hb⟩; refine ⟨_, rfl, ?_⟩; have n0_ := Aside0.mk (below_step (by repeat (first | (with_reducible first | exact HB.out | apply below_alloc | apply pw_below_drewN | apply below_drew1) | exact HB.out)) hb); clear HB; have HB := n0_; clear n0_; (try clear hb); (try clear hb2); (try clear hk); (try clear hi)) | ((with_reducible refine gate_callee (f := 27) rfl ?_); refine goesL_ (some 126) rfl rfl Tryd.func27 (by kernel_rfl) rfl #[.string a0] rfl (by (try simp only [List.map_toArray, List.map_cons, List.map_nil]); first | done | rfl | (simp only [List.length_drop, List.length_take]; rfl)) ?_; (with_reducible refine (espalierref02_Squeeze.calls kj21 a0 t205 t206 _ A35.out).mono ?_); rintro e w46 ⟨rfl, hb⟩; refine ⟨_, rfl, ?_⟩; have n0_ := Aside0.mk (below_step (by repeat (first | (with_reducible first | exact HB.out | apply below_alloc | apply pw_below_drewN | apply below_drew1) | exact HB.out)) hb); clear HB; have HB := n0_; clear n0_; (try clear hb); (try clear hb2); (try clear hk); (try clear hi)))
                        go_ret
                        exact ⟨by first | rfl | (simp [errW_none, errW_some] <;> rfl) | (simp [*, errW_none, errW_some] <;> rfl), by repeat (first | (with_reducible first | exact HB.out | apply below_alloc | apply pw_below_drewN | apply below_drew1) | exact HB.out)⟩
                      · rw [if_neg c40] at H
                        have c40b0 : (t203.toList == t205.toList) = false := beq_eq_false_iff_ne.mpr c40
                        have c40b1 : (t203.toList != t205.toList) = true := bne_iff_ne.mpr c40
                        obtain rfl := Option.some.inj H
                        go_wp2_with (first | ((with_reducible refine gate_callee (f := 22) rfl ?_); refine goesL_ (some 97) rfl rfl Tryd.func22 (by kernel_rfl) rfl #[.string a0] rfl (by (try simp only [List.map_toArray, List.map_cons, List.map_nil]); first | done | rfl | (simp only [List.length_drop, List.length_take]; rfl)) ?_; (with_reducible refine (chars_Len.calls kj21 a0 t195 t196 _ A30.out).mono ?_); rintro e w47 ⟨rfl, hb⟩; refine ⟨_, rfl, ?_⟩; have n0_ := Aside0.mk (below_step (by repeat (first | (with_reducible first | exact HB.out | apply below_alloc | apply pw_below_drewN | apply below_drew1) | exact HB.out)) hb); clear HB; have HB := n0_; clear n0_; (try clear hb); (try clear hb2); (try clear hk); (try clear hi)) | ((with_reducible refine gate_callee (f := 23) rfl ?_); refine goesL_ (some 102) rfl rfl Tryd.func23 (by kernel_rfl) rfl #[.string a0] rfl (by (try simp only [List.map_toArray, List.map_cons, List.map_nil]); first | done | rfl | (simp only [List.length_drop, List.length_take]; rfl)) ?_; (with_reducible refine (espalierref02_Len.calls kj21 a0 t197 t198 _ A31.out).mono ?_); rintro e w48 ⟨rfl, hb⟩; refine ⟨_, rfl, ?_⟩; have n0_ := Aside0.mk (below_step (by repeat (first | (with_reducible first | exact HB.out | apply below_alloc | apply pw_below_drewN | apply below_drew1) | exact HB.out)) hb); clear HB; have HB := n0_; clear n0_; (try clear hb); (try clear hb2); (try clear hk); (try clear hi)) | ((with_reducible refine gate_callee (f := 24) rfl ?_); refine goesL_ (some 109) rfl rfl Tryd.func24 (by kernel_rfl) rfl #[.string a0, .int .i64 a2, .int .i64 a3] rfl (by (try simp only [List.map_toArray, List.map_cons, List.map_nil]); first | done | rfl | (simp only [List.length_drop, List.length_take]; rfl)) ?_; (with_reducible refine (chars_Cut.calls kj21 a0 a2 a3 t199 t200 _ A32.out).mono ?_); rintro e w49 ⟨rfl, hb⟩; refine ⟨_, rfl, ?_⟩; have n0_ := Aside0.mk (below_step (by repeat (first | (with_reducible first | exact HB.out | apply below_alloc | apply pw_below_drewN | apply below_drew1) | exact HB.out)) hb); clear HB; have HB := n0_; clear n0_; (try clear hb); (try clear hb2); (try clear hk); (try clear hi)) | ((with_reducible refine gate_callee (f := 25) rfl ?_); refine goesL_ (some 116) rfl rfl Tryd.func25 (by kernel_rfl) rfl #[.string a0, .int .i64 a2, .int .i64 a3] rfl (by (try simp only [List.map_toArray, List.map_cons, List.map_nil]); first | done | rfl | (simp only [List.length_drop, List.length_take]; rfl)) ?_; (with_reducible refine (espalierref02_Cut.calls kj21 a0 a2 a3 t201 t202 _ A33.out).mono ?_); rintro e w50 ⟨rfl, hb⟩; refine ⟨_, rfl, ?_⟩; have n0_ := Aside0.mk (below_step (by repeat (first | (with_reducible first | exact HB.out | apply below_alloc | apply pw_below_drewN | apply below_drew1) | exact HB.out)) hb); clear HB; have HB := n0_; clear n0_; (try clear hb); (try clear hb2); (try clear hk); (try clear hi)) | ((with_reducible refine gate_callee (f := 26) rfl ?_); refine goesL_ (some 121) rfl rfl Tryd.func26 (by kernel_rfl) rfl #[.string a0] rfl (by (try simp only [List.map_toArray, List.map_cons, List.map_nil]); first | done | rfl | (simp only [List.length_drop, List.length_take]; rfl)) ?_; (with_reducible refine (chars_Squeeze.calls kj21 a0 t203 t204 _ A34.out).mono ?_); rintro e w51 ⟨rfl, hb⟩; refine ⟨_, rfl, ?_⟩; have n0_ := Aside0.mk (below_step (by repeat (first | (with_reducible first | exact HB.out | apply below_alloc | apply pw_below_drewN | apply below_drew1) | exact HB.out)) hb); clear HB; have HB := n0_; clear n0_; (try clear hb); (try clear hb2); (try clear hk); (try clear hi)) | ((with_reducible refine gate_callee (f := 27) rfl ?_); refine goesL_ (some 126) rfl rfl Tryd.func27 (by kernel_rfl) rfl #[.string a0] rfl (by (try simp only [List.map_toArray, List.map_cons, List.map_nil]); first | done | rfl | (simp only [List.length_drop, List.length_take]; rfl)) ?_; (with_reducible refine (espalierref02_Squeeze.calls kj21 a0 t205 t206 _ A35.out).mono ?_); rintro e w52 ⟨rfl, hb⟩; refine ⟨_, rfl, ?_⟩; have n0_ := Aside0.mk (below_step (by repeat (first | (with_reducible first | exact HB.out | apply below_alloc | apply pw_below_drewN | apply below_drew1) | exact HB.out)) hb); clear HB; have HB := n0_; clear n0_; (try clear hb); (try clear hb2); (try clear hk); (try clear hi)))
                        go_ret
                        exact ⟨by first | rfl | (simp [errW_none, errW_some] <;> rfl) | (simp [*, errW_none, errW_some] <;> rfl), by repeat (first | (with_reducible first | exact HB.out | apply below_alloc | apply pw_below_drewN | apply below_drew1) | exact HB.out)⟩
                    · rw [if_neg c39] at H
                      have c39b0 : (t200 == t202) = false := beq_eq_false_iff_ne.mpr c39
                      have c39b1 : (t200 != t202) = true := bne_iff_ne.mpr c39
                      obtain rfl := Option.some.inj H
                      go_wp2_with (first | ((with_reducible refine gate_callee (f := 22) rfl ?_); refine goesL_ (some 97) rfl rfl Tryd.func22 (by kernel_rfl) rfl #[.string a0] rfl (by (try simp only [List.map_toArray, List.map_cons, List.map_nil]); first | done | rfl | (simp only [List.length_drop, List.length_take]; rfl)) ?_; (with_reducible refine (chars_Len.calls kj21 a0 t195 t196 _ A30.out).mono ?_); rintro e w53 ⟨rfl, hb⟩; refine ⟨_, rfl, ?_⟩; have n0_ := Aside0.mk (below_step (by repeat (first | (with_reducible first | exact HB.out | apply below_alloc | apply pw_below_drewN | apply below_drew1) | exact HB.out)) hb); clear HB; have HB := n0_; clear n0_; (try clear hb); (try clear hb2); (try clear hk); (try clear hi)) | ((with_reducible refine gate_callee (f := 23) rfl ?_); refine goesL_ (some 102) rfl rfl Tryd.func23 (by kernel_rfl) rfl #[.string a0] rfl (by (try simp only [List.map_toArray, List.map_cons, List.map_nil]); first | done | rfl | (simp only [List.length_drop, List.length_take]; rfl)) ?_; (with_reducible refine (espalierref02_Len.calls kj21 a0 t197 t198 _ A31.out).mono ?_); rintro e w54 ⟨rfl, hb⟩; refine ⟨_, rfl, ?_⟩; have n0_ := Aside0.mk (below_step (by repeat (first | (with_reducible first | exact HB.out | apply below_alloc | apply pw_below_drewN | apply below_drew1) | exact HB.out)) hb); clear HB; have HB := n0_; clear n0_; (try clear hb); (try clear hb2); (try clear hk); (try clear hi)) | ((with_reducible refine gate_callee (f := 24) rfl ?_); refine goesL_ (some 109) rfl rfl Tryd.func24 (by kernel_rfl) rfl #[.string a0, .int .i64 a2, .int .i64 a3] rfl (by (try simp only [List.map_toArray, List.map_cons, List.map_nil]); first | done | rfl | (simp only [List.length_drop, List.length_take]; rfl)) ?_; (with_reducible refine (chars_Cut.calls kj21 a0 a2 a3 t199 t200 _ A32.out).mono ?_); rintro e w55 ⟨rfl, hb⟩; refine ⟨_, rfl, ?_⟩; have n0_ := Aside0.mk (below_step (by repeat (first | (with_reducible first | exact HB.out | apply below_alloc | apply pw_below_drewN | apply below_drew1) | exact HB.out)) hb); clear HB; have HB := n0_; clear n0_; (try clear hb); (try clear hb2); (try clear hk); (try clear hi)) | ((with_reducible refine gate_callee (f := 25) rfl ?_); refine goesL_ (some 116) rfl rfl Tryd.func25 (by kernel_rfl) rfl #[.string a0, .int .i64 a2, .int .i64 a3] rfl (by (try simp only [List.map_toArray, List.map_cons, List.map_nil]); first | done | rfl | (simp only [List.length_drop, List.length_take]; rfl)) ?_; (with_reducible refine (espalierref02_Cut.calls kj21 a0 a2 a3 t201 t202 _ A33.out).mono ?_); rintro e w56 ⟨rfl, hb⟩; refine ⟨_, rfl, ?_⟩; have n0_ := Aside0.mk (below_step (by repeat (first | (with_reducible first | exact HB.out | apply below_alloc | apply pw_below_drewN | apply below_drew1) | exact HB.out)) hb); clear HB; have HB := n0_; clear n0_; (try clear hb); (try clear hb2); (try clear hk); (try clear hi)) | ((with_reducible refine gate_callee (f := 26) rfl ?_); refine goesL_ (some 121) rfl rfl Tryd.func26 (by kernel_rfl) rfl #[.string a0] rfl (by (try simp only [List.map_toArray, List.map_cons, List.map_nil]); first | done | rfl | (simp only [List.length_drop, List.length_take]; rfl)) ?_; (with_reducible refine (chars_Squeeze.calls kj21 a0 t203 t204 _ A34.out).mono ?_); rintro e w57 ⟨rfl, hb⟩; refine ⟨_, rfl, ?_⟩; have n0_ := Aside0.mk (below_step (by repeat (first | (with_reducible first | exact HB.out | apply below_alloc | apply pw_below_drewN | apply below_drew1) | exact HB.out)) hb); clear HB; have HB := n0_; clear n0_; (try clear hb); (try clear hb2); (try clear hk); (try clear hi)) | ((with_reducible refine gate_callee (f := 27) rfl ?_); refine goesL_ (some 126) rfl rfl Tryd.func27 (by kernel_rfl) rfl #[.string a0] rfl (by (try simp only [List.map_toArray, List.map_cons, List.map_nil]); first | done | rfl | (simp only [List.length_drop, List.length_take]; rfl)) ?_; (with_reducible refine (espalierref02_Squeeze.calls kj21 a0 t205 t206 _ A35.out).mono ?_); rintro e w58 ⟨rfl, hb⟩; refine ⟨_, rfl, ?_⟩; have n0_ := Aside0.mk (below_step (by repeat (first | (with_reducible first | exact HB.out | apply below_alloc | apply pw_below_drewN | apply below_drew1) | exact HB.out)) hb); clear HB; have HB := n0_; clear n0_; (try clear hb); (try clear hb2); (try clear hk); (try clear hi)))
                      go_ret
                      exact ⟨by first | rfl | (simp [errW_none, errW_some] <;> rfl) | (simp [*, errW_none, errW_some] <;> rfl), by repeat (first | (with_reducible first | exact HB.out | apply below_alloc | apply pw_below_drewN | apply below_drew1) | exact HB.out)⟩
                  · rw [if_neg c38] at H
                    have c38b0 : (t199.toList == t201.toList) = false := beq_eq_false_iff_ne.mpr c38
                    have c38b1 : (t199.toList != t201.toList) = true := bne_iff_ne.mpr c38
                    obtain rfl := Option.some.inj H
                    go_wp2_with (first | ((with_reducible refine gate_callee (f := 22) rfl ?_); refine goesL_ (some 97) rfl rfl Tryd.func22 (by kernel_rfl) rfl #[.string a0] rfl (by (try simp only [List.map_toArray, List.map_cons, List.map_nil]); first | done | rfl | (simp only [List.length_drop, List.length_take]; rfl)) ?_; (with_reducible refine (chars_Len.calls kj21 a0 t195 t196 _ A30.out).mono ?_); rintro e w59 ⟨rfl, hb⟩; refine ⟨_, rfl, ?_⟩; have n0_ := Aside0.mk (below_step (by repeat (first | (with_reducible first | exact HB.out | apply below_alloc | apply pw_below_drewN | apply below_drew1) | exact HB.out)) hb); clear HB; have HB := n0_; clear n0_; (try clear hb); (try clear hb2); (try clear hk); (try clear hi)) | ((with_reducible refine gate_callee (f := 23) rfl ?_); refine goesL_ (some 102) rfl rfl Tryd.func23 (by kernel_rfl) rfl #[.string a0] rfl (by (try simp only [List.map_toArray, List.map_cons, List.map_nil]); first | done | rfl | (simp only [List.length_drop, List.length_take]; rfl)) ?_; (with_reducible refine (espalierref02_Len.calls kj21 a0 t197 t198 _ A31.out).mono ?_); rintro e w60 ⟨rfl, hb⟩; refine ⟨_, rfl, ?_⟩; have n0_ := Aside0.mk (below_step (by repeat (first | (with_reducible first | exact HB.out | apply below_alloc | apply pw_below_drewN | apply below_drew1) | exact HB.out)) hb); clear HB; have HB := n0_; clear n0_; (try clear hb); (try clear hb2); (try clear hk); (try clear hi)) | ((with_reducible refine gate_callee (f := 24) rfl ?_); refine goesL_ (some 109) rfl rfl Tryd.func24 (by kernel_rfl) rfl #[.string a0, .int .i64 a2, .int .i64 a3] rfl (by (try simp only [List.map_toArray, List.map_cons, List.map_nil]); first | done | rfl | (simp only [List.length_drop, List.length_take]; rfl)) ?_; (with_reducible refine (chars_Cut.calls kj21 a0 a2 a3 t199 t200 _ A32.out).mono ?_); rintro e w61 ⟨rfl, hb⟩; refine ⟨_, rfl, ?_⟩; have n0_ := Aside0.mk (below_step (by repeat (first | (with_reducible first | exact HB.out | apply below_alloc | apply pw_below_drewN | apply below_drew1) | exact HB.out)) hb); clear HB; have HB := n0_; clear n0_; (try clear hb); (try clear hb2); (try clear hk); (try clear hi)) | ((with_reducible refine gate_callee (f := 25) rfl ?_); refine goesL_ (some 116) rfl rfl Tryd.func25 (by kernel_rfl) rfl #[.string a0, .int .i64 a2, .int .i64 a3] rfl (by (try simp only [List.map_toArray, List.map_cons, List.map_nil]); first | done | rfl | (simp only [List.length_drop, List.length_take]; rfl)) ?_; (with_reducible refine (espalierref02_Cut.calls kj21 a0 a2 a3 t201 t202 _ A33.out).mono ?_); rintro e w62 ⟨rfl, hb⟩; refine ⟨_, rfl, ?_⟩; have n0_ := Aside0.mk (below_step (by repeat (first | (with_reducible first | exact HB.out | apply below_alloc | apply pw_below_drewN | apply below_drew1) | exact HB.out)) hb); clear HB; have HB := n0_; clear n0_; (try clear hb); (try clear hb2); (try clear hk); (try clear hi)) | ((with_reducible refine gate_callee (f := 26) rfl ?_); refine goesL_ (some 121) rfl rfl Tryd.func26 (by kernel_rfl) rfl #[.string a0] rfl (by (try simp only [List.map_toArray, List.map_cons, List.map_nil]); first | done | rfl | (simp only [List.length_drop, List.length_take]; rfl)) ?_; (with_reducible refine (chars_Squeeze.calls kj21 a0 t203 t204 _ A34.out).mono ?_); rintro e w63 ⟨rfl, hb⟩; refine ⟨_, rfl, ?_⟩; have n0_ := Aside0.mk (below_step (by repeat (first | (with_reducible first | exact HB.out | apply below_alloc | apply pw_below_drewN | apply below_drew1) | exact HB.out)) hb); clear HB; have HB := n0_; clear n0_; (try clear hb); (try clear hb2); (try clear hk); (try clear hi)) | ((with_reducible refine gate_callee (f := 27) rfl ?_); refine goesL_ (some 126) rfl rfl Tryd.func27 (by kernel_rfl) rfl #[.string a0] rfl (by (try simp only [List.map_toArray, List.map_cons, List.map_nil]); first | done | rfl | (simp only [List.length_drop, List.length_take]; rfl)) ?_; (with_reducible refine (espalierref02_Squeeze.calls kj21 a0 t205 t206 _ A35.out).mono ?_); rintro e w64 ⟨rfl, hb⟩; refine ⟨_, rfl, ?_⟩; have n0_ := Aside0.mk (below_step (by repeat (first | (with_reducible first | exact HB.out | apply below_alloc | apply pw_below_drewN | apply below_drew1) | exact HB.out)) hb); clear HB; have HB := n0_; clear n0_; (try clear hb); (try clear hb2); (try clear hk); (try clear hi)))
                    go_ret
                    exact ⟨by first | rfl | (simp [errW_none, errW_some] <;> rfl) | (simp [*, errW_none, errW_some] <;> rfl), by repeat (first | (with_reducible first | exact HB.out | apply below_alloc | apply pw_below_drewN | apply below_drew1) | exact HB.out)⟩
                · rw [if_neg c37] at H
                  have c37b0 : (t196 == t198) = false := beq_eq_false_iff_ne.mpr c37
                  have c37b1 : (t196 != t198) = true := bne_iff_ne.mpr c37
                  obtain rfl := Option.some.inj H
                  go_wp2_with (first | ((with_reducible refine gate_callee (f := 22) rfl ?_); refine goesL_ (some 97) rfl rfl Tryd.func22 (by kernel_rfl) rfl #[.string a0] rfl (by (try simp only [List.map_toArray, List.map_cons, List.map_nil]); first | done | rfl | (simp only [List.length_drop, List.length_take]; rfl)) ?_; (with_reducible refine (chars_Len.calls kj21 a0 t195 t196 _ A30.out).mono ?_); rintro e w65 ⟨rfl, hb⟩; refine ⟨_, rfl, ?_⟩; have n0_ := Aside0.mk (below_step (by repeat (first | (with_reducible first | exact HB.out | apply below_alloc | apply pw_below_drewN | apply below_drew1) | exact HB.out)) hb); clear HB; have HB := n0_; clear n0_; (try clear hb); (try clear hb2); (try clear hk); (try clear hi)) | ((with_reducible refine gate_callee (f := 23) rfl ?_); refine goesL_ (some 102) rfl rfl Tryd.func23 (by kernel_rfl) rfl #[.string a0] rfl (by (try simp only [List.map_toArray, List.map_cons, List.map_nil]); first | done | rfl | (simp only [List.length_drop, List.length_take]; rfl)) ?_; (with_reducible refine (espalierref02_Len.calls kj21 a0 t197 t198 _ A31.out).mono ?_); rintro e w66 ⟨rfl, hb⟩; refine ⟨_, rfl, ?_⟩; have n0_ := Aside0.mk (below_step (by repeat (first | (with_reducible first | exact HB.out | apply below_alloc | apply pw_below_drewN | apply below_drew1) | exact HB.out)) hb); clear HB; have HB := n0_; clear n0_; (try clear hb); (try clear hb2); (try clear hk); (try clear hi)) | ((with_reducible refine gate_callee (f := 24) rfl ?_); refine goesL_ (some 109) rfl rfl Tryd.func24 (by kernel_rfl) rfl #[.string a0, .int .i64 a2, .int .i64 a3] rfl (by (try simp only [List.map_toArray, List.map_cons, List.map_nil]); first | done | rfl | (simp only [List.length_drop, List.length_take]; rfl)) ?_; (with_reducible refine (chars_Cut.calls kj21 a0 a2 a3 t199 t200 _ A32.out).mono ?_); rintro e w67 ⟨rfl, hb⟩; refine ⟨_, rfl, ?_⟩; have n0_ := Aside0.mk (below_step (by repeat (first | (with_reducible first | exact HB.out | apply below_alloc | apply pw_below_drewN | apply below_drew1) | exact HB.out)) hb); clear HB; have HB := n0_; clear n0_; (try clear hb); (try clear hb2); (try clear hk); (try clear hi)) | ((with_reducible refine gate_callee (f := 25) rfl ?_); refine goesL_ (some 116) rfl rfl Tryd.func25 (by kernel_rfl) rfl #[.string a0, .int .i64 a2, .int .i64 a3] rfl (by (try simp only [List.map_toArray, List.map_cons, List.map_nil]); first | done | rfl | (simp only [List.length_drop, List.length_take]; rfl)) ?_; (with_reducible refine (espalierref02_Cut.calls kj21 a0 a2 a3 t201 t202 _ A33.out).mono ?_); rintro e w68 ⟨rfl, hb⟩; refine ⟨_, rfl, ?_⟩; have n0_ := Aside0.mk (below_step (by repeat (first | (with_reducible first | exact HB.out | apply below_alloc | apply pw_below_drewN | apply below_drew1) | exact HB.out)) hb); clear HB; have HB := n0_; clear n0_; (try clear hb); (try clear hb2); (try clear hk); (try clear hi)) | ((with_reducible refine gate_callee (f := 26) rfl ?_); refine goesL_ (some 121) rfl rfl Tryd.func26 (by kernel_rfl) rfl #[.string a0] rfl (by (try simp only [List.map_toArray, List.map_cons, List.map_nil]); first | done | rfl | (simp only [List.length_drop, List.length_take]; rfl)) ?_; (with_reducible refine (chars_Squeeze.calls kj21 a0 t203 t204 _ A34.out).mono ?_); rintro e w69 ⟨rfl, hb⟩; refine ⟨_, rfl, ?_⟩; have n0_ := Aside0.mk (below_step (by repeat (first | (with_reducible first | exact HB.out | apply below_alloc | apply pw_below_drewN | apply below_drew1) | exact HB.out)) hb); clear HB; have HB := n0_; clear n0_; (try clear hb); (try clear hb2); (try clear hk); (try clear hi)) | ((with_reducible refine gate_callee (f := 27) rfl ?_); refine goesL_ (some 126) rfl rfl Tryd.func27 (by kernel_rfl) rfl #[.string a0] rfl (by (try simp only [List.map_toArray, List.map_cons, List.map_nil]); first | done | rfl | (simp only [List.length_drop, List.length_take]; rfl)) ?_; (with_reducible refine (espalierref02_Squeeze.calls kj21 a0 t205 t206 _ A35.out).mono ?_); rintro e w70 ⟨rfl, hb⟩; refine ⟨_, rfl, ?_⟩; have n0_ := Aside0.mk (below_step (by repeat (first | (with_reducible first | exact HB.out | apply below_alloc | apply pw_below_drewN | apply below_drew1) | exact HB.out)) hb); clear HB; have HB := n0_; clear n0_; (try clear hb); (try clear hb2); (try clear hk); (try clear hi)))
                  go_ret
                  exact ⟨by first | rfl | (simp [errW_none, errW_some] <;> rfl) | (simp [*, errW_none, errW_some] <;> rfl), by repeat (first | (with_reducible first | exact HB.out | apply below_alloc | apply pw_below_drewN | apply below_drew1) | exact HB.out)⟩
              · rw [if_neg c36] at H
                have c36b0 : (t195 == t197) = false := beq_eq_false_iff_ne.mpr c36
                have c36b1 : (t195 != t197) = true := bne_iff_ne.mpr c36
                obtain rfl := Option.some.inj H
                go_wp2_with (first | ((with_reducible refine gate_callee (f := 22) rfl ?_); refine goesL_ (some 97) rfl rfl Tryd.func22 (by kernel_rfl) rfl #[.string a0] rfl (by (try simp only [List.map_toArray, List.map_cons, List.map_nil]); first | done | rfl | (simp only [List.length_drop, List.length_take]; rfl)) ?_; (with_reducible refine (chars_Len.calls kj21 a0 t195 t196 _ A30.out).mono ?_); rintro e w71 ⟨rfl, hb⟩; refine ⟨_, rfl, ?_⟩; have n0_ := Aside0.mk (below_step (by repeat (first | (with_reducible first | exact HB.out | apply below_alloc | apply pw_below_drewN | apply below_drew1) | exact HB.out)) hb); clear HB; have HB := n0_; clear n0_; (try clear hb); (try clear hb2); (try clear hk); (try clear hi)) | ((with_reducible refine gate_callee (f := 23) rfl ?_); refine goesL_ (some 102) rfl rfl Tryd.func23 (by kernel_rfl) rfl #[.string a0] rfl (by (try simp only [List.map_toArray, List.map_cons, List.map_nil]); first | done | rfl | (simp only [List.length_drop, List.length_take]; rfl)) ?_; (with_reducible refine (espalierref02_Len.calls kj21 a0 t197 t198 _ A31.out).mono ?_); rintro e w72 ⟨rfl, hb⟩; refine ⟨_, rfl, ?_⟩; have n0_ := Aside0.mk (below_step (by repeat (first | (with_reducible first | exact HB.out | apply below_alloc | apply pw_below_drewN | apply below_drew1) | exact HB.out)) hb); clear HB; have HB := n0_; clear n0_; (try clear hb); (try clear hb2); (try clear hk); (try clear hi)) | ((with_reducible refine gate_callee (f := 24) rfl ?_); refine goesL_ (some 109) rfl rfl Tryd.func24 (by kernel_rfl) rfl #[.string a0, .int .i64 a2, .int .i64 a3] rfl (by (try simp only [List.map_toArray, List.map_cons, List.map_nil]); first | done | rfl | (simp only [List.length_drop, List.length_take]; rfl)) ?_; (with_reducible refine (chars_Cut.calls kj21 a0 a2 a3 t199 t200 _ A32.out).mono ?_); rintro e w73 ⟨rfl, hb⟩; refine ⟨_, rfl, ?_⟩; have n0_ := Aside0.mk (below_step (by repeat (first | (with_reducible first | exact HB.out | apply below_alloc | apply pw_below_drewN | apply below_drew1) | exact HB.out)) hb); clear HB; have HB := n0_; clear n0_; (try clear hb); (try clear hb2); (try clear hk); (try clear hi)) | ((with_reducible refine gate_callee (f := 25) rfl ?_); refine goesL_ (some 116) rfl rfl Tryd.func25 (by kernel_rfl) rfl #[.string a0, .int .i64 a2, .int .i64 a3] rfl (by (try simp only [List.map_toArray, List.map_cons, List.map_nil]); first | done | rfl | (simp only [List.length_drop, List.length_take]; rfl)) ?_; (with_reducible refine (espalierref02_Cut.calls kj21 a0 a2 a3 t201 t202 _ A33.out).mono ?_); rintro e w74 ⟨rfl, hb⟩; refine ⟨_, rfl, ?_⟩; have n0_ := Aside0.mk (below_step (by repeat (first | (with_reducible first | exact HB.out | apply below_alloc | apply pw_below_drewN | apply below_drew1) | exact HB.out)) hb); clear HB; have HB := n0_; clear n0_; (try clear hb); (try clear hb2); (try clear hk); (try clear hi)) | ((with_reducible refine gate_callee (f := 26) rfl ?_); refine goesL_ (some 121) rfl rfl Tryd.func26 (by kernel_rfl) rfl #[.string a0] rfl (by (try simp only [List.map_toArray, List.map_cons, List.map_nil]); first | done | rfl | (simp only [List.length_drop, List.length_take]; rfl)) ?_; (with_reducible refine (chars_Squeeze.calls kj21 a0 t203 t204 _ A34.out).mono ?_); rintro e w75 ⟨rfl, hb⟩; refine ⟨_, rfl, ?_⟩; have n0_ := Aside0.mk (below_step (by repeat (first | (with_reducible first | exact HB.out | apply below_alloc | apply pw_below_drewN | apply below_drew1) | exact HB.out)) hb); clear HB; have HB := n0_; clear n0_; (try clear hb); (try clear hb2); (try clear hk); (try clear hi)) | ((with_reducible refine gate_callee (f := 27) rfl ?_); refine goesL_ (some 126) rfl rfl Tryd.func27 (by kernel_rfl) rfl #[.string a0] rfl (by (try simp only [List.map_toArray, List.map_cons, List.map_nil]); first | done | rfl | (simp only [List.length_drop, List.length_take]; rfl)) ?_; (with_reducible refine (espalierref02_Squeeze.calls kj21 a0 t205 t206 _ A35.out).mono ?_); rintro e w76 ⟨rfl, hb⟩; refine ⟨_, rfl, ?_⟩; have n0_ := Aside0.mk (below_step (by repeat (first | (with_reducible first | exact HB.out | apply below_alloc | apply pw_below_drewN | apply below_drew1) | exact HB.out)) hb); clear HB; have HB := n0_; clear n0_; (try clear hb); (try clear hb2); (try clear hk); (try clear hi)))
                go_ret
                exact ⟨by first | rfl | (simp [errW_none, errW_some] <;> rfl) | (simp [*, errW_none, errW_some] <;> rfl), by repeat (first | (with_reducible first | exact HB.out | apply below_alloc | apply pw_below_drewN | apply below_drew1) | exact HB.out)⟩

/-- THE ONE PURE STATEMENT of espalierlaw02_CharsTexts: yours. -/
def espalierlaw02_CharsTexts.Pure : Prop := ∀ (a0 : ByteArray) (a1 : Int) (a2 : Int) (a3 : Int), a0.size ≤ 140737488351232 → (Lit.int .i64 a1).wf = true → (Lit.int .i64 a2).wf = true → (Lit.int .i64 a3).wf = true → ∃ k, espalierlaw02_CharsTexts.f k a0 a1 a2 a3 = some true
theorem espalierlaw02_CharsTexts.walk (P : espalierlaw02_CharsTexts.Pure) (a0 : ByteArray) (a1 : Int) (a2 : Int) (a3 : Int) (w : World) (hG : Glob w) (w0 : a0.size ≤ 140737488351232) (w1 : (Lit.int .i64 a1).wf = true) (w2 : (Lit.int .i64 a2).wf = true) (w3 : (Lit.int .i64 a3).wf = true) :
    Calls Tryd.prog 4 #[.string a0, .int .i64 a1, .int .i64 a2, .int .i64 a3] w fun e w' => e = .returned (.bool true) ∧ Below w.heap.size w w' := by
  obtain ⟨k, h⟩ := P a0 a1 a2 a3 w0 w1 w2 w3
  refine (espalierlaw02_CharsTexts.calls k a0 a1 a2 a3 true w h).mono ?_
  rintro e w' ⟨rfl, hd⟩
  exact ⟨rfl, hd⟩

end Go.Proofs.YtdmeafhhdhojlaaDoor.PB
