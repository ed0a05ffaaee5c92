-- Written by a program of this session (wip/tools/xprint.py: the kit's print, with given functions). Not trusted: Lean checks it.
import Derived.Test.YtdmeafhhdhojlaaDoorPA0
import Derived.Test.YtdmeafhhdhojlaaDoorPA2
import Derived.Test.YtdmeafhhdhojlaaDoorPA9
import Derived.Test.YtdmeafhhdhojlaaDoorUBlank
import Derived.Test.YtdmeafhhdhojlaaDoorUSqueeze
namespace Go.Proofs.YtdmeafhhdhojlaaDoor.PA
open Go.RowKit Go.Proofs.YtdmeafhhdhojlaaDoorW.PrintWords Go.Proofs.YtdmeafhhdhojlaaDoorW.PrintLast Go.Proofs.YtdmeafhhdhojlaaDoorW.PrintMore
attribute [local go_sem] max2_int min2_int max_two min_two max_three min_three max_four min_four   -- for this text's walks alone
set_option linter.unusedVariables false
set_option linter.unusedSimpArgs false

/-! ### espalierlaw02_CharsSqueezed: function 9 -/
mutual
def espalierlaw02_CharsSqueezed.j0 : Nat → ByteArray → ByteArray → Bool → Option (Bool)
  | 0, _, _, _ => none
  | k + 1, x0, x3, x55 => if x55 = true then (some false) else (espalierlaw02_CharsSqueezed.l0 k x0 x3 0)
def espalierlaw02_CharsSqueezed.l0 : Nat → ByteArray → ByteArray → Int → Option (Bool)
  | 0, _, _, _ => none
  | k + 1, x0, x3, x9 => if x9 < (x3.size : Int) then (if 0 ≤ x9 then (if (bt x3 x9) = 9 then (some false) else (if (bt x3 x9) = 10 then (some false) else (if (bt x3 x9) = 13 then (some false) else (if (bt x3 x9) = 32 then (if x9 = 0 then (some false) else (if x9 = (wrap64 ((x3.size : Int) - 1)) then (some false) else (if 0 ≤ (wrap64 (x9 + 1)) then (if (wrap64 (x9 + 1)) < (x3.size : Int) then (if (bt x3 (wrap64 (x9 + 1))) = 32 then (some false) else (espalierlaw02_CharsSqueezed.l0 k x0 x3 (wrap64 (x9 + 1)))) else (none)) else (none)))) else (espalierlaw02_CharsSqueezed.l0 k x0 x3 (wrap64 (x9 + 1))))))) else (none)) else ((chars_Blank.f x0).bind fun t263 => (some (t263 == (x3.toList == ([] : List UInt8)))))
end
def espalierlaw02_CharsSqueezed.f (k : Nat) (a0 : ByteArray) : Option (Bool) := (espalierlaw02_lives.f k).bind fun t256 => (if t256 = true then ((chars_Squeeze.f k a0).bind fun bt257 => (if bt257.2 = 0 then ((chars_Squeeze.f k bt257.1).bind fun bt259 => (if 1 + bt257.1.size ≤ 9223372036854775807 then (if ((⟨#[32]⟩ : ByteArray) ++ bt257.1).size + 1 ≤ 9223372036854775807 then ((chars_Squeeze.f k (((⟨#[32]⟩ : ByteArray) ++ bt257.1) ++ (⟨#[10]⟩ : ByteArray))).bind fun bt261 => (if bt259.2 = 0 then (if bt259.1.toList = bt257.1.toList then (if (wrap64 ((bt257.1.size : Int) + 2)) ≤ 16384 then (if bt261.2 = 0 then (espalierlaw02_CharsSqueezed.j0 k a0 bt257.1 (bt261.1.toList != bt257.1.toList)) else (espalierlaw02_CharsSqueezed.j0 k a0 bt257.1 true)) else (espalierlaw02_CharsSqueezed.j0 k a0 bt257.1 false)) else (espalierlaw02_CharsSqueezed.j0 k a0 bt257.1 true)) else (espalierlaw02_CharsSqueezed.j0 k a0 bt257.1 true))) else (none)) else (none))) else (some (bt257.1.toList == ([] : List UInt8))))) else (some false))
theorem espalierlaw02_CharsSqueezed.mono_l : ∀ k, (∀ y0 y1 y2, LeO (espalierlaw02_CharsSqueezed.j0 k y0 y1 y2) (espalierlaw02_CharsSqueezed.j0 (k + 1) y0 y1 y2)) ∧ (∀ y0 y1 y2, LeO (espalierlaw02_CharsSqueezed.l0 k y0 y1 y2) (espalierlaw02_CharsSqueezed.l0 (k + 1) y0 y1 y2))
  | 0 => ⟨fun _ _ _ r h => by simp [espalierlaw02_CharsSqueezed.j0] at h, fun _ _ _ r h => by simp [espalierlaw02_CharsSqueezed.l0] at h⟩
  | k + 1 => by
    obtain ⟨ih0, ih1⟩ := espalierlaw02_CharsSqueezed.mono_l k
    refine ⟨?_, ?_⟩
    · intro y0 y1 y2
      unfold espalierlaw02_CharsSqueezed.j0
      repeat' first
      | (with_reducible exact ih0 _ _ _)
      | (with_reducible exact ih1 _ _ _)
      | (with_reducible exact chars_Squeeze.mono _ _)
      | (with_reducible exact espalierlaw02_lives.mono _)
      | (with_reducible exact LeO.refl _)
      | (with_reducible exact LeO.none _)
      | (with_reducible refine LeO.ite ?_ ?_)
      | (with_reducible refine LeO.bind ?_ (fun _ => ?_))
      | exact ih0 _ _ _
      | exact ih1 _ _ _
      | exact chars_Squeeze.mono _ _
      | exact espalierlaw02_lives.mono _
      | exact LeO.none _
      | refine LeO.ite ?_ ?_
      | refine LeO.bind ?_ (fun _ => ?_)
    · intro y0 y1 y2
      unfold espalierlaw02_CharsSqueezed.l0
      repeat' first
      | (with_reducible exact ih0 _ _ _)
      | (with_reducible exact ih1 _ _ _)
      | (with_reducible exact chars_Squeeze.mono _ _)
      | (with_reducible exact espalierlaw02_lives.mono _)
      | (with_reducible exact LeO.refl _)
      | (with_reducible exact LeO.none _)
      | (with_reducible refine LeO.ite ?_ ?_)
      | (with_reducible refine LeO.bind ?_ (fun _ => ?_))
      | exact ih0 _ _ _
      | exact ih1 _ _ _
      | exact chars_Squeeze.mono _ _
      | exact espalierlaw02_lives.mono _
      | exact LeO.none _
      | refine LeO.ite ?_ ?_
      | refine LeO.bind ?_ (fun _ => ?_)
theorem espalierlaw02_CharsSqueezed.mono : ∀ a0 k, LeO (espalierlaw02_CharsSqueezed.f k a0) (espalierlaw02_CharsSqueezed.f (k + 1) a0) := by
  intro a0 k
  obtain ⟨ih0, ih1⟩ := espalierlaw02_CharsSqueezed.mono_l k
  unfold espalierlaw02_CharsSqueezed.f
  repeat' first
      | (with_reducible exact ih0 _ _ _)
      | (with_reducible exact ih1 _ _ _)
      | (with_reducible exact chars_Squeeze.mono _ _)
      | (with_reducible exact espalierlaw02_lives.mono _)
      | (with_reducible exact LeO.refl _)
      | (with_reducible exact LeO.none _)
      | (with_reducible refine LeO.ite ?_ ?_)
      | (with_reducible refine LeO.bind ?_ (fun _ => ?_))
      | exact ih0 _ _ _
      | exact ih1 _ _ _
      | exact chars_Squeeze.mono _ _
      | exact espalierlaw02_lives.mono _
      | exact LeO.none _
      | refine LeO.ite ?_ ?_
      | refine LeO.bind ?_ (fun _ => ?_)
set_option maxHeartbeats 8000000 in
set_option maxRecDepth 100000 in
theorem espalierlaw02_CharsSqueezed.calls (k : Nat) (a0 : ByteArray) (r : Bool) (w : World) (h : espalierlaw02_CharsSqueezed.f k a0 = some r) (hG : Glob w := by first | exact Glob.step HG.out (by repeat (first | (with_reducible first | exact HB.out | apply below_alloc | apply pw_below_drewN | apply below_drew1) | exact HB.out)) | exact HG.out | assumption) (hG2 : Glob2 w := by first | exact Glob2.step HG2.out (by repeat (first | (with_reducible first | exact HB.out | apply below_alloc | apply pw_below_drewN | apply below_drew1) | exact HB.out)) | exact HG2.out | assumption) :
    Calls Tryd.prog 9 #[.string a0] w fun e w' => e = .returned (.bool r) ∧ Below w.heap.size w w' := by
  have HG := Aside0.mk hG
  clear hG
  have HG2 := Aside0.mk hG2
  clear hG2
  have HB := Aside0.mk (Below.refl w.heap.size w)
  have H : ((espalierlaw02_lives.f k).bind fun t256 => (if t256 = true then ((chars_Squeeze.f k a0).bind fun bt257 => (if bt257.2 = 0 then ((chars_Squeeze.f k bt257.1).bind fun bt259 => (if 1 + bt257.1.size ≤ 9223372036854775807 then (if ((⟨#[32]⟩ : ByteArray) ++ bt257.1).size + 1 ≤ 9223372036854775807 then ((chars_Squeeze.f k (((⟨#[32]⟩ : ByteArray) ++ bt257.1) ++ (⟨#[10]⟩ : ByteArray))).bind fun bt261 => (if bt259.2 = 0 then (if bt259.1.toList = bt257.1.toList then (if (wrap64 ((bt257.1.size : Int) + 2)) ≤ 16384 then (if bt261.2 = 0 then (espalierlaw02_CharsSqueezed.j0 k a0 bt257.1 (bt261.1.toList != bt257.1.toList)) else (espalierlaw02_CharsSqueezed.j0 k a0 bt257.1 true)) else (espalierlaw02_CharsSqueezed.j0 k a0 bt257.1 false)) else (espalierlaw02_CharsSqueezed.j0 k a0 bt257.1 true)) else (espalierlaw02_CharsSqueezed.j0 k a0 bt257.1 true))) else (none)) else (none))) else (some (bt257.1.toList == ([] : List UInt8))))) else (some false))) = some r := h
  clear h
  replace H := Option.bind_eq_some_iff.mp H
  obtain ⟨t256, A20, H⟩ := H
  replace H : (if t256 = true then ((chars_Squeeze.f k a0).bind fun bt257 => (if bt257.2 = 0 then ((chars_Squeeze.f k bt257.1).bind fun bt259 => (if 1 + bt257.1.size ≤ 9223372036854775807 then (if ((⟨#[32]⟩ : ByteArray) ++ bt257.1).size + 1 ≤ 9223372036854775807 then ((chars_Squeeze.f k (((⟨#[32]⟩ : ByteArray) ++ bt257.1) ++ (⟨#[10]⟩ : ByteArray))).bind fun bt261 => (if bt259.2 = 0 then (if bt259.1.toList = bt257.1.toList then (if (wrap64 ((bt257.1.size : Int) + 2)) ≤ 16384 then (if bt261.2 = 0 then (espalierlaw02_CharsSqueezed.j0 k a0 bt257.1 (bt261.1.toList != bt257.1.toList)) else (espalierlaw02_CharsSqueezed.j0 k a0 bt257.1 true)) else (espalierlaw02_CharsSqueezed.j0 k a0 bt257.1 false)) else (espalierlaw02_CharsSqueezed.j0 k a0 bt257.1 true)) else (espalierlaw02_CharsSqueezed.j0 k a0 bt257.1 true))) else (none)) else (none))) else (some (bt257.1.toList == ([] : List UInt8))))) else (some false)) = some r := H
  have A2 := Aside0.mk A20
  clear A20
  by_cases c3 : t256 = true
  · subst c3
    have H1 : ((chars_Squeeze.f k a0).bind fun bt257 => (if bt257.2 = 0 then ((chars_Squeeze.f k bt257.1).bind fun bt259 => (if 1 + bt257.1.size ≤ 9223372036854775807 then (if ((⟨#[32]⟩ : ByteArray) ++ bt257.1).size + 1 ≤ 9223372036854775807 then ((chars_Squeeze.f k (((⟨#[32]⟩ : ByteArray) ++ bt257.1) ++ (⟨#[10]⟩ : ByteArray))).bind fun bt261 => (if bt259.2 = 0 then (if bt259.1.toList = bt257.1.toList then (if (wrap64 ((bt257.1.size : Int) + 2)) ≤ 16384 then (if bt261.2 = 0 then (espalierlaw02_CharsSqueezed.j0 k a0 bt257.1 (bt261.1.toList != bt257.1.toList)) else (espalierlaw02_CharsSqueezed.j0 k a0 bt257.1 true)) else (espalierlaw02_CharsSqueezed.j0 k a0 bt257.1 false)) else (espalierlaw02_CharsSqueezed.j0 k a0 bt257.1 true)) else (espalierlaw02_CharsSqueezed.j0 k a0 bt257.1 true))) else (none)) else (none))) else (some (bt257.1.toList == ([] : List UInt8))))) = some r := by rw [if_pos rfl] at H; exact H
    clear H
    have H := H1
    clear H1
    replace H := Option.bind_eq_some_iff.mp H
    obtain ⟨⟨t257, t258⟩, A40, H⟩ := H
    replace H : (if t258 = 0 then ((chars_Squeeze.f k t257).bind fun bt259 => (if 1 + t257.size ≤ 9223372036854775807 then (if ((⟨#[32]⟩ : ByteArray) ++ t257).size + 1 ≤ 9223372036854775807 then ((chars_Squeeze.f k (((⟨#[32]⟩ : ByteArray) ++ t257) ++ (⟨#[10]⟩ : ByteArray))).bind fun bt261 => (if bt259.2 = 0 then (if bt259.1.toList = t257.toList then (if (wrap64 ((t257.size : Int) + 2)) ≤ 16384 then (if bt261.2 = 0 then (espalierlaw02_CharsSqueezed.j0 k a0 t257 (bt261.1.toList != t257.toList)) else (espalierlaw02_CharsSqueezed.j0 k a0 t257 true)) else (espalierlaw02_CharsSqueezed.j0 k a0 t257 false)) else (espalierlaw02_CharsSqueezed.j0 k a0 t257 true)) else (espalierlaw02_CharsSqueezed.j0 k a0 t257 true))) else (none)) else (none))) else (some (t257.toList == ([] : List UInt8)))) = some r := H
    have A4 := Aside0.mk A40
    clear A40
    by_cases c5 : t258 = 0
    · rw [if_pos c5] at H
      have c5b0 : (t258 == 0) = true := beq_iff_eq.mpr c5
      have c5b1 : (t258 != 0) = false := bne_eq_false_iff_eq.mpr c5
      clear c5
      replace H := Option.bind_eq_some_iff.mp H
      obtain ⟨⟨t259, t260⟩, A60, H⟩ := H
      replace H : (if 1 + t257.size ≤ 9223372036854775807 then (if ((⟨#[32]⟩ : ByteArray) ++ t257).size + 1 ≤ 9223372036854775807 then ((chars_Squeeze.f k (((⟨#[32]⟩ : ByteArray) ++ t257) ++ (⟨#[10]⟩ : ByteArray))).bind fun bt261 => (if t260 = 0 then (if t259.toList = t257.toList then (if (wrap64 ((t257.size : Int) + 2)) ≤ 16384 then (if bt261.2 = 0 then (espalierlaw02_CharsSqueezed.j0 k a0 t257 (bt261.1.toList != t257.toList)) else (espalierlaw02_CharsSqueezed.j0 k a0 t257 true)) else (espalierlaw02_CharsSqueezed.j0 k a0 t257 false)) else (espalierlaw02_CharsSqueezed.j0 k a0 t257 true)) else (espalierlaw02_CharsSqueezed.j0 k a0 t257 true))) else (none)) else (none)) = some r := H
      have A6 := Aside0.mk A60
      clear A60
      by_cases c7 : 1 + t257.size ≤ 9223372036854775807
      · rw [if_pos c7] at H
        have c7b0 := eq_true c7
        have c7b1 : decide (1 + t257.size ≤ 9223372036854775807) = true := decide_eq_true c7
        try have c7b2 : (9223372036854775807 < 1 + t257.size) = False := eq_false (Nat.not_lt.2 c7)
        by_cases c8 : ((⟨#[32]⟩ : ByteArray) ++ t257).size + 1 ≤ 9223372036854775807
        · rw [if_pos c8] at H
          have c8b0 := eq_true c8
          have c8b1 : decide (((⟨#[32]⟩ : ByteArray) ++ t257).size + 1 ≤ 9223372036854775807) = true := decide_eq_true c8
          try have c8b2 : (9223372036854775807 < ((⟨#[32]⟩ : ByteArray) ++ t257).size + 1) = False := eq_false (Nat.not_lt.2 c8)
          try have c8n : 1 + t257.size + 1 ≤ 9223372036854775807 := by have z_ := c8; rw [ByteArray.size_append, show (⟨#[32]⟩ : ByteArray).size = 1 from rfl] at z_; exact z_
          try have c8n0 := eq_true c8n
          try have c8n1 : decide (1 + t257.size + 1 ≤ 9223372036854775807) = true := decide_eq_true c8n
          try have c8n2 : (9223372036854775807 < 1 + t257.size + 1) = False := eq_false (Nat.not_lt.2 c8n)
          replace H := Option.bind_eq_some_iff.mp H
          obtain ⟨⟨t261, t262⟩, A90, H⟩ := H
          replace H : (if t260 = 0 then (if t259.toList = t257.toList then (if (wrap64 ((t257.size : Int) + 2)) ≤ 16384 then (if t262 = 0 then (espalierlaw02_CharsSqueezed.j0 k a0 t257 (t261.toList != t257.toList)) else (espalierlaw02_CharsSqueezed.j0 k a0 t257 true)) else (espalierlaw02_CharsSqueezed.j0 k a0 t257 false)) else (espalierlaw02_CharsSqueezed.j0 k a0 t257 true)) else (espalierlaw02_CharsSqueezed.j0 k a0 t257 true)) = some r := H
          have A9 := Aside0.mk A90
          clear A90
          have HC10 := Aside0.mk H
          clear H
          go_enter Tryd.func9, Tryd.ntmps9
          go_upto_region 8 with (first | ((with_reducible refine gate_callee (f := 30) rfl ?_); refine goesL_ (some 11) rfl rfl Tryd.func30 (by kernel_rfl) rfl #[] rfl (by (try simp only [List.map_toArray, List.map_cons, List.map_nil]); first | done | rfl | (simp only [List.length_drop, List.length_take]; rfl)) ?_; (with_reducible refine (espalierlaw02_lives.calls k  true _ A2.out).mono ?_); rintro e w11 ⟨rfl, hb⟩; refine ⟨_, rfl, ?_⟩; have n0_ := Aside0.mk (below_step (by repeat (first | (with_reducible first | exact HB.out | apply below_alloc | apply pw_below_drewN | apply below_drew1) | exact HB.out)) hb); clear HB; have HB := n0_; clear n0_; (try clear hb); (try clear hb2); (try clear hk); (try clear hi)) | ((with_reducible refine gate_callee (f := 26) rfl ?_); refine goesL_ (some 15) rfl rfl Tryd.func26 (by kernel_rfl) rfl #[.string a0] rfl (by (try simp only [List.map_toArray, List.map_cons, List.map_nil]); first | done | rfl | (simp only [List.length_drop, List.length_take]; rfl)) ?_; (with_reducible refine (chars_Squeeze.calls k a0 t257 t258 _ A4.out).mono ?_); rintro e w12 ⟨rfl, hb⟩; refine ⟨_, rfl, ?_⟩; have n0_ := Aside0.mk (below_step (by repeat (first | (with_reducible first | exact HB.out | apply below_alloc | apply pw_below_drewN | apply below_drew1) | exact HB.out)) hb); clear HB; have HB := n0_; clear n0_; (try clear hb); (try clear hb2); (try clear hk); (try clear hi)) | ((with_reducible refine gate_callee (f := 26) rfl ?_); refine goesL_ (some 24) rfl rfl Tryd.func26 (by kernel_rfl) rfl #[.string t257] rfl (by (try simp only [List.map_toArray, List.map_cons, List.map_nil]); first | done | rfl | (simp only [List.length_drop, List.length_take]; rfl)) ?_; (with_reducible refine (chars_Squeeze.calls k t257 t259 t260 _ A6.out).mono ?_); rintro e w13 ⟨rfl, hb⟩; refine ⟨_, rfl, ?_⟩; have n0_ := Aside0.mk (below_step (by repeat (first | (with_reducible first | exact HB.out | apply below_alloc | apply pw_below_drewN | apply below_drew1) | exact HB.out)) hb); clear HB; have HB := n0_; clear n0_; (try clear hb); (try clear hb2); (try clear hk); (try clear hi)) | ((with_reducible refine gate_callee (f := 26) rfl ?_); refine goesL_ (some 31) rfl rfl Tryd.func26 (by kernel_rfl) rfl #[.string (((⟨#[32]⟩ : ByteArray) ++ t257) ++ (⟨#[10]⟩ : ByteArray))] rfl (by (try simp only [List.map_toArray, List.map_cons, List.map_nil]); first | done | rfl | (simp only [List.length_drop, List.length_take]; rfl)) ?_; (with_reducible refine (chars_Squeeze.calls k (((⟨#[32]⟩ : ByteArray) ++ t257) ++ (⟨#[10]⟩ : ByteArray)) t261 t262 _ A9.out).mono ?_); rintro e w14 ⟨rfl, hb⟩; refine ⟨_, rfl, ?_⟩; have n0_ := Aside0.mk (below_step (by repeat (first | (with_reducible first | exact HB.out | apply below_alloc | apply pw_below_drewN | apply below_drew1) | exact HB.out)) hb); clear HB; have HB := n0_; clear n0_; (try clear hb); (try clear hb2); (try clear hk); (try clear hi)))
          (try simp only [Act.put, List.setIfInBounds_toArray, List.set_cons_zero, List.set_cons_succ])
          go_cut [55] (fun v55 wc => ∃ (kq : Nat) (x55_9 : Bool), v55 = .bool x55_9 ∧ Aside0 (espalierlaw02_CharsSqueezed.j0 kq a0 t257 x55_9 = some r) ∧ Aside0 (kq ≤ k) ∧ Aside0 (Below w.heap.size w wc))
          case first =>
            have H := HC10.out
            clear HC10
            by_cases c15 : t260 = 0
            · rw [if_pos c15] at H
              have c15b0 : (t260 == 0) = true := beq_iff_eq.mpr c15
              have c15b1 : (t260 != 0) = false := bne_eq_false_iff_eq.mpr c15
              clear c15
              (first | rw [c15b0] | (simp only [i64_w, i32_w]; rw [c15b0]) | skip)
              by_cases c16 : t259.toList = t257.toList
              · rw [if_pos c16] at H
                have c16b0 : (t259.toList == t257.toList) = true := beq_iff_eq.mpr c16
                have c16b1 : (t259.toList != t257.toList) = false := bne_eq_false_iff_eq.mpr c16
                clear c16
                by_cases c17 : (wrap64 ((t257.size : Int) + 2)) ≤ 16384
                · rw [if_pos c17] at H
                  have c17b0 : decide ((wrap64 ((t257.size : Int) + 2)) ≤ 16384) = true := decide_eq_true c17
                  try have c17w : decide (((t257.size : Int) + 2) ≤ 16384) = true := by rw [show ((t257.size : Int) + 2) = wrap64 ((t257.size : Int) + 2) from (by unfold wrap64; omega)]; exact c17b0
                  clear c17
                  by_cases c18 : t262 = 0
                  · rw [if_pos c18] at H
                    have c18b0 : (t262 == 0) = true := beq_iff_eq.mpr c18
                    have c18b1 : (t262 != 0) = false := bne_eq_false_iff_eq.mpr c18
                    clear c18
                    have H' := Aside0.mk H
                    clear H
                    go_wp2
                    go_meet
                    case rel => exact ⟨_, ((t261.toList != t257.toList)), (by first | rfl | (simp; done) | (simp [*]; done)), H', ⟨by first | omega | exact Nat.le_refl _⟩, ⟨by repeat (first | (with_reducible first | exact HB.out | apply below_alloc | apply pw_below_drewN | apply below_drew1) | exact HB.out)⟩⟩
                  · rw [if_neg c18] at H
                    have c18b0 : (t262 == 0) = false := beq_eq_false_iff_ne.mpr c18
                    have c18b1 : (t262 != 0) = true := bne_iff_ne.mpr c18
                    have H' := Aside0.mk H
                    clear H
                    go_wp2
                    go_meet
                    case rel => exact ⟨_, (true), (by first | rfl | (simp; done) | (simp [*]; done)), H', ⟨by first | omega | exact Nat.le_refl _⟩, ⟨by repeat (first | (with_reducible first | exact HB.out | apply below_alloc | apply pw_below_drewN | apply below_drew1) | exact HB.out)⟩⟩
                · rw [if_neg c17] at H
                  have c17b0 : decide ((wrap64 ((t257.size : Int) + 2)) ≤ 16384) = false := decide_eq_false c17
                  try have c17w : decide (((t257.size : Int) + 2) ≤ 16384) = false := by rw [show ((t257.size : Int) + 2) = wrap64 ((t257.size : Int) + 2) from (by unfold wrap64; omega)]; exact c17b0
                  clear c17
                  have H' := Aside0.mk H
                  clear H
                  go_wp2
                  go_meet
                  case rel => exact ⟨_, (false), (by first | rfl | (simp; done) | (simp [*]; done)), H', ⟨by first | omega | exact Nat.le_refl _⟩, ⟨by repeat (first | (with_reducible first | exact HB.out | apply below_alloc | apply pw_below_drewN | apply below_drew1) | exact HB.out)⟩⟩
              · rw [if_neg c16] at H
                have c16b0 : (t259.toList == t257.toList) = false := beq_eq_false_iff_ne.mpr c16
                have c16b1 : (t259.toList != t257.toList) = true := bne_iff_ne.mpr c16
                have H' := Aside0.mk H
                clear H
                go_wp2
                go_meet
                case rel => exact ⟨_, (true), (by first | rfl | (simp; done) | (simp [*]; done)), H', ⟨by first | omega | exact Nat.le_refl _⟩, ⟨by repeat (first | (with_reducible first | exact HB.out | apply below_alloc | apply pw_below_drewN | apply below_drew1) | exact HB.out)⟩⟩
            · rw [if_neg c15] at H
              have c15b0 : (t260 == 0) = false := beq_eq_false_iff_ne.mpr c15
              have c15b1 : (t260 != 0) = true := bne_iff_ne.mpr c15
              (first | rw [c15b0] | (simp only [i64_w, i32_w]; rw [c15b0]) | skip)
              have H' := Aside0.mk H
              clear H
              go_wp2
              go_meet
              case rel => exact ⟨_, (true), (by first | rfl | (simp; done) | (simp [*]; done)), H', ⟨by first | omega | exact Nat.le_refl _⟩, ⟨by repeat (first | (with_reducible first | exact HB.out | apply below_alloc | apply pw_below_drewN | apply below_drew1) | exact HB.out)⟩⟩
          case rest =>
            clear HC10
            try clear c1
            try clear c2
            try clear p2
            try clear c3
            try clear c5
            try clear c5b0
            try clear c5b1
            try clear p6
            try clear c7
            try clear c7b0
            try clear c7b1
            try clear c7b2
            try clear c8
            try clear c8b0
            try clear c8b1
            try clear c8b2
            try clear c9
            try clear c15
            try clear c15b0
            try clear c15b1
            try clear c16
            try clear c16b0
            try clear c16b1
            try clear c17
            try clear c17b0
            try clear c18
            try clear c18b0
            try clear c18b1
            obtain ⟨kq, x55_9, rfl, HA, HJ9, HB⟩ := hcut
            cases kq with
            | zero => exact absurd HA.out (by simp [espalierlaw02_CharsSqueezed.j0])
            | succ kj9 =>
              have H := HA.out
              clear HA
              simp only [espalierlaw02_CharsSqueezed.j0] at H
              by_cases c19 : x55_9 = true
              · subst c19
                have H1 : (some false) = some r := by rw [if_pos rfl] at H; exact H
                clear H
                have H := H1
                clear H1
                obtain rfl := Option.some.inj H
                go_wp2
                go_ret
                exact ⟨by first | rfl | (simp [errW_none, errW_some] <;> rfl) | (simp [*, errW_none, errW_some] <;> rfl), by repeat (first | (with_reducible first | exact HB.out | apply below_alloc | apply pw_below_drewN | apply below_drew1) | exact HB.out)⟩
              · replace c19 := Bool.eq_false_iff.mpr c19
                subst c19
                have H1 : (espalierlaw02_CharsSqueezed.l0 kj9 a0 t257 0) = some r := by rw [if_neg (show ¬ (false = true) by decide)] at H; exact H
                clear H
                have H := H1
                clear H1
                have H' := Aside0.mk H
                clear H
                go_wp2
                go_loopg [9] kj9 (fun kq v9 w' => ∃ (x9_2 : Int), v9 = .int .i64 x9_2 ∧ Aside0 (espalierlaw02_CharsSqueezed.l0 kq a0 t257 x9_2 = some r) ∧ Aside0 (kq ≤ kj9) ∧ Aside0 (Below w.heap.size w w'))
                case atStart => exact ⟨(0), (by first | rfl | (simp; done) | (simp [*]; done)), H', ⟨Nat.le_refl _⟩, ⟨by repeat (first | (with_reducible first | exact HB.out | apply below_alloc | apply pw_below_drewN | apply below_drew1) | exact HB.out)⟩⟩
                case round =>
                  clear H'
                  try clear c1
                  try clear c2
                  try clear p2
                  try clear c3
                  try clear c5
                  try clear c5b0
                  try clear c5b1
                  try clear p6
                  try clear c7
                  try clear c7b0
                  try clear c7b1
                  try clear c7b2
                  try clear c8
                  try clear c8b0
                  try clear c8b1
                  try clear c8b2
                  try clear c9
                  try clear c15
                  try clear c15b0
                  try clear c15b1
                  try clear c16
                  try clear c16b0
                  try clear c16b1
                  try clear c17
                  try clear c17b0
                  try clear c18
                  try clear c18b0
                  try clear c18b1
                  try clear c19
                  try clear p2
                  try clear p6
                  obtain ⟨x9_2, rfl, HA, HK2, HB⟩ := hrel
                  cases gk with
                  | zero => exact absurd HA.out (by simp [espalierlaw02_CharsSqueezed.l0])
                  | succ k2 =>
                    have H := HA.out
                    clear HA
                    simp only [espalierlaw02_CharsSqueezed.l0] at H
                    by_cases c20 : x9_2 < (t257.size : Int)
                    · rw [if_pos c20] at H
                      have c20b0 : decide (x9_2 < (t257.size : Int)) = true := decide_eq_true c20
                      clear c20
                      by_cases c21 : 0 ≤ x9_2
                      · rw [if_pos c21] at H
                        have c21b0 : decide (0 ≤ x9_2) = true := decide_eq_true c21
                        clear c21
                        by_cases c23 : (bt t257 x9_2) = 9
                        · rw [if_pos c23] at H
                          have c23b0 : ((bt t257 x9_2) == 9) = true := beq_iff_eq.mpr c23
                          have c23b1 : ((bt t257 x9_2) != 9) = false := bne_eq_false_iff_eq.mpr c23
                          clear c23
                          obtain rfl := Option.some.inj H
                          have p22 : 0 ≤ (x9_2 : Int) := of_decide_eq_true (by first | (with_reducible assumption) | assumption)
                          have q22 : x9_2 < (t257.size : Int) := of_decide_eq_true (by first | (with_reducible assumption) | assumption)
                          have hx22 := bt_at t257 x9_2
                          replace p22 := eq_true p22
                          replace q22 := eq_true q22
                          go_wp2
                          go_ret
                          exact ⟨by first | rfl | (simp [errW_none, errW_some] <;> rfl) | (simp [*, errW_none, errW_some] <;> rfl), by repeat (first | (with_reducible first | exact HB.out | apply below_alloc | apply pw_below_drewN | apply below_drew1) | exact HB.out)⟩
                        · rw [if_neg c23] at H
                          have c23b0 : ((bt t257 x9_2) == 9) = false := beq_eq_false_iff_ne.mpr c23
                          have c23b1 : ((bt t257 x9_2) != 9) = true := bne_iff_ne.mpr c23
                          by_cases c24 : (bt t257 x9_2) = 10
                          · rw [if_pos c24] at H
                            have c24b0 : ((bt t257 x9_2) == 10) = true := beq_iff_eq.mpr c24
                            have c24b1 : ((bt t257 x9_2) != 10) = false := bne_eq_false_iff_eq.mpr c24
                            clear c24
                            obtain rfl := Option.some.inj H
                            have p22 : 0 ≤ (x9_2 : Int) := of_decide_eq_true (by first | (with_reducible assumption) | assumption)
                            have q22 : x9_2 < (t257.size : Int) := of_decide_eq_true (by first | (with_reducible assumption) | assumption)
                            have hx22 := bt_at t257 x9_2
                            replace p22 := eq_true p22
                            replace q22 := eq_true q22
                            go_wp2
                            go_ret
                            exact ⟨by first | rfl | (simp [errW_none, errW_some] <;> rfl) | (simp [*, errW_none, errW_some] <;> rfl), by repeat (first | (with_reducible first | exact HB.out | apply below_alloc | apply pw_below_drewN | apply below_drew1) | exact HB.out)⟩
                          · rw [if_neg c24] at H
                            have c24b0 : ((bt t257 x9_2) == 10) = false := beq_eq_false_iff_ne.mpr c24
                            have c24b1 : ((bt t257 x9_2) != 10) = true := bne_iff_ne.mpr c24
                            by_cases c25 : (bt t257 x9_2) = 13
                            · rw [if_pos c25] at H
                              have c25b0 : ((bt t257 x9_2) == 13) = true := beq_iff_eq.mpr c25
                              have c25b1 : ((bt t257 x9_2) != 13) = false := bne_eq_false_iff_eq.mpr c25
                              clear c25
                              obtain rfl := Option.some.inj H
                              have p22 : 0 ≤ (x9_2 : Int) := of_decide_eq_true (by first | (with_reducible assumption) | assumption)
                              have q22 : x9_2 < (t257.size : Int) := of_decide_eq_true (by first | (with_reducible assumption) | assumption)
                              have hx22 := bt_at t257 x9_2
                              replace p22 := eq_true p22
                              replace q22 := eq_true q22
                              go_wp2
                              go_ret
                              exact ⟨by first | rfl | (simp [errW_none, errW_some] <;> rfl) | (simp [*, errW_none, errW_some] <;> rfl), by repeat (first | (with_reducible first | exact HB.out | apply below_alloc | apply pw_below_drewN | apply below_drew1) | exact HB.out)⟩
                            · rw [if_neg c25] at H
                              have c25b0 : ((bt t257 x9_2) == 13) = false := beq_eq_false_iff_ne.mpr c25
                              have c25b1 : ((bt t257 x9_2) != 13) = true := bne_iff_ne.mpr c25
                              by_cases c26 : (bt t257 x9_2) = 32
                              · rw [if_pos c26] at H
                                have c26b0 : ((bt t257 x9_2) == 32) = true := beq_iff_eq.mpr c26
                                have c26b1 : ((bt t257 x9_2) != 32) = false := bne_eq_false_iff_eq.mpr c26
                                clear c26
                                by_cases c27 : x9_2 = 0
                                · rw [if_pos c27] at H
                                  have c27b0 : (x9_2 == 0) = true := beq_iff_eq.mpr c27
                                  have c27b1 : (x9_2 != 0) = false := bne_eq_false_iff_eq.mpr c27
                                  clear c27
                                  obtain rfl := Option.some.inj H
                                  have p22 : 0 ≤ (x9_2 : Int) := of_decide_eq_true (by first | (with_reducible assumption) | assumption)
                                  have q22 : x9_2 < (t257.size : Int) := of_decide_eq_true (by first | (with_reducible assumption) | assumption)
                                  have hx22 := bt_at t257 x9_2
                                  replace p22 := eq_true p22
                                  replace q22 := eq_true q22
                                  go_wp2
                                  go_ret
                                  exact ⟨by first | rfl | (simp [errW_none, errW_some] <;> rfl) | (simp [*, errW_none, errW_some] <;> rfl), by repeat (first | (with_reducible first | exact HB.out | apply below_alloc | apply pw_below_drewN | apply below_drew1) | exact HB.out)⟩
                                · rw [if_neg c27] at H
                                  have c27b0 : (x9_2 == 0) = false := beq_eq_false_iff_ne.mpr c27
                                  have c27b1 : (x9_2 != 0) = true := bne_iff_ne.mpr c27
                                  by_cases c28 : x9_2 = (wrap64 ((t257.size : Int) - 1))
                                  · rw [if_pos c28] at H
                                    have c28b0 : (x9_2 == (wrap64 ((t257.size : Int) - 1))) = true := beq_iff_eq.mpr c28
                                    have c28b1 : (x9_2 != (wrap64 ((t257.size : Int) - 1))) = false := bne_eq_false_iff_eq.mpr c28
                                    try have c28w0 : (x9_2 == ((t257.size : Int) - 1)) = true := by rw [show ((t257.size : Int) - 1) = wrap64 ((t257.size : Int) - 1) from (by unfold wrap64; omega)]; exact c28b0
                                    try have c28w1 : (x9_2 != ((t257.size : Int) - 1)) = false := by rw [show ((t257.size : Int) - 1) = wrap64 ((t257.size : Int) - 1) from (by unfold wrap64; omega)]; exact c28b1
                                    clear c28
                                    obtain rfl := Option.some.inj H
                                    have p22 : 0 ≤ (x9_2 : Int) := of_decide_eq_true (by first | (with_reducible assumption) | assumption)
                                    have q22 : x9_2 < (t257.size : Int) := of_decide_eq_true (by first | (with_reducible assumption) | assumption)
                                    have hx22 := bt_at t257 x9_2
                                    replace p22 := eq_true p22
                                    replace q22 := eq_true q22
                                    go_wp2
                                    go_ret
                                    exact ⟨by first | rfl | (simp [errW_none, errW_some] <;> rfl) | (simp [*, errW_none, errW_some] <;> rfl), by repeat (first | (with_reducible first | exact HB.out | apply below_alloc | apply pw_below_drewN | apply below_drew1) | exact HB.out)⟩
                                  · rw [if_neg c28] at H
                                    have c28b0 : (x9_2 == (wrap64 ((t257.size : Int) - 1))) = false := beq_eq_false_iff_ne.mpr c28
                                    have c28b1 : (x9_2 != (wrap64 ((t257.size : Int) - 1))) = true := bne_iff_ne.mpr c28
                                    try have c28w0 : (x9_2 == ((t257.size : Int) - 1)) = false := by rw [show ((t257.size : Int) - 1) = wrap64 ((t257.size : Int) - 1) from (by unfold wrap64; omega)]; exact c28b0
                                    try have c28w1 : (x9_2 != ((t257.size : Int) - 1)) = true := by rw [show ((t257.size : Int) - 1) = wrap64 ((t257.size : Int) - 1) from (by unfold wrap64; omega)]; exact c28b1
                                    obtain ⟨ji29, hji29⟩ : ∃ j_ : Int, (wrap64 (x9_2 + 1)) = j_ := ⟨_, rfl⟩
                                    replace H : (if 0 ≤ (ji29) then (if (ji29) < (t257.size : Int) then (if (bt t257 (ji29)) = 32 then (some false) else (espalierlaw02_CharsSqueezed.l0 k2 a0 t257 ji29)) else (none)) else (none)) = some r := by first | (rw [hji29] at H; exact H) | (simp only [hji29] at H ⊢; exact H)
                                    have hji29w : (IntKind.i64.wrap (x9_2 + 1)) = ji29 := (i64_w _).trans hji29
                                    by_cases c30 : 0 ≤ (ji29)
                                    · rw [if_pos c30] at H
                                      have c30b0 : decide (0 ≤ (ji29)) = true := decide_eq_true c30
                                      clear c30
                                      by_cases c31 : (ji29) < (t257.size : Int)
                                      · rw [if_pos c31] at H
                                        have c31b0 : decide ((ji29) < (t257.size : Int)) = true := decide_eq_true c31
                                        clear c31
                                        by_cases c33 : (bt t257 (ji29)) = 32
                                        · rw [if_pos c33] at H
                                          have c33b0 : ((bt t257 (ji29)) == 32) = true := beq_iff_eq.mpr c33
                                          have c33b1 : ((bt t257 (ji29)) != 32) = false := bne_eq_false_iff_eq.mpr c33
                                          clear c33
                                          obtain rfl := Option.some.inj H
                                          have p22 : 0 ≤ (x9_2 : Int) := of_decide_eq_true (by first | (with_reducible assumption) | assumption)
                                          have q22 : x9_2 < (t257.size : Int) := of_decide_eq_true (by first | (with_reducible assumption) | assumption)
                                          have hx22 := bt_at t257 x9_2
                                          replace p22 := eq_true p22
                                          replace q22 := eq_true q22
                                          have p32 : 0 ≤ ((ji29) : Int) := of_decide_eq_true (by first | (with_reducible assumption) | assumption)
                                          have q32 : (ji29) < (t257.size : Int) := of_decide_eq_true (by first | (with_reducible assumption) | assumption)
                                          have hx32 := bt_at t257 (ji29)
                                          replace p32 := eq_true p32
                                          replace q32 := eq_true q32
                                          go_wp2
                                          go_ret
                                          exact ⟨by first | rfl | (simp [errW_none, errW_some] <;> rfl) | (simp only [← hji29]; first | rfl | (simp [errW_none, errW_some] <;> rfl)) | (simp [*, errW_none, errW_some] <;> rfl), by repeat (first | (with_reducible first | exact HB.out | apply below_alloc | apply pw_below_drewN | apply below_drew1) | exact HB.out)⟩
                                        · rw [if_neg c33] at H
                                          have c33b0 : ((bt t257 (ji29)) == 32) = false := beq_eq_false_iff_ne.mpr c33
                                          have c33b1 : ((bt t257 (ji29)) != 32) = true := bne_iff_ne.mpr c33
                                          have H' := Aside0.mk H
                                          clear H
                                          have p22 : 0 ≤ (x9_2 : Int) := of_decide_eq_true (by first | (with_reducible assumption) | assumption)
                                          have q22 : x9_2 < (t257.size : Int) := of_decide_eq_true (by first | (with_reducible assumption) | assumption)
                                          have hx22 := bt_at t257 x9_2
                                          replace p22 := eq_true p22
                                          replace q22 := eq_true q22
                                          have p32 : 0 ≤ ((ji29) : Int) := of_decide_eq_true (by first | (with_reducible assumption) | assumption)
                                          have q32 : (ji29) < (t257.size : Int) := of_decide_eq_true (by first | (with_reducible assumption) | assumption)
                                          have hx32 := bt_at t257 (ji29)
                                          replace p32 := eq_true p32
                                          replace q32 := eq_true q32
                                          go_wp2
                                          go_roundg k2
                                          case measure => have := HJ9.out; have := HK2.out; omega
                                          case rel => exact ⟨(ji29), (by first | rfl | (simp; done) | (simp only [← hji29] <;> (first | rfl | simp)) | (simp [*]; done)), H', ⟨by have := HJ9.out; have := HK2.out; omega⟩, ⟨by repeat (first | (with_reducible first | exact HB.out | apply below_alloc | apply pw_below_drewN | apply below_drew1) | exact HB.out)⟩⟩
                                      · rw [if_neg c31] at H
                                        exact absurd H (by simp)
                                    · rw [if_neg c30] at H
                                      exact absurd H (by simp)
                              · rw [if_neg c26] at H
                                have c26b0 : ((bt t257 x9_2) == 32) = false := beq_eq_false_iff_ne.mpr c26
                                have c26b1 : ((bt t257 x9_2) != 32) = true := bne_iff_ne.mpr c26
                                have H' := Aside0.mk H
                                clear H
                                have p22 : 0 ≤ (x9_2 : Int) := of_decide_eq_true (by first | (with_reducible assumption) | assumption)
                                have q22 : x9_2 < (t257.size : Int) := of_decide_eq_true (by first | (with_reducible assumption) | assumption)
                                have hx22 := bt_at t257 x9_2
                                replace p22 := eq_true p22
                                replace q22 := eq_true q22
                                go_wp2
                                go_roundg k2
                                case measure => have := HJ9.out; have := HK2.out; omega
                                case rel => exact ⟨(wrap64 (x9_2 + 1)), (by first | rfl | (simp; done) | (simp [*]; done)), H', ⟨by have := HJ9.out; have := HK2.out; omega⟩, ⟨by repeat (first | (with_reducible first | exact HB.out | apply below_alloc | apply pw_below_drewN | apply below_drew1) | exact HB.out)⟩⟩
                      · rw [if_neg c21] at H
                        exact absurd H (by simp)
                    · rw [if_neg c20] at H
                      have c20b0 : decide (x9_2 < (t257.size : Int)) = false := decide_eq_false c20
                      clear c20
                      replace H := Option.bind_eq_some_iff.mp H
                      obtain ⟨t263, A340, H⟩ := H
                      replace H : (some (t263 == (t257.toList == ([] : List UInt8)))) = some r := H
                      have A34 := Aside0.mk A340
                      clear A340
                      obtain rfl := Option.some.inj H
                      go_wp2_with (first | ((with_reducible refine gate_callee (f := 20) rfl ?_); refine goesL_ (some 98) rfl rfl Tryd.func20 (by kernel_rfl) rfl #[.string a0] rfl (by (try simp only [List.map_toArray, List.map_cons, List.map_nil]); first | done | rfl | (simp only [List.length_drop, List.length_take]; rfl)) ?_; (with_reducible refine (chars_Blank.calls a0 t263 _ A34.out).mono ?_); rintro e w35 ⟨rfl, hb⟩; refine ⟨_, rfl, ?_⟩; have n0_ := Aside0.mk (below_step (by repeat (first | (with_reducible first | exact HB.out | apply below_alloc | apply pw_below_drewN | apply below_drew1) | exact HB.out)) hb); clear HB; have HB := n0_; clear n0_; (try clear hb); (try clear hb2); (try clear hk); (try clear hi)))
                      go_ret
                      exact ⟨by first | rfl | (simp [errW_none, errW_some] <;> rfl) | (simp [*, errW_none, errW_some] <;> rfl), by repeat (first | (with_reducible first | exact HB.out | apply below_alloc | apply pw_below_drewN | apply below_drew1) | exact HB.out)⟩
        · rw [if_neg c8] at H
          exact absurd H (by simp)
      · rw [if_neg c7] at H
        exact absurd H (by simp)
    · rw [if_neg c5] at H
      have c5b0 : (t258 == 0) = false := beq_eq_false_iff_ne.mpr c5
      have c5b1 : (t258 != 0) = true := bne_iff_ne.mpr c5
      obtain rfl := Option.some.inj H
      go_enter Tryd.func9, Tryd.ntmps9
      go_wp2_with (first | ((with_reducible refine gate_callee (f := 30) rfl ?_); refine goesL_ (some 11) rfl rfl Tryd.func30 (by kernel_rfl) rfl #[] rfl (by (try simp only [List.map_toArray, List.map_cons, List.map_nil]); first | done | rfl | (simp only [List.length_drop, List.length_take]; rfl)) ?_; (with_reducible refine (espalierlaw02_lives.calls k  true _ A2.out).mono ?_); rintro e w36 ⟨rfl, hb⟩; refine ⟨_, rfl, ?_⟩; have n0_ := Aside0.mk (below_step (by repeat (first | (with_reducible first | exact HB.out | apply below_alloc | apply pw_below_drewN | apply below_drew1) | exact HB.out)) hb); clear HB; have HB := n0_; clear n0_; (try clear hb); (try clear hb2); (try clear hk); (try clear hi)) | ((with_reducible refine gate_callee (f := 26) rfl ?_); refine goesL_ (some 15) rfl rfl Tryd.func26 (by kernel_rfl) rfl #[.string a0] rfl (by (try simp only [List.map_toArray, List.map_cons, List.map_nil]); first | done | rfl | (simp only [List.length_drop, List.length_take]; rfl)) ?_; (with_reducible refine (chars_Squeeze.calls k a0 t257 t258 _ A4.out).mono ?_); rintro e w37 ⟨rfl, hb⟩; refine ⟨_, rfl, ?_⟩; have n0_ := Aside0.mk (below_step (by repeat (first | (with_reducible first | exact HB.out | apply below_alloc | apply pw_below_drewN | apply below_drew1) | exact HB.out)) hb); clear HB; have HB := n0_; clear n0_; (try clear hb); (try clear hb2); (try clear hk); (try clear hi)))
      go_ret
      exact ⟨by first | rfl | (simp [errW_none, errW_some] <;> rfl) | (simp [*, errW_none, errW_some] <;> rfl), by repeat (first | (with_reducible first | exact HB.out | apply below_alloc | apply pw_below_drewN | apply below_drew1) | exact HB.out)⟩
  · replace c3 := Bool.eq_false_iff.mpr c3
    subst c3
    have H1 : (some false) = some r := by rw [if_neg (show ¬ (false = true) by decide)] at H; exact H
    clear H
    have H := H1
    clear H1
    obtain rfl := Option.some.inj H
    go_enter Tryd.func9, Tryd.ntmps9
    go_wp2_with (first | ((with_reducible refine gate_callee (f := 30) rfl ?_); refine goesL_ (some 11) rfl rfl Tryd.func30 (by kernel_rfl) rfl #[] rfl (by (try simp only [List.map_toArray, List.map_cons, List.map_nil]); first | done | rfl | (simp only [List.length_drop, List.length_take]; rfl)) ?_; (with_reducible refine (espalierlaw02_lives.calls k  false _ A2.out).mono ?_); rintro e w38 ⟨rfl, hb⟩; refine ⟨_, rfl, ?_⟩; have n0_ := Aside0.mk (below_step (by repeat (first | (with_reducible first | exact HB.out | apply below_alloc | apply pw_below_drewN | apply below_drew1) | exact HB.out)) hb); clear HB; have HB := n0_; clear n0_; (try clear hb); (try clear hb2); (try clear hk); (try clear hi)))
    go_ret
    exact ⟨by first | rfl | (simp [errW_none, errW_some] <;> rfl) | (simp [*, errW_none, errW_some] <;> rfl), by repeat (first | (with_reducible first | exact HB.out | apply below_alloc | apply pw_below_drewN | apply below_drew1) | exact HB.out)⟩

/-- THE ONE PURE STATEMENT of espalierlaw02_CharsSqueezed: yours. -/
def espalierlaw02_CharsSqueezed.Pure : Prop := ∀ (a0 : ByteArray), a0.size ≤ 140737488351232 → ∃ k, espalierlaw02_CharsSqueezed.f k a0 = some true
theorem espalierlaw02_CharsSqueezed.walk (P : espalierlaw02_CharsSqueezed.Pure) (a0 : ByteArray) (w : World) (hG : Glob w) (hG2 : Glob2 w) (w0 : a0.size ≤ 140737488351232) :
    Calls Tryd.prog 9 #[.string a0] w fun e w' => e = .returned (.bool true) ∧ Below w.heap.size w w' := by
  obtain ⟨k, h⟩ := P a0 w0
  refine (espalierlaw02_CharsSqueezed.calls k a0 true w h).mono ?_
  rintro e w' ⟨rfl, hd⟩
  exact ⟨rfl, hd⟩

/-! ### espalierref02_First: function 13 -/
def espalierref02_First.f (k : Nat) (a0 : ByteArray) : Option (Int × Int × Int) := if a0.toList = ([] : List UInt8) then (some (0, 0, 4)) else ((espalierref02_At.f k a0 0).bind fun bt264 => (if bt264.2 = 0 then (some (0, 0, 7)) else (some (bt264.1, bt264.2, 0))))
theorem espalierref02_First.mono : ∀ a0 k, LeO (espalierref02_First.f k a0) (espalierref02_First.f (k + 1) a0) := by
  intro a0 k
  unfold espalierref02_First.f
  repeat' first
      | (with_reducible exact espalierref02_At.mono _ _ _)
      | (with_reducible exact LeO.refl _)
      | (with_reducible exact LeO.none _)
      | (with_reducible refine LeO.ite ?_ ?_)
      | (with_reducible refine LeO.bind ?_ (fun _ => ?_))
      | exact espalierref02_At.mono _ _ _
      | exact LeO.none _
      | refine LeO.ite ?_ ?_
      | refine LeO.bind ?_ (fun _ => ?_)
set_option maxHeartbeats 8000000 in
set_option maxRecDepth 100000 in
theorem espalierref02_First.calls (k : Nat) (a0 : ByteArray) (r1 : Int) (r2 : Int) (r3 : Int) (w : World) (h : espalierref02_First.f k a0 = some (r1, r2, r3)) :
    Calls Tryd.prog 13 #[.string a0] w fun e w' => e = .returned (.tuple #[.int .i64 r1, .int .i64 r2, .int .i64 r3]) ∧ Below w.heap.size w w' := by
  have HB := Aside0.mk (Below.refl w.heap.size w)
  have H : (if a0.toList = ([] : List UInt8) then (some (0, 0, 4)) else ((espalierref02_At.f k a0 0).bind fun bt264 => (if bt264.2 = 0 then (some (0, 0, 7)) else (some (bt264.1, bt264.2, 0))))) = some (r1, r2, r3) := h
  clear h
  by_cases c2 : a0.toList = ([] : List UInt8)
  · rw [if_pos c2] at H
    have c2b0 : (a0.toList == ([] : List UInt8)) = true := beq_iff_eq.mpr c2
    have c2b1 : (a0.toList != ([] : List UInt8)) = false := bne_eq_false_iff_eq.mpr c2
    clear c2
    simp only [Option.some.injEq, Prod.mk.injEq] at H
    obtain ⟨rfl, rfl, rfl⟩ := H
    go_enter Tryd.func13, Tryd.ntmps13
    go_wp2
    go_ret3
    exact ⟨by first | rfl | (simp [errW_none, errW_some] <;> rfl) | (simp [*, errW_none, errW_some] <;> rfl), by repeat (first | (with_reducible first | exact HB.out | apply below_alloc | apply pw_below_drewN | apply below_drew1) | exact HB.out)⟩
  · rw [if_neg c2] at H
    have c2b0 : (a0.toList == ([] : List UInt8)) = false := beq_eq_false_iff_ne.mpr c2
    have c2b1 : (a0.toList != ([] : List UInt8)) = true := bne_iff_ne.mpr c2
    replace H := Option.bind_eq_some_iff.mp H
    obtain ⟨⟨t264, t265⟩, A30, H⟩ := H
    replace H : (if t265 = 0 then (some (0, 0, 7)) else (some (t264, t265, 0))) = some (r1, r2, r3) := H
    have A3 := Aside0.mk A30
    clear A30
    by_cases c4 : t265 = 0
    · rw [if_pos c4] at H
      have c4b0 : (t265 == 0) = true := beq_iff_eq.mpr c4
      have c4b1 : (t265 != 0) = false := bne_eq_false_iff_eq.mpr c4
      clear c4
      simp only [Option.some.injEq, Prod.mk.injEq] at H
      obtain ⟨rfl, rfl, rfl⟩ := H
      go_enter Tryd.func13, Tryd.ntmps13
      go_wp2_with (first | ((with_reducible refine gate_callee (f := 37) rfl ?_); refine goesL_ (some 11) rfl rfl Tryd.func37 (by kernel_rfl) rfl #[.string a0, .int .i64 0] rfl (by (try simp only [List.map_toArray, List.map_cons, List.map_nil]); first | done | rfl | (simp only [List.length_drop, List.length_take]; rfl)) ?_; (with_reducible refine (espalierref02_At.calls k a0 0 t264 t265 _ A3.out).mono ?_); rintro e w5 ⟨rfl, hb⟩; refine ⟨_, rfl, ?_⟩; have n0_ := Aside0.mk (below_step (by repeat (first | (with_reducible first | exact HB.out | apply below_alloc | apply pw_below_drewN | apply below_drew1) | exact HB.out)) hb); clear HB; have HB := n0_; clear n0_; (try clear hb); (try clear hb2); (try clear hk); (try clear hi)))
      go_ret3
      exact ⟨by first | rfl | (simp [errW_none, errW_some] <;> rfl) | (simp [*, errW_none, errW_some] <;> rfl), by repeat (first | (with_reducible first | exact HB.out | apply below_alloc | apply pw_below_drewN | apply below_drew1) | exact HB.out)⟩
    · rw [if_neg c4] at H
      have c4b0 : (t265 == 0) = false := beq_eq_false_iff_ne.mpr c4
      have c4b1 : (t265 != 0) = true := bne_iff_ne.mpr c4
      simp only [Option.some.injEq, Prod.mk.injEq] at H
      obtain ⟨rfl, rfl, rfl⟩ := H
      go_enter Tryd.func13, Tryd.ntmps13
      go_wp2_with (first | ((with_reducible refine gate_callee (f := 37) rfl ?_); refine goesL_ (some 11) rfl rfl Tryd.func37 (by kernel_rfl) rfl #[.string a0, .int .i64 0] rfl (by (try simp only [List.map_toArray, List.map_cons, List.map_nil]); first | done | rfl | (simp only [List.length_drop, List.length_take]; rfl)) ?_; (with_reducible refine (espalierref02_At.calls k a0 0 t264 t265 _ A3.out).mono ?_); rintro e w6 ⟨rfl, hb⟩; refine ⟨_, rfl, ?_⟩; have n0_ := Aside0.mk (below_step (by repeat (first | (with_reducible first | exact HB.out | apply below_alloc | apply pw_below_drewN | apply below_drew1) | exact HB.out)) hb); clear HB; have HB := n0_; clear n0_; (try clear hb); (try clear hb2); (try clear hk); (try clear hi)))
      go_ret3
      exact ⟨by first | rfl | (simp [errW_none, errW_some] <;> rfl) | (simp [*, errW_none, errW_some] <;> rfl), by repeat (first | (with_reducible first | exact HB.out | apply below_alloc | apply pw_below_drewN | apply below_drew1) | exact HB.out)⟩

/-! ### espalierref02_Begins: function 41 -/
def espalierref02_Begins.f (a0 : Int) : Option (Bool) := if a0 ≥ 97 then (if a0 ≤ 122 then (some true) else (if a0 ≥ 65 then (if a0 ≤ 90 then (some true) else (some (a0 == 95))) else (some (a0 == 95)))) else (if a0 ≥ 65 then (if a0 ≤ 90 then (some true) else (some (a0 == 95))) else (some (a0 == 95)))
set_option maxHeartbeats 8000000 in
set_option maxRecDepth 100000 in
theorem espalierref02_Begins.calls (a0 : Int) (r : Bool) (w : World) (h : espalierref02_Begins.f a0 = some r) :
    Calls Tryd.prog 41 #[.int .u8 a0] w fun e w' => e = .returned (.bool r) ∧ Drawn0 w w' := by
  have H : (if a0 ≥ 97 then (if a0 ≤ 122 then (some true) else (if a0 ≥ 65 then (if a0 ≤ 90 then (some true) else (some (a0 == 95))) else (some (a0 == 95)))) else (if a0 ≥ 65 then (if a0 ≤ 90 then (some true) else (some (a0 == 95))) else (some (a0 == 95)))) = some r := h
  clear h
  by_cases c2 : a0 ≥ 97
  · rw [if_pos c2] at H
    have c2b0 : decide (97 ≤ a0) = true := decide_eq_true c2
    clear c2
    by_cases c3 : a0 ≤ 122
    · rw [if_pos c3] at H
      have c3b0 : decide (a0 ≤ 122) = true := decide_eq_true c3
      clear c3
      obtain rfl := Option.some.inj H
      go_enter Tryd.func41, Tryd.ntmps41
      go_wp2
      go_ret
      exact ⟨by first | rfl | (simp; done) | (simp [*]; done), by repeat (first | exact Drawn0.refl _ | apply Drawn0.step)⟩
    · rw [if_neg c3] at H
      have c3b0 : decide (a0 ≤ 122) = false := decide_eq_false c3
      clear c3
      by_cases c4 : a0 ≥ 65
      · rw [if_pos c4] at H
        have c4b0 : decide (65 ≤ a0) = true := decide_eq_true c4
        clear c4
        by_cases c5 : a0 ≤ 90
        · rw [if_pos c5] at H
          have c5b0 : decide (a0 ≤ 90) = true := decide_eq_true c5
          clear c5
          obtain rfl := Option.some.inj H
          go_enter Tryd.func41, Tryd.ntmps41
          go_wp2
          go_ret
          exact ⟨by first | rfl | (simp; done) | (simp [*]; done), by repeat (first | exact Drawn0.refl _ | apply Drawn0.step)⟩
        · rw [if_neg c5] at H
          have c5b0 : decide (a0 ≤ 90) = false := decide_eq_false c5
          clear c5
          obtain rfl := Option.some.inj H
          go_enter Tryd.func41, Tryd.ntmps41
          go_wp2
          go_ret
          exact ⟨by first | rfl | (simp; done) | (simp [*]; done), by repeat (first | exact Drawn0.refl _ | apply Drawn0.step)⟩
      · rw [if_neg c4] at H
        have c4b0 : decide (65 ≤ a0) = false := decide_eq_false c4
        clear c4
        obtain rfl := Option.some.inj H
        go_enter Tryd.func41, Tryd.ntmps41
        go_wp2
        go_ret
        exact ⟨by first | rfl | (simp; done) | (simp [*]; done), by repeat (first | exact Drawn0.refl _ | apply Drawn0.step)⟩
  · rw [if_neg c2] at H
    have c2b0 : decide (97 ≤ a0) = false := decide_eq_false c2
    clear c2
    by_cases c6 : a0 ≥ 65
    · rw [if_pos c6] at H
      have c6b0 : decide (65 ≤ a0) = true := decide_eq_true c6
      clear c6
      by_cases c7 : a0 ≤ 90
      · rw [if_pos c7] at H
        have c7b0 : decide (a0 ≤ 90) = true := decide_eq_true c7
        clear c7
        obtain rfl := Option.some.inj H
        go_enter Tryd.func41, Tryd.ntmps41
        go_wp2
        go_ret
        exact ⟨by first | rfl | (simp; done) | (simp [*]; done), by repeat (first | exact Drawn0.refl _ | apply Drawn0.step)⟩
      · rw [if_neg c7] at H
        have c7b0 : decide (a0 ≤ 90) = false := decide_eq_false c7
        clear c7
        obtain rfl := Option.some.inj H
        go_enter Tryd.func41, Tryd.ntmps41
        go_wp2
        go_ret
        exact ⟨by first | rfl | (simp; done) | (simp [*]; done), by repeat (first | exact Drawn0.refl _ | apply Drawn0.step)⟩
    · rw [if_neg c6] at H
      have c6b0 : decide (65 ≤ a0) = false := decide_eq_false c6
      clear c6
      obtain rfl := Option.some.inj H
      go_enter Tryd.func41, Tryd.ntmps41
      go_wp2
      go_ret
      exact ⟨by first | rfl | (simp; done) | (simp [*]; done), by repeat (first | exact Drawn0.refl _ | apply Drawn0.step)⟩

end Go.Proofs.YtdmeafhhdhojlaaDoor.PA
