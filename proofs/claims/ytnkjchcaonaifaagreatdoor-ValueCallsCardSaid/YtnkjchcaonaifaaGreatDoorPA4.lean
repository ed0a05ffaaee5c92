-- Written by a program of this session (wip/tools/xprint.py: the kit's print, with given functions). Not trusted: Lean checks it.
-- squeezed
import Derived.Test.YtnkjchcaonaifaaGreatDoorPA0
import Derived.Test.YtnkjchcaonaifaaGreatDoorPA1
import Derived.Test.YtnkjchcaonaifaaGreatDoorPA2
import Derived.Test.YtnkjchcaonaifaaGreatDoorPA3
import Derived.Test.YtnkjchcaonaifaaGreatDoorUCheck
import Derived.Test.YtnkjchcaonaifaaGreatDoorUStrings
namespace Go.Proofs.YtnkjchcaonaifaaGreatDoor.PA
open Go.RowKit Go.Proofs.YtnkjchcaonaifaaGreatDoorW.PrintWords Go.Proofs.YtnkjchcaonaifaaGreatDoorW.PrintLast Go.Proofs.YtnkjchcaonaifaaGreatDoorW.PrintMore
attribute [local go_sem] max2_int min2_int max_two min_two max_three min_three max_four min_four   -- for this text's walks alone
set_option linter.unusedVariables false
set_option linter.unusedSimpArgs false

/-! ### value_call: function 10 -/
mutual
def value_call.l0 : Nat → ByteArray → List (S28) → List (S28) → Int → Int → Int → Int → ByteArray → ByteArray → List (S146) → Option (Int × Bool × Int × Bool × ByteArray × List ByteArray × Int)
 | 0, _, _, _, _, _, _, _, _, _, _ => none
 | k + 1, x0, x2, x19, x20, x21, x169000, x169001, x169002, x169003, x169004 => if x21 < x20 then (if 0 ≤ x21 then (if x21 < (x19.length : Int) then ((value_check.f k ((rd_T28 x19 x21).f0) ((rd_T28 x19 x21).f1) ((rd_T28 x19 x21).f2) ((rd_T28 x19 x21).f3) ((rd_T28 x19 x21).f4) ((rd_T28 x19 x21).f5)).bind fun t173 => (if t173 = 0 then (value_call.l0 k x0 x2 x19 x20 (wrap64 (x21 + 1)) x169000 x169001 x169002 x169003 x169004) else (some (0, false, 0, false, (⟨#[]⟩ : ByteArray), ([] : List ByteArray), t173)))) else (none)) else (none)) else (if x0.toList = ([116, 114, 117, 101] : List UInt8) then (value_call.j1 k x0 x2 x0 (x0.toList == ([116, 114, 117, 101] : List UInt8)) x169000 x169001 x169002 x169003 x169004) else (value_call.j1 k x0 x2 x0 (x0.toList == ([102, 97, 108, 115, 101] : List UInt8)) x169000 x169001 x169002 x169003 x169004))
def value_call.j1 : Nat → ByteArray → List (S28) → ByteArray → Bool → Int → Int → ByteArray → ByteArray → List (S146) → Option (Int × Bool × Int × Bool × ByteArray × List ByteArray × Int)
 | 0, _, _, _, _, _, _, _, _, _ => none
 | k + 1, x0, x2, x32, x33, x169000, x169001, x169002, x169003, x169004 => if x33 = true then ((value_truth.f (x0.toList == ([116, 114, 117, 101] : List UInt8))).bind fun bt174 => (some (bt174.1, bt174.2.1, bt174.2.2.1, bt174.2.2.2.1, bt174.2.2.2.2.1, bt174.2.2.2.2.2, 0))) else (if x32.toList = ([112, 111, 115, 105, 116, 105, 111, 110] : List UInt8) then ((value_numbered.f x169000 true).bind fun bt182 => (some (bt182.1, bt182.2.1, bt182.2.2.1, bt182.2.2.2.1, bt182.2.2.2.2.1, bt182.2.2.2.2.2, 0))) else (if x32.toList = ([108, 97, 115, 116] : List UInt8) then ((value_numbered.f x169001 true).bind fun bt190 => (some (bt190.1, bt190.2.1, bt190.2.2.1, bt190.2.2.2.1, bt190.2.2.2.2.1, bt190.2.2.2.2.2, 0))) else (if x32.toList = ([110, 97, 109, 101] : List UInt8) then ((value_texted.f x169002).bind fun bt198 => (some (bt198.1, bt198.2.1, bt198.2.2.1, bt198.2.2.2.1, bt198.2.2.2.2.1, bt198.2.2.2.2.2, 0))) else (if x32.toList = ([110, 111, 116] : List UInt8) then (if 0 < (x2.length : Int) then ((value_asBool.f ((rd_T28 x2 0).f0) ((rd_T28 x2 0).f1) ((rd_T28 x2 0).f2) ((rd_T28 x2 0).f3) ((rd_T28 x2 0).f4) ((rd_T28 x2 0).f5)).bind fun t207 => ((value_truth.f (!t207)).bind fun bt208 => (some (bt208.1, bt208.2.1, bt208.2.2.1, bt208.2.2.2.1, bt208.2.2.2.2.1, bt208.2.2.2.2.2, 0)))) else (none)) else (if x32.toList = ([115, 116, 114, 105, 110, 103] : List UInt8) then (if 0 < (x2.length : Int) then ((value_asText.f ((rd_T28 x2 0).f0) ((rd_T28 x2 0).f1) ((rd_T28 x2 0).f2) ((rd_T28 x2 0).f3) ((rd_T28 x2 0).f4) ((rd_T28 x2 0).f5)).bind fun t217 => ((value_texted.f t217).bind fun bt218 => (some (bt218.1, bt218.2.1, bt218.2.2.1, bt218.2.2.2.1, bt218.2.2.2.2.1, bt218.2.2.2.2.2, 0)))) else (none)) else (if x32.toList = ([110, 117, 109, 98, 101, 114] : List UInt8) then (if 0 < (x2.length : Int) then ((value_asNumber.f ((rd_T28 x2 0).f0) ((rd_T28 x2 0).f1) ((rd_T28 x2 0).f2) ((rd_T28 x2 0).f3) ((rd_T28 x2 0).f4) ((rd_T28 x2 0).f5)).bind fun bt227 => ((value_numbered.f bt227.1 bt227.2).bind fun bt229 => (some (bt229.1, bt229.2.1, bt229.2.2.1, bt229.2.2.2.1, bt229.2.2.2.2.1, bt229.2.2.2.2.2, 0)))) else (none)) else (if x32.toList = ([99, 111, 117, 110, 116] : List UInt8) then (if 0 < (x2.length : Int) then ((value_numbered.f (((rd_T28 x2 0).f5).length : Int) (((rd_T28 x2 0).f0) == 4)).bind fun bt239 => (some (bt239.1, bt239.2.1, bt239.2.2.1, bt239.2.2.2.1, bt239.2.2.2.2.1, bt239.2.2.2.2.2, 0))) else (none)) else (if x32.toList = ([115, 117, 109] : List UInt8) then (if 0 < (x2.length : Int) then ((value_sum.f k ((rd_T28 x2 0).f0) ((rd_T28 x2 0).f1) ((rd_T28 x2 0).f2) ((rd_T28 x2 0).f3) ((rd_T28 x2 0).f4) ((rd_T28 x2 0).f5)).bind fun bt248 => (some (bt248.1, bt248.2.1, bt248.2.2.1, bt248.2.2.2.1, bt248.2.2.2.2.1, bt248.2.2.2.2.2, 0))) else (none)) else (if x32.toList = ([108, 101, 110, 103, 116, 104] : List UInt8) then (if 0 < (x2.length : Int) then ((value_asText.f ((rd_T28 x2 0).f0) ((rd_T28 x2 0).f1) ((rd_T28 x2 0).f2) ((rd_T28 x2 0).f3) ((rd_T28 x2 0).f4) ((rd_T28 x2 0).f5)).bind fun t257 => ((chars_Len.f k t257).bind fun bt258 => ((value_numbered.f bt258.1 true).bind fun bt260 => (some (bt260.1, bt260.2.1, bt260.2.2.1, bt260.2.2.2.1, bt260.2.2.2.2.1, bt260.2.2.2.2.2, 0))))) else (none)) else (if x32.toList = ([99, 111, 110, 116, 97, 105, 110, 115] : List UInt8) then (if 0 < (x2.length : Int) then ((value_asText.f ((rd_T28 x2 0).f0) ((rd_T28 x2 0).f1) ((rd_T28 x2 0).f2) ((rd_T28 x2 0).f3) ((rd_T28 x2 0).f4) ((rd_T28 x2 0).f5)).bind fun t269 => (if 1 < (x2.length : Int) then ((value_asText.f ((rd_T28 x2 1).f0) ((rd_T28 x2 1).f1) ((rd_T28 x2 1).f2) ((rd_T28 x2 1).f3) ((rd_T28 x2 1).f4) ((rd_T28 x2 1).f5)).bind fun t271 => ((strings_Contains.f t269 t271).bind fun t272 => ((value_truth.f t272).bind fun bt273 => (some (bt273.1, bt273.2.1, bt273.2.2.1, bt273.2.2.2.1, bt273.2.2.2.2.1, bt273.2.2.2.2.2, 0))))) else (none))) else (none)) else (if 0 < (x2.length : Int) then ((value_asText.f ((rd_T28 x2 0).f0) ((rd_T28 x2 0).f1) ((rd_T28 x2 0).f2) ((rd_T28 x2 0).f3) ((rd_T28 x2 0).f4) ((rd_T28 x2 0).f5)).bind fun t282 => (if 1 < (x2.length : Int) then ((value_asText.f ((rd_T28 x2 1).f0) ((rd_T28 x2 1).f1) ((rd_T28 x2 1).f2) ((rd_T28 x2 1).f3) ((rd_T28 x2 1).f4) ((rd_T28 x2 1).f5)).bind fun t284 => ((strings_HasPrefix.f t282 t284).bind fun t285 => ((value_truth.f t285).bind fun bt286 => (some (bt286.1, bt286.2.1, bt286.2.2.1, bt286.2.2.2.1, bt286.2.2.2.2.1, bt286.2.2.2.2.2, 0))))) else (none))) else (none))))))))))))
end
def value_call.f (k : Nat) (a0 : ByteArray) (a1_0 : Int) (a1_1 : Int) (a1_2 : ByteArray) (a1_3 : ByteArray) (l1_4 : List (S146)) (l2 : List (S28)) : Option (Int × Bool × Int × Bool × ByteArray × List ByteArray × Int) := (value_takes.f k a0).bind fun t170 => (if t170 = (l2.length : Int) then (value_call.l0 k a0 l2 l2 (l2.length : Int) 0 a1_0 a1_1 a1_2 a1_3 l1_4) else (some (0, false, 0, false, (⟨#[]⟩ : ByteArray), ([] : List ByteArray), 140)))
theorem value_call.mono_l : ∀ k, (∀ y0 y1 y2 y3 y4 y5 y6 y7 y8 y9, LeO (value_call.l0 k y0 y1 y2 y3 y4 y5 y6 y7 y8 y9) (value_call.l0 (k + 1) y0 y1 y2 y3 y4 y5 y6 y7 y8 y9)) ∧ (∀ y0 y1 y2 y3 y4 y5 y6 y7 y8, LeO (value_call.j1 k y0 y1 y2 y3 y4 y5 y6 y7 y8) (value_call.j1 (k + 1) y0 y1 y2 y3 y4 y5 y6 y7 y8))
 | 0 => ⟨fun _ _ _ _ _ _ _ _ _ _ r h => by simp [value_call.l0] at h, fun _ _ _ _ _ _ _ _ _ r h => by simp [value_call.j1] at h⟩
 | k + 1 => by
  obtain ⟨ih0, ih1⟩ := value_call.mono_l k
  refine ⟨?_, ?_⟩
  ·intro y0 y1 y2 y3 y4 y5 y6 y7 y8 y9
   unfold value_call.l0
   repeat' first
   | (with_reducible exact ih0 _ _ _ _ _ _ _ _ _ _)
   | (with_reducible exact ih1 _ _ _ _ _ _ _ _ _)
   | (with_reducible exact chars_Len.mono _ _)
   | (with_reducible exact value_check.mono _ _ _ _ _ _ _)
   | (with_reducible exact value_sum.mono _ _ _ _ _ _ _)
   | (with_reducible exact value_takes.mono _ _)
   | (with_reducible exact LeO.refl _)
   | (with_reducible exact LeO.none _)
   | (with_reducible refine LeO.ite ?_ ?_)
   | (with_reducible refine LeO.bind ?_ (fun _ => ?_))
   | exact ih0 _ _ _ _ _ _ _ _ _ _
   | exact ih1 _ _ _ _ _ _ _ _ _
   | exact chars_Len.mono _ _
   | exact value_check.mono _ _ _ _ _ _ _
   | exact value_sum.mono _ _ _ _ _ _ _
   | exact value_takes.mono _ _
   | exact LeO.none _
   | refine LeO.ite ?_ ?_
   | refine LeO.bind ?_ (fun _ => ?_)
  ·intro y0 y1 y2 y3 y4 y5 y6 y7 y8
   unfold value_call.j1
   repeat' first
   | (with_reducible exact ih0 _ _ _ _ _ _ _ _ _ _)
   | (with_reducible exact ih1 _ _ _ _ _ _ _ _ _)
   | (with_reducible exact chars_Len.mono _ _)
   | (with_reducible exact value_check.mono _ _ _ _ _ _ _)
   | (with_reducible exact value_sum.mono _ _ _ _ _ _ _)
   | (with_reducible exact value_takes.mono _ _)
   | (with_reducible exact LeO.refl _)
   | (with_reducible exact LeO.none _)
   | (with_reducible refine LeO.ite ?_ ?_)
   | (with_reducible refine LeO.bind ?_ (fun _ => ?_))
   | exact ih0 _ _ _ _ _ _ _ _ _ _
   | exact ih1 _ _ _ _ _ _ _ _ _
   | exact chars_Len.mono _ _
   | exact value_check.mono _ _ _ _ _ _ _
   | exact value_sum.mono _ _ _ _ _ _ _
   | exact value_takes.mono _ _
   | exact LeO.none _
   | refine LeO.ite ?_ ?_
   | refine LeO.bind ?_ (fun _ => ?_)
theorem value_call.mono : ∀ a0 a1 a2 a3 a4 a5 a6 k, LeO (value_call.f k a0 a1 a2 a3 a4 a5 a6) (value_call.f (k + 1) a0 a1 a2 a3 a4 a5 a6) := by
 intro a0 a1 a2 a3 a4 a5 a6 k
 obtain ⟨ih0, ih1⟩ := value_call.mono_l k
 unfold value_call.f
 repeat' first
   | (with_reducible exact ih0 _ _ _ _ _ _ _ _ _ _)
   | (with_reducible exact ih1 _ _ _ _ _ _ _ _ _)
   | (with_reducible exact chars_Len.mono _ _)
   | (with_reducible exact value_check.mono _ _ _ _ _ _ _)
   | (with_reducible exact value_sum.mono _ _ _ _ _ _ _)
   | (with_reducible exact value_takes.mono _ _)
   | (with_reducible exact LeO.refl _)
   | (with_reducible exact LeO.none _)
   | (with_reducible refine LeO.ite ?_ ?_)
   | (with_reducible refine LeO.bind ?_ (fun _ => ?_))
   | exact ih0 _ _ _ _ _ _ _ _ _ _
   | exact ih1 _ _ _ _ _ _ _ _ _
   | exact chars_Len.mono _ _
   | exact value_check.mono _ _ _ _ _ _ _
   | exact value_sum.mono _ _ _ _ _ _ _
   | exact value_takes.mono _ _
   | exact LeO.none _
   | refine LeO.ite ?_ ?_
   | refine LeO.bind ?_ (fun _ => ?_)
def value_call.T27 : Bool × List (List Nat × List Nat) := (true, [([], []), ([0], [0]), ([1], [1]), ([2], [2]), ([3], [3]), ([], []), ([5], [5]), ([6], [6]), ([7], [7]), ([8], [8]), ([4, 9], [4, 9]), ([10, 10, 0, 1, 2, 3, 4, 5, 6, 7, 8, 9, 10], [10]), ([11, 0, 1, 2, 3, 4, 5, 6, 7, 8, 9, 10, 11], [])])
def value_call.B27 : List Nat := [0, 1, 3, 7, 15, 0, 32, 96, 224, 480, 1023, 2047, 4095]
theorem value_call.tab27 : rtab .any (opsOf Tryz.f10 27) = value_call.T27 := by kernel_rfl
theorem value_call.bits27 : waitsOk value_call.T27.2 value_call.B27 = true := by kernel_rfl
def value_call.T34 : Bool × List (List Nat × List Nat) := (true, [([], []), ([0], [0]), ([1], [1]), ([2], [2]), ([], []), ([4], [4]), ([5], [5]), ([6, 3], [6]), ([3, 7, 7], [3, 7]), ([8, 8], [8]), ([9, 9, 0, 1, 2, 3, 4, 5, 6, 7, 8, 9], [9]), ([10, 0, 1, 2, 3, 4, 5, 6, 7, 8, 9, 10], [])])
def value_call.B34 : List Nat := [0, 1, 3, 7, 0, 16, 48, 127, 255, 511, 1023, 2047]
theorem value_call.tab34 : rtab .any (opsOf Tryz.f10 34) = value_call.T34 := by kernel_rfl
theorem value_call.bits34 : waitsOk value_call.T34.2 value_call.B34 = true := by kernel_rfl
def value_call.T35 : Bool × List (List Nat × List Nat) := (true, [([], []), ([0], [0]), ([1], [1]), ([2], [2]), ([], []), ([4], [4]), ([5], [5]), ([6, 3], [6]), ([3, 7, 7], [3, 7]), ([8, 8], [8]), ([9, 9, 0, 1, 2, 3, 4, 5, 6, 7, 8, 9], [9]), ([10, 0, 1, 2, 3, 4, 5, 6, 7, 8, 9, 10], [])])
def value_call.B35 : List Nat := [0, 1, 3, 7, 0, 16, 48, 127, 255, 511, 1023, 2047]
theorem value_call.tab35 : rtab .any (opsOf Tryz.f10 35) = value_call.T35 := by kernel_rfl
theorem value_call.bits35 : waitsOk value_call.T35.2 value_call.B35 = true := by kernel_rfl
set_option maxHeartbeats 8000000 in
set_option maxRecDepth 100000 in
theorem value_call.calls (k : Nat) (a0 : ByteArray) (a1_0 : Int) (a1_1 : Int) (a1_2 : ByteArray) (a1_3 : ByteArray) (A1_4 : Option Addr) (c1_4 : Nat) (l1_4 : List (S146)) (A2 : Option Addr) (c2 : Nat) (l2 : List (S28)) (r1 : Int) (r2 : Bool) (r3 : Int) (r4 : Bool) (r5 : ByteArray) (r6 : List ByteArray) (r7 : Int) (w : World) (hr1_4 : Kd.C k146 w A1_4 l1_4.length l1_4) (hc1_4 : l1_4.length ≤ c1_4) (hr2 : Kd.C k28 w A2 l2.length l2) (hc2 : l2.length ≤ c2) (h : value_call.f k a0 a1_0 a1_1 a1_2 a1_3 l1_4 l2 = some (r1, r2, r3, r4, r5, r6, r7)) (hG : Glob w := by first | exact Glob.step HG.out (by repeat (first | (with_reducible first | exact HB.out | apply below_alloc | apply pw_below_drewN | apply below_drew1) | exact HB.out | (refine below_set ?_ (Aside0.out (by assumption))))) | exact HG.out | assumption) (hG3 : Glob3 w := by first | exact Glob3.step HG3.out (by repeat (first | (with_reducible first | exact HB.out | apply below_alloc | apply pw_below_drewN | apply below_drew1) | exact HB.out | (refine below_set ?_ (Aside0.out (by assumption))))) | exact HG3.out | assumption) :
  Calls Tryz.prog 10 #[.string a0, .agg #[.int .i64 a1_0, .int .i64 a1_1, .string a1_2, .string a1_3, .slice A1_4 l1_4.length c1_4], .slice A2 l2.length c2] w fun e w' => ∃ v5_ : Value, e = .returned (.tuple #[.agg #[.int .i64 r1, .bool r2, .int .i64 r3, .bool r4, .string r5, v5_], .int .i64 r7]) ∧ Kd.R Kd.string 9 w' w.heap.size (fun _ => True) v5_ r6 ∧ Below w.heap.size w w' := by
 have HG := Aside0.mk hG
 clear hG
 have HG3 := Aside0.mk hG3
 clear hG3
 have hu24 := Tryz.underlying24
 have hu28 := Tryz.underlying28
 have HR1_4 := Aside0.mk hr1_4
 have HC1_4 := Aside0.mk hc1_4
 clear hr1_4 hc1_4
 have HR2 := Aside0.mk hr2
 have HC2 := Aside0.mk hc2
 clear hr2 hc2
 have HB := Aside0.mk (Below.refl w.heap.size w)
 have H : ((value_takes.f k a0).bind fun t170 => (if t170 = (l2.length : Int) then (value_call.l0 k a0 l2 l2 (l2.length : Int) 0 a1_0 a1_1 a1_2 a1_3 l1_4) else (some (0, false, 0, false, (⟨#[]⟩ : ByteArray), ([] : List ByteArray), 140)))) = some (r1, r2, r3, r4, r5, r6, r7) := h
 clear h
 replace H := Option.bind_eq_some_iff.mp H
 obtain ⟨t170, A40, H⟩ := H
 replace H : (if t170 = (l2.length : Int) then (value_call.l0 k a0 l2 l2 (l2.length : Int) 0 a1_0 a1_1 a1_2 a1_3 l1_4) else (some (0, false, 0, false, (⟨#[]⟩ : ByteArray), ([] : List ByteArray), 140))) = some (r1, r2, r3, r4, r5, r6, r7) := H
 have A4 := Aside0.mk A40
 clear A40
 by_cases c5 : t170 = (l2.length : Int)
 ·rw [if_pos c5] at H
  have c5b0 := beq_iff_eq.mpr c5
  have c5b1 := bne_eq_false_iff_eq.mpr c5
  clear c5
  have H' := Aside0.mk H
  clear H
  go_enter Tryz.func10, Tryz.ntmps10
  go_wp2_with (first | ((with_reducible refine gate_dst (N := 4) rfl ?_); refine box_event ?hg (N := 4) ?hd (cs := #[.int .i64 a1_0, .int .i64 a1_1, .string a1_2, .string a1_3, .slice A1_4 l1_4.length c1_4]) (t := 24) ?hr ?_; (case hd => rfl); (case hg => rfl); (case hr => first | (go_simp; done) | (go_simp; rfl)); intro gb168 hg w6 hbox hb; have n0_ := Aside0.mk (below_step hb_ hb); have n1_ := Aside0.mk (hbox); have n2_ := Aside0.mk ((by rw [hg]; exact (below_size hb_) : w.heap.size ≤ gb168)); have n3_ := Aside0.mk ((by rw [hg]; exact (below_size hb_) : w.heap.size ≤ gb168)); clear HB; have HB := n0_; have BK168 := n1_; have GW168 := n2_; have GE168 := n3_; clear n0_ n1_ n2_ n3_; clear hb hbox hg) | ((with_reducible refine gate_dst (N := 6) rfl ?_); refine box_event ?hg (N := 6) ?hd (cs := #[.int .i64 0, .bool false, .int .i64 0, .bool false, .string (⟨#[]⟩ : ByteArray), .slice none 0 0]) (t := 28) ?hr ?_; (case hd => rfl); (case hg => rfl); (case hr => first | (go_simp; done) | (go_simp; rfl)); intro gb169 hg w7 hbox hb; have n0_ := Aside0.mk (blk_below (g := gb168) (o := .cells #[.int .i64 a1_0, .int .i64 a1_1, .string a1_2, .string a1_3, .slice A1_4 l1_4.length c1_4] 24 (0, 0)) (bk_ BK168.out) hb); have n1_ := Aside0.mk (below_step (hb1_ GE168.out) hb); have n2_ := Aside0.mk (hbox); have n3_ := Aside0.mk ((by rw [hg]; exact (below_size (hb1_ GE168.out)) : w.heap.size ≤ gb169)); have n4_ := Aside0.mk ((by rw [hg]; exact (below_size (hb1_ GE168.out)) : w.heap.size ≤ gb169)); have n5_ := Aside0.mk ((by rw [hg]; exact Nat.ne_of_lt (blk_lt (g := gb168) (o := .cells #[.int .i64 a1_0, .int .i64 a1_1, .string a1_2, .string a1_3, .slice A1_4 l1_4.length c1_4] 24 (0, 0)) (bk_ BK168.out)) : gb168 ≠ gb169)); have n6_ := Aside0.mk ((by rw [hg]; exact Nat.ne_of_gt (blk_lt (g := gb168) (o := .cells #[.int .i64 a1_0, .int .i64 a1_1, .string a1_2, .string a1_3, .slice A1_4 l1_4.length c1_4] 24 (0, 0)) (bk_ BK168.out)) : gb169 ≠ gb168)); clear BK168; clear HB; have BK168 := n0_; have HB := n1_; have BK169 := n2_; have GW169 := n3_; have GE169 := n4_; have NB168_169 := n5_; have NB169_168 := n6_; clear n0_ n1_ n2_ n3_ n4_ n5_ n6_; clear hb hbox hg) | ((with_reducible refine gate_callee (f := 21) rfl ?_); refine goesL_ (some 14) rfl rfl Tryz.func21 (by kernel_rfl) rfl #[.string a0] rfl rf_ ?_; (with_reducible refine (value_takes.calls k a0 t170 _ A4.out).mono ?_); rintro e w' ⟨rfl, ⟨nd, rfl⟩⟩; refine ⟨_, rfl, ?_⟩))
  go_loopg [21] k (fun kq v21 w' => ∃ (x21_1 : Int) (x170000_1 : Int) (x170001_1 : Bool) (x170002_1 : Int) (x170003_1 : Bool) (x170004_1 : ByteArray), v21 = .int .i64 x21_1 ∧ Aside0 (value_call.l0 kq a0 l2 l2 (l2.length : Int) x21_1 a1_0 a1_1 a1_2 a1_3 l1_4 = some (r1, r2, r3, r4, r5, r6, r7)) ∧ Aside0 (kq ≤ k) ∧ Aside0 (w'.heap[gb168]? = some (.cells #[.int .i64 a1_0, .int .i64 a1_1, .string a1_2, .string a1_3, (.slice A1_4 l1_4.length c1_4)] 24 (0, 0))) ∧ Aside0 (w'.heap[gb169]? = some (.cells #[.int .i64 x170000_1, .bool x170001_1, .int .i64 x170002_1, .bool x170003_1, .string x170004_1, (.slice none 0 0)] 28 (0, 0))) ∧ Aside0 (Below w.heap.size w w'))
  case atStart => exact ⟨(0), (0), (false), (0), (false), ((⟨#[]⟩ : ByteArray)), (by first | rfl | (simp; done) | (simp [*]; done)), H', ⟨Nat.le_refl _⟩, ⟨bk_ BK168.out⟩, ⟨bk_ BK169.out⟩, ⟨hb2_ GE168.out GE169.out⟩⟩
  case round =>
   clear H'
   try clear c1
   try clear c2
   try clear p2
   try clear c5
   try clear c5b0
   try clear c5b1
   obtain ⟨x21_1, x170000_1, x170001_1, x170002_1, x170003_1, x170004_1, rfl, HA, HK1, BK168, BK169, HB⟩ := hrel
   cases gk with
   | zero => exact absurd HA.out (by simp [value_call.l0])
   | succ k1 =>
    have H := HA.out
    clear HA
    simp only [value_call.l0] at H
    by_cases c8 : x21_1 < (l2.length : Int)
    ·rw [if_pos c8] at H
     have c8b0 : decide (x21_1 < (l2.length : Int)) = true := decide_eq_true c8
     clear c8
     by_cases c9 : 0 ≤ x21_1
     ·rw [if_pos c9] at H
      have c9b0 : decide (0 ≤ x21_1) = true := decide_eq_true c9
      clear c9
      by_cases c10 : x21_1 < (l2.length : Int)
      ·rw [if_pos c10] at H
       have c10b0 : decide (x21_1 < (l2.length : Int)) = true := decide_eq_true c10
       clear c10
       replace H := Option.bind_eq_some_iff.mp H
       obtain ⟨t173, A110, H⟩ := H
       replace H : (if t173 = 0 then (value_call.l0 k1 a0 l2 l2 (l2.length : Int) (wrap64 (x21_1 + 1)) a1_0 a1_1 a1_2 a1_3 l1_4) else (some (0, false, 0, false, (⟨#[]⟩ : ByteArray), ([] : List ByteArray), t173))) = some (r1, r2, r3, r4, r5, r6, r7) := H
       have A11 := Aside0.mk A110
       clear A110
       by_cases c12 : t173 = 0
       ·rw [if_pos c12] at H
        have c12b0 := beq_iff_eq.mpr c12
        have c12b1 := bne_eq_false_iff_eq.mpr c12
        clear c12
        have H' := Aside0.mk H
        clear H
        have p171 : 0 ≤ (x21_1 : Int) := of_decide_eq_true (by first | (with_reducible assumption) | assumption)
        have q171 : x21_1 < (l2.length : Int) := of_decide_eq_true (by first | (with_reducible assumption) | assumption)
        obtain ⟨ad171, A171_5, c171_5, e171, hx171_0, hx171_1, hx171_2, hx171_3, hx171_4, hx171_5, hl171_5, hi171_5⟩ := at_T28 HR2.out x21_1 p171 q171
        cases e171
        replace hx171_0 := hc_ HB.out hx171_0
        replace hx171_1 := hc_ HB.out hx171_1
        replace hx171_2 := hc_ HB.out hx171_2
        replace hx171_3 := hc_ HB.out hx171_3
        replace hx171_4 := hc_ HB.out hx171_4
        replace hx171_5 := hc_ HB.out hx171_5
        have HR171_5 := Aside0.mk hi171_5
        have HC171_5 := Aside0.mk hl171_5
        clear hi171_5 hl171_5
        replace p171 := eq_true p171
        replace q171 := eq_true q171
        go_wp2_with (first | ((with_reducible refine gate_dst (N := 9) rfl ?_); refine box_event ?hg (N := 9) ?hd (cs := #[.int .i64 0, .bool false, .int .i64 0, .bool false, .string (⟨#[]⟩ : ByteArray), .slice none 0 0]) (t := 28) ?hr ?_; (case hd => rfl); (case hg => rfl); (case hr => first | (go_simp; done) | (go_simp; rfl)); intro gb172 hg w13 hbox hb; have n0_ := Aside0.mk (blk_below (g := gb168) (o := .cells #[.int .i64 a1_0, .int .i64 a1_1, .string a1_2, .string a1_3, .slice A1_4 l1_4.length c1_4] 24 (0, 0)) (bk_ BK168.out) hb); have n1_ := Aside0.mk (blk_below (g := gb169) (o := .cells #[.int .i64 x170000_1, .bool x170001_1, .int .i64 x170002_1, .bool x170003_1, .string x170004_1, .slice none 0 0] 28 (0, 0)) (bk_ BK169.out) hb); have n2_ := Aside0.mk (below_step (hb2_ GE168.out GE169.out) hb); have n3_ := Aside0.mk (hbox); have n4_ := Aside0.mk ((by rw [hg]; exact (below_size (hb2_ GE168.out GE169.out)) : w.heap.size ≤ gb172)); have n5_ := Aside0.mk ((by rw [hg]; exact (below_size (hb2_ GE168.out GE169.out)) : w.heap.size ≤ gb172)); have n6_ := Aside0.mk ((by rw [hg]; exact Nat.ne_of_lt (blk_lt (g := gb168) (o := .cells #[.int .i64 a1_0, .int .i64 a1_1, .string a1_2, .string a1_3, .slice A1_4 l1_4.length c1_4] 24 (0, 0)) (bk_ BK168.out)) : gb168 ≠ gb172)); have n7_ := Aside0.mk ((by rw [hg]; exact Nat.ne_of_gt (blk_lt (g := gb168) (o := .cells #[.int .i64 a1_0, .int .i64 a1_1, .string a1_2, .string a1_3, .slice A1_4 l1_4.length c1_4] 24 (0, 0)) (bk_ BK168.out)) : gb172 ≠ gb168)); have n8_ := Aside0.mk ((by rw [hg]; exact Nat.ne_of_lt (blk_lt (g := gb169) (o := .cells #[.int .i64 x170000_1, .bool x170001_1, .int .i64 x170002_1, .bool x170003_1, .string x170004_1, .slice none 0 0] 28 (0, 0)) (bk_ BK169.out)) : gb169 ≠ gb172)); have n9_ := Aside0.mk ((by rw [hg]; exact Nat.ne_of_gt (blk_lt (g := gb169) (o := .cells #[.int .i64 x170000_1, .bool x170001_1, .int .i64 x170002_1, .bool x170003_1, .string x170004_1, .slice none 0 0] 28 (0, 0)) (bk_ BK169.out)) : gb172 ≠ gb169)); clear BK168; clear BK169; clear HB; have BK168 := n0_; have BK169 := n1_; have HB := n2_; have BK172 := n3_; have GW172 := n4_; have GE172 := n5_; have NB168_172 := n6_; have NB172_168 := n7_; have NB169_172 := n8_; have NB172_169 := n9_; clear n0_ n1_ n2_ n3_ n4_ n5_ n6_ n7_ n8_ n9_; clear hb hbox hg; have hnb14 := NB172_168.out; have hnc14 := NB168_172.out; have hnb15 := NB172_169.out; have hnc15 := NB169_172.out; obtain ⟨hcz16_0, hcz16_1, hcz16_2, hcz16_3, hcz16_4, hcz16_5⟩ := ce6_ BK172.out; obtain ⟨hfz16_0, hfz16_1, hfz16_2, hfz16_3, hfz16_4, hfz16_5⟩ := fr6_ BK172.out) | ((with_reducible refine gate_callee (f := 22) rfl ?_); refine goesL_ (some 26) rfl rfl Tryz.func22 (by kernel_rfl) rfl #[.agg #[.int .i64 ((rd_T28 l2 x21_1).f0), .bool ((rd_T28 l2 x21_1).f1), .int .i64 ((rd_T28 l2 x21_1).f2), .bool ((rd_T28 l2 x21_1).f3), .string ((rd_T28 l2 x21_1).f4), .slice A171_5 ((rd_T28 l2 x21_1).f5).length c171_5]] rfl rf_ ?_; (with_reducible refine (value_check.calls k1 ((rd_T28 l2 x21_1).f0) ((rd_T28 l2 x21_1).f1) ((rd_T28 l2 x21_1).f2) ((rd_T28 l2 x21_1).f3) ((rd_T28 l2 x21_1).f4) _ _ ((rd_T28 l2 x21_1).f5) t173 _ ?side1 ?side2 A11.out).mono ?_); (case side1 => exact Kd.C_below HR171_5.out (by repeat (first | (with_reducible first | exact HB.out | apply below_alloc | apply pw_below_drewN | apply below_drew1 | refine below_set ?_ GE168.out | refine below_set ?_ GE169.out | refine below_set ?_ GE172.out) | exact HB.out))); (case side2 => exact HC171_5.out); rintro e w17 ⟨rfl, hb⟩; refine ⟨_, rfl, ?_⟩; have n0_ := Aside0.mk (blk_below (g := gb168) (o := .cells #[.int .i64 a1_0, .int .i64 a1_1, .string a1_2, .string a1_3, .slice A1_4 l1_4.length c1_4] 24 (0, 0)) (by (with_reducible repeat (first | refine blk_drewN ?_ _ | refine blk_drew ?_ | refine blk_alloc ?_ _)); refine blk_far ?_ NB168_172.out _; (with_reducible repeat (first | refine blk_drewN ?_ _ | refine blk_drew ?_ | refine blk_alloc ?_ _)); refine blk_far ?_ NB168_172.out _; (with_reducible repeat (first | refine blk_drewN ?_ _ | refine blk_drew ?_ | refine blk_alloc ?_ _)); refine blk_far ?_ NB168_172.out _; (with_reducible repeat (first | refine blk_drewN ?_ _ | refine blk_drew ?_ | refine blk_alloc ?_ _)); refine blk_far ?_ NB168_172.out _; (with_reducible repeat (first | refine blk_drewN ?_ _ | refine blk_drew ?_ | refine blk_alloc ?_ _)); refine blk_far ?_ NB168_172.out _; (with_reducible repeat (first | refine blk_drewN ?_ _ | refine blk_drew ?_ | refine blk_alloc ?_ _)); refine blk_far ?_ NB168_172.out _; (with_reducible repeat (first | refine blk_drewN ?_ _ | refine blk_drew ?_ | refine blk_alloc ?_ _)); exact BK168.out) hb); have n1_ := Aside0.mk (blk_below (g := gb169) (o := .cells #[.int .i64 x170000_1, .bool x170001_1, .int .i64 x170002_1, .bool x170003_1, .string x170004_1, .slice none 0 0] 28 (0, 0)) (by (with_reducible repeat (first | refine blk_drewN ?_ _ | refine blk_drew ?_ | refine blk_alloc ?_ _)); refine blk_far ?_ NB169_172.out _; (with_reducible repeat (first | refine blk_drewN ?_ _ | refine blk_drew ?_ | refine blk_alloc ?_ _)); refine blk_far ?_ NB169_172.out _; (with_reducible repeat (first | refine blk_drewN ?_ _ | refine blk_drew ?_ | refine blk_alloc ?_ _)); refine blk_far ?_ NB169_172.out _; (with_reducible repeat (first | refine blk_drewN ?_ _ | refine blk_drew ?_ | refine blk_alloc ?_ _)); refine blk_far ?_ NB169_172.out _; (with_reducible repeat (first | refine blk_drewN ?_ _ | refine blk_drew ?_ | refine blk_alloc ?_ _)); refine blk_far ?_ NB169_172.out _; (with_reducible repeat (first | refine blk_drewN ?_ _ | refine blk_drew ?_ | refine blk_alloc ?_ _)); refine blk_far ?_ NB169_172.out _; (with_reducible repeat (first | refine blk_drewN ?_ _ | refine blk_drew ?_ | refine blk_alloc ?_ _)); exact BK169.out) hb); have n2_ := Aside0.mk (blk_below (g := gb172) (o := .cells #[.int .i64 ((rd_T28 l2 x21_1).f0), .bool ((rd_T28 l2 x21_1).f1), .int .i64 ((rd_T28 l2 x21_1).f2), .bool ((rd_T28 l2 x21_1).f3), .string ((rd_T28 l2 x21_1).f4), .slice A171_5 ((rd_T28 l2 x21_1).f5).length c171_5] 28 (0, 0)) (bp_ BK172.out) hb); have n3_ := Aside0.mk (below_step (by repeat (first | (with_reducible first | exact HB.out | apply below_alloc | apply pw_below_drewN | apply below_drew1 | refine below_set ?_ GE168.out | refine below_set ?_ GE169.out | refine below_set ?_ GE172.out) | exact HB.out)) hb); clear BK168; clear BK169; clear BK172; clear HB; have BK168 := n0_; have BK169 := n1_; have BK172 := n2_; have HB := n3_; clear n0_ n1_ n2_ n3_; (try clear hb); (try clear hb2); (try clear hk); (try clear hi)))
        go_roundg k1
        case measure => have := HK1.out; omega
        case rel => exact ⟨(wrap64 (x21_1 + 1)), (x170000_1), (x170001_1), (x170002_1), (x170003_1), (x170004_1), (by first | rfl | (simp; done) | (simp [*]; done)), H', ⟨by have := HK1.out; omega⟩, ⟨bk_ BK168.out⟩, ⟨bk_ BK169.out⟩, ⟨by repeat (first | (with_reducible first | exact HB.out | apply below_alloc | apply pw_below_drewN | apply below_drew1 | refine below_set ?_ GE168.out | refine below_set ?_ GE169.out | refine below_set ?_ GE172.out) | exact HB.out)⟩⟩
       ·rw [if_neg c12] at H
        have c12b0 := beq_eq_false_iff_ne.mpr c12
        have c12b1 := bne_iff_ne.mpr c12
        simp only [Option.some.injEq, Prod.mk.injEq] at H
        obtain ⟨rfl, rfl, rfl, rfl, rfl, rfl, rfl⟩ := H
        have p171 : 0 ≤ (x21_1 : Int) := of_decide_eq_true (by first | (with_reducible assumption) | assumption)
        have q171 : x21_1 < (l2.length : Int) := of_decide_eq_true (by first | (with_reducible assumption) | assumption)
        obtain ⟨ad171, A171_5, c171_5, e171, hx171_0, hx171_1, hx171_2, hx171_3, hx171_4, hx171_5, hl171_5, hi171_5⟩ := at_T28 HR2.out x21_1 p171 q171
        cases e171
        replace hx171_0 := hc_ HB.out hx171_0
        replace hx171_1 := hc_ HB.out hx171_1
        replace hx171_2 := hc_ HB.out hx171_2
        replace hx171_3 := hc_ HB.out hx171_3
        replace hx171_4 := hc_ HB.out hx171_4
        replace hx171_5 := hc_ HB.out hx171_5
        have HR171_5 := Aside0.mk hi171_5
        have HC171_5 := Aside0.mk hl171_5
        clear hi171_5 hl171_5
        replace p171 := eq_true p171
        replace q171 := eq_true q171
        go_wp2_with (first | ((with_reducible refine gate_dst (N := 9) rfl ?_); refine box_event ?hg (N := 9) ?hd (cs := #[.int .i64 0, .bool false, .int .i64 0, .bool false, .string (⟨#[]⟩ : ByteArray), .slice none 0 0]) (t := 28) ?hr ?_; (case hd => rfl); (case hg => rfl); (case hr => first | (go_simp; done) | (go_simp; rfl)); intro gb172 hg w18 hbox hb; have n0_ := Aside0.mk (blk_below (g := gb168) (o := .cells #[.int .i64 a1_0, .int .i64 a1_1, .string a1_2, .string a1_3, .slice A1_4 l1_4.length c1_4] 24 (0, 0)) (bk_ BK168.out) hb); have n1_ := Aside0.mk (blk_below (g := gb169) (o := .cells #[.int .i64 x170000_1, .bool x170001_1, .int .i64 x170002_1, .bool x170003_1, .string x170004_1, .slice none 0 0] 28 (0, 0)) (bk_ BK169.out) hb); have n2_ := Aside0.mk (below_step (hb2_ GE168.out GE169.out) hb); have n3_ := Aside0.mk (hbox); have n4_ := Aside0.mk ((by rw [hg]; exact (below_size (hb2_ GE168.out GE169.out)) : w.heap.size ≤ gb172)); have n5_ := Aside0.mk ((by rw [hg]; exact (below_size (hb2_ GE168.out GE169.out)) : w.heap.size ≤ gb172)); have n6_ := Aside0.mk ((by rw [hg]; exact Nat.ne_of_lt (blk_lt (g := gb168) (o := .cells #[.int .i64 a1_0, .int .i64 a1_1, .string a1_2, .string a1_3, .slice A1_4 l1_4.length c1_4] 24 (0, 0)) (bk_ BK168.out)) : gb168 ≠ gb172)); have n7_ := Aside0.mk ((by rw [hg]; exact Nat.ne_of_gt (blk_lt (g := gb168) (o := .cells #[.int .i64 a1_0, .int .i64 a1_1, .string a1_2, .string a1_3, .slice A1_4 l1_4.length c1_4] 24 (0, 0)) (bk_ BK168.out)) : gb172 ≠ gb168)); have n8_ := Aside0.mk ((by rw [hg]; exact Nat.ne_of_lt (blk_lt (g := gb169) (o := .cells #[.int .i64 x170000_1, .bool x170001_1, .int .i64 x170002_1, .bool x170003_1, .string x170004_1, .slice none 0 0] 28 (0, 0)) (bk_ BK169.out)) : gb169 ≠ gb172)); have n9_ := Aside0.mk ((by rw [hg]; exact Nat.ne_of_gt (blk_lt (g := gb169) (o := .cells #[.int .i64 x170000_1, .bool x170001_1, .int .i64 x170002_1, .bool x170003_1, .string x170004_1, .slice none 0 0] 28 (0, 0)) (bk_ BK169.out)) : gb172 ≠ gb169)); clear BK168; clear BK169; clear HB; have BK168 := n0_; have BK169 := n1_; have HB := n2_; have BK172 := n3_; have GW172 := n4_; have GE172 := n5_; have NB168_172 := n6_; have NB172_168 := n7_; have NB169_172 := n8_; have NB172_169 := n9_; clear n0_ n1_ n2_ n3_ n4_ n5_ n6_ n7_ n8_ n9_; clear hb hbox hg; have hnb19 := NB172_168.out; have hnc19 := NB168_172.out; have hnb20 := NB172_169.out; have hnc20 := NB169_172.out; obtain ⟨hcz21_0, hcz21_1, hcz21_2, hcz21_3, hcz21_4, hcz21_5⟩ := ce6_ BK172.out; obtain ⟨hfz21_0, hfz21_1, hfz21_2, hfz21_3, hfz21_4, hfz21_5⟩ := fr6_ BK172.out) | ((with_reducible refine gate_callee (f := 22) rfl ?_); refine goesL_ (some 26) rfl rfl Tryz.func22 (by kernel_rfl) rfl #[.agg #[.int .i64 ((rd_T28 l2 x21_1).f0), .bool ((rd_T28 l2 x21_1).f1), .int .i64 ((rd_T28 l2 x21_1).f2), .bool ((rd_T28 l2 x21_1).f3), .string ((rd_T28 l2 x21_1).f4), .slice A171_5 ((rd_T28 l2 x21_1).f5).length c171_5]] rfl rf_ ?_; (with_reducible refine (value_check.calls k1 ((rd_T28 l2 x21_1).f0) ((rd_T28 l2 x21_1).f1) ((rd_T28 l2 x21_1).f2) ((rd_T28 l2 x21_1).f3) ((rd_T28 l2 x21_1).f4) _ _ ((rd_T28 l2 x21_1).f5) t173 _ ?side1 ?side2 A11.out).mono ?_); (case side1 => exact Kd.C_below HR171_5.out (by repeat (first | (with_reducible first | exact HB.out | apply below_alloc | apply pw_below_drewN | apply below_drew1 | refine below_set ?_ GE168.out | refine below_set ?_ GE169.out | refine below_set ?_ GE172.out) | exact HB.out))); (case side2 => exact HC171_5.out); rintro e w22 ⟨rfl, hb⟩; refine ⟨_, rfl, ?_⟩; have n0_ := Aside0.mk (blk_below (g := gb168) (o := .cells #[.int .i64 a1_0, .int .i64 a1_1, .string a1_2, .string a1_3, .slice A1_4 l1_4.length c1_4] 24 (0, 0)) (by (with_reducible repeat (first | refine blk_drewN ?_ _ | refine blk_drew ?_ | refine blk_alloc ?_ _)); refine blk_far ?_ NB168_172.out _; (with_reducible repeat (first | refine blk_drewN ?_ _ | refine blk_drew ?_ | refine blk_alloc ?_ _)); refine blk_far ?_ NB168_172.out _; (with_reducible repeat (first | refine blk_drewN ?_ _ | refine blk_drew ?_ | refine blk_alloc ?_ _)); refine blk_far ?_ NB168_172.out _; (with_reducible repeat (first | refine blk_drewN ?_ _ | refine blk_drew ?_ | refine blk_alloc ?_ _)); refine blk_far ?_ NB168_172.out _; (with_reducible repeat (first | refine blk_drewN ?_ _ | refine blk_drew ?_ | refine blk_alloc ?_ _)); refine blk_far ?_ NB168_172.out _; (with_reducible repeat (first | refine blk_drewN ?_ _ | refine blk_drew ?_ | refine blk_alloc ?_ _)); refine blk_far ?_ NB168_172.out _; (with_reducible repeat (first | refine blk_drewN ?_ _ | refine blk_drew ?_ | refine blk_alloc ?_ _)); exact BK168.out) hb); have n1_ := Aside0.mk (blk_below (g := gb169) (o := .cells #[.int .i64 x170000_1, .bool x170001_1, .int .i64 x170002_1, .bool x170003_1, .string x170004_1, .slice none 0 0] 28 (0, 0)) (by (with_reducible repeat (first | refine blk_drewN ?_ _ | refine blk_drew ?_ | refine blk_alloc ?_ _)); refine blk_far ?_ NB169_172.out _; (with_reducible repeat (first | refine blk_drewN ?_ _ | refine blk_drew ?_ | refine blk_alloc ?_ _)); refine blk_far ?_ NB169_172.out _; (with_reducible repeat (first | refine blk_drewN ?_ _ | refine blk_drew ?_ | refine blk_alloc ?_ _)); refine blk_far ?_ NB169_172.out _; (with_reducible repeat (first | refine blk_drewN ?_ _ | refine blk_drew ?_ | refine blk_alloc ?_ _)); refine blk_far ?_ NB169_172.out _; (with_reducible repeat (first | refine blk_drewN ?_ _ | refine blk_drew ?_ | refine blk_alloc ?_ _)); refine blk_far ?_ NB169_172.out _; (with_reducible repeat (first | refine blk_drewN ?_ _ | refine blk_drew ?_ | refine blk_alloc ?_ _)); refine blk_far ?_ NB169_172.out _; (with_reducible repeat (first | refine blk_drewN ?_ _ | refine blk_drew ?_ | refine blk_alloc ?_ _)); exact BK169.out) hb); have n2_ := Aside0.mk (blk_below (g := gb172) (o := .cells #[.int .i64 ((rd_T28 l2 x21_1).f0), .bool ((rd_T28 l2 x21_1).f1), .int .i64 ((rd_T28 l2 x21_1).f2), .bool ((rd_T28 l2 x21_1).f3), .string ((rd_T28 l2 x21_1).f4), .slice A171_5 ((rd_T28 l2 x21_1).f5).length c171_5] 28 (0, 0)) (bp_ BK172.out) hb); have n3_ := Aside0.mk (below_step (by repeat (first | (with_reducible first | exact HB.out | apply below_alloc | apply pw_below_drewN | apply below_drew1 | refine below_set ?_ GE168.out | refine below_set ?_ GE169.out | refine below_set ?_ GE172.out) | exact HB.out)) hb); clear BK168; clear BK169; clear BK172; clear HB; have BK168 := n0_; have BK169 := n1_; have BK172 := n2_; have HB := n3_; clear n0_ n1_ n2_ n3_; (try clear hb); (try clear hb2); (try clear hk); (try clear hi); have hnb23 := NB169_168.out; have hnc23 := NB168_169.out; obtain ⟨hcz24_0, hcz24_1, hcz24_2, hcz24_3, hcz24_4, hcz24_5⟩ := ce6_ BK169.out; obtain ⟨hfz24_0, hfz24_1, hfz24_2, hfz24_3, hfz24_4, hfz24_5⟩ := fr6_ BK169.out))
        refine bodyPost_ret (results_ct rfl _ _ gb169 28 #[.int .i64 0, .bool false, .int .i64 0, .bool false, .string (⟨#[]⟩ : ByteArray), .slice none 0 0] (0, 0) _ rfl (bp_ BK169.out) Tryz.underlying28 rfl (by kernel_rfl)) rfl ?_
        exact ⟨_, er_, by first | exact Kd.R_nil _ _ _ _ _ | exact Kd.N_nil _ _ _ _ _ | exact Kd.V_nil _ _ _ _ _ | exact Kd.Q_nil _ _ _ _ _ | exact Kd.S_nil _ _ _ _ _, by repeat (first | (with_reducible first | exact HB.out | apply below_alloc | apply pw_below_drewN | apply below_drew1 | refine below_set ?_ GE168.out | refine below_set ?_ GE169.out | refine below_set ?_ GE172.out) | exact HB.out)⟩
      ·rw [if_neg c10] at H
       exact absurd H (by simp)
     ·rw [if_neg c9] at H
      exact absurd H (by simp)
    ·rw [if_neg c8] at H
     have c8b0 : decide (x21_1 < (l2.length : Int)) = false := decide_eq_false c8
     clear c8
     have HC25 := Aside0.mk H
     clear H
     go_upto_if 33 with (fail)
     go_cut [33] (fun v33 wc => ∃ (kq : Nat) (x33_24 : Bool), v33 = .bool x33_24 ∧ Aside0 (value_call.j1 kq a0 l2 a0 x33_24 a1_0 a1_1 a1_2 a1_3 l1_4 = some (r1, r2, r3, r4, r5, r6, r7)) ∧ Aside0 (kq ≤ k1) ∧ Aside0 (wc.heap[gb168]? = some (.cells #[.int .i64 a1_0, .int .i64 a1_1, .string a1_2, .string a1_3, (.slice A1_4 l1_4.length c1_4)] 24 (0, 0))) ∧ Aside0 (wc.heap[gb169]? = some (.cells #[.int .i64 x170000_1, .bool x170001_1, .int .i64 x170002_1, .bool x170003_1, .string x170004_1, (.slice none 0 0)] 28 (0, 0))) ∧ Aside0 (Below w.heap.size w wc))
     case first =>
      have H := HC25.out
      clear HC25
      by_cases c26 : a0.toList = ([116, 114, 117, 101] : List UInt8)
      ·rw [if_pos c26] at H
       have c26b0 := beq_iff_eq.mpr c26
       have c26b1 := bne_eq_false_iff_eq.mpr c26
       clear c26
       (first | rw [c26b0] | (simp only [i64_w, i32_w]; rw [c26b0]) | skip)
       have H' := Aside0.mk H
       clear H
       go_wp2
       go_meet
       case rel => exact ⟨_, ((a0.toList == ([116, 114, 117, 101] : List UInt8))), (by first | rfl | (simp; done) | (simp [*]; done)), H', ⟨by have := HK1.out; first | omega | exact Nat.le_refl _⟩, ⟨bk_ BK168.out⟩, ⟨bk_ BK169.out⟩, ⟨hb2_ GE168.out GE169.out⟩⟩
      ·rw [if_neg c26] at H
       have c26b0 := beq_eq_false_iff_ne.mpr c26
       have c26b1 := bne_iff_ne.mpr c26
       (first | rw [c26b0] | (simp only [i64_w, i32_w]; rw [c26b0]) | skip)
       have H' := Aside0.mk H
       clear H
       go_wp2
       go_meet
       case rel => exact ⟨_, ((a0.toList == ([102, 97, 108, 115, 101] : List UInt8))), (by first | rfl | (simp; done) | (simp [*]; done)), H', ⟨by have := HK1.out; first | omega | exact Nat.le_refl _⟩, ⟨bk_ BK168.out⟩, ⟨bk_ BK169.out⟩, ⟨hb2_ GE168.out GE169.out⟩⟩
     case rest =>
      clear HC25
      try clear c1
      try clear p1
      try clear q1
      try clear hx1
      try clear c2
      try clear p2
      try clear c5
      try clear c5b0
      try clear c5b1
      try clear p6
      try clear c8
      try clear c8b0
      try clear c9
      try clear c9b0
      try clear c10
      try clear c10b0
      try clear c12
      try clear c12b0
      try clear c12b1
      try clear c14
      try clear c15
      try clear c17
      try clear p17
      try clear q17
      try clear hx17
      try clear c19
      try clear c20
      try clear c21
      try clear c22
      try clear c23
      try clear c26
      try clear c26b0
      try clear c26b1
      try clear hcz16_0
      try clear hcz16_1
      try clear hcz16_2
      try clear hcz16_3
      try clear hcz16_4
      try clear hcz16_5
      try clear hcz21_0
      try clear hcz21_1
      try clear hcz21_2
      try clear hcz21_3
      try clear hcz21_4
      try clear hcz21_5
      try clear hcz24_0
      try clear hcz24_1
      try clear hcz24_2
      try clear hcz24_3
      try clear hcz24_4
      try clear hcz24_5
      try clear hfz16_0
      try clear hfz16_1
      try clear hfz16_2
      try clear hfz16_3
      try clear hfz16_4
      try clear hfz16_5
      try clear hfz21_0
      try clear hfz21_1
      try clear hfz21_2
      try clear hfz21_3
      try clear hfz21_4
      try clear hfz21_5
      try clear hfz24_0
      try clear hfz24_1
      try clear hfz24_2
      try clear hfz24_3
      try clear hfz24_4
      try clear hfz24_5
      try clear hx171_0
      try clear hx171_1
      try clear hx171_2
      try clear hx171_3
      try clear hx171_4
      try clear hx171_5
      try clear p171
      try clear p2
      try clear q171
      obtain ⟨kq, x33_24, rfl, HA, HJ24, BK168, BK169, HB⟩ := hcut
      cases kq with
      | zero => exact absurd HA.out (by simp [value_call.j1])
      | succ kj24 =>
       have H := HA.out
       clear HA
       simp only [value_call.j1] at H
       by_cases c27 : x33_24 = true
       ·subst c27
        rw [if_pos rfl] at H
        replace H := Option.bind_eq_some_iff.mp H
        obtain ⟨⟨t174, t175, t176, t177, t178, t179⟩, A280, H⟩ := H
        replace H : (some (t174, t175, t176, t177, t178, t179, 0)) = some (r1, r2, r3, r4, r5, r6, r7) := H
        have A28 := Aside0.mk A280
        clear A280
        simp only [Option.some.injEq, Prod.mk.injEq] at H
        obtain ⟨rfl, rfl, rfl, rfl, rfl, rfl, rfl⟩ := H
        go_wp2_with (first | ((with_reducible refine gate_callee (f := 23) rfl ?_); refine goesL_ (some 38) rfl rfl Tryz.func23 (by kernel_rfl) rfl #[.bool (a0.toList == ([116, 114, 117, 101] : List UInt8))] rfl rf_ ?_; (with_reducible refine (value_truth.calls (a0.toList == ([116, 114, 117, 101] : List UInt8)) t174 t175 t176 t177 t178 t179 _ A28.out).mono ?_); rintro e w29 ⟨v180, rfl, ho0, hb⟩; refine ⟨_, rfl, ?_⟩; have HO181 := Aside0.mk (Kd.R_lower ho0 (below_size (hb2_ GE168.out GE169.out))); replace BK168 := Aside0.mk (blk_below (g := gb168) (o := .cells #[.int .i64 a1_0, .int .i64 a1_1, .string a1_2, .string a1_3, .slice A1_4 l1_4.length c1_4] 24 (0, 0)) (bk_ BK168.out) hb); replace BK169 := Aside0.mk (blk_below (g := gb169) (o := .cells #[.int .i64 x170000_1, .bool x170001_1, .int .i64 x170002_1, .bool x170003_1, .string x170004_1, .slice none 0 0] 28 (0, 0)) (bk_ BK169.out) hb); replace HB := Aside0.mk (below_step (hb2_ GE168.out GE169.out) hb); (try clear hb); (try clear hb2); (try clear hk); (try clear hi); (try clear ho0); have hnb30 := NB169_168.out; have hnc30 := NB168_169.out; obtain ⟨hcz31_0, hcz31_1, hcz31_2, hcz31_3, hcz31_4, hcz31_5⟩ := ce6_ BK169.out; obtain ⟨hfz31_0, hfz31_1, hfz31_2, hfz31_3, hfz31_4, hfz31_5⟩ := fr6_ BK169.out; obtain ⟨Ao32, co32, eo32⟩ := Kd.R_slice HO181.out; subst eo32))
        refine bodyPost_ret (results_ct rfl _ _ gb169 28 #[.int .i64 t174, .bool t175, .int .i64 t176, .bool t177, .string t178, .slice Ao32 t179.length co32] (0, 0) _ rfl (bp_ BK169.out) Tryz.underlying28 rfl (by kernel_rfl)) rfl ?_
        exact ⟨_, er_, rm_ (Kd.R_types HO181.out BK169.out (by decide)) (fun _ hk => hk.2), hb2_ GE168.out GE169.out⟩
       ·replace c27 := Bool.eq_false_iff.mpr c27
        subst c27
        rw [if_neg (show ¬ (false = true) by decide)] at H
        by_cases c33 : a0.toList = ([112, 111, 115, 105, 116, 105, 111, 110] : List UInt8)
        ·rw [if_pos c33] at H
         have c33b0 := beq_iff_eq.mpr c33
         have c33b1 := bne_eq_false_iff_eq.mpr c33
         clear c33
         replace H := Option.bind_eq_some_iff.mp H
         obtain ⟨⟨t182, t183, t184, t185, t186, t187⟩, A340, H⟩ := H
         replace H : (some (t182, t183, t184, t185, t186, t187, 0)) = some (r1, r2, r3, r4, r5, r6, r7) := H
         have A34 := Aside0.mk A340
         clear A340
         simp only [Option.some.injEq, Prod.mk.injEq] at H
         obtain ⟨rfl, rfl, rfl, rfl, rfl, rfl, rfl⟩ := H
         have hnb35 := NB168_169.out
         have hnc35 := NB169_168.out
         obtain ⟨hcz36_0, hcz36_1, hcz36_2, hcz36_3, hcz36_4⟩ := ce5_ BK168.out
         obtain ⟨hfz36_0, hfz36_1, hfz36_2, hfz36_3, hfz36_4⟩ := fr5_ BK168.out
         go_wp2_with (first | ((with_reducible refine gate_callee (f := 24) rfl ?_); refine goesL_ (some 43) rfl rfl Tryz.func24 (by kernel_rfl) rfl #[.int .i64 a1_0, .bool true] rfl rf_ ?_; (with_reducible refine (value_numbered.calls a1_0 true t182 t183 t184 t185 t186 t187 _ A34.out).mono ?_); rintro e w37 ⟨v188, rfl, ho0, hb⟩; refine ⟨_, rfl, ?_⟩; have HO189 := Aside0.mk (Kd.R_lower ho0 (below_size (hb2_ GE168.out GE169.out))); replace BK168 := Aside0.mk (blk_below (g := gb168) (o := .cells #[.int .i64 a1_0, .int .i64 a1_1, .string a1_2, .string a1_3, .slice A1_4 l1_4.length c1_4] 24 (0, 0)) (bk_ BK168.out) hb); replace BK169 := Aside0.mk (blk_below (g := gb169) (o := .cells #[.int .i64 x170000_1, .bool x170001_1, .int .i64 x170002_1, .bool x170003_1, .string x170004_1, .slice none 0 0] 28 (0, 0)) (bk_ BK169.out) hb); replace HB := Aside0.mk (below_step (hb2_ GE168.out GE169.out) hb); (try clear hb); (try clear hb2); (try clear hk); (try clear hi); (try clear ho0); obtain ⟨hcz38_0, hcz38_1, hcz38_2, hcz38_3, hcz38_4, hcz38_5⟩ := ce6_ BK169.out; obtain ⟨hfz38_0, hfz38_1, hfz38_2, hfz38_3, hfz38_4, hfz38_5⟩ := fr6_ BK169.out; obtain ⟨Ao39, co39, eo39⟩ := Kd.R_slice HO189.out; subst eo39))
         refine bodyPost_ret (results_ct rfl _ _ gb169 28 #[.int .i64 t182, .bool t183, .int .i64 t184, .bool t185, .string t186, .slice Ao39 t187.length co39] (0, 0) _ rfl (bp_ BK169.out) Tryz.underlying28 rfl (by kernel_rfl)) rfl ?_
         exact ⟨_, er_, rm_ (Kd.R_types HO189.out BK169.out (by decide)) (fun _ hk => hk.2), hb2_ GE168.out GE169.out⟩
        ·rw [if_neg c33] at H
         have c33b0 := beq_eq_false_iff_ne.mpr c33
         have c33b1 := bne_iff_ne.mpr c33
         by_cases c40 : a0.toList = ([108, 97, 115, 116] : List UInt8)
         ·rw [if_pos c40] at H
          have c40b0 := beq_iff_eq.mpr c40
          have c40b1 := bne_eq_false_iff_eq.mpr c40
          clear c40
          replace H := Option.bind_eq_some_iff.mp H
          obtain ⟨⟨t190, t191, t192, t193, t194, t195⟩, A410, H⟩ := H
          replace H : (some (t190, t191, t192, t193, t194, t195, 0)) = some (r1, r2, r3, r4, r5, r6, r7) := H
          have A41 := Aside0.mk A410
          clear A410
          simp only [Option.some.injEq, Prod.mk.injEq] at H
          obtain ⟨rfl, rfl, rfl, rfl, rfl, rfl, rfl⟩ := H
          have hnb42 := NB168_169.out
          have hnc42 := NB169_168.out
          obtain ⟨hcz43_0, hcz43_1, hcz43_2, hcz43_3, hcz43_4⟩ := ce5_ BK168.out
          obtain ⟨hfz43_0, hfz43_1, hfz43_2, hfz43_3, hfz43_4⟩ := fr5_ BK168.out
          go_wp2_with (first | ((with_reducible refine gate_callee (f := 24) rfl ?_); refine goesL_ (some 48) rfl rfl Tryz.func24 (by kernel_rfl) rfl #[.int .i64 a1_1, .bool true] rfl rf_ ?_; (with_reducible refine (value_numbered.calls a1_1 true t190 t191 t192 t193 t194 t195 _ A41.out).mono ?_); rintro e w44 ⟨v196, rfl, ho0, hb⟩; refine ⟨_, rfl, ?_⟩; have HO197 := Aside0.mk (Kd.R_lower ho0 (below_size (hb2_ GE168.out GE169.out))); replace BK168 := Aside0.mk (blk_below (g := gb168) (o := .cells #[.int .i64 a1_0, .int .i64 a1_1, .string a1_2, .string a1_3, .slice A1_4 l1_4.length c1_4] 24 (0, 0)) (bk_ BK168.out) hb); replace BK169 := Aside0.mk (blk_below (g := gb169) (o := .cells #[.int .i64 x170000_1, .bool x170001_1, .int .i64 x170002_1, .bool x170003_1, .string x170004_1, .slice none 0 0] 28 (0, 0)) (bk_ BK169.out) hb); replace HB := Aside0.mk (below_step (hb2_ GE168.out GE169.out) hb); (try clear hb); (try clear hb2); (try clear hk); (try clear hi); (try clear ho0); obtain ⟨hcz45_0, hcz45_1, hcz45_2, hcz45_3, hcz45_4, hcz45_5⟩ := ce6_ BK169.out; obtain ⟨hfz45_0, hfz45_1, hfz45_2, hfz45_3, hfz45_4, hfz45_5⟩ := fr6_ BK169.out; obtain ⟨Ao46, co46, eo46⟩ := Kd.R_slice HO197.out; subst eo46))
          refine bodyPost_ret (results_ct rfl _ _ gb169 28 #[.int .i64 t190, .bool t191, .int .i64 t192, .bool t193, .string t194, .slice Ao46 t195.length co46] (0, 0) _ rfl (bp_ BK169.out) Tryz.underlying28 rfl (by kernel_rfl)) rfl ?_
          exact ⟨_, er_, rm_ (Kd.R_types HO197.out BK169.out (by decide)) (fun _ hk => hk.2), hb2_ GE168.out GE169.out⟩
         ·rw [if_neg c40] at H
          have c40b0 := beq_eq_false_iff_ne.mpr c40
          have c40b1 := bne_iff_ne.mpr c40
          by_cases c47 : a0.toList = ([110, 97, 109, 101] : List UInt8)
          ·rw [if_pos c47] at H
           have c47b0 := beq_iff_eq.mpr c47
           have c47b1 := bne_eq_false_iff_eq.mpr c47
           clear c47
           replace H := Option.bind_eq_some_iff.mp H
           obtain ⟨⟨t198, t199, t200, t201, t202, t203⟩, A480, H⟩ := H
           replace H : (some (t198, t199, t200, t201, t202, t203, 0)) = some (r1, r2, r3, r4, r5, r6, r7) := H
           have A48 := Aside0.mk A480
           clear A480
           simp only [Option.some.injEq, Prod.mk.injEq] at H
           obtain ⟨rfl, rfl, rfl, rfl, rfl, rfl, rfl⟩ := H
           have hnb49 := NB168_169.out
           have hnc49 := NB169_168.out
           obtain ⟨hcz50_0, hcz50_1, hcz50_2, hcz50_3, hcz50_4⟩ := ce5_ BK168.out
           obtain ⟨hfz50_0, hfz50_1, hfz50_2, hfz50_3, hfz50_4⟩ := fr5_ BK168.out
           go_wp2_with (first | ((with_reducible refine gate_callee (f := 25) rfl ?_); refine goesL_ (some 53) rfl rfl Tryz.func25 (by kernel_rfl) rfl #[.string a1_2] rfl rf_ ?_; (with_reducible refine (value_texted.calls a1_2 t198 t199 t200 t201 t202 t203 _ A48.out).mono ?_); rintro e w51 ⟨v204, rfl, ho0, hb⟩; refine ⟨_, rfl, ?_⟩; have HO205 := Aside0.mk (Kd.R_lower ho0 (below_size (hb2_ GE168.out GE169.out))); replace BK168 := Aside0.mk (blk_below (g := gb168) (o := .cells #[.int .i64 a1_0, .int .i64 a1_1, .string a1_2, .string a1_3, .slice A1_4 l1_4.length c1_4] 24 (0, 0)) (bk_ BK168.out) hb); replace BK169 := Aside0.mk (blk_below (g := gb169) (o := .cells #[.int .i64 x170000_1, .bool x170001_1, .int .i64 x170002_1, .bool x170003_1, .string x170004_1, .slice none 0 0] 28 (0, 0)) (bk_ BK169.out) hb); replace HB := Aside0.mk (below_step (hb2_ GE168.out GE169.out) hb); (try clear hb); (try clear hb2); (try clear hk); (try clear hi); (try clear ho0); obtain ⟨hcz52_0, hcz52_1, hcz52_2, hcz52_3, hcz52_4, hcz52_5⟩ := ce6_ BK169.out; obtain ⟨hfz52_0, hfz52_1, hfz52_2, hfz52_3, hfz52_4, hfz52_5⟩ := fr6_ BK169.out; obtain ⟨Ao53, co53, eo53⟩ := Kd.R_slice HO205.out; subst eo53))
           refine bodyPost_ret (results_ct rfl _ _ gb169 28 #[.int .i64 t198, .bool t199, .int .i64 t200, .bool t201, .string t202, .slice Ao53 t203.length co53] (0, 0) _ rfl (bp_ BK169.out) Tryz.underlying28 rfl (by kernel_rfl)) rfl ?_
           exact ⟨_, er_, rm_ (Kd.R_types HO205.out BK169.out (by decide)) (fun _ hk => hk.2), hb2_ GE168.out GE169.out⟩
          ·rw [if_neg c47] at H
           have c47b0 := beq_eq_false_iff_ne.mpr c47
           have c47b1 := bne_iff_ne.mpr c47
           by_cases c54 : a0.toList = ([110, 111, 116] : List UInt8)
           ·rw [if_pos c54] at H
            have c54b0 := beq_iff_eq.mpr c54
            have c54b1 := bne_eq_false_iff_eq.mpr c54
            clear c54
            by_cases c55 : 0 < (l2.length : Int)
            ·rw [if_pos c55] at H
             have c55b0 : decide (0 < (l2.length : Int)) = true := decide_eq_true c55
             have c55b1 : decide (0 < l2.length) = true := decide_eq_true (by omega)
             clear c55
             replace H := Option.bind_eq_some_iff.mp H
             obtain ⟨t207, A560, H⟩ := H
             replace H : ((value_truth.f (!t207)).bind fun bt208 => (some (bt208.1, bt208.2.1, bt208.2.2.1, bt208.2.2.2.1, bt208.2.2.2.2.1, bt208.2.2.2.2.2, 0))) = some (r1, r2, r3, r4, r5, r6, r7) := H
             have A56 := Aside0.mk A560
             clear A560
             replace H := Option.bind_eq_some_iff.mp H
             obtain ⟨⟨t208, t209, t210, t211, t212, t213⟩, A570, H⟩ := H
             replace H : (some (t208, t209, t210, t211, t212, t213, 0)) = some (r1, r2, r3, r4, r5, r6, r7) := H
             have A57 := Aside0.mk A570
             clear A570
             simp only [Option.some.injEq, Prod.mk.injEq] at H
             obtain ⟨rfl, rfl, rfl, rfl, rfl, rfl, rfl⟩ := H
             have p206 : 0 ≤ (0 : Int) := (by omega)
             have q206 : 0 < (l2.length : Int) := of_decide_eq_true (by first | (with_reducible assumption) | assumption)
             obtain ⟨ad206, A206_5, c206_5, e206, hx206_0, hx206_1, hx206_2, hx206_3, hx206_4, hx206_5, hl206_5, hi206_5⟩ := at_T28 HR2.out 0 p206 q206
             cases e206
             have qi206 : (0 < l2.length) = True := eq_true (by omega)
             (try rw [show ((0 : Int)).toNat = 0 from rfl] at hx206_0)
             (try rw [show 0 * 6 = 0 from rfl] at hx206_0)
             (try rw [Addr.add_zero'] at hx206_0)
             (try rw [show ((0 : Int)).toNat = 0 from rfl] at hx206_1)
             (try rw [show 0 * 6 = 0 from rfl] at hx206_1)
             (try rw [Addr.add_zero'] at hx206_1)
             (try rw [show ((0 : Int)).toNat = 0 from rfl] at hx206_2)
             (try rw [show 0 * 6 = 0 from rfl] at hx206_2)
             (try rw [Addr.add_zero'] at hx206_2)
             (try rw [show ((0 : Int)).toNat = 0 from rfl] at hx206_3)
             (try rw [show 0 * 6 = 0 from rfl] at hx206_3)
             (try rw [Addr.add_zero'] at hx206_3)
             (try rw [show ((0 : Int)).toNat = 0 from rfl] at hx206_4)
             (try rw [show 0 * 6 = 0 from rfl] at hx206_4)
             (try rw [Addr.add_zero'] at hx206_4)
             (try rw [show ((0 : Int)).toNat = 0 from rfl] at hx206_5)
             (try rw [show 0 * 6 = 0 from rfl] at hx206_5)
             (try rw [Addr.add_zero'] at hx206_5)
             replace hx206_0 := hc_ HB.out hx206_0
             replace hx206_1 := hc_ HB.out hx206_1
             replace hx206_2 := hc_ HB.out hx206_2
             replace hx206_3 := hc_ HB.out hx206_3
             replace hx206_4 := hc_ HB.out hx206_4
             replace hx206_5 := hc_ HB.out hx206_5
             have HR206_5 := Aside0.mk hi206_5
             have HC206_5 := Aside0.mk hl206_5
             clear hi206_5 hl206_5
             replace p206 := eq_true p206
             replace q206 := eq_true q206
             go_wp2_with (first | ((with_reducible refine gate_callee (f := 26) rfl ?_); refine goesL_ (some 59) rfl rfl Tryz.func26 (by kernel_rfl) rfl #[.agg #[.int .i64 ((rd_T28 l2 0).f0), .bool ((rd_T28 l2 0).f1), .int .i64 ((rd_T28 l2 0).f2), .bool ((rd_T28 l2 0).f3), .string ((rd_T28 l2 0).f4), .slice A206_5 ((rd_T28 l2 0).f5).length c206_5]] rfl rf_ ?_; (with_reducible refine (value_asBool.calls ((rd_T28 l2 0).f0) ((rd_T28 l2 0).f1) ((rd_T28 l2 0).f2) ((rd_T28 l2 0).f3) ((rd_T28 l2 0).f4) _ _ ((rd_T28 l2 0).f5) t207 _ ?side1 ?side2 A56.out).mono ?_); (case side1 => exact sc_ (Kd.C_below HR206_5.out HB.out)); (case side2 => exact HC206_5.out); rintro e w58 ⟨rfl, hb⟩; refine ⟨_, rfl, ?_⟩; replace BK168 := Aside0.mk (blk_below (g := gb168) (o := .cells #[.int .i64 a1_0, .int .i64 a1_1, .string a1_2, .string a1_3, .slice A1_4 l1_4.length c1_4] 24 (0, 0)) (bk_ BK168.out) hb); replace BK169 := Aside0.mk (blk_below (g := gb169) (o := .cells #[.int .i64 x170000_1, .bool x170001_1, .int .i64 x170002_1, .bool x170003_1, .string x170004_1, .slice none 0 0] 28 (0, 0)) (bk_ BK169.out) hb); replace HB := Aside0.mk (below_step (hb2_ GE168.out GE169.out) hb); (try clear hb); (try clear hb2); (try clear hk); (try clear hi)) | ((with_reducible refine gate_callee (f := 23) rfl ?_); refine goesL_ (some 61) rfl rfl Tryz.func23 (by kernel_rfl) rfl #[.bool (!t207)] rfl rf_ ?_; (with_reducible refine (value_truth.calls (!t207) t208 t209 t210 t211 t212 t213 _ A57.out).mono ?_); rintro e w59 ⟨v214, rfl, ho0, hb⟩; refine ⟨_, rfl, ?_⟩; have HO215 := Aside0.mk (Kd.R_lower ho0 (below_size (hb2_ GE168.out GE169.out))); replace BK168 := Aside0.mk (blk_below (g := gb168) (o := .cells #[.int .i64 a1_0, .int .i64 a1_1, .string a1_2, .string a1_3, .slice A1_4 l1_4.length c1_4] 24 (0, 0)) (bk_ BK168.out) hb); replace BK169 := Aside0.mk (blk_below (g := gb169) (o := .cells #[.int .i64 x170000_1, .bool x170001_1, .int .i64 x170002_1, .bool x170003_1, .string x170004_1, .slice none 0 0] 28 (0, 0)) (bk_ BK169.out) hb); replace HB := Aside0.mk (below_step (hb2_ GE168.out GE169.out) hb); (try clear hb); (try clear hb2); (try clear hk); (try clear hi); (try clear ho0); have hnb60 := NB169_168.out; have hnc60 := NB168_169.out; obtain ⟨hcz61_0, hcz61_1, hcz61_2, hcz61_3, hcz61_4, hcz61_5⟩ := ce6_ BK169.out; obtain ⟨hfz61_0, hfz61_1, hfz61_2, hfz61_3, hfz61_4, hfz61_5⟩ := fr6_ BK169.out; obtain ⟨Ao62, co62, eo62⟩ := Kd.R_slice HO215.out; subst eo62))
             refine bodyPost_ret (results_ct rfl _ _ gb169 28 #[.int .i64 t208, .bool t209, .int .i64 t210, .bool t211, .string t212, .slice Ao62 t213.length co62] (0, 0) _ rfl (bp_ BK169.out) Tryz.underlying28 rfl (by kernel_rfl)) rfl ?_
             exact ⟨_, er_, rm_ (Kd.R_types HO215.out BK169.out (by decide)) (fun _ hk => hk.2), hb2_ GE168.out GE169.out⟩
            ·rw [if_neg c55] at H
             exact absurd H (by simp)
           ·rw [if_neg c54] at H
            have c54b0 := beq_eq_false_iff_ne.mpr c54
            have c54b1 := bne_iff_ne.mpr c54
            by_cases c63 : a0.toList = ([115, 116, 114, 105, 110, 103] : List UInt8)
            ·rw [if_pos c63] at H
             have c63b0 := beq_iff_eq.mpr c63
             have c63b1 := bne_eq_false_iff_eq.mpr c63
             clear c63
             by_cases c64 : 0 < (l2.length : Int)
             ·rw [if_pos c64] at H
              have c64b0 : decide (0 < (l2.length : Int)) = true := decide_eq_true c64
              have c64b1 : decide (0 < l2.length) = true := decide_eq_true (by omega)
              clear c64
              replace H := Option.bind_eq_some_iff.mp H
              obtain ⟨t217, A650, H⟩ := H
              replace H : ((value_texted.f t217).bind fun bt218 => (some (bt218.1, bt218.2.1, bt218.2.2.1, bt218.2.2.2.1, bt218.2.2.2.2.1, bt218.2.2.2.2.2, 0))) = some (r1, r2, r3, r4, r5, r6, r7) := H
              have A65 := Aside0.mk A650
              clear A650
              replace H := Option.bind_eq_some_iff.mp H
              obtain ⟨⟨t218, t219, t220, t221, t222, t223⟩, A660, H⟩ := H
              replace H : (some (t218, t219, t220, t221, t222, t223, 0)) = some (r1, r2, r3, r4, r5, r6, r7) := H
              have A66 := Aside0.mk A660
              clear A660
              simp only [Option.some.injEq, Prod.mk.injEq] at H
              obtain ⟨rfl, rfl, rfl, rfl, rfl, rfl, rfl⟩ := H
              have p216 : 0 ≤ (0 : Int) := (by omega)
              have q216 : 0 < (l2.length : Int) := of_decide_eq_true (by first | (with_reducible assumption) | assumption)
              obtain ⟨ad216, A216_5, c216_5, e216, hx216_0, hx216_1, hx216_2, hx216_3, hx216_4, hx216_5, hl216_5, hi216_5⟩ := at_T28 HR2.out 0 p216 q216
              cases e216
              have qi216 : (0 < l2.length) = True := eq_true (by omega)
              (try rw [show ((0 : Int)).toNat = 0 from rfl] at hx216_0)
              (try rw [show 0 * 6 = 0 from rfl] at hx216_0)
              (try rw [Addr.add_zero'] at hx216_0)
              (try rw [show ((0 : Int)).toNat = 0 from rfl] at hx216_1)
              (try rw [show 0 * 6 = 0 from rfl] at hx216_1)
              (try rw [Addr.add_zero'] at hx216_1)
              (try rw [show ((0 : Int)).toNat = 0 from rfl] at hx216_2)
              (try rw [show 0 * 6 = 0 from rfl] at hx216_2)
              (try rw [Addr.add_zero'] at hx216_2)
              (try rw [show ((0 : Int)).toNat = 0 from rfl] at hx216_3)
              (try rw [show 0 * 6 = 0 from rfl] at hx216_3)
              (try rw [Addr.add_zero'] at hx216_3)
              (try rw [show ((0 : Int)).toNat = 0 from rfl] at hx216_4)
              (try rw [show 0 * 6 = 0 from rfl] at hx216_4)
              (try rw [Addr.add_zero'] at hx216_4)
              (try rw [show ((0 : Int)).toNat = 0 from rfl] at hx216_5)
              (try rw [show 0 * 6 = 0 from rfl] at hx216_5)
              (try rw [Addr.add_zero'] at hx216_5)
              replace hx216_0 := hc_ HB.out hx216_0
              replace hx216_1 := hc_ HB.out hx216_1
              replace hx216_2 := hc_ HB.out hx216_2
              replace hx216_3 := hc_ HB.out hx216_3
              replace hx216_4 := hc_ HB.out hx216_4
              replace hx216_5 := hc_ HB.out hx216_5
              have HR216_5 := Aside0.mk hi216_5
              have HC216_5 := Aside0.mk hl216_5
              clear hi216_5 hl216_5
              replace p216 := eq_true p216
              replace q216 := eq_true q216
              go_wp2_with (first | ((with_reducible refine gate_callee (f := 27) rfl ?_); refine goesL_ (some 67) rfl rfl Tryz.func27 (by kernel_rfl) rfl #[.agg #[.int .i64 ((rd_T28 l2 0).f0), .bool ((rd_T28 l2 0).f1), .int .i64 ((rd_T28 l2 0).f2), .bool ((rd_T28 l2 0).f3), .string ((rd_T28 l2 0).f4), .slice A216_5 ((rd_T28 l2 0).f5).length c216_5]] rfl rf_ ?_; (with_reducible refine (value_asText.calls ((rd_T28 l2 0).f0) ((rd_T28 l2 0).f1) ((rd_T28 l2 0).f2) ((rd_T28 l2 0).f3) ((rd_T28 l2 0).f4) _ _ ((rd_T28 l2 0).f5) t217 _ ?side1 ?side2 A65.out).mono ?_); (case side1 => exact sc_ (Kd.C_below HR216_5.out HB.out)); (case side2 => exact HC216_5.out); rintro e w67 ⟨rfl, hb⟩; refine ⟨_, rfl, ?_⟩; replace BK168 := Aside0.mk (blk_below (g := gb168) (o := .cells #[.int .i64 a1_0, .int .i64 a1_1, .string a1_2, .string a1_3, .slice A1_4 l1_4.length c1_4] 24 (0, 0)) (bk_ BK168.out) hb); replace BK169 := Aside0.mk (blk_below (g := gb169) (o := .cells #[.int .i64 x170000_1, .bool x170001_1, .int .i64 x170002_1, .bool x170003_1, .string x170004_1, .slice none 0 0] 28 (0, 0)) (bk_ BK169.out) hb); replace HB := Aside0.mk (below_step (hb2_ GE168.out GE169.out) hb); (try clear hb); (try clear hb2); (try clear hk); (try clear hi)) | ((with_reducible refine gate_callee (f := 25) rfl ?_); refine goesL_ (some 68) rfl rfl Tryz.func25 (by kernel_rfl) rfl #[.string t217] rfl rf_ ?_; (with_reducible refine (value_texted.calls t217 t218 t219 t220 t221 t222 t223 _ A66.out).mono ?_); rintro e w68 ⟨v224, rfl, ho0, hb⟩; refine ⟨_, rfl, ?_⟩; have HO225 := Aside0.mk (Kd.R_lower ho0 (below_size (hb2_ GE168.out GE169.out))); replace BK168 := Aside0.mk (blk_below (g := gb168) (o := .cells #[.int .i64 a1_0, .int .i64 a1_1, .string a1_2, .string a1_3, .slice A1_4 l1_4.length c1_4] 24 (0, 0)) (bk_ BK168.out) hb); replace BK169 := Aside0.mk (blk_below (g := gb169) (o := .cells #[.int .i64 x170000_1, .bool x170001_1, .int .i64 x170002_1, .bool x170003_1, .string x170004_1, .slice none 0 0] 28 (0, 0)) (bk_ BK169.out) hb); replace HB := Aside0.mk (below_step (hb2_ GE168.out GE169.out) hb); (try clear hb); (try clear hb2); (try clear hk); (try clear hi); (try clear ho0); have hnb69 := NB169_168.out; have hnc69 := NB168_169.out; obtain ⟨hcz70_0, hcz70_1, hcz70_2, hcz70_3, hcz70_4, hcz70_5⟩ := ce6_ BK169.out; obtain ⟨hfz70_0, hfz70_1, hfz70_2, hfz70_3, hfz70_4, hfz70_5⟩ := fr6_ BK169.out; obtain ⟨Ao71, co71, eo71⟩ := Kd.R_slice HO225.out; subst eo71))
              refine bodyPost_ret (results_ct rfl _ _ gb169 28 #[.int .i64 t218, .bool t219, .int .i64 t220, .bool t221, .string t222, .slice Ao71 t223.length co71] (0, 0) _ rfl (bp_ BK169.out) Tryz.underlying28 rfl (by kernel_rfl)) rfl ?_
              exact ⟨_, er_, rm_ (Kd.R_types HO225.out BK169.out (by decide)) (fun _ hk => hk.2), hb2_ GE168.out GE169.out⟩
             ·rw [if_neg c64] at H
              exact absurd H (by simp)
            ·rw [if_neg c63] at H
             have c63b0 := beq_eq_false_iff_ne.mpr c63
             have c63b1 := bne_iff_ne.mpr c63
             by_cases c72 : a0.toList = ([110, 117, 109, 98, 101, 114] : List UInt8)
             ·rw [if_pos c72] at H
              have c72b0 := beq_iff_eq.mpr c72
              have c72b1 := bne_eq_false_iff_eq.mpr c72
              clear c72
              by_cases c73 : 0 < (l2.length : Int)
              ·rw [if_pos c73] at H
               have c73b0 : decide (0 < (l2.length : Int)) = true := decide_eq_true c73
               have c73b1 : decide (0 < l2.length) = true := decide_eq_true (by omega)
               clear c73
               replace H := Option.bind_eq_some_iff.mp H
               obtain ⟨⟨t227, t228⟩, A740, H⟩ := H
               replace H : ((value_numbered.f t227 t228).bind fun bt229 => (some (bt229.1, bt229.2.1, bt229.2.2.1, bt229.2.2.2.1, bt229.2.2.2.2.1, bt229.2.2.2.2.2, 0))) = some (r1, r2, r3, r4, r5, r6, r7) := H
               have A74 := Aside0.mk A740
               clear A740
               replace H := Option.bind_eq_some_iff.mp H
               obtain ⟨⟨t229, t230, t231, t232, t233, t234⟩, A750, H⟩ := H
               replace H : (some (t229, t230, t231, t232, t233, t234, 0)) = some (r1, r2, r3, r4, r5, r6, r7) := H
               have A75 := Aside0.mk A750
               clear A750
               simp only [Option.some.injEq, Prod.mk.injEq] at H
               obtain ⟨rfl, rfl, rfl, rfl, rfl, rfl, rfl⟩ := H
               have p226 : 0 ≤ (0 : Int) := (by omega)
               have q226 : 0 < (l2.length : Int) := of_decide_eq_true (by first | (with_reducible assumption) | assumption)
               obtain ⟨ad226, A226_5, c226_5, e226, hx226_0, hx226_1, hx226_2, hx226_3, hx226_4, hx226_5, hl226_5, hi226_5⟩ := at_T28 HR2.out 0 p226 q226
               cases e226
               have qi226 : (0 < l2.length) = True := eq_true (by omega)
               (try rw [show ((0 : Int)).toNat = 0 from rfl] at hx226_0)
               (try rw [show 0 * 6 = 0 from rfl] at hx226_0)
               (try rw [Addr.add_zero'] at hx226_0)
               (try rw [show ((0 : Int)).toNat = 0 from rfl] at hx226_1)
               (try rw [show 0 * 6 = 0 from rfl] at hx226_1)
               (try rw [Addr.add_zero'] at hx226_1)
               (try rw [show ((0 : Int)).toNat = 0 from rfl] at hx226_2)
               (try rw [show 0 * 6 = 0 from rfl] at hx226_2)
               (try rw [Addr.add_zero'] at hx226_2)
               (try rw [show ((0 : Int)).toNat = 0 from rfl] at hx226_3)
               (try rw [show 0 * 6 = 0 from rfl] at hx226_3)
               (try rw [Addr.add_zero'] at hx226_3)
               (try rw [show ((0 : Int)).toNat = 0 from rfl] at hx226_4)
               (try rw [show 0 * 6 = 0 from rfl] at hx226_4)
               (try rw [Addr.add_zero'] at hx226_4)
               (try rw [show ((0 : Int)).toNat = 0 from rfl] at hx226_5)
               (try rw [show 0 * 6 = 0 from rfl] at hx226_5)
               (try rw [Addr.add_zero'] at hx226_5)
               replace hx226_0 := hc_ HB.out hx226_0
               replace hx226_1 := hc_ HB.out hx226_1
               replace hx226_2 := hc_ HB.out hx226_2
               replace hx226_3 := hc_ HB.out hx226_3
               replace hx226_4 := hc_ HB.out hx226_4
               replace hx226_5 := hc_ HB.out hx226_5
               have HR226_5 := Aside0.mk hi226_5
               have HC226_5 := Aside0.mk hl226_5
               clear hi226_5 hl226_5
               replace p226 := eq_true p226
               replace q226 := eq_true q226
               go_wp2_with (first | ((with_reducible refine gate_callee (f := 28) rfl ?_); refine goesL_ (some 74) rfl rfl Tryz.func28 (by kernel_rfl) rfl #[.agg #[.int .i64 ((rd_T28 l2 0).f0), .bool ((rd_T28 l2 0).f1), .int .i64 ((rd_T28 l2 0).f2), .bool ((rd_T28 l2 0).f3), .string ((rd_T28 l2 0).f4), .slice A226_5 ((rd_T28 l2 0).f5).length c226_5]] rfl rf_ ?_; (with_reducible refine (value_asNumber.calls ((rd_T28 l2 0).f0) ((rd_T28 l2 0).f1) ((rd_T28 l2 0).f2) ((rd_T28 l2 0).f3) ((rd_T28 l2 0).f4) _ _ ((rd_T28 l2 0).f5) t227 t228 _ ?side1 ?side2 A74.out).mono ?_); (case side1 => exact sc_ (Kd.C_below HR226_5.out HB.out)); (case side2 => exact HC226_5.out); rintro e w76 ⟨rfl, hb⟩; refine ⟨_, rfl, ?_⟩; replace BK168 := Aside0.mk (blk_below (g := gb168) (o := .cells #[.int .i64 a1_0, .int .i64 a1_1, .string a1_2, .string a1_3, .slice A1_4 l1_4.length c1_4] 24 (0, 0)) (bk_ BK168.out) hb); replace BK169 := Aside0.mk (blk_below (g := gb169) (o := .cells #[.int .i64 x170000_1, .bool x170001_1, .int .i64 x170002_1, .bool x170003_1, .string x170004_1, .slice none 0 0] 28 (0, 0)) (bk_ BK169.out) hb); replace HB := Aside0.mk (below_step (hb2_ GE168.out GE169.out) hb); (try clear hb); (try clear hb2); (try clear hk); (try clear hi)) | ((with_reducible refine gate_callee (f := 24) rfl ?_); refine goesL_ (some 77) rfl rfl Tryz.func24 (by kernel_rfl) rfl #[.int .i64 t227, .bool t228] rfl rf_ ?_; (with_reducible refine (value_numbered.calls t227 t228 t229 t230 t231 t232 t233 t234 _ A75.out).mono ?_); rintro e w77 ⟨v235, rfl, ho0, hb⟩; refine ⟨_, rfl, ?_⟩; have HO236 := Aside0.mk (Kd.R_lower ho0 (below_size (hb2_ GE168.out GE169.out))); replace BK168 := Aside0.mk (blk_below (g := gb168) (o := .cells #[.int .i64 a1_0, .int .i64 a1_1, .string a1_2, .string a1_3, .slice A1_4 l1_4.length c1_4] 24 (0, 0)) (bk_ BK168.out) hb); replace BK169 := Aside0.mk (blk_below (g := gb169) (o := .cells #[.int .i64 x170000_1, .bool x170001_1, .int .i64 x170002_1, .bool x170003_1, .string x170004_1, .slice none 0 0] 28 (0, 0)) (bk_ BK169.out) hb); replace HB := Aside0.mk (below_step (hb2_ GE168.out GE169.out) hb); (try clear hb); (try clear hb2); (try clear hk); (try clear hi); (try clear ho0); have hnb78 := NB169_168.out; have hnc78 := NB168_169.out; obtain ⟨hcz79_0, hcz79_1, hcz79_2, hcz79_3, hcz79_4, hcz79_5⟩ := ce6_ BK169.out; obtain ⟨hfz79_0, hfz79_1, hfz79_2, hfz79_3, hfz79_4, hfz79_5⟩ := fr6_ BK169.out; obtain ⟨Ao80, co80, eo80⟩ := Kd.R_slice HO236.out; subst eo80))
               refine bodyPost_ret (results_ct rfl _ _ gb169 28 #[.int .i64 t229, .bool t230, .int .i64 t231, .bool t232, .string t233, .slice Ao80 t234.length co80] (0, 0) _ rfl (bp_ BK169.out) Tryz.underlying28 rfl (by kernel_rfl)) rfl ?_
               exact ⟨_, er_, rm_ (Kd.R_types HO236.out BK169.out (by decide)) (fun _ hk => hk.2), hb2_ GE168.out GE169.out⟩
              ·rw [if_neg c73] at H
               exact absurd H (by simp)
             ·rw [if_neg c72] at H
              have c72b0 := beq_eq_false_iff_ne.mpr c72
              have c72b1 := bne_iff_ne.mpr c72
              by_cases c81 : a0.toList = ([99, 111, 117, 110, 116] : List UInt8)
              ·rw [if_pos c81] at H
               have c81b0 := beq_iff_eq.mpr c81
               have c81b1 := bne_eq_false_iff_eq.mpr c81
               clear c81
               by_cases c82 : 0 < (l2.length : Int)
               ·rw [if_pos c82] at H
                have c82b0 : decide (0 < (l2.length : Int)) = true := decide_eq_true c82
                have c82b1 : decide (0 < l2.length) = true := decide_eq_true (by omega)
                clear c82
                replace H := Option.bind_eq_some_iff.mp H
                obtain ⟨⟨t239, t240, t241, t242, t243, t244⟩, A830, H⟩ := H
                replace H : (some (t239, t240, t241, t242, t243, t244, 0)) = some (r1, r2, r3, r4, r5, r6, r7) := H
                have A83 := Aside0.mk A830
                clear A830
                simp only [Option.some.injEq, Prod.mk.injEq] at H
                obtain ⟨rfl, rfl, rfl, rfl, rfl, rfl, rfl⟩ := H
                try go_wp2
                replace BK168 := Aside0.mk (blk_drew BK168.out)
                replace BK169 := Aside0.mk (blk_drew BK169.out)
                replace HB := Aside0.mk (below_drew1 HB.out)
                have p237 : 0 ≤ (0 : Int) := (by omega)
                have q237 : 0 < (l2.length : Int) := of_decide_eq_true (by first | (with_reducible assumption) | assumption)
                obtain ⟨ad237, A237_5, c237_5, e237, hx237_0, hx237_1, hx237_2, hx237_3, hx237_4, hx237_5, hl237_5, hi237_5⟩ := at_T28 HR2.out 0 p237 q237
                have hw237_5 := hx237_5
                (try rw [show ((0 : Int)).toNat = 0 from rfl] at hw237_5)
                (try rw [show 0 * 6 = 0 from rfl] at hw237_5)
                (try rw [Addr.add_zero'] at hw237_5)
                have hw237_4 := hx237_4
                (try rw [show ((0 : Int)).toNat = 0 from rfl] at hw237_4)
                (try rw [show 0 * 6 = 0 from rfl] at hw237_4)
                (try rw [Addr.add_zero'] at hw237_4)
                have hw237_3 := hx237_3
                (try rw [show ((0 : Int)).toNat = 0 from rfl] at hw237_3)
                (try rw [show 0 * 6 = 0 from rfl] at hw237_3)
                (try rw [Addr.add_zero'] at hw237_3)
                have hw237_2 := hx237_2
                (try rw [show ((0 : Int)).toNat = 0 from rfl] at hw237_2)
                (try rw [show 0 * 6 = 0 from rfl] at hw237_2)
                (try rw [Addr.add_zero'] at hw237_2)
                have hw237_1 := hx237_1
                (try rw [show ((0 : Int)).toNat = 0 from rfl] at hw237_1)
                (try rw [show 0 * 6 = 0 from rfl] at hw237_1)
                (try rw [Addr.add_zero'] at hw237_1)
                have hw237_0 := hx237_0
                (try rw [show ((0 : Int)).toNat = 0 from rfl] at hw237_0)
                (try rw [show 0 * 6 = 0 from rfl] at hw237_0)
                (try rw [Addr.add_zero'] at hw237_0)
                cases e237
                have qi237 : (0 < l2.length) = True := eq_true (by omega)
                (try rw [show ((0 : Int)).toNat = 0 from rfl] at hx237_0)
                (try rw [show 0 * 6 = 0 from rfl] at hx237_0)
                (try rw [Addr.add_zero'] at hx237_0)
                (try rw [show ((0 : Int)).toNat = 0 from rfl] at hx237_1)
                (try rw [show 0 * 6 = 0 from rfl] at hx237_1)
                (try rw [Addr.add_zero'] at hx237_1)
                (try rw [show ((0 : Int)).toNat = 0 from rfl] at hx237_2)
                (try rw [show 0 * 6 = 0 from rfl] at hx237_2)
                (try rw [Addr.add_zero'] at hx237_2)
                (try rw [show ((0 : Int)).toNat = 0 from rfl] at hx237_3)
                (try rw [show 0 * 6 = 0 from rfl] at hx237_3)
                (try rw [Addr.add_zero'] at hx237_3)
                (try rw [show ((0 : Int)).toNat = 0 from rfl] at hx237_4)
                (try rw [show 0 * 6 = 0 from rfl] at hx237_4)
                (try rw [Addr.add_zero'] at hx237_4)
                (try rw [show ((0 : Int)).toNat = 0 from rfl] at hx237_5)
                (try rw [show 0 * 6 = 0 from rfl] at hx237_5)
                (try rw [Addr.add_zero'] at hx237_5)
                replace hx237_0 := hc_ HB.out hx237_0
                replace hx237_1 := hc_ HB.out hx237_1
                replace hx237_2 := hc_ HB.out hx237_2
                replace hx237_3 := hc_ HB.out hx237_3
                replace hx237_4 := hc_ HB.out hx237_4
                replace hx237_5 := hc_ HB.out hx237_5
                have HR237_5 := Aside0.mk hi237_5
                have HC237_5 := Aside0.mk hl237_5
                clear hi237_5 hl237_5
                replace p237 := eq_true p237
                replace q237 := eq_true q237
                have p238 : 0 ≤ (0 : Int) := (by omega)
                have q238 : 0 < (l2.length : Int) := of_decide_eq_true (by first | (with_reducible assumption) | assumption)
                obtain ⟨ad238, A238_5, c238_5, e238, hx238_0, hx238_1, hx238_2, hx238_3, hx238_4, hx238_5, hl238_5, hi238_5⟩ := at_T28 HR2.out 0 p238 q238
                have hw238_5 := hx238_5
                (try rw [show ((0 : Int)).toNat = 0 from rfl] at hw238_5)
                (try rw [show 0 * 6 = 0 from rfl] at hw238_5)
                (try rw [Addr.add_zero'] at hw238_5)
                have hw238_4 := hx238_4
                (try rw [show ((0 : Int)).toNat = 0 from rfl] at hw238_4)
                (try rw [show 0 * 6 = 0 from rfl] at hw238_4)
                (try rw [Addr.add_zero'] at hw238_4)
                have hw238_3 := hx238_3
                (try rw [show ((0 : Int)).toNat = 0 from rfl] at hw238_3)
                (try rw [show 0 * 6 = 0 from rfl] at hw238_3)
                (try rw [Addr.add_zero'] at hw238_3)
                have hw238_2 := hx238_2
                (try rw [show ((0 : Int)).toNat = 0 from rfl] at hw238_2)
                (try rw [show 0 * 6 = 0 from rfl] at hw238_2)
                (try rw [Addr.add_zero'] at hw238_2)
                have hw238_1 := hx238_1
                (try rw [show ((0 : Int)).toNat = 0 from rfl] at hw238_1)
                (try rw [show 0 * 6 = 0 from rfl] at hw238_1)
                (try rw [Addr.add_zero'] at hw238_1)
                have hw238_0 := hx238_0
                (try rw [show ((0 : Int)).toNat = 0 from rfl] at hw238_0)
                (try rw [show 0 * 6 = 0 from rfl] at hw238_0)
                (try rw [Addr.add_zero'] at hw238_0)
                obtain rfl : ad237 = ad238 := (by injection e238)
                have qi238 : (0 < l2.length) = True := eq_true (by omega)
                (try rw [show ((0 : Int)).toNat = 0 from rfl] at hx238_0)
                (try rw [show 0 * 6 = 0 from rfl] at hx238_0)
                (try rw [Addr.add_zero'] at hx238_0)
                (try rw [show ((0 : Int)).toNat = 0 from rfl] at hx238_1)
                (try rw [show 0 * 6 = 0 from rfl] at hx238_1)
                (try rw [Addr.add_zero'] at hx238_1)
                (try rw [show ((0 : Int)).toNat = 0 from rfl] at hx238_2)
                (try rw [show 0 * 6 = 0 from rfl] at hx238_2)
                (try rw [Addr.add_zero'] at hx238_2)
                (try rw [show ((0 : Int)).toNat = 0 from rfl] at hx238_3)
                (try rw [show 0 * 6 = 0 from rfl] at hx238_3)
                (try rw [Addr.add_zero'] at hx238_3)
                (try rw [show ((0 : Int)).toNat = 0 from rfl] at hx238_4)
                (try rw [show 0 * 6 = 0 from rfl] at hx238_4)
                (try rw [Addr.add_zero'] at hx238_4)
                (try rw [show ((0 : Int)).toNat = 0 from rfl] at hx238_5)
                (try rw [show 0 * 6 = 0 from rfl] at hx238_5)
                (try rw [Addr.add_zero'] at hx238_5)
                replace hx238_0 := hc_ HB.out hx238_0
                replace hx238_1 := hc_ HB.out hx238_1
                replace hx238_2 := hc_ HB.out hx238_2
                replace hx238_3 := hc_ HB.out hx238_3
                replace hx238_4 := hc_ HB.out hx238_4
                replace hx238_5 := hc_ HB.out hx238_5
                have HR238_5 := Aside0.mk hi238_5
                have HC238_5 := Aside0.mk hl238_5
                clear hi238_5 hl238_5
                replace p238 := eq_true p238
                replace q238 := eq_true q238
                have ea_ := Option.some.inj (hx237_5.symm.trans hx238_5)
                injection ea_ with ea_ en_ ec_
                subst ea_
                subst ec_
                clear en_
                refine start_ (n := 13) (S := fun w' => w'.cell? ad237 = some (.int .i64 ((rd_T28 l2 0).f0)) ∧ w'.cell? ⟨ad237.block, ad237.off + 1, none⟩ = some (.bool ((rd_T28 l2 0).f1)) ∧ w'.cell? ⟨ad237.block, ad237.off + 2, none⟩ = some (.int .i64 ((rd_T28 l2 0).f2)) ∧ w'.cell? ⟨ad237.block, ad237.off + 3, none⟩ = some (.bool ((rd_T28 l2 0).f3)) ∧ w'.cell? ⟨ad237.block, ad237.off + 4, none⟩ = some (.string ((rd_T28 l2 0).f4)) ∧ w'.cell? ⟨ad237.block, ad237.off + 5, none⟩ = some (.slice A237_5 ((rd_T28 l2 0).f5).length c237_5) ∧ w'.cell? ad237 = some (.int .i64 ((rd_T28 l2 0).f0)) ∧ w'.cell? ⟨ad237.block, ad237.off + 1, none⟩ = some (.bool ((rd_T28 l2 0).f1)) ∧ w'.cell? ⟨ad237.block, ad237.off + 2, none⟩ = some (.int .i64 ((rd_T28 l2 0).f2)) ∧ w'.cell? ⟨ad237.block, ad237.off + 3, none⟩ = some (.bool ((rd_T28 l2 0).f3)) ∧ w'.cell? ⟨ad237.block, ad237.off + 4, none⟩ = some (.string ((rd_T28 l2 0).f4)) ∧ w'.cell? ⟨ad237.block, ad237.off + 5, none⟩ = some (.slice A237_5 ((rd_T28 l2 0).f5).length c237_5)) (ds := []) #[false, false, false, false, false, false, false, false, false, false, false, false, false] (by kernel_rfl) rfl rfl ⟨(hc_ HB.out hw237_0), (hc_ HB.out hw237_1), (hc_ HB.out hw237_2), (hc_ HB.out hw237_3), (hc_ HB.out hw237_4), (hc_ HB.out hw237_5), (hc_ HB.out hw238_0), (hc_ HB.out hw238_1), (hc_ HB.out hw238_2), (hc_ HB.out hw238_3), (hc_ HB.out hw238_4), (hc_ HB.out hw238_5)⟩ (fun hHeld => ?_); refine with_tabW value_call.tab27 value_call.bits27 (fun HT_ HW_ => ?_)
                generalize wc.drew = w84 at BK168 BK169 HB HR237_5 HR238_5 hx237_0 hx237_1 hx237_2 hx237_3 hx237_4 hx237_5 hx238_0 hx238_1 hx238_2 hx238_3 hx238_4 hx238_5 hHeld ⊢
                refine pu_ 0 (some 80) #[true, false, false, false, false, false, false, false, false, false, false, false, false] (any_of HT_.out (by kernel_rfl)) ?_
                refine pu_ 1 (some 81) #[true, true, false, false, false, false, false, false, false, false, false, false, false] (any_of HT_.out (by kernel_rfl)) ?_
                refine pu_ 2 (some 82) #[true, true, true, false, false, false, false, false, false, false, false, false, false] (any_of HT_.out (by kernel_rfl)) ?_
                refine pu_ 5 (some 85) #[true, true, true, false, false, true, false, false, false, false, false, false, false] (any_of HT_.out (by kernel_rfl)) ?_
                refine pu_ 6 (some 86) #[true, true, true, false, false, true, true, false, false, false, false, false, false] (any_of HT_.out (by kernel_rfl)) ?_
                refine pu_ 7 (some 87) #[true, true, true, false, false, true, true, true, false, false, false, false, false] (any_of HT_.out (by kernel_rfl)) ?_
                refine take_ (i := 3) (N := some 83) (v := ?_) (a' := ?_) #[true, true, true, true, false, true, true, true, false, false, false, false, false] rfl rfl (take_ofW HT_.out HW_.out (by kernel_rfl)) (fun _ _ _ h => h) (Or.inl ⟨by rfl, ?_⟩) hHeld ?_ ?_
                rotate_left
                ·rintro w' ⟨s0, s1, s2, s3, s4, s5, s6, s7, s8, s9, s10, s11⟩
                 go_simp
                 with_reducible rfl
                rotate_left
                ·simp only [Act.put, List.setIfInBounds_toArray, List.set_cons_zero, List.set_cons_succ, i64_w, i32_w]
                 rfl
                refine pu_ 4 (some 84) #[true, true, true, true, true, true, true, true, false, false, false, false, false] (any_of HT_.out (by kernel_rfl)) ?_
                refine take_ (i := 8) (N := some 88) (v := ?_) (a' := ?_) #[true, true, true, true, true, true, true, true, true, false, false, false, false] rfl rfl (take_ofW HT_.out HW_.out (by kernel_rfl)) (fun _ _ _ h => h) (Or.inl ⟨by rfl, ?_⟩) hHeld ?_ ?_
                rotate_left
                ·rintro w' ⟨s0, s1, s2, s3, s4, s5, s6, s7, s8, s9, s10, s11⟩
                 go_simp
                 with_reducible rfl
                rotate_left
                ·simp only [Act.put, List.setIfInBounds_toArray, List.set_cons_zero, List.set_cons_succ, i64_w, i32_w]
                 rfl
                refine pu_ 9 (some 89) #[true, true, true, true, true, true, true, true, true, true, false, false, false] (any_of HT_.out (by kernel_rfl)) ?_
                refine one_ (i := 10) (N := some 90) #[true, true, true, true, true, true, true, true, true, true, true, false, false] rfl rfl (one_of HT_.out (by kernel_rfl)) (by decide) (fun K hK => ?_)
                refine goes_ Tryz.func24 (by kernel_rfl) rfl #[.int .i64 (((rd_T28 l2 0).f5).length : Int), .bool (((rd_T28 l2 0).f0) == 4)] (by rfl) rfl rfl rf_ ?_
                with_reducible refine (value_numbered.calls (((rd_T28 l2 0).f5).length : Int) (((rd_T28 l2 0).f0) == 4) t239 t240 t241 t242 t243 t244 _ A83.out).mono ?_
                rintro e w85 ⟨v245, rfl, ho0, hb⟩
                refine ⟨_, rfl, ?_⟩
                have HO246 := Aside0.mk (Kd.R_lower ho0 (below_size (hb2_ GE168.out GE169.out)))
                replace BK168 := Aside0.mk (blk_below (g := gb168) (o := .cells #[.int .i64 a1_0, .int .i64 a1_1, .string a1_2, .string a1_3, .slice A1_4 l1_4.length c1_4] 24 (0, 0)) (bk_ BK168.out) hb)
                replace BK169 := Aside0.mk (blk_below (g := gb169) (o := .cells #[.int .i64 x170000_1, .bool x170001_1, .int .i64 x170002_1, .bool x170003_1, .string x170004_1, .slice none 0 0] 28 (0, 0)) (bk_ BK169.out) hb)
                replace HB := Aside0.mk (below_step (hb2_ GE168.out GE169.out) hb)
                (try clear hb)
                (try clear hb2)
                (try clear hk)
                (try clear hi)
                (try clear ho0)
                obtain ⟨Ao91, co91, eo91⟩ := Kd.R_slice HO246.out
                (first | subst eo91 | (injection eo91 with f1_ f2_ f3_; have f4_ := f1_.symm; have f5_ := f3_.symm; clear f1_ f2_ f3_; subst f4_; subst f5_))
                refine hK.out _ _ ⟨(hc_ HB.out hw237_0), (hc_ HB.out hw237_1), (hc_ HB.out hw237_2), (hc_ HB.out hw237_3), (hc_ HB.out hw237_4), (hc_ HB.out hw237_5), (hc_ HB.out hw238_0), (hc_ HB.out hw238_1), (hc_ HB.out hw238_2), (hc_ HB.out hw238_3), (hc_ HB.out hw238_4), (hc_ HB.out hw238_5)⟩ (fun hHeld => ?_)
                clear hK K
                refine norm_ (a' := ?_) ?_ ?_
                rotate_left
                ·show Act.put _ (some 90) _ = _
                 simp only [Act.put, List.setIfInBounds_toArray, List.set_cons_zero, List.set_cons_succ, i64_w, i32_w]
                 rfl
                refine one_ (i := 11) (N := none) #[true, true, true, true, true, true, true, true, true, true, true, true, false] rfl rfl (one_of HT_.out (by kernel_rfl)) (by decide) (fun K hK => ?_)
                have hs86 : w85.cell? ⟨gb169, 0, none⟩ = some (.int .i64 x170000_1) := (blk_cell BK169.out 0).trans rfl
                have hfs86 := blk_frozen BK169.out 0
                have hns86_0 := NB168_169.out
                have hms86_0 := NB169_168.out
                have hs87 : w85.cell? ⟨gb169, 1, none⟩ = some (.bool x170001_1) := (blk_cell BK169.out 1).trans rfl
                have hfs87 := blk_frozen BK169.out 1
                have hns87_0 := NB168_169.out
                have hms87_0 := NB169_168.out
                have hs88 : w85.cell? ⟨gb169, 2, none⟩ = some (.int .i64 x170002_1) := (blk_cell BK169.out 2).trans rfl
                have hfs88 := blk_frozen BK169.out 2
                have hns88_0 := NB168_169.out
                have hms88_0 := NB169_168.out
                have hs89 : w85.cell? ⟨gb169, 3, none⟩ = some (.bool x170003_1) := (blk_cell BK169.out 3).trans rfl
                have hfs89 := blk_frozen BK169.out 3
                have hns89_0 := NB168_169.out
                have hms89_0 := NB169_168.out
                have hs90 : w85.cell? ⟨gb169, 4, none⟩ = some (.string x170004_1) := (blk_cell BK169.out 4).trans rfl
                have hfs90 := blk_frozen BK169.out 4
                have hns90_0 := NB168_169.out
                have hms90_0 := NB169_168.out
                have hs92 : w85.cell? ⟨gb169, 5, none⟩ = some (.slice none 0 0) := (blk_cell BK169.out 5).trans rfl
                have hfs92 := blk_frozen BK169.out 5
                have hns92_0 := NB168_169.out
                have hms92_0 := NB169_168.out
                refine skip_ (w1 := ?_) (by rfl) rfl ?_ ?_
                rotate_left
                ·go_simp
                 rfl
                refine hK.out _ _ ⟨((far_ hw237_0 GW169.out _).trans (((far_ hw237_0 GW169.out _).trans (((far_ hw237_0 GW169.out _).trans (((far_ hw237_0 GW169.out _).trans (((far_ hw237_0 GW169.out _).trans (((far_ hw237_0 GW169.out _).trans (hHeld.1)))))))))))), ((far_ hw237_1 GW169.out _).trans (((far_ hw237_1 GW169.out _).trans (((far_ hw237_1 GW169.out _).trans (((far_ hw237_1 GW169.out _).trans (((far_ hw237_1 GW169.out _).trans (((far_ hw237_1 GW169.out _).trans (hHeld.2.1)))))))))))), ((far_ hw237_2 GW169.out _).trans (((far_ hw237_2 GW169.out _).trans (((far_ hw237_2 GW169.out _).trans (((far_ hw237_2 GW169.out _).trans (((far_ hw237_2 GW169.out _).trans (((far_ hw237_2 GW169.out _).trans (hHeld.2.2.1)))))))))))), ((far_ hw237_3 GW169.out _).trans (((far_ hw237_3 GW169.out _).trans (((far_ hw237_3 GW169.out _).trans (((far_ hw237_3 GW169.out _).trans (((far_ hw237_3 GW169.out _).trans (((far_ hw237_3 GW169.out _).trans (hHeld.2.2.2.1)))))))))))), ((far_ hw237_4 GW169.out _).trans (((far_ hw237_4 GW169.out _).trans (((far_ hw237_4 GW169.out _).trans (((far_ hw237_4 GW169.out _).trans (((far_ hw237_4 GW169.out _).trans (((far_ hw237_4 GW169.out _).trans (hHeld.2.2.2.2.1)))))))))))), ((far_ hw237_5 GW169.out _).trans (((far_ hw237_5 GW169.out _).trans (((far_ hw237_5 GW169.out _).trans (((far_ hw237_5 GW169.out _).trans (((far_ hw237_5 GW169.out _).trans (((far_ hw237_5 GW169.out _).trans (hHeld.2.2.2.2.2.1)))))))))))), ((far_ hw238_0 GW169.out _).trans (((far_ hw238_0 GW169.out _).trans (((far_ hw238_0 GW169.out _).trans (((far_ hw238_0 GW169.out _).trans (((far_ hw238_0 GW169.out _).trans (((far_ hw238_0 GW169.out _).trans (hHeld.2.2.2.2.2.2.1)))))))))))), ((far_ hw238_1 GW169.out _).trans (((far_ hw238_1 GW169.out _).trans (((far_ hw238_1 GW169.out _).trans (((far_ hw238_1 GW169.out _).trans (((far_ hw238_1 GW169.out _).trans (((far_ hw238_1 GW169.out _).trans (hHeld.2.2.2.2.2.2.2.1)))))))))))), ((far_ hw238_2 GW169.out _).trans (((far_ hw238_2 GW169.out _).trans (((far_ hw238_2 GW169.out _).trans (((far_ hw238_2 GW169.out _).trans (((far_ hw238_2 GW169.out _).trans (((far_ hw238_2 GW169.out _).trans (hHeld.2.2.2.2.2.2.2.2.1)))))))))))), ((far_ hw238_3 GW169.out _).trans (((far_ hw238_3 GW169.out _).trans (((far_ hw238_3 GW169.out _).trans (((far_ hw238_3 GW169.out _).trans (((far_ hw238_3 GW169.out _).trans (((far_ hw238_3 GW169.out _).trans (hHeld.2.2.2.2.2.2.2.2.2.1)))))))))))), ((far_ hw238_4 GW169.out _).trans (((far_ hw238_4 GW169.out _).trans (((far_ hw238_4 GW169.out _).trans (((far_ hw238_4 GW169.out _).trans (((far_ hw238_4 GW169.out _).trans (((far_ hw238_4 GW169.out _).trans (hHeld.2.2.2.2.2.2.2.2.2.2.1)))))))))))), ((far_ hw238_5 GW169.out _).trans (((far_ hw238_5 GW169.out _).trans (((far_ hw238_5 GW169.out _).trans (((far_ hw238_5 GW169.out _).trans (((far_ hw238_5 GW169.out _).trans (((far_ hw238_5 GW169.out _).trans (hHeld.2.2.2.2.2.2.2.2.2.2.2))))))))))))⟩ (fun hHeld => ?_)
                clear hK K
                refine pu_ 12 (some 7) #[true, true, true, true, true, true, true, true, true, true, true, true, true] (any_of HT_.out (by kernel_rfl)) ?_
                refine done_ (done_of HT_.out (by kernel_rfl)) ?_
                try go_wp2
                refine bodyPost_ret (results_ct rfl _ _ gb169 28 #[.int .i64 t239, .bool t240, .int .i64 t241, .bool t242, .string t243, .slice Ao91 t244.length co91] (0, 0) _ rfl (bp_ BK169.out) Tryz.underlying28 rfl (by kernel_rfl)) rfl ?_
                exact ⟨_, er_, rm_ (Kd.R_types HO246.out BK169.out (by decide)) (fun _ hk => hk.2), hb2_ GE168.out GE169.out⟩
               ·rw [if_neg c82] at H
                exact absurd H (by simp)
              ·rw [if_neg c81] at H
               have c81b0 := beq_eq_false_iff_ne.mpr c81
               have c81b1 := bne_iff_ne.mpr c81
               by_cases c93 : a0.toList = ([115, 117, 109] : List UInt8)
               ·rw [if_pos c93] at H
                have c93b0 := beq_iff_eq.mpr c93
                have c93b1 := bne_eq_false_iff_eq.mpr c93
                clear c93
                by_cases c94 : 0 < (l2.length : Int)
                ·rw [if_pos c94] at H
                 have c94b0 : decide (0 < (l2.length : Int)) = true := decide_eq_true c94
                 have c94b1 : decide (0 < l2.length) = true := decide_eq_true (by omega)
                 clear c94
                 replace H := Option.bind_eq_some_iff.mp H
                 obtain ⟨⟨t248, t249, t250, t251, t252, t253⟩, A950, H⟩ := H
                 replace H : (some (t248, t249, t250, t251, t252, t253, 0)) = some (r1, r2, r3, r4, r5, r6, r7) := H
                 have A95 := Aside0.mk A950
                 clear A950
                 simp only [Option.some.injEq, Prod.mk.injEq] at H
                 obtain ⟨rfl, rfl, rfl, rfl, rfl, rfl, rfl⟩ := H
                 have p247 : 0 ≤ (0 : Int) := (by omega)
                 have q247 : 0 < (l2.length : Int) := of_decide_eq_true (by first | (with_reducible assumption) | assumption)
                 obtain ⟨ad247, A247_5, c247_5, e247, hx247_0, hx247_1, hx247_2, hx247_3, hx247_4, hx247_5, hl247_5, hi247_5⟩ := at_T28 HR2.out 0 p247 q247
                 cases e247
                 have qi247 : (0 < l2.length) = True := eq_true (by omega)
                 (try rw [show ((0 : Int)).toNat = 0 from rfl] at hx247_0)
                 (try rw [show 0 * 6 = 0 from rfl] at hx247_0)
                 (try rw [Addr.add_zero'] at hx247_0)
                 (try rw [show ((0 : Int)).toNat = 0 from rfl] at hx247_1)
                 (try rw [show 0 * 6 = 0 from rfl] at hx247_1)
                 (try rw [Addr.add_zero'] at hx247_1)
                 (try rw [show ((0 : Int)).toNat = 0 from rfl] at hx247_2)
                 (try rw [show 0 * 6 = 0 from rfl] at hx247_2)
                 (try rw [Addr.add_zero'] at hx247_2)
                 (try rw [show ((0 : Int)).toNat = 0 from rfl] at hx247_3)
                 (try rw [show 0 * 6 = 0 from rfl] at hx247_3)
                 (try rw [Addr.add_zero'] at hx247_3)
                 (try rw [show ((0 : Int)).toNat = 0 from rfl] at hx247_4)
                 (try rw [show 0 * 6 = 0 from rfl] at hx247_4)
                 (try rw [Addr.add_zero'] at hx247_4)
                 (try rw [show ((0 : Int)).toNat = 0 from rfl] at hx247_5)
                 (try rw [show 0 * 6 = 0 from rfl] at hx247_5)
                 (try rw [Addr.add_zero'] at hx247_5)
                 replace hx247_0 := hc_ HB.out hx247_0
                 replace hx247_1 := hc_ HB.out hx247_1
                 replace hx247_2 := hc_ HB.out hx247_2
                 replace hx247_3 := hc_ HB.out hx247_3
                 replace hx247_4 := hc_ HB.out hx247_4
                 replace hx247_5 := hc_ HB.out hx247_5
                 have HR247_5 := Aside0.mk hi247_5
                 have HC247_5 := Aside0.mk hl247_5
                 clear hi247_5 hl247_5
                 replace p247 := eq_true p247
                 replace q247 := eq_true q247
                 go_wp2_with (first | ((with_reducible refine gate_callee (f := 29) rfl ?_); refine goesL_ (some 96) rfl rfl Tryz.func29 (by kernel_rfl) rfl #[.agg #[.int .i64 ((rd_T28 l2 0).f0), .bool ((rd_T28 l2 0).f1), .int .i64 ((rd_T28 l2 0).f2), .bool ((rd_T28 l2 0).f3), .string ((rd_T28 l2 0).f4), .slice A247_5 ((rd_T28 l2 0).f5).length c247_5]] rfl rf_ ?_; (with_reducible refine (value_sum.calls kj24 ((rd_T28 l2 0).f0) ((rd_T28 l2 0).f1) ((rd_T28 l2 0).f2) ((rd_T28 l2 0).f3) ((rd_T28 l2 0).f4) _ _ ((rd_T28 l2 0).f5) t248 t249 t250 t251 t252 t253 _ ?side1 ?side2 A95.out).mono ?_); (case side1 => exact sc_ (Kd.C_below HR247_5.out HB.out)); (case side2 => exact HC247_5.out); rintro e w96 ⟨v254, rfl, ho0, hb⟩; refine ⟨_, rfl, ?_⟩; have HO255 := Aside0.mk (Kd.R_lower ho0 (below_size (hb2_ GE168.out GE169.out))); replace BK168 := Aside0.mk (blk_below (g := gb168) (o := .cells #[.int .i64 a1_0, .int .i64 a1_1, .string a1_2, .string a1_3, .slice A1_4 l1_4.length c1_4] 24 (0, 0)) (bk_ BK168.out) hb); replace BK169 := Aside0.mk (blk_below (g := gb169) (o := .cells #[.int .i64 x170000_1, .bool x170001_1, .int .i64 x170002_1, .bool x170003_1, .string x170004_1, .slice none 0 0] 28 (0, 0)) (bk_ BK169.out) hb); replace HB := Aside0.mk (below_step (hb2_ GE168.out GE169.out) hb); (try clear hb); (try clear hb2); (try clear hk); (try clear hi); (try clear ho0); have hnb97 := NB169_168.out; have hnc97 := NB168_169.out; obtain ⟨hcz98_0, hcz98_1, hcz98_2, hcz98_3, hcz98_4, hcz98_5⟩ := ce6_ BK169.out; obtain ⟨hfz98_0, hfz98_1, hfz98_2, hfz98_3, hfz98_4, hfz98_5⟩ := fr6_ BK169.out; obtain ⟨Ao99, co99, eo99⟩ := Kd.R_slice HO255.out; subst eo99))
                 refine bodyPost_ret (results_ct rfl _ _ gb169 28 #[.int .i64 t248, .bool t249, .int .i64 t250, .bool t251, .string t252, .slice Ao99 t253.length co99] (0, 0) _ rfl (bp_ BK169.out) Tryz.underlying28 rfl (by kernel_rfl)) rfl ?_
                 exact ⟨_, er_, rm_ (Kd.R_types HO255.out BK169.out (by decide)) (fun _ hk => hk.2), hb2_ GE168.out GE169.out⟩
                ·rw [if_neg c94] at H
                 exact absurd H (by simp)
               ·rw [if_neg c93] at H
                have c93b0 := beq_eq_false_iff_ne.mpr c93
                have c93b1 := bne_iff_ne.mpr c93
                by_cases c100 : a0.toList = ([108, 101, 110, 103, 116, 104] : List UInt8)
                ·rw [if_pos c100] at H
                 have c100b0 := beq_iff_eq.mpr c100
                 have c100b1 := bne_eq_false_iff_eq.mpr c100
                 clear c100
                 by_cases c101 : 0 < (l2.length : Int)
                 ·rw [if_pos c101] at H
                  have c101b0 : decide (0 < (l2.length : Int)) = true := decide_eq_true c101
                  have c101b1 : decide (0 < l2.length) = true := decide_eq_true (by omega)
                  clear c101
                  replace H := Option.bind_eq_some_iff.mp H
                  obtain ⟨t257, A1020, H⟩ := H
                  replace H : ((chars_Len.f kj24 t257).bind fun bt258 => ((value_numbered.f bt258.1 true).bind fun bt260 => (some (bt260.1, bt260.2.1, bt260.2.2.1, bt260.2.2.2.1, bt260.2.2.2.2.1, bt260.2.2.2.2.2, 0)))) = some (r1, r2, r3, r4, r5, r6, r7) := H
                  have A102 := Aside0.mk A1020
                  clear A1020
                  replace H := Option.bind_eq_some_iff.mp H
                  obtain ⟨⟨t258, t259⟩, A1030, H⟩ := H
                  replace H : ((value_numbered.f t258 true).bind fun bt260 => (some (bt260.1, bt260.2.1, bt260.2.2.1, bt260.2.2.2.1, bt260.2.2.2.2.1, bt260.2.2.2.2.2, 0))) = some (r1, r2, r3, r4, r5, r6, r7) := H
                  have A103 := Aside0.mk A1030
                  clear A1030
                  replace H := Option.bind_eq_some_iff.mp H
                  obtain ⟨⟨t260, t261, t262, t263, t264, t265⟩, A1040, H⟩ := H
                  replace H : (some (t260, t261, t262, t263, t264, t265, 0)) = some (r1, r2, r3, r4, r5, r6, r7) := H
                  have A104 := Aside0.mk A1040
                  clear A1040
                  simp only [Option.some.injEq, Prod.mk.injEq] at H
                  obtain ⟨rfl, rfl, rfl, rfl, rfl, rfl, rfl⟩ := H
                  have p256 : 0 ≤ (0 : Int) := (by omega)
                  have q256 : 0 < (l2.length : Int) := of_decide_eq_true (by first | (with_reducible assumption) | assumption)
                  obtain ⟨ad256, A256_5, c256_5, e256, hx256_0, hx256_1, hx256_2, hx256_3, hx256_4, hx256_5, hl256_5, hi256_5⟩ := at_T28 HR2.out 0 p256 q256
                  cases e256
                  have qi256 : (0 < l2.length) = True := eq_true (by omega)
                  (try rw [show ((0 : Int)).toNat = 0 from rfl] at hx256_0)
                  (try rw [show 0 * 6 = 0 from rfl] at hx256_0)
                  (try rw [Addr.add_zero'] at hx256_0)
                  (try rw [show ((0 : Int)).toNat = 0 from rfl] at hx256_1)
                  (try rw [show 0 * 6 = 0 from rfl] at hx256_1)
                  (try rw [Addr.add_zero'] at hx256_1)
                  (try rw [show ((0 : Int)).toNat = 0 from rfl] at hx256_2)
                  (try rw [show 0 * 6 = 0 from rfl] at hx256_2)
                  (try rw [Addr.add_zero'] at hx256_2)
                  (try rw [show ((0 : Int)).toNat = 0 from rfl] at hx256_3)
                  (try rw [show 0 * 6 = 0 from rfl] at hx256_3)
                  (try rw [Addr.add_zero'] at hx256_3)
                  (try rw [show ((0 : Int)).toNat = 0 from rfl] at hx256_4)
                  (try rw [show 0 * 6 = 0 from rfl] at hx256_4)
                  (try rw [Addr.add_zero'] at hx256_4)
                  (try rw [show ((0 : Int)).toNat = 0 from rfl] at hx256_5)
                  (try rw [show 0 * 6 = 0 from rfl] at hx256_5)
                  (try rw [Addr.add_zero'] at hx256_5)
                  replace hx256_0 := hc_ HB.out hx256_0
                  replace hx256_1 := hc_ HB.out hx256_1
                  replace hx256_2 := hc_ HB.out hx256_2
                  replace hx256_3 := hc_ HB.out hx256_3
                  replace hx256_4 := hc_ HB.out hx256_4
                  replace hx256_5 := hc_ HB.out hx256_5
                  have HR256_5 := Aside0.mk hi256_5
                  have HC256_5 := Aside0.mk hl256_5
                  clear hi256_5 hl256_5
                  replace p256 := eq_true p256
                  replace q256 := eq_true q256
                  go_wp2_with (first | ((with_reducible refine gate_callee (f := 27) rfl ?_); refine goesL_ (some 103) rfl rfl Tryz.func27 (by kernel_rfl) rfl #[.agg #[.int .i64 ((rd_T28 l2 0).f0), .bool ((rd_T28 l2 0).f1), .int .i64 ((rd_T28 l2 0).f2), .bool ((rd_T28 l2 0).f3), .string ((rd_T28 l2 0).f4), .slice A256_5 ((rd_T28 l2 0).f5).length c256_5]] rfl rf_ ?_; (with_reducible refine (value_asText.calls ((rd_T28 l2 0).f0) ((rd_T28 l2 0).f1) ((rd_T28 l2 0).f2) ((rd_T28 l2 0).f3) ((rd_T28 l2 0).f4) _ _ ((rd_T28 l2 0).f5) t257 _ ?side1 ?side2 A102.out).mono ?_); (case side1 => exact sc_ (Kd.C_below HR256_5.out HB.out)); (case side2 => exact HC256_5.out); rintro e w105 ⟨rfl, hb⟩; refine ⟨_, rfl, ?_⟩; replace BK168 := Aside0.mk (blk_below (g := gb168) (o := .cells #[.int .i64 a1_0, .int .i64 a1_1, .string a1_2, .string a1_3, .slice A1_4 l1_4.length c1_4] 24 (0, 0)) (bk_ BK168.out) hb); replace BK169 := Aside0.mk (blk_below (g := gb169) (o := .cells #[.int .i64 x170000_1, .bool x170001_1, .int .i64 x170002_1, .bool x170003_1, .string x170004_1, .slice none 0 0] 28 (0, 0)) (bk_ BK169.out) hb); replace HB := Aside0.mk (below_step (hb2_ GE168.out GE169.out) hb); (try clear hb); (try clear hb2); (try clear hk); (try clear hi)) | ((with_reducible refine gate_callee (f := 30) rfl ?_); refine goesL_ (some 104) rfl rfl Tryz.func30 (by kernel_rfl) rfl #[.string t257] rfl rf_ ?_; (with_reducible refine (chars_Len.calls kj24 t257 t258 t259 _ A103.out).mono ?_); rintro e w106 ⟨rfl, hb⟩; refine ⟨_, rfl, ?_⟩; replace BK168 := Aside0.mk (blk_below (g := gb168) (o := .cells #[.int .i64 a1_0, .int .i64 a1_1, .string a1_2, .string a1_3, .slice A1_4 l1_4.length c1_4] 24 (0, 0)) (bk_ BK168.out) hb); replace BK169 := Aside0.mk (blk_below (g := gb169) (o := .cells #[.int .i64 x170000_1, .bool x170001_1, .int .i64 x170002_1, .bool x170003_1, .string x170004_1, .slice none 0 0] 28 (0, 0)) (bk_ BK169.out) hb); replace HB := Aside0.mk (below_step (hb2_ GE168.out GE169.out) hb); (try clear hb); (try clear hb2); (try clear hk); (try clear hi)) | ((with_reducible refine gate_callee (f := 24) rfl ?_); refine goesL_ (some 108) rfl rfl Tryz.func24 (by kernel_rfl) rfl #[.int .i64 t258, .bool true] rfl rf_ ?_; (with_reducible refine (value_numbered.calls t258 true t260 t261 t262 t263 t264 t265 _ A104.out).mono ?_); rintro e w107 ⟨v266, rfl, ho0, hb⟩; refine ⟨_, rfl, ?_⟩; have HO267 := Aside0.mk (Kd.R_lower ho0 (below_size (hb2_ GE168.out GE169.out))); replace BK168 := Aside0.mk (blk_below (g := gb168) (o := .cells #[.int .i64 a1_0, .int .i64 a1_1, .string a1_2, .string a1_3, .slice A1_4 l1_4.length c1_4] 24 (0, 0)) (bk_ BK168.out) hb); replace BK169 := Aside0.mk (blk_below (g := gb169) (o := .cells #[.int .i64 x170000_1, .bool x170001_1, .int .i64 x170002_1, .bool x170003_1, .string x170004_1, .slice none 0 0] 28 (0, 0)) (bk_ BK169.out) hb); replace HB := Aside0.mk (below_step (hb2_ GE168.out GE169.out) hb); (try clear hb); (try clear hb2); (try clear hk); (try clear hi); (try clear ho0); have hnb108 := NB169_168.out; have hnc108 := NB168_169.out; obtain ⟨hcz109_0, hcz109_1, hcz109_2, hcz109_3, hcz109_4, hcz109_5⟩ := ce6_ BK169.out; obtain ⟨hfz109_0, hfz109_1, hfz109_2, hfz109_3, hfz109_4, hfz109_5⟩ := fr6_ BK169.out; obtain ⟨Ao110, co110, eo110⟩ := Kd.R_slice HO267.out; subst eo110))
                  refine bodyPost_ret (results_ct rfl _ _ gb169 28 #[.int .i64 t260, .bool t261, .int .i64 t262, .bool t263, .string t264, .slice Ao110 t265.length co110] (0, 0) _ rfl (bp_ BK169.out) Tryz.underlying28 rfl (by kernel_rfl)) rfl ?_
                  exact ⟨_, er_, rm_ (Kd.R_types HO267.out BK169.out (by decide)) (fun _ hk => hk.2), hb2_ GE168.out GE169.out⟩
                 ·rw [if_neg c101] at H
                  exact absurd H (by simp)
                ·rw [if_neg c100] at H
                 have c100b0 := beq_eq_false_iff_ne.mpr c100
                 have c100b1 := bne_iff_ne.mpr c100
                 by_cases c111 : a0.toList = ([99, 111, 110, 116, 97, 105, 110, 115] : List UInt8)
                 ·rw [if_pos c111] at H
                  have c111b0 := beq_iff_eq.mpr c111
                  have c111b1 := bne_eq_false_iff_eq.mpr c111
                  clear c111
                  by_cases c112 : 0 < (l2.length : Int)
                  ·rw [if_pos c112] at H
                   have c112b0 : decide (0 < (l2.length : Int)) = true := decide_eq_true c112
                   have c112b1 : decide (0 < l2.length) = true := decide_eq_true (by omega)
                   clear c112
                   replace H := Option.bind_eq_some_iff.mp H
                   obtain ⟨t269, A1130, H⟩ := H
                   replace H : (if 1 < (l2.length : Int) then ((value_asText.f ((rd_T28 l2 1).f0) ((rd_T28 l2 1).f1) ((rd_T28 l2 1).f2) ((rd_T28 l2 1).f3) ((rd_T28 l2 1).f4) ((rd_T28 l2 1).f5)).bind fun t271 => ((strings_Contains.f t269 t271).bind fun t272 => ((value_truth.f t272).bind fun bt273 => (some (bt273.1, bt273.2.1, bt273.2.2.1, bt273.2.2.2.1, bt273.2.2.2.2.1, bt273.2.2.2.2.2, 0))))) else (none)) = some (r1, r2, r3, r4, r5, r6, r7) := H
                   have A113 := Aside0.mk A1130
                   clear A1130
                   by_cases c114 : 1 < (l2.length : Int)
                   ·rw [if_pos c114] at H
                    have c114b0 : decide (1 < (l2.length : Int)) = true := decide_eq_true c114
                    have c114b1 : decide (1 < l2.length) = true := decide_eq_true (by omega)
                    clear c114
                    replace H := Option.bind_eq_some_iff.mp H
                    obtain ⟨t271, A1150, H⟩ := H
                    replace H : ((strings_Contains.f t269 t271).bind fun t272 => ((value_truth.f t272).bind fun bt273 => (some (bt273.1, bt273.2.1, bt273.2.2.1, bt273.2.2.2.1, bt273.2.2.2.2.1, bt273.2.2.2.2.2, 0)))) = some (r1, r2, r3, r4, r5, r6, r7) := H
                    have A115 := Aside0.mk A1150
                    clear A1150
                    replace H := Option.bind_eq_some_iff.mp H
                    obtain ⟨t272, A1160, H⟩ := H
                    replace H : ((value_truth.f t272).bind fun bt273 => (some (bt273.1, bt273.2.1, bt273.2.2.1, bt273.2.2.2.1, bt273.2.2.2.2.1, bt273.2.2.2.2.2, 0))) = some (r1, r2, r3, r4, r5, r6, r7) := H
                    have A116 := Aside0.mk A1160
                    clear A1160
                    replace H := Option.bind_eq_some_iff.mp H
                    obtain ⟨⟨t273, t274, t275, t276, t277, t278⟩, A1170, H⟩ := H
                    replace H : (some (t273, t274, t275, t276, t277, t278, 0)) = some (r1, r2, r3, r4, r5, r6, r7) := H
                    have A117 := Aside0.mk A1170
                    clear A1170
                    simp only [Option.some.injEq, Prod.mk.injEq] at H
                    obtain ⟨rfl, rfl, rfl, rfl, rfl, rfl, rfl⟩ := H
                    try go_wp2
                    replace BK168 := Aside0.mk (blk_drew BK168.out)
                    replace BK169 := Aside0.mk (blk_drew BK169.out)
                    replace HB := Aside0.mk (below_drew1 HB.out)
                    have p268 : 0 ≤ (0 : Int) := (by omega)
                    have q268 : 0 < (l2.length : Int) := of_decide_eq_true (by first | (with_reducible assumption) | assumption)
                    obtain ⟨ad268, A268_5, c268_5, e268, hx268_0, hx268_1, hx268_2, hx268_3, hx268_4, hx268_5, hl268_5, hi268_5⟩ := at_T28 HR2.out 0 p268 q268
                    have hw268_5 := hx268_5
                    (try rw [show ((0 : Int)).toNat = 0 from rfl] at hw268_5)
                    (try rw [show 0 * 6 = 0 from rfl] at hw268_5)
                    (try rw [Addr.add_zero'] at hw268_5)
                    have hw268_4 := hx268_4
                    (try rw [show ((0 : Int)).toNat = 0 from rfl] at hw268_4)
                    (try rw [show 0 * 6 = 0 from rfl] at hw268_4)
                    (try rw [Addr.add_zero'] at hw268_4)
                    have hw268_3 := hx268_3
                    (try rw [show ((0 : Int)).toNat = 0 from rfl] at hw268_3)
                    (try rw [show 0 * 6 = 0 from rfl] at hw268_3)
                    (try rw [Addr.add_zero'] at hw268_3)
                    have hw268_2 := hx268_2
                    (try rw [show ((0 : Int)).toNat = 0 from rfl] at hw268_2)
                    (try rw [show 0 * 6 = 0 from rfl] at hw268_2)
                    (try rw [Addr.add_zero'] at hw268_2)
                    have hw268_1 := hx268_1
                    (try rw [show ((0 : Int)).toNat = 0 from rfl] at hw268_1)
                    (try rw [show 0 * 6 = 0 from rfl] at hw268_1)
                    (try rw [Addr.add_zero'] at hw268_1)
                    have hw268_0 := hx268_0
                    (try rw [show ((0 : Int)).toNat = 0 from rfl] at hw268_0)
                    (try rw [show 0 * 6 = 0 from rfl] at hw268_0)
                    (try rw [Addr.add_zero'] at hw268_0)
                    cases e268
                    have qi268 : (0 < l2.length) = True := eq_true (by omega)
                    (try rw [show ((0 : Int)).toNat = 0 from rfl] at hx268_0)
                    (try rw [show 0 * 6 = 0 from rfl] at hx268_0)
                    (try rw [Addr.add_zero'] at hx268_0)
                    (try rw [show ((0 : Int)).toNat = 0 from rfl] at hx268_1)
                    (try rw [show 0 * 6 = 0 from rfl] at hx268_1)
                    (try rw [Addr.add_zero'] at hx268_1)
                    (try rw [show ((0 : Int)).toNat = 0 from rfl] at hx268_2)
                    (try rw [show 0 * 6 = 0 from rfl] at hx268_2)
                    (try rw [Addr.add_zero'] at hx268_2)
                    (try rw [show ((0 : Int)).toNat = 0 from rfl] at hx268_3)
                    (try rw [show 0 * 6 = 0 from rfl] at hx268_3)
                    (try rw [Addr.add_zero'] at hx268_3)
                    (try rw [show ((0 : Int)).toNat = 0 from rfl] at hx268_4)
                    (try rw [show 0 * 6 = 0 from rfl] at hx268_4)
                    (try rw [Addr.add_zero'] at hx268_4)
                    (try rw [show ((0 : Int)).toNat = 0 from rfl] at hx268_5)
                    (try rw [show 0 * 6 = 0 from rfl] at hx268_5)
                    (try rw [Addr.add_zero'] at hx268_5)
                    replace hx268_0 := hc_ HB.out hx268_0
                    replace hx268_1 := hc_ HB.out hx268_1
                    replace hx268_2 := hc_ HB.out hx268_2
                    replace hx268_3 := hc_ HB.out hx268_3
                    replace hx268_4 := hc_ HB.out hx268_4
                    replace hx268_5 := hc_ HB.out hx268_5
                    have HR268_5 := Aside0.mk hi268_5
                    have HC268_5 := Aside0.mk hl268_5
                    clear hi268_5 hl268_5
                    replace p268 := eq_true p268
                    replace q268 := eq_true q268
                    have p270 : 0 ≤ (1 : Int) := (by omega)
                    have q270 : 1 < (l2.length : Int) := of_decide_eq_true (by first | (with_reducible assumption) | assumption)
                    obtain ⟨ad270, A270_5, c270_5, e270, hx270_0, hx270_1, hx270_2, hx270_3, hx270_4, hx270_5, hl270_5, hi270_5⟩ := at_T28 HR2.out 1 p270 q270
                    have hw270_5 := hx270_5
                    (try rw [show ((1 : Int)).toNat = 1 from rfl] at hw270_5)
                    (try rw [show 1 * 6 = 6 from rfl] at hw270_5)
                    (try simp only [Nat.reduceMul, Nat.reduceEqDiff, Go.Addr.add, ↓reduceIte] at hw270_5)
                    have hw270_4 := hx270_4
                    (try rw [show ((1 : Int)).toNat = 1 from rfl] at hw270_4)
                    (try rw [show 1 * 6 = 6 from rfl] at hw270_4)
                    (try simp only [Nat.reduceMul, Nat.reduceEqDiff, Go.Addr.add, ↓reduceIte] at hw270_4)
                    have hw270_3 := hx270_3
                    (try rw [show ((1 : Int)).toNat = 1 from rfl] at hw270_3)
                    (try rw [show 1 * 6 = 6 from rfl] at hw270_3)
                    (try simp only [Nat.reduceMul, Nat.reduceEqDiff, Go.Addr.add, ↓reduceIte] at hw270_3)
                    have hw270_2 := hx270_2
                    (try rw [show ((1 : Int)).toNat = 1 from rfl] at hw270_2)
                    (try rw [show 1 * 6 = 6 from rfl] at hw270_2)
                    (try simp only [Nat.reduceMul, Nat.reduceEqDiff, Go.Addr.add, ↓reduceIte] at hw270_2)
                    have hw270_1 := hx270_1
                    (try rw [show ((1 : Int)).toNat = 1 from rfl] at hw270_1)
                    (try rw [show 1 * 6 = 6 from rfl] at hw270_1)
                    (try simp only [Nat.reduceMul, Nat.reduceEqDiff, Go.Addr.add, ↓reduceIte] at hw270_1)
                    have hw270_0 := hx270_0
                    (try rw [show ((1 : Int)).toNat = 1 from rfl] at hw270_0)
                    (try rw [show 1 * 6 = 6 from rfl] at hw270_0)
                    (try simp only [Nat.reduceMul, Nat.reduceEqDiff, Go.Addr.add, ↓reduceIte] at hw270_0)
                    obtain rfl : ad268 = ad270 := (by injection e270)
                    (try simp only [show (1 : Int).toNat = 1 from rfl, Nat.reduceMul, Nat.reduceEqDiff, Go.Addr.add, ↓reduceIte] at hx270_0)
                    (try simp only [show (1 : Int).toNat = 1 from rfl, Nat.reduceMul, Nat.reduceEqDiff, Go.Addr.add, ↓reduceIte] at hx270_1)
                    (try simp only [show (1 : Int).toNat = 1 from rfl, Nat.reduceMul, Nat.reduceEqDiff, Go.Addr.add, ↓reduceIte] at hx270_2)
                    (try simp only [show (1 : Int).toNat = 1 from rfl, Nat.reduceMul, Nat.reduceEqDiff, Go.Addr.add, ↓reduceIte] at hx270_3)
                    (try simp only [show (1 : Int).toNat = 1 from rfl, Nat.reduceMul, Nat.reduceEqDiff, Go.Addr.add, ↓reduceIte] at hx270_4)
                    (try simp only [show (1 : Int).toNat = 1 from rfl, Nat.reduceMul, Nat.reduceEqDiff, Go.Addr.add, ↓reduceIte] at hx270_5)
                    have qi270 : (1 < l2.length) = True := eq_true (by omega)
                    (try rw [show ((1 : Int)).toNat = 1 from rfl] at hx270_0)
                    (try rw [show 1 * 6 = 6 from rfl] at hx270_0)
                    (try rw [show ((1 : Int)).toNat = 1 from rfl] at hx270_1)
                    (try rw [show 1 * 6 = 6 from rfl] at hx270_1)
                    (try rw [show ((1 : Int)).toNat = 1 from rfl] at hx270_2)
                    (try rw [show 1 * 6 = 6 from rfl] at hx270_2)
                    (try rw [show ((1 : Int)).toNat = 1 from rfl] at hx270_3)
                    (try rw [show 1 * 6 = 6 from rfl] at hx270_3)
                    (try rw [show ((1 : Int)).toNat = 1 from rfl] at hx270_4)
                    (try rw [show 1 * 6 = 6 from rfl] at hx270_4)
                    (try rw [show ((1 : Int)).toNat = 1 from rfl] at hx270_5)
                    (try rw [show 1 * 6 = 6 from rfl] at hx270_5)
                    replace hx270_0 := hc_ HB.out hx270_0
                    replace hx270_1 := hc_ HB.out hx270_1
                    replace hx270_2 := hc_ HB.out hx270_2
                    replace hx270_3 := hc_ HB.out hx270_3
                    replace hx270_4 := hc_ HB.out hx270_4
                    replace hx270_5 := hc_ HB.out hx270_5
                    have HR270_5 := Aside0.mk hi270_5
                    have HC270_5 := Aside0.mk hl270_5
                    clear hi270_5 hl270_5
                    replace p270 := eq_true p270
                    replace q270 := eq_true q270
                    refine start_ (n := 12) (S := fun w' => w'.cell? ad268 = some (.int .i64 ((rd_T28 l2 0).f0)) ∧ w'.cell? ⟨ad268.block, ad268.off + 1, none⟩ = some (.bool ((rd_T28 l2 0).f1)) ∧ w'.cell? ⟨ad268.block, ad268.off + 2, none⟩ = some (.int .i64 ((rd_T28 l2 0).f2)) ∧ w'.cell? ⟨ad268.block, ad268.off + 3, none⟩ = some (.bool ((rd_T28 l2 0).f3)) ∧ w'.cell? ⟨ad268.block, ad268.off + 4, none⟩ = some (.string ((rd_T28 l2 0).f4)) ∧ w'.cell? ⟨ad268.block, ad268.off + 5, none⟩ = some (.slice A268_5 ((rd_T28 l2 0).f5).length c268_5) ∧ w'.cell? ⟨ad268.block, ad268.off + 6, none⟩ = some (.int .i64 ((rd_T28 l2 1).f0)) ∧ w'.cell? ⟨ad268.block, ad268.off + 6 + 1, none⟩ = some (.bool ((rd_T28 l2 1).f1)) ∧ w'.cell? ⟨ad268.block, ad268.off + 6 + 2, none⟩ = some (.int .i64 ((rd_T28 l2 1).f2)) ∧ w'.cell? ⟨ad268.block, ad268.off + 6 + 3, none⟩ = some (.bool ((rd_T28 l2 1).f3)) ∧ w'.cell? ⟨ad268.block, ad268.off + 6 + 4, none⟩ = some (.string ((rd_T28 l2 1).f4)) ∧ w'.cell? ⟨ad268.block, ad268.off + 6 + 5, none⟩ = some (.slice A270_5 ((rd_T28 l2 1).f5).length c270_5)) (ds := []) #[false, false, false, false, false, false, false, false, false, false, false, false] (by kernel_rfl) rfl rfl ⟨(hc_ HB.out hw268_0), (hc_ HB.out hw268_1), (hc_ HB.out hw268_2), (hc_ HB.out hw268_3), (hc_ HB.out hw268_4), (hc_ HB.out hw268_5), (hc_ HB.out hw270_0), (hc_ HB.out hw270_1), (hc_ HB.out hw270_2), (hc_ HB.out hw270_3), (hc_ HB.out hw270_4), (hc_ HB.out hw270_5)⟩ (fun hHeld => ?_); refine with_tabW value_call.tab34 value_call.bits34 (fun HT_ HW_ => ?_)
                    generalize wc.drew = w118 at BK168 BK169 HB HR268_5 HR270_5 hx268_0 hx268_1 hx268_2 hx268_3 hx268_4 hx268_5 hx270_0 hx270_1 hx270_2 hx270_3 hx270_4 hx270_5 hHeld ⊢
                    refine pu_ 0 (some 111) #[true, false, false, false, false, false, false, false, false, false, false, false] (any_of HT_.out (by kernel_rfl)) ?_
                    refine pu_ 1 (some 112) #[true, true, false, false, false, false, false, false, false, false, false, false] (any_of HT_.out (by kernel_rfl)) ?_
                    refine pu_ 4 (some 115) #[true, true, false, false, true, false, false, false, false, false, false, false] (any_of HT_.out (by kernel_rfl)) ?_
                    refine pu_ 5 (some 116) #[true, true, false, false, true, true, false, false, false, false, false, false] (any_of HT_.out (by kernel_rfl)) ?_
                    refine take_ (i := 2) (N := some 113) (v := ?_) (a' := ?_) #[true, true, true, false, true, true, false, false, false, false, false, false] rfl rfl (take_ofW HT_.out HW_.out (by kernel_rfl)) (fun _ _ _ h => h) (Or.inl ⟨by rfl, ?_⟩) hHeld ?_ ?_
                    rotate_left
                    ·rintro w' ⟨s0, s1, s2, s3, s4, s5, s6, s7, s8, s9, s10, s11⟩
                     go_simp
                     with_reducible rfl
                    rotate_left
                    ·simp only [Act.put, List.setIfInBounds_toArray, List.set_cons_zero, List.set_cons_succ, i64_w, i32_w]
                     rfl
                    refine take_ (i := 6) (N := some 117) (v := ?_) (a' := ?_) #[true, true, true, false, true, true, true, false, false, false, false, false] rfl rfl (take_ofW HT_.out HW_.out (by kernel_rfl)) (fun _ _ _ h => h) (Or.inl ⟨by rfl, ?_⟩) hHeld ?_ ?_
                    rotate_left
                    ·rintro w' ⟨s0, s1, s2, s3, s4, s5, s6, s7, s8, s9, s10, s11⟩
                     go_simp
                     with_reducible rfl
                    rotate_left
                    ·simp only [Act.put, List.setIfInBounds_toArray, List.set_cons_zero, List.set_cons_succ, i64_w, i32_w]
                     rfl
                    refine one_ (i := 3) (N := some 114) #[true, true, true, true, true, true, true, false, false, false, false, false] rfl rfl (one_of HT_.out (by kernel_rfl)) (by decide) (fun K hK => ?_)
                    refine goes_ Tryz.func27 (by kernel_rfl) rfl #[.agg #[.int .i64 ((rd_T28 l2 0).f0), .bool ((rd_T28 l2 0).f1), .int .i64 ((rd_T28 l2 0).f2), .bool ((rd_T28 l2 0).f3), .string ((rd_T28 l2 0).f4), .slice A268_5 ((rd_T28 l2 0).f5).length c268_5]] (by rfl) rfl rfl rf_ ?_
                    with_reducible refine (value_asText.calls ((rd_T28 l2 0).f0) ((rd_T28 l2 0).f1) ((rd_T28 l2 0).f2) ((rd_T28 l2 0).f3) ((rd_T28 l2 0).f4) _ _ ((rd_T28 l2 0).f5) t269 _ ?side1 ?side2 A113.out).mono ?_
                    (case side1 => exact sc_ (Kd.C_below HR268_5.out HB.out))
                    (case side2 => exact HC268_5.out)
                    rintro e w119 ⟨rfl, hb⟩
                    refine ⟨_, rfl, ?_⟩
                    replace BK168 := Aside0.mk (blk_below (g := gb168) (o := .cells #[.int .i64 a1_0, .int .i64 a1_1, .string a1_2, .string a1_3, .slice A1_4 l1_4.length c1_4] 24 (0, 0)) (bk_ BK168.out) hb)
                    replace BK169 := Aside0.mk (blk_below (g := gb169) (o := .cells #[.int .i64 x170000_1, .bool x170001_1, .int .i64 x170002_1, .bool x170003_1, .string x170004_1, .slice none 0 0] 28 (0, 0)) (bk_ BK169.out) hb)
                    replace HB := Aside0.mk (below_step (hb2_ GE168.out GE169.out) hb)
                    (try clear hb)
                    (try clear hb2)
                    (try clear hk)
                    (try clear hi)
                    refine hK.out _ _ ⟨(hc_ HB.out hw268_0), (hc_ HB.out hw268_1), (hc_ HB.out hw268_2), (hc_ HB.out hw268_3), (hc_ HB.out hw268_4), (hc_ HB.out hw268_5), (hc_ HB.out hw270_0), (hc_ HB.out hw270_1), (hc_ HB.out hw270_2), (hc_ HB.out hw270_3), (hc_ HB.out hw270_4), (hc_ HB.out hw270_5)⟩ (fun hHeld => ?_)
                    clear hK K
                    refine norm_ (a' := ?_) ?_ ?_
                    rotate_left
                    ·show Act.put _ (some 114) _ = _
                     simp only [Act.put, List.setIfInBounds_toArray, List.set_cons_zero, List.set_cons_succ, i64_w, i32_w]
                     rfl
                    refine one_ (i := 7) (N := some 118) #[true, true, true, true, true, true, true, true, false, false, false, false] rfl rfl (one_of HT_.out (by kernel_rfl)) (by decide) (fun K hK => ?_)
                    refine goes_ Tryz.func27 (by kernel_rfl) rfl #[.agg #[.int .i64 ((rd_T28 l2 1).f0), .bool ((rd_T28 l2 1).f1), .int .i64 ((rd_T28 l2 1).f2), .bool ((rd_T28 l2 1).f3), .string ((rd_T28 l2 1).f4), .slice A270_5 ((rd_T28 l2 1).f5).length c270_5]] (by rfl) rfl rfl rf_ ?_
                    with_reducible refine (value_asText.calls ((rd_T28 l2 1).f0) ((rd_T28 l2 1).f1) ((rd_T28 l2 1).f2) ((rd_T28 l2 1).f3) ((rd_T28 l2 1).f4) _ _ ((rd_T28 l2 1).f5) t271 _ ?side1 ?side2 A115.out).mono ?_
                    (case side1 => exact sc_ (Kd.C_below HR270_5.out HB.out))
                    (case side2 => exact HC270_5.out)
                    rintro e w120 ⟨rfl, hb⟩
                    refine ⟨_, rfl, ?_⟩
                    replace BK168 := Aside0.mk (blk_below (g := gb168) (o := .cells #[.int .i64 a1_0, .int .i64 a1_1, .string a1_2, .string a1_3, .slice A1_4 l1_4.length c1_4] 24 (0, 0)) (bk_ BK168.out) hb)
                    replace BK169 := Aside0.mk (blk_below (g := gb169) (o := .cells #[.int .i64 x170000_1, .bool x170001_1, .int .i64 x170002_1, .bool x170003_1, .string x170004_1, .slice none 0 0] 28 (0, 0)) (bk_ BK169.out) hb)
                    replace HB := Aside0.mk (below_step (hb2_ GE168.out GE169.out) hb)
                    (try clear hb)
                    (try clear hb2)
                    (try clear hk)
                    (try clear hi)
                    refine hK.out _ _ ⟨(hc_ HB.out hw268_0), (hc_ HB.out hw268_1), (hc_ HB.out hw268_2), (hc_ HB.out hw268_3), (hc_ HB.out hw268_4), (hc_ HB.out hw268_5), (hc_ HB.out hw270_0), (hc_ HB.out hw270_1), (hc_ HB.out hw270_2), (hc_ HB.out hw270_3), (hc_ HB.out hw270_4), (hc_ HB.out hw270_5)⟩ (fun hHeld => ?_)
                    clear hK K
                    refine norm_ (a' := ?_) ?_ ?_
                    rotate_left
                    ·show Act.put _ (some 118) _ = _
                     simp only [Act.put, List.setIfInBounds_toArray, List.set_cons_zero, List.set_cons_succ, i64_w, i32_w]
                     rfl
                    refine one_ (i := 8) (N := some 119) #[true, true, true, true, true, true, true, true, true, false, false, false] rfl rfl (one_of HT_.out (by kernel_rfl)) (by decide) (fun K hK => ?_)
                    refine goes_ Tryz.func31 (by kernel_rfl) rfl #[.string t269, .string t271] (by rfl) rfl rfl rf_ ?_
                    with_reducible refine (strings_Contains.calls t269 t271 t272 _ A116.out).mono ?_
                    rintro e w121 ⟨rfl, hb⟩
                    refine ⟨_, rfl, ?_⟩
                    replace BK168 := Aside0.mk (blk_below (g := gb168) (o := .cells #[.int .i64 a1_0, .int .i64 a1_1, .string a1_2, .string a1_3, .slice A1_4 l1_4.length c1_4] 24 (0, 0)) (bk_ BK168.out) hb)
                    replace BK169 := Aside0.mk (blk_below (g := gb169) (o := .cells #[.int .i64 x170000_1, .bool x170001_1, .int .i64 x170002_1, .bool x170003_1, .string x170004_1, .slice none 0 0] 28 (0, 0)) (bk_ BK169.out) hb)
                    replace HB := Aside0.mk (below_step (hb2_ GE168.out GE169.out) hb)
                    (try clear hb)
                    (try clear hb2)
                    (try clear hk)
                    (try clear hi)
                    refine hK.out _ _ ⟨(hc_ HB.out hw268_0), (hc_ HB.out hw268_1), (hc_ HB.out hw268_2), (hc_ HB.out hw268_3), (hc_ HB.out hw268_4), (hc_ HB.out hw268_5), (hc_ HB.out hw270_0), (hc_ HB.out hw270_1), (hc_ HB.out hw270_2), (hc_ HB.out hw270_3), (hc_ HB.out hw270_4), (hc_ HB.out hw270_5)⟩ (fun hHeld => ?_)
                    clear hK K
                    refine norm_ (a' := ?_) ?_ ?_
                    rotate_left
                    ·show Act.put _ (some 119) _ = _
                     simp only [Act.put, List.setIfInBounds_toArray, List.set_cons_zero, List.set_cons_succ, i64_w, i32_w]
                     rfl
                    refine one_ (i := 9) (N := some 120) #[true, true, true, true, true, true, true, true, true, true, false, false] rfl rfl (one_of HT_.out (by kernel_rfl)) (by decide) (fun K hK => ?_)
                    refine goes_ Tryz.func23 (by kernel_rfl) rfl #[.bool t272] (by rfl) rfl rfl rf_ ?_
                    with_reducible refine (value_truth.calls t272 t273 t274 t275 t276 t277 t278 _ A117.out).mono ?_
                    rintro e w122 ⟨v279, rfl, ho0, hb⟩
                    refine ⟨_, rfl, ?_⟩
                    have HO280 := Aside0.mk (Kd.R_lower ho0 (below_size (hb2_ GE168.out GE169.out)))
                    replace BK168 := Aside0.mk (blk_below (g := gb168) (o := .cells #[.int .i64 a1_0, .int .i64 a1_1, .string a1_2, .string a1_3, .slice A1_4 l1_4.length c1_4] 24 (0, 0)) (bk_ BK168.out) hb)
                    replace BK169 := Aside0.mk (blk_below (g := gb169) (o := .cells #[.int .i64 x170000_1, .bool x170001_1, .int .i64 x170002_1, .bool x170003_1, .string x170004_1, .slice none 0 0] 28 (0, 0)) (bk_ BK169.out) hb)
                    replace HB := Aside0.mk (below_step (hb2_ GE168.out GE169.out) hb)
                    (try clear hb)
                    (try clear hb2)
                    (try clear hk)
                    (try clear hi)
                    (try clear ho0)
                    obtain ⟨Ao128, co128, eo128⟩ := Kd.R_slice HO280.out
                    (first | subst eo128 | (injection eo128 with f1_ f2_ f3_; have f4_ := f1_.symm; have f5_ := f3_.symm; clear f1_ f2_ f3_; subst f4_; subst f5_))
                    refine hK.out _ _ ⟨(hc_ HB.out hw268_0), (hc_ HB.out hw268_1), (hc_ HB.out hw268_2), (hc_ HB.out hw268_3), (hc_ HB.out hw268_4), (hc_ HB.out hw268_5), (hc_ HB.out hw270_0), (hc_ HB.out hw270_1), (hc_ HB.out hw270_2), (hc_ HB.out hw270_3), (hc_ HB.out hw270_4), (hc_ HB.out hw270_5)⟩ (fun hHeld => ?_)
                    clear hK K
                    refine norm_ (a' := ?_) ?_ ?_
                    rotate_left
                    ·show Act.put _ (some 120) _ = _
                     simp only [Act.put, List.setIfInBounds_toArray, List.set_cons_zero, List.set_cons_succ, i64_w, i32_w]
                     rfl
                    refine one_ (i := 10) (N := none) #[true, true, true, true, true, true, true, true, true, true, true, false] rfl rfl (one_of HT_.out (by kernel_rfl)) (by decide) (fun K hK => ?_)
                    have hs123 : w122.cell? ⟨gb169, 0, none⟩ = some (.int .i64 x170000_1) := (blk_cell BK169.out 0).trans rfl
                    have hfs123 := blk_frozen BK169.out 0
                    have hns123_0 := NB168_169.out
                    have hms123_0 := NB169_168.out
                    have hs124 : w122.cell? ⟨gb169, 1, none⟩ = some (.bool x170001_1) := (blk_cell BK169.out 1).trans rfl
                    have hfs124 := blk_frozen BK169.out 1
                    have hns124_0 := NB168_169.out
                    have hms124_0 := NB169_168.out
                    have hs125 : w122.cell? ⟨gb169, 2, none⟩ = some (.int .i64 x170002_1) := (blk_cell BK169.out 2).trans rfl
                    have hfs125 := blk_frozen BK169.out 2
                    have hns125_0 := NB168_169.out
                    have hms125_0 := NB169_168.out
                    have hs126 : w122.cell? ⟨gb169, 3, none⟩ = some (.bool x170003_1) := (blk_cell BK169.out 3).trans rfl
                    have hfs126 := blk_frozen BK169.out 3
                    have hns126_0 := NB168_169.out
                    have hms126_0 := NB169_168.out
                    have hs127 : w122.cell? ⟨gb169, 4, none⟩ = some (.string x170004_1) := (blk_cell BK169.out 4).trans rfl
                    have hfs127 := blk_frozen BK169.out 4
                    have hns127_0 := NB168_169.out
                    have hms127_0 := NB169_168.out
                    have hs129 : w122.cell? ⟨gb169, 5, none⟩ = some (.slice none 0 0) := (blk_cell BK169.out 5).trans rfl
                    have hfs129 := blk_frozen BK169.out 5
                    have hns129_0 := NB168_169.out
                    have hms129_0 := NB169_168.out
                    refine skip_ (w1 := ?_) (by rfl) rfl ?_ ?_
                    rotate_left
                    ·go_simp
                     rfl
                    refine hK.out _ _ ⟨((far_ hw268_0 GW169.out _).trans (((far_ hw268_0 GW169.out _).trans (((far_ hw268_0 GW169.out _).trans (((far_ hw268_0 GW169.out _).trans (((far_ hw268_0 GW169.out _).trans (((far_ hw268_0 GW169.out _).trans (hHeld.1)))))))))))), ((far_ hw268_1 GW169.out _).trans (((far_ hw268_1 GW169.out _).trans (((far_ hw268_1 GW169.out _).trans (((far_ hw268_1 GW169.out _).trans (((far_ hw268_1 GW169.out _).trans (((far_ hw268_1 GW169.out _).trans (hHeld.2.1)))))))))))), ((far_ hw268_2 GW169.out _).trans (((far_ hw268_2 GW169.out _).trans (((far_ hw268_2 GW169.out _).trans (((far_ hw268_2 GW169.out _).trans (((far_ hw268_2 GW169.out _).trans (((far_ hw268_2 GW169.out _).trans (hHeld.2.2.1)))))))))))), ((far_ hw268_3 GW169.out _).trans (((far_ hw268_3 GW169.out _).trans (((far_ hw268_3 GW169.out _).trans (((far_ hw268_3 GW169.out _).trans (((far_ hw268_3 GW169.out _).trans (((far_ hw268_3 GW169.out _).trans (hHeld.2.2.2.1)))))))))))), ((far_ hw268_4 GW169.out _).trans (((far_ hw268_4 GW169.out _).trans (((far_ hw268_4 GW169.out _).trans (((far_ hw268_4 GW169.out _).trans (((far_ hw268_4 GW169.out _).trans (((far_ hw268_4 GW169.out _).trans (hHeld.2.2.2.2.1)))))))))))), ((far_ hw268_5 GW169.out _).trans (((far_ hw268_5 GW169.out _).trans (((far_ hw268_5 GW169.out _).trans (((far_ hw268_5 GW169.out _).trans (((far_ hw268_5 GW169.out _).trans (((far_ hw268_5 GW169.out _).trans (hHeld.2.2.2.2.2.1)))))))))))), ((far_ hw270_0 GW169.out _).trans (((far_ hw270_0 GW169.out _).trans (((far_ hw270_0 GW169.out _).trans (((far_ hw270_0 GW169.out _).trans (((far_ hw270_0 GW169.out _).trans (((far_ hw270_0 GW169.out _).trans (hHeld.2.2.2.2.2.2.1)))))))))))), ((far_ hw270_1 GW169.out _).trans (((far_ hw270_1 GW169.out _).trans (((far_ hw270_1 GW169.out _).trans (((far_ hw270_1 GW169.out _).trans (((far_ hw270_1 GW169.out _).trans (((far_ hw270_1 GW169.out _).trans (hHeld.2.2.2.2.2.2.2.1)))))))))))), ((far_ hw270_2 GW169.out _).trans (((far_ hw270_2 GW169.out _).trans (((far_ hw270_2 GW169.out _).trans (((far_ hw270_2 GW169.out _).trans (((far_ hw270_2 GW169.out _).trans (((far_ hw270_2 GW169.out _).trans (hHeld.2.2.2.2.2.2.2.2.1)))))))))))), ((far_ hw270_3 GW169.out _).trans (((far_ hw270_3 GW169.out _).trans (((far_ hw270_3 GW169.out _).trans (((far_ hw270_3 GW169.out _).trans (((far_ hw270_3 GW169.out _).trans (((far_ hw270_3 GW169.out _).trans (hHeld.2.2.2.2.2.2.2.2.2.1)))))))))))), ((far_ hw270_4 GW169.out _).trans (((far_ hw270_4 GW169.out _).trans (((far_ hw270_4 GW169.out _).trans (((far_ hw270_4 GW169.out _).trans (((far_ hw270_4 GW169.out _).trans (((far_ hw270_4 GW169.out _).trans (hHeld.2.2.2.2.2.2.2.2.2.2.1)))))))))))), ((far_ hw270_5 GW169.out _).trans (((far_ hw270_5 GW169.out _).trans (((far_ hw270_5 GW169.out _).trans (((far_ hw270_5 GW169.out _).trans (((far_ hw270_5 GW169.out _).trans (((far_ hw270_5 GW169.out _).trans (hHeld.2.2.2.2.2.2.2.2.2.2.2))))))))))))⟩ (fun hHeld => ?_)
                    clear hK K
                    refine pu_ 11 (some 7) #[true, true, true, true, true, true, true, true, true, true, true, true] (any_of HT_.out (by kernel_rfl)) ?_
                    refine done_ (done_of HT_.out (by kernel_rfl)) ?_
                    try go_wp2
                    refine bodyPost_ret (results_ct rfl _ _ gb169 28 #[.int .i64 t273, .bool t274, .int .i64 t275, .bool t276, .string t277, .slice Ao128 t278.length co128] (0, 0) _ rfl (bp_ BK169.out) Tryz.underlying28 rfl (by kernel_rfl)) rfl ?_
                    exact ⟨_, er_, rm_ (Kd.R_types HO280.out BK169.out (by decide)) (fun _ hk => hk.2), hb2_ GE168.out GE169.out⟩
                   ·rw [if_neg c114] at H
                    exact absurd H (by simp)
                  ·rw [if_neg c112] at H
                   exact absurd H (by simp)
                 ·rw [if_neg c111] at H
                  have c111b0 := beq_eq_false_iff_ne.mpr c111
                  have c111b1 := bne_iff_ne.mpr c111
                  by_cases c130 : 0 < (l2.length : Int)
                  ·rw [if_pos c130] at H
                   have c130b0 : decide (0 < (l2.length : Int)) = true := decide_eq_true c130
                   have c130b1 : decide (0 < l2.length) = true := decide_eq_true (by omega)
                   clear c130
                   replace H := Option.bind_eq_some_iff.mp H
                   obtain ⟨t282, A1310, H⟩ := H
                   replace H : (if 1 < (l2.length : Int) then ((value_asText.f ((rd_T28 l2 1).f0) ((rd_T28 l2 1).f1) ((rd_T28 l2 1).f2) ((rd_T28 l2 1).f3) ((rd_T28 l2 1).f4) ((rd_T28 l2 1).f5)).bind fun t284 => ((strings_HasPrefix.f t282 t284).bind fun t285 => ((value_truth.f t285).bind fun bt286 => (some (bt286.1, bt286.2.1, bt286.2.2.1, bt286.2.2.2.1, bt286.2.2.2.2.1, bt286.2.2.2.2.2, 0))))) else (none)) = some (r1, r2, r3, r4, r5, r6, r7) := H
                   have A131 := Aside0.mk A1310
                   clear A1310
                   by_cases c132 : 1 < (l2.length : Int)
                   ·rw [if_pos c132] at H
                    have c132b0 : decide (1 < (l2.length : Int)) = true := decide_eq_true c132
                    have c132b1 : decide (1 < l2.length) = true := decide_eq_true (by omega)
                    clear c132
                    replace H := Option.bind_eq_some_iff.mp H
                    obtain ⟨t284, A1330, H⟩ := H
                    replace H : ((strings_HasPrefix.f t282 t284).bind fun t285 => ((value_truth.f t285).bind fun bt286 => (some (bt286.1, bt286.2.1, bt286.2.2.1, bt286.2.2.2.1, bt286.2.2.2.2.1, bt286.2.2.2.2.2, 0)))) = some (r1, r2, r3, r4, r5, r6, r7) := H
                    have A133 := Aside0.mk A1330
                    clear A1330
                    replace H := Option.bind_eq_some_iff.mp H
                    obtain ⟨t285, A1340, H⟩ := H
                    replace H : ((value_truth.f t285).bind fun bt286 => (some (bt286.1, bt286.2.1, bt286.2.2.1, bt286.2.2.2.1, bt286.2.2.2.2.1, bt286.2.2.2.2.2, 0))) = some (r1, r2, r3, r4, r5, r6, r7) := H
                    have A134 := Aside0.mk A1340
                    clear A1340
                    replace H := Option.bind_eq_some_iff.mp H
                    obtain ⟨⟨t286, t287, t288, t289, t290, t291⟩, A1350, H⟩ := H
                    replace H : (some (t286, t287, t288, t289, t290, t291, 0)) = some (r1, r2, r3, r4, r5, r6, r7) := H
                    have A135 := Aside0.mk A1350
                    clear A1350
                    simp only [Option.some.injEq, Prod.mk.injEq] at H
                    obtain ⟨rfl, rfl, rfl, rfl, rfl, rfl, rfl⟩ := H
                    try go_wp2
                    replace BK168 := Aside0.mk (blk_drew BK168.out)
                    replace BK169 := Aside0.mk (blk_drew BK169.out)
                    replace HB := Aside0.mk (below_drew1 HB.out)
                    have p281 : 0 ≤ (0 : Int) := (by omega)
                    have q281 : 0 < (l2.length : Int) := of_decide_eq_true (by first | (with_reducible assumption) | assumption)
                    obtain ⟨ad281, A281_5, c281_5, e281, hx281_0, hx281_1, hx281_2, hx281_3, hx281_4, hx281_5, hl281_5, hi281_5⟩ := at_T28 HR2.out 0 p281 q281
                    have hw281_5 := hx281_5
                    (try rw [show ((0 : Int)).toNat = 0 from rfl] at hw281_5)
                    (try rw [show 0 * 6 = 0 from rfl] at hw281_5)
                    (try rw [Addr.add_zero'] at hw281_5)
                    have hw281_4 := hx281_4
                    (try rw [show ((0 : Int)).toNat = 0 from rfl] at hw281_4)
                    (try rw [show 0 * 6 = 0 from rfl] at hw281_4)
                    (try rw [Addr.add_zero'] at hw281_4)
                    have hw281_3 := hx281_3
                    (try rw [show ((0 : Int)).toNat = 0 from rfl] at hw281_3)
                    (try rw [show 0 * 6 = 0 from rfl] at hw281_3)
                    (try rw [Addr.add_zero'] at hw281_3)
                    have hw281_2 := hx281_2
                    (try rw [show ((0 : Int)).toNat = 0 from rfl] at hw281_2)
                    (try rw [show 0 * 6 = 0 from rfl] at hw281_2)
                    (try rw [Addr.add_zero'] at hw281_2)
                    have hw281_1 := hx281_1
                    (try rw [show ((0 : Int)).toNat = 0 from rfl] at hw281_1)
                    (try rw [show 0 * 6 = 0 from rfl] at hw281_1)
                    (try rw [Addr.add_zero'] at hw281_1)
                    have hw281_0 := hx281_0
                    (try rw [show ((0 : Int)).toNat = 0 from rfl] at hw281_0)
                    (try rw [show 0 * 6 = 0 from rfl] at hw281_0)
                    (try rw [Addr.add_zero'] at hw281_0)
                    cases e281
                    have qi281 : (0 < l2.length) = True := eq_true (by omega)
                    (try rw [show ((0 : Int)).toNat = 0 from rfl] at hx281_0)
                    (try rw [show 0 * 6 = 0 from rfl] at hx281_0)
                    (try rw [Addr.add_zero'] at hx281_0)
                    (try rw [show ((0 : Int)).toNat = 0 from rfl] at hx281_1)
                    (try rw [show 0 * 6 = 0 from rfl] at hx281_1)
                    (try rw [Addr.add_zero'] at hx281_1)
                    (try rw [show ((0 : Int)).toNat = 0 from rfl] at hx281_2)
                    (try rw [show 0 * 6 = 0 from rfl] at hx281_2)
                    (try rw [Addr.add_zero'] at hx281_2)
                    (try rw [show ((0 : Int)).toNat = 0 from rfl] at hx281_3)
                    (try rw [show 0 * 6 = 0 from rfl] at hx281_3)
                    (try rw [Addr.add_zero'] at hx281_3)
                    (try rw [show ((0 : Int)).toNat = 0 from rfl] at hx281_4)
                    (try rw [show 0 * 6 = 0 from rfl] at hx281_4)
                    (try rw [Addr.add_zero'] at hx281_4)
                    (try rw [show ((0 : Int)).toNat = 0 from rfl] at hx281_5)
                    (try rw [show 0 * 6 = 0 from rfl] at hx281_5)
                    (try rw [Addr.add_zero'] at hx281_5)
                    replace hx281_0 := hc_ HB.out hx281_0
                    replace hx281_1 := hc_ HB.out hx281_1
                    replace hx281_2 := hc_ HB.out hx281_2
                    replace hx281_3 := hc_ HB.out hx281_3
                    replace hx281_4 := hc_ HB.out hx281_4
                    replace hx281_5 := hc_ HB.out hx281_5
                    have HR281_5 := Aside0.mk hi281_5
                    have HC281_5 := Aside0.mk hl281_5
                    clear hi281_5 hl281_5
                    replace p281 := eq_true p281
                    replace q281 := eq_true q281
                    have p283 : 0 ≤ (1 : Int) := (by omega)
                    have q283 : 1 < (l2.length : Int) := of_decide_eq_true (by first | (with_reducible assumption) | assumption)
                    obtain ⟨ad283, A283_5, c283_5, e283, hx283_0, hx283_1, hx283_2, hx283_3, hx283_4, hx283_5, hl283_5, hi283_5⟩ := at_T28 HR2.out 1 p283 q283
                    have hw283_5 := hx283_5
                    (try rw [show ((1 : Int)).toNat = 1 from rfl] at hw283_5)
                    (try rw [show 1 * 6 = 6 from rfl] at hw283_5)
                    (try simp only [Nat.reduceMul, Nat.reduceEqDiff, Go.Addr.add, ↓reduceIte] at hw283_5)
                    have hw283_4 := hx283_4
                    (try rw [show ((1 : Int)).toNat = 1 from rfl] at hw283_4)
                    (try rw [show 1 * 6 = 6 from rfl] at hw283_4)
                    (try simp only [Nat.reduceMul, Nat.reduceEqDiff, Go.Addr.add, ↓reduceIte] at hw283_4)
                    have hw283_3 := hx283_3
                    (try rw [show ((1 : Int)).toNat = 1 from rfl] at hw283_3)
                    (try rw [show 1 * 6 = 6 from rfl] at hw283_3)
                    (try simp only [Nat.reduceMul, Nat.reduceEqDiff, Go.Addr.add, ↓reduceIte] at hw283_3)
                    have hw283_2 := hx283_2
                    (try rw [show ((1 : Int)).toNat = 1 from rfl] at hw283_2)
                    (try rw [show 1 * 6 = 6 from rfl] at hw283_2)
                    (try simp only [Nat.reduceMul, Nat.reduceEqDiff, Go.Addr.add, ↓reduceIte] at hw283_2)
                    have hw283_1 := hx283_1
                    (try rw [show ((1 : Int)).toNat = 1 from rfl] at hw283_1)
                    (try rw [show 1 * 6 = 6 from rfl] at hw283_1)
                    (try simp only [Nat.reduceMul, Nat.reduceEqDiff, Go.Addr.add, ↓reduceIte] at hw283_1)
                    have hw283_0 := hx283_0
                    (try rw [show ((1 : Int)).toNat = 1 from rfl] at hw283_0)
                    (try rw [show 1 * 6 = 6 from rfl] at hw283_0)
                    (try simp only [Nat.reduceMul, Nat.reduceEqDiff, Go.Addr.add, ↓reduceIte] at hw283_0)
                    obtain rfl : ad281 = ad283 := (by injection e283)
                    (try simp only [show (1 : Int).toNat = 1 from rfl, Nat.reduceMul, Nat.reduceEqDiff, Go.Addr.add, ↓reduceIte] at hx283_0)
                    (try simp only [show (1 : Int).toNat = 1 from rfl, Nat.reduceMul, Nat.reduceEqDiff, Go.Addr.add, ↓reduceIte] at hx283_1)
                    (try simp only [show (1 : Int).toNat = 1 from rfl, Nat.reduceMul, Nat.reduceEqDiff, Go.Addr.add, ↓reduceIte] at hx283_2)
                    (try simp only [show (1 : Int).toNat = 1 from rfl, Nat.reduceMul, Nat.reduceEqDiff, Go.Addr.add, ↓reduceIte] at hx283_3)
                    (try simp only [show (1 : Int).toNat = 1 from rfl, Nat.reduceMul, Nat.reduceEqDiff, Go.Addr.add, ↓reduceIte] at hx283_4)
                    (try simp only [show (1 : Int).toNat = 1 from rfl, Nat.reduceMul, Nat.reduceEqDiff, Go.Addr.add, ↓reduceIte] at hx283_5)
                    have qi283 : (1 < l2.length) = True := eq_true (by omega)
                    (try rw [show ((1 : Int)).toNat = 1 from rfl] at hx283_0)
                    (try rw [show 1 * 6 = 6 from rfl] at hx283_0)
                    (try rw [show ((1 : Int)).toNat = 1 from rfl] at hx283_1)
                    (try rw [show 1 * 6 = 6 from rfl] at hx283_1)
                    (try rw [show ((1 : Int)).toNat = 1 from rfl] at hx283_2)
                    (try rw [show 1 * 6 = 6 from rfl] at hx283_2)
                    (try rw [show ((1 : Int)).toNat = 1 from rfl] at hx283_3)
                    (try rw [show 1 * 6 = 6 from rfl] at hx283_3)
                    (try rw [show ((1 : Int)).toNat = 1 from rfl] at hx283_4)
                    (try rw [show 1 * 6 = 6 from rfl] at hx283_4)
                    (try rw [show ((1 : Int)).toNat = 1 from rfl] at hx283_5)
                    (try rw [show 1 * 6 = 6 from rfl] at hx283_5)
                    replace hx283_0 := hc_ HB.out hx283_0
                    replace hx283_1 := hc_ HB.out hx283_1
                    replace hx283_2 := hc_ HB.out hx283_2
                    replace hx283_3 := hc_ HB.out hx283_3
                    replace hx283_4 := hc_ HB.out hx283_4
                    replace hx283_5 := hc_ HB.out hx283_5
                    have HR283_5 := Aside0.mk hi283_5
                    have HC283_5 := Aside0.mk hl283_5
                    clear hi283_5 hl283_5
                    replace p283 := eq_true p283
                    replace q283 := eq_true q283
                    refine start_ (n := 12) (S := fun w' => w'.cell? ad281 = some (.int .i64 ((rd_T28 l2 0).f0)) ∧ w'.cell? ⟨ad281.block, ad281.off + 1, none⟩ = some (.bool ((rd_T28 l2 0).f1)) ∧ w'.cell? ⟨ad281.block, ad281.off + 2, none⟩ = some (.int .i64 ((rd_T28 l2 0).f2)) ∧ w'.cell? ⟨ad281.block, ad281.off + 3, none⟩ = some (.bool ((rd_T28 l2 0).f3)) ∧ w'.cell? ⟨ad281.block, ad281.off + 4, none⟩ = some (.string ((rd_T28 l2 0).f4)) ∧ w'.cell? ⟨ad281.block, ad281.off + 5, none⟩ = some (.slice A281_5 ((rd_T28 l2 0).f5).length c281_5) ∧ w'.cell? ⟨ad281.block, ad281.off + 6, none⟩ = some (.int .i64 ((rd_T28 l2 1).f0)) ∧ w'.cell? ⟨ad281.block, ad281.off + 6 + 1, none⟩ = some (.bool ((rd_T28 l2 1).f1)) ∧ w'.cell? ⟨ad281.block, ad281.off + 6 + 2, none⟩ = some (.int .i64 ((rd_T28 l2 1).f2)) ∧ w'.cell? ⟨ad281.block, ad281.off + 6 + 3, none⟩ = some (.bool ((rd_T28 l2 1).f3)) ∧ w'.cell? ⟨ad281.block, ad281.off + 6 + 4, none⟩ = some (.string ((rd_T28 l2 1).f4)) ∧ w'.cell? ⟨ad281.block, ad281.off + 6 + 5, none⟩ = some (.slice A283_5 ((rd_T28 l2 1).f5).length c283_5)) (ds := []) #[false, false, false, false, false, false, false, false, false, false, false, false] (by kernel_rfl) rfl rfl ⟨(hc_ HB.out hw281_0), (hc_ HB.out hw281_1), (hc_ HB.out hw281_2), (hc_ HB.out hw281_3), (hc_ HB.out hw281_4), (hc_ HB.out hw281_5), (hc_ HB.out hw283_0), (hc_ HB.out hw283_1), (hc_ HB.out hw283_2), (hc_ HB.out hw283_3), (hc_ HB.out hw283_4), (hc_ HB.out hw283_5)⟩ (fun hHeld => ?_); refine with_tabW value_call.tab35 value_call.bits35 (fun HT_ HW_ => ?_)
                    generalize wc.drew = w136 at BK168 BK169 HB HR281_5 HR283_5 hx281_0 hx281_1 hx281_2 hx281_3 hx281_4 hx281_5 hx283_0 hx283_1 hx283_2 hx283_3 hx283_4 hx283_5 hHeld ⊢
                    refine pu_ 0 (some 121) #[true, false, false, false, false, false, false, false, false, false, false, false] (any_of HT_.out (by kernel_rfl)) ?_
                    refine pu_ 1 (some 122) #[true, true, false, false, false, false, false, false, false, false, false, false] (any_of HT_.out (by kernel_rfl)) ?_
                    refine pu_ 4 (some 125) #[true, true, false, false, true, false, false, false, false, false, false, false] (any_of HT_.out (by kernel_rfl)) ?_
                    refine pu_ 5 (some 126) #[true, true, false, false, true, true, false, false, false, false, false, false] (any_of HT_.out (by kernel_rfl)) ?_
                    refine take_ (i := 2) (N := some 123) (v := ?_) (a' := ?_) #[true, true, true, false, true, true, false, false, false, false, false, false] rfl rfl (take_ofW HT_.out HW_.out (by kernel_rfl)) (fun _ _ _ h => h) (Or.inl ⟨by rfl, ?_⟩) hHeld ?_ ?_
                    rotate_left
                    ·rintro w' ⟨s0, s1, s2, s3, s4, s5, s6, s7, s8, s9, s10, s11⟩
                     go_simp
                     with_reducible rfl
                    rotate_left
                    ·simp only [Act.put, List.setIfInBounds_toArray, List.set_cons_zero, List.set_cons_succ, i64_w, i32_w]
                     rfl
                    refine take_ (i := 6) (N := some 127) (v := ?_) (a' := ?_) #[true, true, true, false, true, true, true, false, false, false, false, false] rfl rfl (take_ofW HT_.out HW_.out (by kernel_rfl)) (fun _ _ _ h => h) (Or.inl ⟨by rfl, ?_⟩) hHeld ?_ ?_
                    rotate_left
                    ·rintro w' ⟨s0, s1, s2, s3, s4, s5, s6, s7, s8, s9, s10, s11⟩
                     go_simp
                     with_reducible rfl
                    rotate_left
                    ·simp only [Act.put, List.setIfInBounds_toArray, List.set_cons_zero, List.set_cons_succ, i64_w, i32_w]
                     rfl
                    refine one_ (i := 3) (N := some 124) #[true, true, true, true, true, true, true, false, false, false, false, false] rfl rfl (one_of HT_.out (by kernel_rfl)) (by decide) (fun K hK => ?_)
                    refine goes_ Tryz.func27 (by kernel_rfl) rfl #[.agg #[.int .i64 ((rd_T28 l2 0).f0), .bool ((rd_T28 l2 0).f1), .int .i64 ((rd_T28 l2 0).f2), .bool ((rd_T28 l2 0).f3), .string ((rd_T28 l2 0).f4), .slice A281_5 ((rd_T28 l2 0).f5).length c281_5]] (by rfl) rfl rfl rf_ ?_
                    with_reducible refine (value_asText.calls ((rd_T28 l2 0).f0) ((rd_T28 l2 0).f1) ((rd_T28 l2 0).f2) ((rd_T28 l2 0).f3) ((rd_T28 l2 0).f4) _ _ ((rd_T28 l2 0).f5) t282 _ ?side1 ?side2 A131.out).mono ?_
                    (case side1 => exact sc_ (Kd.C_below HR281_5.out HB.out))
                    (case side2 => exact HC281_5.out)
                    rintro e w137 ⟨rfl, hb⟩
                    refine ⟨_, rfl, ?_⟩
                    replace BK168 := Aside0.mk (blk_below (g := gb168) (o := .cells #[.int .i64 a1_0, .int .i64 a1_1, .string a1_2, .string a1_3, .slice A1_4 l1_4.length c1_4] 24 (0, 0)) (bk_ BK168.out) hb)
                    replace BK169 := Aside0.mk (blk_below (g := gb169) (o := .cells #[.int .i64 x170000_1, .bool x170001_1, .int .i64 x170002_1, .bool x170003_1, .string x170004_1, .slice none 0 0] 28 (0, 0)) (bk_ BK169.out) hb)
                    replace HB := Aside0.mk (below_step (hb2_ GE168.out GE169.out) hb)
                    (try clear hb)
                    (try clear hb2)
                    (try clear hk)
                    (try clear hi)
                    refine hK.out _ _ ⟨(hc_ HB.out hw281_0), (hc_ HB.out hw281_1), (hc_ HB.out hw281_2), (hc_ HB.out hw281_3), (hc_ HB.out hw281_4), (hc_ HB.out hw281_5), (hc_ HB.out hw283_0), (hc_ HB.out hw283_1), (hc_ HB.out hw283_2), (hc_ HB.out hw283_3), (hc_ HB.out hw283_4), (hc_ HB.out hw283_5)⟩ (fun hHeld => ?_)
                    clear hK K
                    refine norm_ (a' := ?_) ?_ ?_
                    rotate_left
                    ·show Act.put _ (some 124) _ = _
                     simp only [Act.put, List.setIfInBounds_toArray, List.set_cons_zero, List.set_cons_succ, i64_w, i32_w]
                     rfl
                    refine one_ (i := 7) (N := some 128) #[true, true, true, true, true, true, true, true, false, false, false, false] rfl rfl (one_of HT_.out (by kernel_rfl)) (by decide) (fun K hK => ?_)
                    refine goes_ Tryz.func27 (by kernel_rfl) rfl #[.agg #[.int .i64 ((rd_T28 l2 1).f0), .bool ((rd_T28 l2 1).f1), .int .i64 ((rd_T28 l2 1).f2), .bool ((rd_T28 l2 1).f3), .string ((rd_T28 l2 1).f4), .slice A283_5 ((rd_T28 l2 1).f5).length c283_5]] (by rfl) rfl rfl rf_ ?_
                    with_reducible refine (value_asText.calls ((rd_T28 l2 1).f0) ((rd_T28 l2 1).f1) ((rd_T28 l2 1).f2) ((rd_T28 l2 1).f3) ((rd_T28 l2 1).f4) _ _ ((rd_T28 l2 1).f5) t284 _ ?side1 ?side2 A133.out).mono ?_
                    (case side1 => exact sc_ (Kd.C_below HR283_5.out HB.out))
                    (case side2 => exact HC283_5.out)
                    rintro e w138 ⟨rfl, hb⟩
                    refine ⟨_, rfl, ?_⟩
                    replace BK168 := Aside0.mk (blk_below (g := gb168) (o := .cells #[.int .i64 a1_0, .int .i64 a1_1, .string a1_2, .string a1_3, .slice A1_4 l1_4.length c1_4] 24 (0, 0)) (bk_ BK168.out) hb)
                    replace BK169 := Aside0.mk (blk_below (g := gb169) (o := .cells #[.int .i64 x170000_1, .bool x170001_1, .int .i64 x170002_1, .bool x170003_1, .string x170004_1, .slice none 0 0] 28 (0, 0)) (bk_ BK169.out) hb)
                    replace HB := Aside0.mk (below_step (hb2_ GE168.out GE169.out) hb)
                    (try clear hb)
                    (try clear hb2)
                    (try clear hk)
                    (try clear hi)
                    refine hK.out _ _ ⟨(hc_ HB.out hw281_0), (hc_ HB.out hw281_1), (hc_ HB.out hw281_2), (hc_ HB.out hw281_3), (hc_ HB.out hw281_4), (hc_ HB.out hw281_5), (hc_ HB.out hw283_0), (hc_ HB.out hw283_1), (hc_ HB.out hw283_2), (hc_ HB.out hw283_3), (hc_ HB.out hw283_4), (hc_ HB.out hw283_5)⟩ (fun hHeld => ?_)
                    clear hK K
                    refine norm_ (a' := ?_) ?_ ?_
                    rotate_left
                    ·show Act.put _ (some 128) _ = _
                     simp only [Act.put, List.setIfInBounds_toArray, List.set_cons_zero, List.set_cons_succ, i64_w, i32_w]
                     rfl
                    refine one_ (i := 8) (N := some 129) #[true, true, true, true, true, true, true, true, true, false, false, false] rfl rfl (one_of HT_.out (by kernel_rfl)) (by decide) (fun K hK => ?_)
                    refine goes_ Tryz.func32 (by kernel_rfl) rfl #[.string t282, .string t284] (by rfl) rfl rfl rf_ ?_
                    with_reducible refine (strings_HasPrefix.calls t282 t284 t285 _ A134.out).mono ?_
                    rintro e w' ⟨rfl, ⟨nd, rfl⟩⟩
                    refine ⟨_, rfl, ?_⟩
                    refine hK.out _ _ ⟨(hc_ HB.out hw281_0), (hc_ HB.out hw281_1), (hc_ HB.out hw281_2), (hc_ HB.out hw281_3), (hc_ HB.out hw281_4), (hc_ HB.out hw281_5), (hc_ HB.out hw283_0), (hc_ HB.out hw283_1), (hc_ HB.out hw283_2), (hc_ HB.out hw283_3), (hc_ HB.out hw283_4), (hc_ HB.out hw283_5)⟩ (fun hHeld => ?_)
                    clear hK K
                    refine norm_ (a' := ?_) ?_ ?_
                    rotate_left
                    ·show Act.put _ (some 129) _ = _
                     simp only [Act.put, List.setIfInBounds_toArray, List.set_cons_zero, List.set_cons_succ, i64_w, i32_w]
                     rfl
                    refine one_ (i := 9) (N := some 130) #[true, true, true, true, true, true, true, true, true, true, false, false] rfl rfl (one_of HT_.out (by kernel_rfl)) (by decide) (fun K hK => ?_)
                    refine goes_ Tryz.func23 (by kernel_rfl) rfl #[.bool t285] (by rfl) rfl rfl rf_ ?_
                    with_reducible refine (value_truth.calls t285 t286 t287 t288 t289 t290 t291 _ A135.out).mono ?_
                    rintro e w139 ⟨v292, rfl, ho0, hb⟩
                    refine ⟨_, rfl, ?_⟩
                    have HO293 := Aside0.mk (Kd.R_lower ho0 (below_size (hb2_ GE168.out GE169.out)))
                    replace BK168 := Aside0.mk (blk_below (g := gb168) (o := .cells #[.int .i64 a1_0, .int .i64 a1_1, .string a1_2, .string a1_3, .slice A1_4 l1_4.length c1_4] 24 (0, 0)) (bk_ BK168.out) hb)
                    replace BK169 := Aside0.mk (blk_below (g := gb169) (o := .cells #[.int .i64 x170000_1, .bool x170001_1, .int .i64 x170002_1, .bool x170003_1, .string x170004_1, .slice none 0 0] 28 (0, 0)) (bk_ BK169.out) hb)
                    replace HB := Aside0.mk (below_step (hb2_ GE168.out GE169.out) hb)
                    (try clear hb)
                    (try clear hb2)
                    (try clear hk)
                    (try clear hi)
                    (try clear ho0)
                    obtain ⟨Ao145, co145, eo145⟩ := Kd.R_slice HO293.out
                    (first | subst eo145 | (injection eo145 with f1_ f2_ f3_; have f4_ := f1_.symm; have f5_ := f3_.symm; clear f1_ f2_ f3_; subst f4_; subst f5_))
                    refine hK.out _ _ ⟨(hc_ HB.out hw281_0), (hc_ HB.out hw281_1), (hc_ HB.out hw281_2), (hc_ HB.out hw281_3), (hc_ HB.out hw281_4), (hc_ HB.out hw281_5), (hc_ HB.out hw283_0), (hc_ HB.out hw283_1), (hc_ HB.out hw283_2), (hc_ HB.out hw283_3), (hc_ HB.out hw283_4), (hc_ HB.out hw283_5)⟩ (fun hHeld => ?_)
                    clear hK K
                    refine norm_ (a' := ?_) ?_ ?_
                    rotate_left
                    ·show Act.put _ (some 130) _ = _
                     simp only [Act.put, List.setIfInBounds_toArray, List.set_cons_zero, List.set_cons_succ, i64_w, i32_w]
                     rfl
                    refine one_ (i := 10) (N := none) #[true, true, true, true, true, true, true, true, true, true, true, false] rfl rfl (one_of HT_.out (by kernel_rfl)) (by decide) (fun K hK => ?_)
                    have hs140 : w139.cell? ⟨gb169, 0, none⟩ = some (.int .i64 x170000_1) := (blk_cell BK169.out 0).trans rfl
                    have hfs140 := blk_frozen BK169.out 0
                    have hns140_0 := NB168_169.out
                    have hms140_0 := NB169_168.out
                    have hs141 : w139.cell? ⟨gb169, 1, none⟩ = some (.bool x170001_1) := (blk_cell BK169.out 1).trans rfl
                    have hfs141 := blk_frozen BK169.out 1
                    have hns141_0 := NB168_169.out
                    have hms141_0 := NB169_168.out
                    have hs142 : w139.cell? ⟨gb169, 2, none⟩ = some (.int .i64 x170002_1) := (blk_cell BK169.out 2).trans rfl
                    have hfs142 := blk_frozen BK169.out 2
                    have hns142_0 := NB168_169.out
                    have hms142_0 := NB169_168.out
                    have hs143 : w139.cell? ⟨gb169, 3, none⟩ = some (.bool x170003_1) := (blk_cell BK169.out 3).trans rfl
                    have hfs143 := blk_frozen BK169.out 3
                    have hns143_0 := NB168_169.out
                    have hms143_0 := NB169_168.out
                    have hs144 : w139.cell? ⟨gb169, 4, none⟩ = some (.string x170004_1) := (blk_cell BK169.out 4).trans rfl
                    have hfs144 := blk_frozen BK169.out 4
                    have hns144_0 := NB168_169.out
                    have hms144_0 := NB169_168.out
                    have hs146 : w139.cell? ⟨gb169, 5, none⟩ = some (.slice none 0 0) := (blk_cell BK169.out 5).trans rfl
                    have hfs146 := blk_frozen BK169.out 5
                    have hns146_0 := NB168_169.out
                    have hms146_0 := NB169_168.out
                    refine skip_ (w1 := ?_) (by rfl) rfl ?_ ?_
                    rotate_left
                    ·go_simp
                     rfl
                    refine hK.out _ _ ⟨((far_ hw281_0 GW169.out _).trans (((far_ hw281_0 GW169.out _).trans (((far_ hw281_0 GW169.out _).trans (((far_ hw281_0 GW169.out _).trans (((far_ hw281_0 GW169.out _).trans (((far_ hw281_0 GW169.out _).trans (hHeld.1)))))))))))), ((far_ hw281_1 GW169.out _).trans (((far_ hw281_1 GW169.out _).trans (((far_ hw281_1 GW169.out _).trans (((far_ hw281_1 GW169.out _).trans (((far_ hw281_1 GW169.out _).trans (((far_ hw281_1 GW169.out _).trans (hHeld.2.1)))))))))))), ((far_ hw281_2 GW169.out _).trans (((far_ hw281_2 GW169.out _).trans (((far_ hw281_2 GW169.out _).trans (((far_ hw281_2 GW169.out _).trans (((far_ hw281_2 GW169.out _).trans (((far_ hw281_2 GW169.out _).trans (hHeld.2.2.1)))))))))))), ((far_ hw281_3 GW169.out _).trans (((far_ hw281_3 GW169.out _).trans (((far_ hw281_3 GW169.out _).trans (((far_ hw281_3 GW169.out _).trans (((far_ hw281_3 GW169.out _).trans (((far_ hw281_3 GW169.out _).trans (hHeld.2.2.2.1)))))))))))), ((far_ hw281_4 GW169.out _).trans (((far_ hw281_4 GW169.out _).trans (((far_ hw281_4 GW169.out _).trans (((far_ hw281_4 GW169.out _).trans (((far_ hw281_4 GW169.out _).trans (((far_ hw281_4 GW169.out _).trans (hHeld.2.2.2.2.1)))))))))))), ((far_ hw281_5 GW169.out _).trans (((far_ hw281_5 GW169.out _).trans (((far_ hw281_5 GW169.out _).trans (((far_ hw281_5 GW169.out _).trans (((far_ hw281_5 GW169.out _).trans (((far_ hw281_5 GW169.out _).trans (hHeld.2.2.2.2.2.1)))))))))))), ((far_ hw283_0 GW169.out _).trans (((far_ hw283_0 GW169.out _).trans (((far_ hw283_0 GW169.out _).trans (((far_ hw283_0 GW169.out _).trans (((far_ hw283_0 GW169.out _).trans (((far_ hw283_0 GW169.out _).trans (hHeld.2.2.2.2.2.2.1)))))))))))), ((far_ hw283_1 GW169.out _).trans (((far_ hw283_1 GW169.out _).trans (((far_ hw283_1 GW169.out _).trans (((far_ hw283_1 GW169.out _).trans (((far_ hw283_1 GW169.out _).trans (((far_ hw283_1 GW169.out _).trans (hHeld.2.2.2.2.2.2.2.1)))))))))))), ((far_ hw283_2 GW169.out _).trans (((far_ hw283_2 GW169.out _).trans (((far_ hw283_2 GW169.out _).trans (((far_ hw283_2 GW169.out _).trans (((far_ hw283_2 GW169.out _).trans (((far_ hw283_2 GW169.out _).trans (hHeld.2.2.2.2.2.2.2.2.1)))))))))))), ((far_ hw283_3 GW169.out _).trans (((far_ hw283_3 GW169.out _).trans (((far_ hw283_3 GW169.out _).trans (((far_ hw283_3 GW169.out _).trans (((far_ hw283_3 GW169.out _).trans (((far_ hw283_3 GW169.out _).trans (hHeld.2.2.2.2.2.2.2.2.2.1)))))))))))), ((far_ hw283_4 GW169.out _).trans (((far_ hw283_4 GW169.out _).trans (((far_ hw283_4 GW169.out _).trans (((far_ hw283_4 GW169.out _).trans (((far_ hw283_4 GW169.out _).trans (((far_ hw283_4 GW169.out _).trans (hHeld.2.2.2.2.2.2.2.2.2.2.1)))))))))))), ((far_ hw283_5 GW169.out _).trans (((far_ hw283_5 GW169.out _).trans (((far_ hw283_5 GW169.out _).trans (((far_ hw283_5 GW169.out _).trans (((far_ hw283_5 GW169.out _).trans (((far_ hw283_5 GW169.out _).trans (hHeld.2.2.2.2.2.2.2.2.2.2.2))))))))))))⟩ (fun hHeld => ?_)
                    clear hK K
                    refine pu_ 11 (some 7) #[true, true, true, true, true, true, true, true, true, true, true, true] (any_of HT_.out (by kernel_rfl)) ?_
                    refine done_ (done_of HT_.out (by kernel_rfl)) ?_
                    try go_wp2
                    refine bodyPost_ret (results_ct rfl _ _ gb169 28 #[.int .i64 t286, .bool t287, .int .i64 t288, .bool t289, .string t290, .slice Ao145 t291.length co145] (0, 0) _ rfl (bp_ BK169.out) Tryz.underlying28 rfl (by kernel_rfl)) rfl ?_
                    exact ⟨_, er_, rm_ (Kd.R_types HO293.out BK169.out (by decide)) (fun _ hk => hk.2), hb2_ GE168.out GE169.out⟩
                   ·rw [if_neg c132] at H
                    exact absurd H (by simp)
                  ·rw [if_neg c130] at H
                   exact absurd H (by simp)
 ·rw [if_neg c5] at H
  have c5b0 := beq_eq_false_iff_ne.mpr c5
  have c5b1 := bne_iff_ne.mpr c5
  simp only [Option.some.injEq, Prod.mk.injEq] at H
  obtain ⟨rfl, rfl, rfl, rfl, rfl, rfl, rfl⟩ := H
  go_enter Tryz.func10, Tryz.ntmps10
  go_wp2_with (first | ((with_reducible refine gate_dst (N := 4) rfl ?_); refine box_event ?hg (N := 4) ?hd (cs := #[.int .i64 a1_0, .int .i64 a1_1, .string a1_2, .string a1_3, .slice A1_4 l1_4.length c1_4]) (t := 24) ?hr ?_; (case hd => rfl); (case hg => rfl); (case hr => first | (go_simp; done) | (go_simp; rfl)); intro gb168 hg w147 hbox hb; have n0_ := Aside0.mk (below_step hb_ hb); have n1_ := Aside0.mk (hbox); have n2_ := Aside0.mk ((by rw [hg]; exact (below_size hb_) : w.heap.size ≤ gb168)); have n3_ := Aside0.mk ((by rw [hg]; exact (below_size hb_) : w.heap.size ≤ gb168)); clear HB; have HB := n0_; have BK168 := n1_; have GW168 := n2_; have GE168 := n3_; clear n0_ n1_ n2_ n3_; clear hb hbox hg) | ((with_reducible refine gate_dst (N := 6) rfl ?_); refine box_event ?hg (N := 6) ?hd (cs := #[.int .i64 0, .bool false, .int .i64 0, .bool false, .string (⟨#[]⟩ : ByteArray), .slice none 0 0]) (t := 28) ?hr ?_; (case hd => rfl); (case hg => rfl); (case hr => first | (go_simp; done) | (go_simp; rfl)); intro gb169 hg w148 hbox hb; have n0_ := Aside0.mk (blk_below (g := gb168) (o := .cells #[.int .i64 a1_0, .int .i64 a1_1, .string a1_2, .string a1_3, .slice A1_4 l1_4.length c1_4] 24 (0, 0)) (bk_ BK168.out) hb); have n1_ := Aside0.mk (below_step (hb1_ GE168.out) hb); have n2_ := Aside0.mk (hbox); have n3_ := Aside0.mk ((by rw [hg]; exact (below_size (hb1_ GE168.out)) : w.heap.size ≤ gb169)); have n4_ := Aside0.mk ((by rw [hg]; exact (below_size (hb1_ GE168.out)) : w.heap.size ≤ gb169)); have n5_ := Aside0.mk ((by rw [hg]; exact Nat.ne_of_lt (blk_lt (g := gb168) (o := .cells #[.int .i64 a1_0, .int .i64 a1_1, .string a1_2, .string a1_3, .slice A1_4 l1_4.length c1_4] 24 (0, 0)) (bk_ BK168.out)) : gb168 ≠ gb169)); have n6_ := Aside0.mk ((by rw [hg]; exact Nat.ne_of_gt (blk_lt (g := gb168) (o := .cells #[.int .i64 a1_0, .int .i64 a1_1, .string a1_2, .string a1_3, .slice A1_4 l1_4.length c1_4] 24 (0, 0)) (bk_ BK168.out)) : gb169 ≠ gb168)); clear BK168; clear HB; have BK168 := n0_; have HB := n1_; have BK169 := n2_; have GW169 := n3_; have GE169 := n4_; have NB168_169 := n5_; have NB169_168 := n6_; clear n0_ n1_ n2_ n3_ n4_ n5_ n6_; clear hb hbox hg) | ((with_reducible refine gate_callee (f := 21) rfl ?_); refine goesL_ (some 14) rfl rfl Tryz.func21 (by kernel_rfl) rfl #[.string a0] rfl rf_ ?_; (with_reducible refine (value_takes.calls k a0 t170 _ A4.out).mono ?_); rintro e w' ⟨rfl, ⟨nd, rfl⟩⟩; refine ⟨_, rfl, ?_⟩; (try (rw [drewN_self w148]; generalize hq_ : World.drewN w148 _ = w148; have n0_ : Aside0 (w148.heap[gb168]? = some (.cells #[.int .i64 a1_0, .int .i64 a1_1, .string a1_2, .string a1_3, .slice A1_4 l1_4.length c1_4] 24 (0, 0))) := ⟨by rw [← hq_]; exact (bk_ BK168.out)⟩; have n1_ : Aside0 (w148.heap[gb169]? = some (.cells #[.int .i64 0, .bool false, .int .i64 0, .bool false, .string (⟨#[]⟩ : ByteArray), .slice none 0 0] 28 (0, 0))) := ⟨by rw [← hq_]; exact (bk_ BK169.out)⟩; have n2_ : Aside0 (Below w.heap.size w w148) := ⟨by rw [← hq_]; exact (hb2_ GE168.out GE169.out)⟩; clear BK168 BK169 HB hq_; have BK168 := n0_; have BK169 := n1_; have HB := n2_; clear n0_ n1_ n2_)); have hnb149 := NB169_168.out; have hnc149 := NB168_169.out; obtain ⟨hcz150_0, hcz150_1, hcz150_2, hcz150_3, hcz150_4, hcz150_5⟩ := ce6_ BK169.out; obtain ⟨hfz150_0, hfz150_1, hfz150_2, hfz150_3, hfz150_4, hfz150_5⟩ := fr6_ BK169.out))
  refine bodyPost_ret (results_ct rfl _ _ gb169 28 #[.int .i64 0, .bool false, .int .i64 0, .bool false, .string (⟨#[]⟩ : ByteArray), .slice none 0 0] (0, 0) _ rfl (bp_ BK169.out) Tryz.underlying28 rfl (by kernel_rfl)) rfl ?_
  exact ⟨_, er_, by first | exact Kd.R_nil _ _ _ _ _ | exact Kd.N_nil _ _ _ _ _ | exact Kd.V_nil _ _ _ _ _ | exact Kd.Q_nil _ _ _ _ _ | exact Kd.S_nil _ _ _ _ _, hb2_ GE168.out GE169.out⟩

end Go.Proofs.YtnkjchcaonaifaaGreatDoor.PA
