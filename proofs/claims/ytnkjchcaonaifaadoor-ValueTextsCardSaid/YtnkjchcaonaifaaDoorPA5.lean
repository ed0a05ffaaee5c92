-- Written by a program of this session (wip/tools/xprint.py: the kit's print, with given functions). Not trusted: Lean checks it.
import Derived.Test.YtnkjchcaonaifaaDoorPA0
import Derived.Test.YtnkjchcaonaifaaDoorPA1
import Derived.Test.YtnkjchcaonaifaaDoorPA2
import Derived.Test.YtnkjchcaonaifaaDoorPA3
import Derived.Test.YtnkjchcaonaifaaDoorPA4
import Derived.Test.YtnkjchcaonaifaaDoorUCheck
import Derived.Test.YtnkjchcaonaifaaDoorUStrings
namespace Go.Proofs.YtnkjchcaonaifaaDoor.PA
open Go.RowKit Go.Proofs.YtnkjchcaonaifaaDoorW.PrintWords Go.Proofs.YtnkjchcaonaifaaDoorW.PrintLast Go.Proofs.YtnkjchcaonaifaaDoorW.PrintMore
attribute [local go_sem] max2_int min2_int max_two min_two max_three min_three max_four min_four   -- for this text's walks alone
set_option linter.unusedVariables false
set_option linter.unusedSimpArgs false

/-! ### value_call: function 44 -/
mutual
def value_call.l0 : Nat → ByteArray → List (S49) → List (S49) → Int → Int → Int → Int → ByteArray → ByteArray → List (S121) → Option (Int × Bool × Int × Bool × ByteArray × List ByteArray × Int)
 | 0, _, _, _, _, _, _, _, _, _, _ => none
 | k + 1, x0, x2, x19, x20, x21, x180000, x180001, x180002, x180003, x180004 => if x21 < x20 then (if 0 ≤ x21 then (if x21 < (x19.length : Int) then ((value_check.f k ((rd_T49 x19 x21).f0) ((rd_T49 x19 x21).f1) ((rd_T49 x19 x21).f2) ((rd_T49 x19 x21).f3) ((rd_T49 x19 x21).f4) ((rd_T49 x19 x21).f5)).bind fun t184 => (if t184 = 0 then (value_call.l0 k x0 x2 x19 x20 (wrap64 (x21 + 1)) x180000 x180001 x180002 x180003 x180004) else (some (0, false, 0, false, (⟨#[]⟩ : ByteArray), ([] : List ByteArray), t184)))) else (none)) else (none)) else (if x0.toList = ([116, 114, 117, 101] : List UInt8) then (value_call.j1 k x0 x2 x0 (x0.toList == ([116, 114, 117, 101] : List UInt8)) x180000 x180001 x180002 x180003 x180004) else (value_call.j1 k x0 x2 x0 (x0.toList == ([102, 97, 108, 115, 101] : List UInt8)) x180000 x180001 x180002 x180003 x180004))
def value_call.j1 : Nat → ByteArray → List (S49) → ByteArray → Bool → Int → Int → ByteArray → ByteArray → List (S121) → Option (Int × Bool × Int × Bool × ByteArray × List ByteArray × Int)
 | 0, _, _, _, _, _, _, _, _, _ => none
 | k + 1, x0, x2, x32, x33, x180000, x180001, x180002, x180003, x180004 => if x33 = true then ((value_truth.f (x0.toList == ([116, 114, 117, 101] : List UInt8))).bind fun bt185 => (some (bt185.1, bt185.2.1, bt185.2.2.1, bt185.2.2.2.1, bt185.2.2.2.2.1, bt185.2.2.2.2.2, 0))) else (if x32.toList = ([112, 111, 115, 105, 116, 105, 111, 110] : List UInt8) then ((value_numbered.f x180000 true).bind fun bt193 => (some (bt193.1, bt193.2.1, bt193.2.2.1, bt193.2.2.2.1, bt193.2.2.2.2.1, bt193.2.2.2.2.2, 0))) else (if x32.toList = ([108, 97, 115, 116] : List UInt8) then ((value_numbered.f x180001 true).bind fun bt201 => (some (bt201.1, bt201.2.1, bt201.2.2.1, bt201.2.2.2.1, bt201.2.2.2.2.1, bt201.2.2.2.2.2, 0))) else (if x32.toList = ([110, 97, 109, 101] : List UInt8) then ((value_texted.f x180002).bind fun bt209 => (some (bt209.1, bt209.2.1, bt209.2.2.1, bt209.2.2.2.1, bt209.2.2.2.2.1, bt209.2.2.2.2.2, 0))) else (if x32.toList = ([110, 111, 116] : List UInt8) then (if 0 < (x2.length : Int) then ((value_asBool.f ((rd_T49 x2 0).f0) ((rd_T49 x2 0).f1) ((rd_T49 x2 0).f2) ((rd_T49 x2 0).f3) ((rd_T49 x2 0).f4) ((rd_T49 x2 0).f5)).bind fun t218 => ((value_truth.f (!t218)).bind fun bt219 => (some (bt219.1, bt219.2.1, bt219.2.2.1, bt219.2.2.2.1, bt219.2.2.2.2.1, bt219.2.2.2.2.2, 0)))) else (none)) else (if x32.toList = ([115, 116, 114, 105, 110, 103] : List UInt8) then (if 0 < (x2.length : Int) then ((value_asText.f ((rd_T49 x2 0).f0) ((rd_T49 x2 0).f1) ((rd_T49 x2 0).f2) ((rd_T49 x2 0).f3) ((rd_T49 x2 0).f4) ((rd_T49 x2 0).f5)).bind fun t228 => ((value_texted.f t228).bind fun bt229 => (some (bt229.1, bt229.2.1, bt229.2.2.1, bt229.2.2.2.1, bt229.2.2.2.2.1, bt229.2.2.2.2.2, 0)))) else (none)) else (if x32.toList = ([110, 117, 109, 98, 101, 114] : List UInt8) then (if 0 < (x2.length : Int) then ((value_asNumber.f ((rd_T49 x2 0).f0) ((rd_T49 x2 0).f1) ((rd_T49 x2 0).f2) ((rd_T49 x2 0).f3) ((rd_T49 x2 0).f4) ((rd_T49 x2 0).f5)).bind fun bt238 => ((value_numbered.f bt238.1 bt238.2).bind fun bt240 => (some (bt240.1, bt240.2.1, bt240.2.2.1, bt240.2.2.2.1, bt240.2.2.2.2.1, bt240.2.2.2.2.2, 0)))) else (none)) else (if x32.toList = ([99, 111, 117, 110, 116] : List UInt8) then (if 0 < (x2.length : Int) then ((value_numbered.f (((rd_T49 x2 0).f5).length : Int) (((rd_T49 x2 0).f0) == 4)).bind fun bt250 => (some (bt250.1, bt250.2.1, bt250.2.2.1, bt250.2.2.2.1, bt250.2.2.2.2.1, bt250.2.2.2.2.2, 0))) else (none)) else (if x32.toList = ([115, 117, 109] : List UInt8) then (if 0 < (x2.length : Int) then ((value_sum.f k ((rd_T49 x2 0).f0) ((rd_T49 x2 0).f1) ((rd_T49 x2 0).f2) ((rd_T49 x2 0).f3) ((rd_T49 x2 0).f4) ((rd_T49 x2 0).f5)).bind fun bt259 => (some (bt259.1, bt259.2.1, bt259.2.2.1, bt259.2.2.2.1, bt259.2.2.2.2.1, bt259.2.2.2.2.2, 0))) else (none)) else (if x32.toList = ([108, 101, 110, 103, 116, 104] : List UInt8) then (if 0 < (x2.length : Int) then ((value_asText.f ((rd_T49 x2 0).f0) ((rd_T49 x2 0).f1) ((rd_T49 x2 0).f2) ((rd_T49 x2 0).f3) ((rd_T49 x2 0).f4) ((rd_T49 x2 0).f5)).bind fun t268 => ((chars_Len.f k t268).bind fun bt269 => ((value_numbered.f bt269.1 true).bind fun bt271 => (some (bt271.1, bt271.2.1, bt271.2.2.1, bt271.2.2.2.1, bt271.2.2.2.2.1, bt271.2.2.2.2.2, 0))))) else (none)) else (if x32.toList = ([99, 111, 110, 116, 97, 105, 110, 115] : List UInt8) then (if 0 < (x2.length : Int) then ((value_asText.f ((rd_T49 x2 0).f0) ((rd_T49 x2 0).f1) ((rd_T49 x2 0).f2) ((rd_T49 x2 0).f3) ((rd_T49 x2 0).f4) ((rd_T49 x2 0).f5)).bind fun t280 => (if 1 < (x2.length : Int) then ((value_asText.f ((rd_T49 x2 1).f0) ((rd_T49 x2 1).f1) ((rd_T49 x2 1).f2) ((rd_T49 x2 1).f3) ((rd_T49 x2 1).f4) ((rd_T49 x2 1).f5)).bind fun t282 => ((strings_Contains.f t280 t282).bind fun t283 => ((value_truth.f t283).bind fun bt284 => (some (bt284.1, bt284.2.1, bt284.2.2.1, bt284.2.2.2.1, bt284.2.2.2.2.1, bt284.2.2.2.2.2, 0))))) else (none))) else (none)) else (if 0 < (x2.length : Int) then ((value_asText.f ((rd_T49 x2 0).f0) ((rd_T49 x2 0).f1) ((rd_T49 x2 0).f2) ((rd_T49 x2 0).f3) ((rd_T49 x2 0).f4) ((rd_T49 x2 0).f5)).bind fun t293 => (if 1 < (x2.length : Int) then ((value_asText.f ((rd_T49 x2 1).f0) ((rd_T49 x2 1).f1) ((rd_T49 x2 1).f2) ((rd_T49 x2 1).f3) ((rd_T49 x2 1).f4) ((rd_T49 x2 1).f5)).bind fun t295 => ((strings_HasPrefix.f t293 t295).bind fun t296 => ((value_truth.f t296).bind fun bt297 => (some (bt297.1, bt297.2.1, bt297.2.2.1, bt297.2.2.2.1, bt297.2.2.2.2.1, bt297.2.2.2.2.2, 0))))) else (none))) else (none))))))))))))
end
def value_call.f (k : Nat) (a0 : ByteArray) (a1_0 : Int) (a1_1 : Int) (a1_2 : ByteArray) (a1_3 : ByteArray) (l1_4 : List (S121)) (l2 : List (S49)) : Option (Int × Bool × Int × Bool × ByteArray × List ByteArray × Int) := (value_takes.f k a0).bind fun t181 => (if t181 = (l2.length : Int) then (value_call.l0 k a0 l2 l2 (l2.length : Int) 0 a1_0 a1_1 a1_2 a1_3 l1_4) else (some (0, false, 0, false, (⟨#[]⟩ : ByteArray), ([] : List ByteArray), 140)))
theorem value_call.mono_l : ∀ k, (∀ y0 y1 y2 y3 y4 y5 y6 y7 y8 y9, LeO (value_call.l0 k y0 y1 y2 y3 y4 y5 y6 y7 y8 y9) (value_call.l0 (k + 1) y0 y1 y2 y3 y4 y5 y6 y7 y8 y9)) ∧ (∀ y0 y1 y2 y3 y4 y5 y6 y7 y8, LeO (value_call.j1 k y0 y1 y2 y3 y4 y5 y6 y7 y8) (value_call.j1 (k + 1) y0 y1 y2 y3 y4 y5 y6 y7 y8))
 | 0 => ⟨fun _ _ _ _ _ _ _ _ _ _ r h => by simp [value_call.l0] at h, fun _ _ _ _ _ _ _ _ _ r h => by simp [value_call.j1] at h⟩
 | k + 1 => by
  obtain ⟨ih0, ih1⟩ := value_call.mono_l k
  refine ⟨?_, ?_⟩
  ·intro y0 y1 y2 y3 y4 y5 y6 y7 y8 y9
   unfold value_call.l0
   repeat' first
   | (with_reducible exact ih0 _ _ _ _ _ _ _ _ _ _)
   | (with_reducible exact ih1 _ _ _ _ _ _ _ _ _)
   | (with_reducible exact chars_Len.mono _ _)
   | (with_reducible exact value_check.mono _ _ _ _ _ _ _)
   | (with_reducible exact value_sum.mono _ _ _ _ _ _ _)
   | (with_reducible exact value_takes.mono _ _)
   | (with_reducible exact LeO.refl _)
   | (with_reducible exact LeO.none _)
   | (with_reducible refine LeO.ite ?_ ?_)
   | (with_reducible refine LeO.bind ?_ (fun _ => ?_))
   | exact ih0 _ _ _ _ _ _ _ _ _ _
   | exact ih1 _ _ _ _ _ _ _ _ _
   | exact chars_Len.mono _ _
   | exact value_check.mono _ _ _ _ _ _ _
   | exact value_sum.mono _ _ _ _ _ _ _
   | exact value_takes.mono _ _
   | exact LeO.none _
   | refine LeO.ite ?_ ?_
   | refine LeO.bind ?_ (fun _ => ?_)
  ·intro y0 y1 y2 y3 y4 y5 y6 y7 y8
   unfold value_call.j1
   repeat' first
   | (with_reducible exact ih0 _ _ _ _ _ _ _ _ _ _)
   | (with_reducible exact ih1 _ _ _ _ _ _ _ _ _)
   | (with_reducible exact chars_Len.mono _ _)
   | (with_reducible exact value_check.mono _ _ _ _ _ _ _)
   | (with_reducible exact value_sum.mono _ _ _ _ _ _ _)
   | (with_reducible exact value_takes.mono _ _)
   | (with_reducible exact LeO.refl _)
   | (with_reducible exact LeO.none _)
   | (with_reducible refine LeO.ite ?_ ?_)
   | (with_reducible refine LeO.bind ?_ (fun _ => ?_))
   | exact ih0 _ _ _ _ _ _ _ _ _ _
   | exact ih1 _ _ _ _ _ _ _ _ _
   | exact chars_Len.mono _ _
   | exact value_check.mono _ _ _ _ _ _ _
   | exact value_sum.mono _ _ _ _ _ _ _
   | exact value_takes.mono _ _
   | exact LeO.none _
   | refine LeO.ite ?_ ?_
   | refine LeO.bind ?_ (fun _ => ?_)
theorem value_call.mono : ∀ a0 a1 a2 a3 a4 a5 a6 k, LeO (value_call.f k a0 a1 a2 a3 a4 a5 a6) (value_call.f (k + 1) a0 a1 a2 a3 a4 a5 a6) := by
 intro a0 a1 a2 a3 a4 a5 a6 k
 obtain ⟨ih0, ih1⟩ := value_call.mono_l k
 unfold value_call.f
 repeat' first
   | (with_reducible exact ih0 _ _ _ _ _ _ _ _ _ _)
   | (with_reducible exact ih1 _ _ _ _ _ _ _ _ _)
   | (with_reducible exact chars_Len.mono _ _)
   | (with_reducible exact value_check.mono _ _ _ _ _ _ _)
   | (with_reducible exact value_sum.mono _ _ _ _ _ _ _)
   | (with_reducible exact value_takes.mono _ _)
   | (with_reducible exact LeO.refl _)
   | (with_reducible exact LeO.none _)
   | (with_reducible refine LeO.ite ?_ ?_)
   | (with_reducible refine LeO.bind ?_ (fun _ => ?_))
   | exact ih0 _ _ _ _ _ _ _ _ _ _
   | exact ih1 _ _ _ _ _ _ _ _ _
   | exact chars_Len.mono _ _
   | exact value_check.mono _ _ _ _ _ _ _
   | exact value_sum.mono _ _ _ _ _ _ _
   | exact value_takes.mono _ _
   | exact LeO.none _
   | refine LeO.ite ?_ ?_
   | refine LeO.bind ?_ (fun _ => ?_)
def value_call.T27 : Bool × List (List Nat × List Nat) := (true, [([], []), ([0], [0]), ([1], [1]), ([2], [2]), ([3], [3]), ([], []), ([5], [5]), ([6], [6]), ([7], [7]), ([8], [8]), ([4, 9], [4, 9]), ([10, 10, 0, 1, 2, 3, 4, 5, 6, 7, 8, 9, 10], [10]), ([11, 0, 1, 2, 3, 4, 5, 6, 7, 8, 9, 10, 11], [])])
def value_call.B27 : List Nat := [0, 1, 3, 7, 15, 0, 32, 96, 224, 480, 1023, 2047, 4095]
theorem value_call.tab27 : rtab .any (opsOf Tryd.f44 27) = value_call.T27 := by kernel_rfl
theorem value_call.bits27 : waitsOk value_call.T27.2 value_call.B27 = true := by kernel_rfl
def value_call.T34 : Bool × List (List Nat × List Nat) := (true, [([], []), ([0], [0]), ([1], [1]), ([2], [2]), ([], []), ([4], [4]), ([5], [5]), ([6, 3], [6]), ([3, 7, 7], [3, 7]), ([8, 8], [8]), ([9, 9, 0, 1, 2, 3, 4, 5, 6, 7, 8, 9], [9]), ([10, 0, 1, 2, 3, 4, 5, 6, 7, 8, 9, 10], [])])
def value_call.B34 : List Nat := [0, 1, 3, 7, 0, 16, 48, 127, 255, 511, 1023, 2047]
theorem value_call.tab34 : rtab .any (opsOf Tryd.f44 34) = value_call.T34 := by kernel_rfl
theorem value_call.bits34 : waitsOk value_call.T34.2 value_call.B34 = true := by kernel_rfl
def value_call.T35 : Bool × List (List Nat × List Nat) := (true, [([], []), ([0], [0]), ([1], [1]), ([2], [2]), ([], []), ([4], [4]), ([5], [5]), ([6, 3], [6]), ([3, 7, 7], [3, 7]), ([8, 8], [8]), ([9, 9, 0, 1, 2, 3, 4, 5, 6, 7, 8, 9], [9]), ([10, 0, 1, 2, 3, 4, 5, 6, 7, 8, 9, 10], [])])
def value_call.B35 : List Nat := [0, 1, 3, 7, 0, 16, 48, 127, 255, 511, 1023, 2047]
theorem value_call.tab35 : rtab .any (opsOf Tryd.f44 35) = value_call.T35 := by kernel_rfl
theorem value_call.bits35 : waitsOk value_call.T35.2 value_call.B35 = true := by kernel_rfl
set_option maxHeartbeats 8000000 in
set_option maxRecDepth 100000 in
theorem value_call.calls (k : Nat) (a0 : ByteArray) (a1_0 : Int) (a1_1 : Int) (a1_2 : ByteArray) (a1_3 : ByteArray) (A1_4 : Option Addr) (c1_4 : Nat) (l1_4 : List (S121)) (A2 : Option Addr) (c2 : Nat) (l2 : List (S49)) (r1 : Int) (r2 : Bool) (r3 : Int) (r4 : Bool) (r5 : ByteArray) (r6 : List ByteArray) (r7 : Int) (w : World) (hr1_4 : Kd.C k121 w A1_4 l1_4.length l1_4) (hc1_4 : l1_4.length ≤ c1_4) (hr2 : Kd.C k49 w A2 l2.length l2) (hc2 : l2.length ≤ c2) (h : value_call.f k a0 a1_0 a1_1 a1_2 a1_3 l1_4 l2 = some (r1, r2, r3, r4, r5, r6, r7)) (hG : Glob w := by first | exact Glob.step HG.out (by repeat (first | (with_reducible first | exact HB.out | apply below_alloc | apply pw_below_drewN | apply below_drew1) | exact HB.out | (refine below_set ?_ (Aside0.out (by assumption))))) | exact HG.out | assumption) (hG3 : Glob3 w := by first | exact Glob3.step HG3.out (by repeat (first | (with_reducible first | exact HB.out | apply below_alloc | apply pw_below_drewN | apply below_drew1) | exact HB.out | (refine below_set ?_ (Aside0.out (by assumption))))) | exact HG3.out | assumption) :
  Calls Tryd.prog 44 #[.string a0, .agg #[.int .i64 a1_0, .int .i64 a1_1, .string a1_2, .string a1_3, .slice A1_4 l1_4.length c1_4], .slice A2 l2.length c2] w fun e w' => ∃ v5_ : Value, e = .returned (.tuple #[.agg #[.int .i64 r1, .bool r2, .int .i64 r3, .bool r4, .string r5, v5_], .int .i64 r7]) ∧ Kd.R Kd.string 9 w' w.heap.size (fun _ => True) v5_ r6 ∧ Below w.heap.size w w' := by
 have HG := Aside0.mk hG
 clear hG
 have HG3 := Aside0.mk hG3
 clear hG3
 have hu61 := Tryd.underlying61
 have hu49 := Tryd.underlying49
 have HR1_4 := Aside0.mk hr1_4
 have HC1_4 := Aside0.mk hc1_4
 clear hr1_4 hc1_4
 have HR2 := Aside0.mk hr2
 have HC2 := Aside0.mk hc2
 clear hr2 hc2
 have HB := Aside0.mk (Below.refl w.heap.size w)
 have H : ((value_takes.f k a0).bind fun t181 => (if t181 = (l2.length : Int) then (value_call.l0 k a0 l2 l2 (l2.length : Int) 0 a1_0 a1_1 a1_2 a1_3 l1_4) else (some (0, false, 0, false, (⟨#[]⟩ : ByteArray), ([] : List ByteArray), 140)))) = some (r1, r2, r3, r4, r5, r6, r7) := h
 clear h
 replace H := Option.bind_eq_some_iff.mp H
 obtain ⟨t181, A40, H⟩ := H
 replace H : (if t181 = (l2.length : Int) then (value_call.l0 k a0 l2 l2 (l2.length : Int) 0 a1_0 a1_1 a1_2 a1_3 l1_4) else (some (0, false, 0, false, (⟨#[]⟩ : ByteArray), ([] : List ByteArray), 140))) = some (r1, r2, r3, r4, r5, r6, r7) := H
 have A4 := Aside0.mk A40
 clear A40
 by_cases c5 : t181 = (l2.length : Int)
 ·rw [if_pos c5] at H
  have c5b0 : (t181 == (l2.length : Int)) = true := beq_iff_eq.mpr c5
  have c5b1 : (t181 != (l2.length : Int)) = false := bne_eq_false_iff_eq.mpr c5
  clear c5
  have H' := Aside0.mk H
  clear H
  go_enter Tryd.func44, Tryd.ntmps44
  go_wp2_with (first | ((with_reducible refine gate_dst (N := 4) rfl ?_); refine box_event ?hg (N := 4) ?hd (cs := #[.int .i64 a1_0, .int .i64 a1_1, .string a1_2, .string a1_3, .slice A1_4 l1_4.length c1_4]) (t := 61) ?hr ?_; (case hd => rfl); (case hg => rfl); (case hr => first | (go_simp; done) | (go_simp; rfl)); intro gb179 hg w6 hbox hb; have n0_ := Aside0.mk (below_step hb_ hb); have n1_ := Aside0.mk (hbox); have n2_ := Aside0.mk ((by rw [hg]; exact (below_size hb_) : w.heap.size ≤ gb179)); have n3_ := Aside0.mk ((by rw [hg]; exact (below_size hb_) : w.heap.size ≤ gb179)); clear HB; have HB := n0_; have BK179 := n1_; have GW179 := n2_; have GE179 := n3_; clear n0_ n1_ n2_ n3_; clear hb hbox hg) | ((with_reducible refine gate_dst (N := 6) rfl ?_); refine box_event ?hg (N := 6) ?hd (cs := #[.int .i64 0, .bool false, .int .i64 0, .bool false, .string (⟨#[]⟩ : ByteArray), .slice none 0 0]) (t := 49) ?hr ?_; (case hd => rfl); (case hg => rfl); (case hr => first | (go_simp; done) | (go_simp; rfl)); intro gb180 hg w7 hbox hb; have n0_ := Aside0.mk (blk_below (g := gb179) (o := .cells #[.int .i64 a1_0, .int .i64 a1_1, .string a1_2, .string a1_3, .slice A1_4 l1_4.length c1_4] 61 (0, 0)) (bk_ BK179.out) hb); have n1_ := Aside0.mk (below_step (by repeat (first | (with_reducible first | exact HB.out | apply below_alloc | apply pw_below_drewN | apply below_drew1 | refine below_set ?_ GE179.out) | exact HB.out)) hb); have n2_ := Aside0.mk (hbox); have n3_ := Aside0.mk ((by rw [hg]; exact (below_size (by repeat (first | (with_reducible first | exact HB.out | apply below_alloc | apply pw_below_drewN | apply below_drew1 | refine below_set ?_ GE179.out) | exact HB.out))) : w.heap.size ≤ gb180)); have n4_ := Aside0.mk ((by rw [hg]; exact (below_size (by repeat (first | (with_reducible first | exact HB.out | apply below_alloc | apply pw_below_drewN | apply below_drew1 | refine below_set ?_ GE179.out) | exact HB.out))) : w.heap.size ≤ gb180)); have n5_ := Aside0.mk ((by rw [hg]; exact Nat.ne_of_lt (blk_lt (g := gb179) (o := .cells #[.int .i64 a1_0, .int .i64 a1_1, .string a1_2, .string a1_3, .slice A1_4 l1_4.length c1_4] 61 (0, 0)) (bk_ BK179.out)) : gb179 ≠ gb180)); have n6_ := Aside0.mk ((by rw [hg]; exact Nat.ne_of_gt (blk_lt (g := gb179) (o := .cells #[.int .i64 a1_0, .int .i64 a1_1, .string a1_2, .string a1_3, .slice A1_4 l1_4.length c1_4] 61 (0, 0)) (bk_ BK179.out)) : gb180 ≠ gb179)); clear BK179; clear HB; have BK179 := n0_; have HB := n1_; have BK180 := n2_; have GW180 := n3_; have GE180 := n4_; have NB179_180 := n5_; have NB180_179 := n6_; clear n0_ n1_ n2_ n3_ n4_ n5_ n6_; clear hb hbox hg) | ((with_reducible refine gate_callee (f := 70) rfl ?_); refine goesL_ (some 14) rfl rfl Tryd.func70 (by kernel_rfl) rfl #[.string a0] rfl rf_ ?_; (with_reducible refine (value_takes.calls k a0 t181 _ A4.out).mono ?_); rintro e w' ⟨rfl, ⟨nd, rfl⟩⟩; refine ⟨_, rfl, ?_⟩))
  go_loopg [21] k (fun kq v21 w' => ∃ (x21_1 : Int) (x181000_1 : Int) (x181001_1 : Bool) (x181002_1 : Int) (x181003_1 : Bool) (x181004_1 : ByteArray), v21 = .int .i64 x21_1 ∧ Aside0 (value_call.l0 kq a0 l2 l2 (l2.length : Int) x21_1 a1_0 a1_1 a1_2 a1_3 l1_4 = some (r1, r2, r3, r4, r5, r6, r7)) ∧ Aside0 (kq ≤ k) ∧ Aside0 (w'.heap[gb179]? = some (.cells #[.int .i64 a1_0, .int .i64 a1_1, .string a1_2, .string a1_3, (.slice A1_4 l1_4.length c1_4)] 61 (0, 0))) ∧ Aside0 (w'.heap[gb180]? = some (.cells #[.int .i64 x181000_1, .bool x181001_1, .int .i64 x181002_1, .bool x181003_1, .string x181004_1, (.slice none 0 0)] 49 (0, 0))) ∧ Aside0 (Below w.heap.size w w'))
  case atStart => exact ⟨(0), (0), (false), (0), (false), ((⟨#[]⟩ : ByteArray)), (by first | rfl | (simp; done) | (simp [*]; done)), H', ⟨Nat.le_refl _⟩, ⟨by (with_reducible repeat (first | refine blk_drewN ?_ _ | refine blk_drew ?_ | refine blk_alloc ?_ _)); exact BK179.out⟩, ⟨by (with_reducible repeat (first | refine blk_drewN ?_ _ | refine blk_drew ?_ | refine blk_alloc ?_ _)); exact BK180.out⟩, ⟨by repeat (first | (with_reducible first | exact HB.out | apply below_alloc | apply pw_below_drewN | apply below_drew1 | refine below_set ?_ GE179.out | refine below_set ?_ GE180.out) | exact HB.out)⟩⟩
  case round =>
   clear H'
   try clear c1
   try clear c2
   try clear p2
   try clear c4
   try clear c5
   try clear c5b0
   try clear c5b1
   try clear c7
   obtain ⟨x21_1, x181000_1, x181001_1, x181002_1, x181003_1, x181004_1, rfl, HA, HK1, BK179, BK180, HB⟩ := hrel
   cases gk with
   | zero => exact absurd HA.out (by simp [value_call.l0])
   | succ k1 =>
    have H := HA.out
    clear HA
    simp only [value_call.l0] at H
    by_cases c8 : x21_1 < (l2.length : Int)
    ·rw [if_pos c8] at H
     have c8b0 : decide (x21_1 < (l2.length : Int)) = true := decide_eq_true c8
     clear c8
     by_cases c9 : 0 ≤ x21_1
     ·rw [if_pos c9] at H
      have c9b0 : decide (0 ≤ x21_1) = true := decide_eq_true c9
      clear c9
      by_cases c10 : x21_1 < (l2.length : Int)
      ·rw [if_pos c10] at H
       have c10b0 : decide (x21_1 < (l2.length : Int)) = true := decide_eq_true c10
       clear c10
       replace H := Option.bind_eq_some_iff.mp H
       obtain ⟨t184, A110, H⟩ := H
       replace H : (if t184 = 0 then (value_call.l0 k1 a0 l2 l2 (l2.length : Int) (wrap64 (x21_1 + 1)) a1_0 a1_1 a1_2 a1_3 l1_4) else (some (0, false, 0, false, (⟨#[]⟩ : ByteArray), ([] : List ByteArray), t184))) = some (r1, r2, r3, r4, r5, r6, r7) := H
       have A11 := Aside0.mk A110
       clear A110
       by_cases c12 : t184 = 0
       ·rw [if_pos c12] at H
        have c12b0 : (t184 == 0) = true := beq_iff_eq.mpr c12
        have c12b1 : (t184 != 0) = false := bne_eq_false_iff_eq.mpr c12
        clear c12
        have H' := Aside0.mk H
        clear H
        have p182 : 0 ≤ (x21_1 : Int) := of_decide_eq_true (by first | (with_reducible assumption) | assumption)
        have q182 : x21_1 < (l2.length : Int) := of_decide_eq_true (by first | (with_reducible assumption) | assumption)
        obtain ⟨ad182, A182_5, c182_5, e182, hx182_0, hx182_1, hx182_2, hx182_3, hx182_4, hx182_5, hl182_5, hi182_5⟩ := at_T49 HR2.out x21_1 p182 q182
        cases e182
        replace hx182_0 := (HB.out.cell (World.block_lt_of_cell? w _ hx182_0)).trans hx182_0
        replace hx182_1 := (HB.out.cell (World.block_lt_of_cell? w _ hx182_1)).trans hx182_1
        replace hx182_2 := (HB.out.cell (World.block_lt_of_cell? w _ hx182_2)).trans hx182_2
        replace hx182_3 := (HB.out.cell (World.block_lt_of_cell? w _ hx182_3)).trans hx182_3
        replace hx182_4 := (HB.out.cell (World.block_lt_of_cell? w _ hx182_4)).trans hx182_4
        replace hx182_5 := (HB.out.cell (World.block_lt_of_cell? w _ hx182_5)).trans hx182_5
        have HR182_5 := Aside0.mk hi182_5
        have HC182_5 := Aside0.mk hl182_5
        clear hi182_5 hl182_5
        replace p182 := eq_true p182
        replace q182 := eq_true q182
        go_wp2_with (first | ((with_reducible refine gate_dst (N := 9) rfl ?_); refine box_event ?hg (N := 9) ?hd (cs := #[.int .i64 0, .bool false, .int .i64 0, .bool false, .string (⟨#[]⟩ : ByteArray), .slice none 0 0]) (t := 49) ?hr ?_; (case hd => rfl); (case hg => rfl); (case hr => first | (go_simp; done) | (go_simp; rfl)); intro gb183 hg w13 hbox hb; have n0_ := Aside0.mk (blk_below (g := gb179) (o := .cells #[.int .i64 a1_0, .int .i64 a1_1, .string a1_2, .string a1_3, .slice A1_4 l1_4.length c1_4] 61 (0, 0)) (bk_ BK179.out) hb); have n1_ := Aside0.mk (blk_below (g := gb180) (o := .cells #[.int .i64 x181000_1, .bool x181001_1, .int .i64 x181002_1, .bool x181003_1, .string x181004_1, .slice none 0 0] 49 (0, 0)) (bk_ BK180.out) hb); have n2_ := Aside0.mk (below_step (by repeat (first | (with_reducible first | exact HB.out | apply below_alloc | apply pw_below_drewN | apply below_drew1 | refine below_set ?_ GE179.out | refine below_set ?_ GE180.out) | exact HB.out)) hb); have n3_ := Aside0.mk (hbox); have n4_ := Aside0.mk ((by rw [hg]; exact (below_size (by repeat (first | (with_reducible first | exact HB.out | apply below_alloc | apply pw_below_drewN | apply below_drew1 | refine below_set ?_ GE179.out | refine below_set ?_ GE180.out) | exact HB.out))) : w.heap.size ≤ gb183)); have n5_ := Aside0.mk ((by rw [hg]; exact (below_size (by repeat (first | (with_reducible first | exact HB.out | apply below_alloc | apply pw_below_drewN | apply below_drew1 | refine below_set ?_ GE179.out | refine below_set ?_ GE180.out) | exact HB.out))) : w.heap.size ≤ gb183)); have n6_ := Aside0.mk ((by rw [hg]; exact Nat.ne_of_lt (blk_lt (g := gb179) (o := .cells #[.int .i64 a1_0, .int .i64 a1_1, .string a1_2, .string a1_3, .slice A1_4 l1_4.length c1_4] 61 (0, 0)) (bk_ BK179.out)) : gb179 ≠ gb183)); have n7_ := Aside0.mk ((by rw [hg]; exact Nat.ne_of_gt (blk_lt (g := gb179) (o := .cells #[.int .i64 a1_0, .int .i64 a1_1, .string a1_2, .string a1_3, .slice A1_4 l1_4.length c1_4] 61 (0, 0)) (bk_ BK179.out)) : gb183 ≠ gb179)); have n8_ := Aside0.mk ((by rw [hg]; exact Nat.ne_of_lt (blk_lt (g := gb180) (o := .cells #[.int .i64 x181000_1, .bool x181001_1, .int .i64 x181002_1, .bool x181003_1, .string x181004_1, .slice none 0 0] 49 (0, 0)) (bk_ BK180.out)) : gb180 ≠ gb183)); have n9_ := Aside0.mk ((by rw [hg]; exact Nat.ne_of_gt (blk_lt (g := gb180) (o := .cells #[.int .i64 x181000_1, .bool x181001_1, .int .i64 x181002_1, .bool x181003_1, .string x181004_1, .slice none 0 0] 49 (0, 0)) (bk_ BK180.out)) : gb183 ≠ gb180)); clear BK179; clear BK180; clear HB; have BK179 := n0_; have BK180 := n1_; have HB := n2_; have BK183 := n3_; have GW183 := n4_; have GE183 := n5_; have NB179_183 := n6_; have NB183_179 := n7_; have NB180_183 := n8_; have NB183_180 := n9_; clear n0_ n1_ n2_ n3_ n4_ n5_ n6_ n7_ n8_ n9_; clear hb hbox hg; have hnb14 := NB183_179.out; have hnc14 := NB179_183.out; have hnb15 := NB183_180.out; have hnc15 := NB180_183.out; have hcz16_0 : w13.cell? ⟨gb183, 0, none⟩ = some (.int .i64 0) := (blk_cell BK183.out 0).trans rfl; have hcz16_1 : w13.cell? ⟨gb183, 1, none⟩ = some (.bool false) := (blk_cell BK183.out 1).trans rfl; have hcz16_2 : w13.cell? ⟨gb183, 2, none⟩ = some (.int .i64 0) := (blk_cell BK183.out 2).trans rfl; have hcz16_3 : w13.cell? ⟨gb183, 3, none⟩ = some (.bool false) := (blk_cell BK183.out 3).trans rfl; have hcz16_4 : w13.cell? ⟨gb183, 4, none⟩ = some (.string (⟨#[]⟩ : ByteArray)) := (blk_cell BK183.out 4).trans rfl; have hcz16_5 : w13.cell? ⟨gb183, 5, none⟩ = some (.slice none 0 0) := (blk_cell BK183.out 5).trans rfl; have hfz16_0 := blk_frozen BK183.out 0; have hfz16_1 := blk_frozen BK183.out 1; have hfz16_2 := blk_frozen BK183.out 2; have hfz16_3 := blk_frozen BK183.out 3; have hfz16_4 := blk_frozen BK183.out 4; have hfz16_5 := blk_frozen BK183.out 5) | ((with_reducible refine gate_callee (f := 41) rfl ?_); refine goesL_ (some 26) rfl rfl Tryd.func41 (by kernel_rfl) rfl #[.agg #[.int .i64 ((rd_T49 l2 x21_1).f0), .bool ((rd_T49 l2 x21_1).f1), .int .i64 ((rd_T49 l2 x21_1).f2), .bool ((rd_T49 l2 x21_1).f3), .string ((rd_T49 l2 x21_1).f4), .slice A182_5 ((rd_T49 l2 x21_1).f5).length c182_5]] rfl rf_ ?_; (with_reducible refine (value_check.calls k1 ((rd_T49 l2 x21_1).f0) ((rd_T49 l2 x21_1).f1) ((rd_T49 l2 x21_1).f2) ((rd_T49 l2 x21_1).f3) ((rd_T49 l2 x21_1).f4) _ _ ((rd_T49 l2 x21_1).f5) t184 _ ?side1 ?side2 A11.out).mono ?_); (case side1 => exact Kd.C_below HR182_5.out (by repeat (first | (with_reducible first | exact HB.out | apply below_alloc | apply pw_below_drewN | apply below_drew1 | refine below_set ?_ GE179.out | refine below_set ?_ GE180.out | refine below_set ?_ GE183.out) | exact HB.out))); (case side2 => exact HC182_5.out); rintro e w17 ⟨rfl, hb⟩; refine ⟨_, rfl, ?_⟩; have n0_ := Aside0.mk (blk_below (g := gb179) (o := .cells #[.int .i64 a1_0, .int .i64 a1_1, .string a1_2, .string a1_3, .slice A1_4 l1_4.length c1_4] 61 (0, 0)) (by (with_reducible repeat (first | refine blk_drewN ?_ _ | refine blk_drew ?_ | refine blk_alloc ?_ _)); refine blk_far ?_ NB179_183.out _; (with_reducible repeat (first | refine blk_drewN ?_ _ | refine blk_drew ?_ | refine blk_alloc ?_ _)); refine blk_far ?_ NB179_183.out _; (with_reducible repeat (first | refine blk_drewN ?_ _ | refine blk_drew ?_ | refine blk_alloc ?_ _)); refine blk_far ?_ NB179_183.out _; (with_reducible repeat (first | refine blk_drewN ?_ _ | refine blk_drew ?_ | refine blk_alloc ?_ _)); refine blk_far ?_ NB179_183.out _; (with_reducible repeat (first | refine blk_drewN ?_ _ | refine blk_drew ?_ | refine blk_alloc ?_ _)); refine blk_far ?_ NB179_183.out _; (with_reducible repeat (first | refine blk_drewN ?_ _ | refine blk_drew ?_ | refine blk_alloc ?_ _)); refine blk_far ?_ NB179_183.out _; (with_reducible repeat (first | refine blk_drewN ?_ _ | refine blk_drew ?_ | refine blk_alloc ?_ _)); exact BK179.out) hb); have n1_ := Aside0.mk (blk_below (g := gb180) (o := .cells #[.int .i64 x181000_1, .bool x181001_1, .int .i64 x181002_1, .bool x181003_1, .string x181004_1, .slice none 0 0] 49 (0, 0)) (by (with_reducible repeat (first | refine blk_drewN ?_ _ | refine blk_drew ?_ | refine blk_alloc ?_ _)); refine blk_far ?_ NB180_183.out _; (with_reducible repeat (first | refine blk_drewN ?_ _ | refine blk_drew ?_ | refine blk_alloc ?_ _)); refine blk_far ?_ NB180_183.out _; (with_reducible repeat (first | refine blk_drewN ?_ _ | refine blk_drew ?_ | refine blk_alloc ?_ _)); refine blk_far ?_ NB180_183.out _; (with_reducible repeat (first | refine blk_drewN ?_ _ | refine blk_drew ?_ | refine blk_alloc ?_ _)); refine blk_far ?_ NB180_183.out _; (with_reducible repeat (first | refine blk_drewN ?_ _ | refine blk_drew ?_ | refine blk_alloc ?_ _)); refine blk_far ?_ NB180_183.out _; (with_reducible repeat (first | refine blk_drewN ?_ _ | refine blk_drew ?_ | refine blk_alloc ?_ _)); refine blk_far ?_ NB180_183.out _; (with_reducible repeat (first | refine blk_drewN ?_ _ | refine blk_drew ?_ | refine blk_alloc ?_ _)); exact BK180.out) hb); have n2_ := Aside0.mk (blk_below (g := gb183) (o := .cells #[.int .i64 ((rd_T49 l2 x21_1).f0), .bool ((rd_T49 l2 x21_1).f1), .int .i64 ((rd_T49 l2 x21_1).f2), .bool ((rd_T49 l2 x21_1).f3), .string ((rd_T49 l2 x21_1).f4), .slice A182_5 ((rd_T49 l2 x21_1).f5).length c182_5] 49 (0, 0)) (by (with_reducible repeat (first | refine blk_drewN ?_ _ | refine blk_drew ?_ | refine blk_alloc ?_ _)); refine blk_put (cs := #[.int .i64 ((rd_T49 l2 x21_1).f0), .bool ((rd_T49 l2 x21_1).f1), .int .i64 ((rd_T49 l2 x21_1).f2), .bool ((rd_T49 l2 x21_1).f3), .string ((rd_T49 l2 x21_1).f4), .slice none 0 0]) ?_ 5 _ rfl; (with_reducible repeat (first | refine blk_drewN ?_ _ | refine blk_drew ?_ | refine blk_alloc ?_ _)); refine blk_put (cs := #[.int .i64 ((rd_T49 l2 x21_1).f0), .bool ((rd_T49 l2 x21_1).f1), .int .i64 ((rd_T49 l2 x21_1).f2), .bool ((rd_T49 l2 x21_1).f3), .string (⟨#[]⟩ : ByteArray), .slice none 0 0]) ?_ 4 _ rfl; (with_reducible repeat (first | refine blk_drewN ?_ _ | refine blk_drew ?_ | refine blk_alloc ?_ _)); refine blk_put (cs := #[.int .i64 ((rd_T49 l2 x21_1).f0), .bool ((rd_T49 l2 x21_1).f1), .int .i64 ((rd_T49 l2 x21_1).f2), .bool false, .string (⟨#[]⟩ : ByteArray), .slice none 0 0]) ?_ 3 _ rfl; (with_reducible repeat (first | refine blk_drewN ?_ _ | refine blk_drew ?_ | refine blk_alloc ?_ _)); refine blk_put (cs := #[.int .i64 ((rd_T49 l2 x21_1).f0), .bool ((rd_T49 l2 x21_1).f1), .int .i64 0, .bool false, .string (⟨#[]⟩ : ByteArray), .slice none 0 0]) ?_ 2 _ rfl; (with_reducible repeat (first | refine blk_drewN ?_ _ | refine blk_drew ?_ | refine blk_alloc ?_ _)); refine blk_put (cs := #[.int .i64 ((rd_T49 l2 x21_1).f0), .bool false, .int .i64 0, .bool false, .string (⟨#[]⟩ : ByteArray), .slice none 0 0]) ?_ 1 _ rfl; (with_reducible repeat (first | refine blk_drewN ?_ _ | refine blk_drew ?_ | refine blk_alloc ?_ _)); refine blk_put (cs := #[.int .i64 0, .bool false, .int .i64 0, .bool false, .string (⟨#[]⟩ : ByteArray), .slice none 0 0]) ?_ 0 _ rfl; (with_reducible repeat (first | refine blk_drewN ?_ _ | refine blk_drew ?_ | refine blk_alloc ?_ _)); exact BK183.out) hb); have n3_ := Aside0.mk (below_step (by repeat (first | (with_reducible first | exact HB.out | apply below_alloc | apply pw_below_drewN | apply below_drew1 | refine below_set ?_ GE179.out | refine below_set ?_ GE180.out | refine below_set ?_ GE183.out) | exact HB.out)) hb); clear BK179; clear BK180; clear BK183; clear HB; have BK179 := n0_; have BK180 := n1_; have BK183 := n2_; have HB := n3_; clear n0_ n1_ n2_ n3_; (try clear hb); (try clear hb2); (try clear hk); (try clear hi)))
        go_roundg k1
        case measure => have := HK1.out; omega
        case rel => exact ⟨(wrap64 (x21_1 + 1)), (x181000_1), (x181001_1), (x181002_1), (x181003_1), (x181004_1), (by first | rfl | (simp; done) | (simp [*]; done)), H', ⟨by have := HK1.out; omega⟩, ⟨by (with_reducible repeat (first | refine blk_drewN ?_ _ | refine blk_drew ?_ | refine blk_alloc ?_ _)); exact BK179.out⟩, ⟨by (with_reducible repeat (first | refine blk_drewN ?_ _ | refine blk_drew ?_ | refine blk_alloc ?_ _)); exact BK180.out⟩, ⟨by repeat (first | (with_reducible first | exact HB.out | apply below_alloc | apply pw_below_drewN | apply below_drew1 | refine below_set ?_ GE179.out | refine below_set ?_ GE180.out | refine below_set ?_ GE183.out) | exact HB.out)⟩⟩
       ·rw [if_neg c12] at H
        have c12b0 : (t184 == 0) = false := beq_eq_false_iff_ne.mpr c12
        have c12b1 : (t184 != 0) = true := bne_iff_ne.mpr c12
        simp only [Option.some.injEq, Prod.mk.injEq] at H
        obtain ⟨rfl, rfl, rfl, rfl, rfl, rfl, rfl⟩ := H
        have p182 : 0 ≤ (x21_1 : Int) := of_decide_eq_true (by first | (with_reducible assumption) | assumption)
        have q182 : x21_1 < (l2.length : Int) := of_decide_eq_true (by first | (with_reducible assumption) | assumption)
        obtain ⟨ad182, A182_5, c182_5, e182, hx182_0, hx182_1, hx182_2, hx182_3, hx182_4, hx182_5, hl182_5, hi182_5⟩ := at_T49 HR2.out x21_1 p182 q182
        cases e182
        replace hx182_0 := (HB.out.cell (World.block_lt_of_cell? w _ hx182_0)).trans hx182_0
        replace hx182_1 := (HB.out.cell (World.block_lt_of_cell? w _ hx182_1)).trans hx182_1
        replace hx182_2 := (HB.out.cell (World.block_lt_of_cell? w _ hx182_2)).trans hx182_2
        replace hx182_3 := (HB.out.cell (World.block_lt_of_cell? w _ hx182_3)).trans hx182_3
        replace hx182_4 := (HB.out.cell (World.block_lt_of_cell? w _ hx182_4)).trans hx182_4
        replace hx182_5 := (HB.out.cell (World.block_lt_of_cell? w _ hx182_5)).trans hx182_5
        have HR182_5 := Aside0.mk hi182_5
        have HC182_5 := Aside0.mk hl182_5
        clear hi182_5 hl182_5
        replace p182 := eq_true p182
        replace q182 := eq_true q182
        go_wp2_with (first | ((with_reducible refine gate_dst (N := 9) rfl ?_); refine box_event ?hg (N := 9) ?hd (cs := #[.int .i64 0, .bool false, .int .i64 0, .bool false, .string (⟨#[]⟩ : ByteArray), .slice none 0 0]) (t := 49) ?hr ?_; (case hd => rfl); (case hg => rfl); (case hr => first | (go_simp; done) | (go_simp; rfl)); intro gb183 hg w18 hbox hb; have n0_ := Aside0.mk (blk_below (g := gb179) (o := .cells #[.int .i64 a1_0, .int .i64 a1_1, .string a1_2, .string a1_3, .slice A1_4 l1_4.length c1_4] 61 (0, 0)) (bk_ BK179.out) hb); have n1_ := Aside0.mk (blk_below (g := gb180) (o := .cells #[.int .i64 x181000_1, .bool x181001_1, .int .i64 x181002_1, .bool x181003_1, .string x181004_1, .slice none 0 0] 49 (0, 0)) (bk_ BK180.out) hb); have n2_ := Aside0.mk (below_step (by repeat (first | (with_reducible first | exact HB.out | apply below_alloc | apply pw_below_drewN | apply below_drew1 | refine below_set ?_ GE179.out | refine below_set ?_ GE180.out) | exact HB.out)) hb); have n3_ := Aside0.mk (hbox); have n4_ := Aside0.mk ((by rw [hg]; exact (below_size (by repeat (first | (with_reducible first | exact HB.out | apply below_alloc | apply pw_below_drewN | apply below_drew1 | refine below_set ?_ GE179.out | refine below_set ?_ GE180.out) | exact HB.out))) : w.heap.size ≤ gb183)); have n5_ := Aside0.mk ((by rw [hg]; exact (below_size (by repeat (first | (with_reducible first | exact HB.out | apply below_alloc | apply pw_below_drewN | apply below_drew1 | refine below_set ?_ GE179.out | refine below_set ?_ GE180.out) | exact HB.out))) : w.heap.size ≤ gb183)); have n6_ := Aside0.mk ((by rw [hg]; exact Nat.ne_of_lt (blk_lt (g := gb179) (o := .cells #[.int .i64 a1_0, .int .i64 a1_1, .string a1_2, .string a1_3, .slice A1_4 l1_4.length c1_4] 61 (0, 0)) (bk_ BK179.out)) : gb179 ≠ gb183)); have n7_ := Aside0.mk ((by rw [hg]; exact Nat.ne_of_gt (blk_lt (g := gb179) (o := .cells #[.int .i64 a1_0, .int .i64 a1_1, .string a1_2, .string a1_3, .slice A1_4 l1_4.length c1_4] 61 (0, 0)) (bk_ BK179.out)) : gb183 ≠ gb179)); have n8_ := Aside0.mk ((by rw [hg]; exact Nat.ne_of_lt (blk_lt (g := gb180) (o := .cells #[.int .i64 x181000_1, .bool x181001_1, .int .i64 x181002_1, .bool x181003_1, .string x181004_1, .slice none 0 0] 49 (0, 0)) (bk_ BK180.out)) : gb180 ≠ gb183)); have n9_ := Aside0.mk ((by rw [hg]; exact Nat.ne_of_gt (blk_lt (g := gb180) (o := .cells #[.int .i64 x181000_1, .bool x181001_1, .int .i64 x181002_1, .bool x181003_1, .string x181004_1, .slice none 0 0] 49 (0, 0)) (bk_ BK180.out)) : gb183 ≠ gb180)); clear BK179; clear BK180; clear HB; have BK179 := n0_; have BK180 := n1_; have HB := n2_; have BK183 := n3_; have GW183 := n4_; have GE183 := n5_; have NB179_183 := n6_; have NB183_179 := n7_; have NB180_183 := n8_; have NB183_180 := n9_; clear n0_ n1_ n2_ n3_ n4_ n5_ n6_ n7_ n8_ n9_; clear hb hbox hg; have hnb19 := NB183_179.out; have hnc19 := NB179_183.out; have hnb20 := NB183_180.out; have hnc20 := NB180_183.out; have hcz21_0 : w18.cell? ⟨gb183, 0, none⟩ = some (.int .i64 0) := (blk_cell BK183.out 0).trans rfl; have hcz21_1 : w18.cell? ⟨gb183, 1, none⟩ = some (.bool false) := (blk_cell BK183.out 1).trans rfl; have hcz21_2 : w18.cell? ⟨gb183, 2, none⟩ = some (.int .i64 0) := (blk_cell BK183.out 2).trans rfl; have hcz21_3 : w18.cell? ⟨gb183, 3, none⟩ = some (.bool false) := (blk_cell BK183.out 3).trans rfl; have hcz21_4 : w18.cell? ⟨gb183, 4, none⟩ = some (.string (⟨#[]⟩ : ByteArray)) := (blk_cell BK183.out 4).trans rfl; have hcz21_5 : w18.cell? ⟨gb183, 5, none⟩ = some (.slice none 0 0) := (blk_cell BK183.out 5).trans rfl; have hfz21_0 := blk_frozen BK183.out 0; have hfz21_1 := blk_frozen BK183.out 1; have hfz21_2 := blk_frozen BK183.out 2; have hfz21_3 := blk_frozen BK183.out 3; have hfz21_4 := blk_frozen BK183.out 4; have hfz21_5 := blk_frozen BK183.out 5) | ((with_reducible refine gate_callee (f := 41) rfl ?_); refine goesL_ (some 26) rfl rfl Tryd.func41 (by kernel_rfl) rfl #[.agg #[.int .i64 ((rd_T49 l2 x21_1).f0), .bool ((rd_T49 l2 x21_1).f1), .int .i64 ((rd_T49 l2 x21_1).f2), .bool ((rd_T49 l2 x21_1).f3), .string ((rd_T49 l2 x21_1).f4), .slice A182_5 ((rd_T49 l2 x21_1).f5).length c182_5]] rfl rf_ ?_; (with_reducible refine (value_check.calls k1 ((rd_T49 l2 x21_1).f0) ((rd_T49 l2 x21_1).f1) ((rd_T49 l2 x21_1).f2) ((rd_T49 l2 x21_1).f3) ((rd_T49 l2 x21_1).f4) _ _ ((rd_T49 l2 x21_1).f5) t184 _ ?side1 ?side2 A11.out).mono ?_); (case side1 => exact Kd.C_below HR182_5.out (by repeat (first | (with_reducible first | exact HB.out | apply below_alloc | apply pw_below_drewN | apply below_drew1 | refine below_set ?_ GE179.out | refine below_set ?_ GE180.out | refine below_set ?_ GE183.out) | exact HB.out))); (case side2 => exact HC182_5.out); rintro e w22 ⟨rfl, hb⟩; refine ⟨_, rfl, ?_⟩; have n0_ := Aside0.mk (blk_below (g := gb179) (o := .cells #[.int .i64 a1_0, .int .i64 a1_1, .string a1_2, .string a1_3, .slice A1_4 l1_4.length c1_4] 61 (0, 0)) (by (with_reducible repeat (first | refine blk_drewN ?_ _ | refine blk_drew ?_ | refine blk_alloc ?_ _)); refine blk_far ?_ NB179_183.out _; (with_reducible repeat (first | refine blk_drewN ?_ _ | refine blk_drew ?_ | refine blk_alloc ?_ _)); refine blk_far ?_ NB179_183.out _; (with_reducible repeat (first | refine blk_drewN ?_ _ | refine blk_drew ?_ | refine blk_alloc ?_ _)); refine blk_far ?_ NB179_183.out _; (with_reducible repeat (first | refine blk_drewN ?_ _ | refine blk_drew ?_ | refine blk_alloc ?_ _)); refine blk_far ?_ NB179_183.out _; (with_reducible repeat (first | refine blk_drewN ?_ _ | refine blk_drew ?_ | refine blk_alloc ?_ _)); refine blk_far ?_ NB179_183.out _; (with_reducible repeat (first | refine blk_drewN ?_ _ | refine blk_drew ?_ | refine blk_alloc ?_ _)); refine blk_far ?_ NB179_183.out _; (with_reducible repeat (first | refine blk_drewN ?_ _ | refine blk_drew ?_ | refine blk_alloc ?_ _)); exact BK179.out) hb); have n1_ := Aside0.mk (blk_below (g := gb180) (o := .cells #[.int .i64 x181000_1, .bool x181001_1, .int .i64 x181002_1, .bool x181003_1, .string x181004_1, .slice none 0 0] 49 (0, 0)) (by (with_reducible repeat (first | refine blk_drewN ?_ _ | refine blk_drew ?_ | refine blk_alloc ?_ _)); refine blk_far ?_ NB180_183.out _; (with_reducible repeat (first | refine blk_drewN ?_ _ | refine blk_drew ?_ | refine blk_alloc ?_ _)); refine blk_far ?_ NB180_183.out _; (with_reducible repeat (first | refine blk_drewN ?_ _ | refine blk_drew ?_ | refine blk_alloc ?_ _)); refine blk_far ?_ NB180_183.out _; (with_reducible repeat (first | refine blk_drewN ?_ _ | refine blk_drew ?_ | refine blk_alloc ?_ _)); refine blk_far ?_ NB180_183.out _; (with_reducible repeat (first | refine blk_drewN ?_ _ | refine blk_drew ?_ | refine blk_alloc ?_ _)); refine blk_far ?_ NB180_183.out _; (with_reducible repeat (first | refine blk_drewN ?_ _ | refine blk_drew ?_ | refine blk_alloc ?_ _)); refine blk_far ?_ NB180_183.out _; (with_reducible repeat (first | refine blk_drewN ?_ _ | refine blk_drew ?_ | refine blk_alloc ?_ _)); exact BK180.out) hb); have n2_ := Aside0.mk (blk_below (g := gb183) (o := .cells #[.int .i64 ((rd_T49 l2 x21_1).f0), .bool ((rd_T49 l2 x21_1).f1), .int .i64 ((rd_T49 l2 x21_1).f2), .bool ((rd_T49 l2 x21_1).f3), .string ((rd_T49 l2 x21_1).f4), .slice A182_5 ((rd_T49 l2 x21_1).f5).length c182_5] 49 (0, 0)) (by (with_reducible repeat (first | refine blk_drewN ?_ _ | refine blk_drew ?_ | refine blk_alloc ?_ _)); refine blk_put (cs := #[.int .i64 ((rd_T49 l2 x21_1).f0), .bool ((rd_T49 l2 x21_1).f1), .int .i64 ((rd_T49 l2 x21_1).f2), .bool ((rd_T49 l2 x21_1).f3), .string ((rd_T49 l2 x21_1).f4), .slice none 0 0]) ?_ 5 _ rfl; (with_reducible repeat (first | refine blk_drewN ?_ _ | refine blk_drew ?_ | refine blk_alloc ?_ _)); refine blk_put (cs := #[.int .i64 ((rd_T49 l2 x21_1).f0), .bool ((rd_T49 l2 x21_1).f1), .int .i64 ((rd_T49 l2 x21_1).f2), .bool ((rd_T49 l2 x21_1).f3), .string (⟨#[]⟩ : ByteArray), .slice none 0 0]) ?_ 4 _ rfl; (with_reducible repeat (first | refine blk_drewN ?_ _ | refine blk_drew ?_ | refine blk_alloc ?_ _)); refine blk_put (cs := #[.int .i64 ((rd_T49 l2 x21_1).f0), .bool ((rd_T49 l2 x21_1).f1), .int .i64 ((rd_T49 l2 x21_1).f2), .bool false, .string (⟨#[]⟩ : ByteArray), .slice none 0 0]) ?_ 3 _ rfl; (with_reducible repeat (first | refine blk_drewN ?_ _ | refine blk_drew ?_ | refine blk_alloc ?_ _)); refine blk_put (cs := #[.int .i64 ((rd_T49 l2 x21_1).f0), .bool ((rd_T49 l2 x21_1).f1), .int .i64 0, .bool false, .string (⟨#[]⟩ : ByteArray), .slice none 0 0]) ?_ 2 _ rfl; (with_reducible repeat (first | refine blk_drewN ?_ _ | refine blk_drew ?_ | refine blk_alloc ?_ _)); refine blk_put (cs := #[.int .i64 ((rd_T49 l2 x21_1).f0), .bool false, .int .i64 0, .bool false, .string (⟨#[]⟩ : ByteArray), .slice none 0 0]) ?_ 1 _ rfl; (with_reducible repeat (first | refine blk_drewN ?_ _ | refine blk_drew ?_ | refine blk_alloc ?_ _)); refine blk_put (cs := #[.int .i64 0, .bool false, .int .i64 0, .bool false, .string (⟨#[]⟩ : ByteArray), .slice none 0 0]) ?_ 0 _ rfl; (with_reducible repeat (first | refine blk_drewN ?_ _ | refine blk_drew ?_ | refine blk_alloc ?_ _)); exact BK183.out) hb); have n3_ := Aside0.mk (below_step (by repeat (first | (with_reducible first | exact HB.out | apply below_alloc | apply pw_below_drewN | apply below_drew1 | refine below_set ?_ GE179.out | refine below_set ?_ GE180.out | refine below_set ?_ GE183.out) | exact HB.out)) hb); clear BK179; clear BK180; clear BK183; clear HB; have BK179 := n0_; have BK180 := n1_; have BK183 := n2_; have HB := n3_; clear n0_ n1_ n2_ n3_; (try clear hb); (try clear hb2); (try clear hk); (try clear hi); have hnb23 := NB180_179.out; have hnc23 := NB179_180.out; have hcz24_0 : w22.cell? ⟨gb180, 0, none⟩ = some (.int .i64 x181000_1) := (blk_cell BK180.out 0).trans rfl; have hcz24_1 : w22.cell? ⟨gb180, 1, none⟩ = some (.bool x181001_1) := (blk_cell BK180.out 1).trans rfl; have hcz24_2 : w22.cell? ⟨gb180, 2, none⟩ = some (.int .i64 x181002_1) := (blk_cell BK180.out 2).trans rfl; have hcz24_3 : w22.cell? ⟨gb180, 3, none⟩ = some (.bool x181003_1) := (blk_cell BK180.out 3).trans rfl; have hcz24_4 : w22.cell? ⟨gb180, 4, none⟩ = some (.string x181004_1) := (blk_cell BK180.out 4).trans rfl; have hcz24_5 : w22.cell? ⟨gb180, 5, none⟩ = some (.slice none 0 0) := (blk_cell BK180.out 5).trans rfl; have hfz24_0 := blk_frozen BK180.out 0; have hfz24_1 := blk_frozen BK180.out 1; have hfz24_2 := blk_frozen BK180.out 2; have hfz24_3 := blk_frozen BK180.out 3; have hfz24_4 := blk_frozen BK180.out 4; have hfz24_5 := blk_frozen BK180.out 5))
        refine bodyPost_ret (results_ct rfl _ _ gb180 49 #[.int .i64 0, .bool false, .int .i64 0, .bool false, .string (⟨#[]⟩ : ByteArray), .slice none 0 0] (0, 0) _ rfl (by (with_reducible repeat (first | refine blk_drewN ?_ _ | refine blk_drew ?_ | refine blk_alloc ?_ _)); refine blk_put (cs := #[.int .i64 0, .bool false, .int .i64 0, .bool false, .string (⟨#[]⟩ : ByteArray), .slice none 0 0]) ?_ 5 _ rfl; (with_reducible repeat (first | refine blk_drewN ?_ _ | refine blk_drew ?_ | refine blk_alloc ?_ _)); refine blk_put (cs := #[.int .i64 0, .bool false, .int .i64 0, .bool false, .string x181004_1, .slice none 0 0]) ?_ 4 _ rfl; (with_reducible repeat (first | refine blk_drewN ?_ _ | refine blk_drew ?_ | refine blk_alloc ?_ _)); refine blk_put (cs := #[.int .i64 0, .bool false, .int .i64 0, .bool x181003_1, .string x181004_1, .slice none 0 0]) ?_ 3 _ rfl; (with_reducible repeat (first | refine blk_drewN ?_ _ | refine blk_drew ?_ | refine blk_alloc ?_ _)); refine blk_put (cs := #[.int .i64 0, .bool false, .int .i64 x181002_1, .bool x181003_1, .string x181004_1, .slice none 0 0]) ?_ 2 _ rfl; (with_reducible repeat (first | refine blk_drewN ?_ _ | refine blk_drew ?_ | refine blk_alloc ?_ _)); refine blk_put (cs := #[.int .i64 0, .bool x181001_1, .int .i64 x181002_1, .bool x181003_1, .string x181004_1, .slice none 0 0]) ?_ 1 _ rfl; (with_reducible repeat (first | refine blk_drewN ?_ _ | refine blk_drew ?_ | refine blk_alloc ?_ _)); refine blk_put (cs := #[.int .i64 x181000_1, .bool x181001_1, .int .i64 x181002_1, .bool x181003_1, .string x181004_1, .slice none 0 0]) ?_ 0 _ rfl; (with_reducible repeat (first | refine blk_drewN ?_ _ | refine blk_drew ?_ | refine blk_alloc ?_ _)); exact BK180.out) Tryd.underlying49 rfl (by kernel_rfl)) rfl ?_
        exact ⟨_, er_, by first | exact Kd.R_nil _ _ _ _ _ | exact Kd.N_nil _ _ _ _ _ | exact Kd.V_nil _ _ _ _ _ | exact Kd.Q_nil _ _ _ _ _ | exact Kd.S_nil _ _ _ _ _, by repeat (first | (with_reducible first | exact HB.out | apply below_alloc | apply pw_below_drewN | apply below_drew1 | refine below_set ?_ GE179.out | refine below_set ?_ GE180.out | refine below_set ?_ GE183.out) | exact HB.out)⟩
      ·rw [if_neg c10] at H
       exact absurd H (by simp)
     ·rw [if_neg c9] at H
      exact absurd H (by simp)
    ·rw [if_neg c8] at H
     have c8b0 : decide (x21_1 < (l2.length : Int)) = false := decide_eq_false c8
     clear c8
     have HC25 := Aside0.mk H
     clear H
     go_upto_if 33 with (fail)
     go_cut [33] (fun v33 wc => ∃ (kq : Nat) (x33_24 : Bool), v33 = .bool x33_24 ∧ Aside0 (value_call.j1 kq a0 l2 a0 x33_24 a1_0 a1_1 a1_2 a1_3 l1_4 = some (r1, r2, r3, r4, r5, r6, r7)) ∧ Aside0 (kq ≤ k1) ∧ Aside0 (wc.heap[gb179]? = some (.cells #[.int .i64 a1_0, .int .i64 a1_1, .string a1_2, .string a1_3, (.slice A1_4 l1_4.length c1_4)] 61 (0, 0))) ∧ Aside0 (wc.heap[gb180]? = some (.cells #[.int .i64 x181000_1, .bool x181001_1, .int .i64 x181002_1, .bool x181003_1, .string x181004_1, (.slice none 0 0)] 49 (0, 0))) ∧ Aside0 (Below w.heap.size w wc))
     case first =>
      have H := HC25.out
      clear HC25
      by_cases c26 : a0.toList = ([116, 114, 117, 101] : List UInt8)
      ·rw [if_pos c26] at H
       have c26b0 : (a0.toList == ([116, 114, 117, 101] : List UInt8)) = true := beq_iff_eq.mpr c26
       have c26b1 : (a0.toList != ([116, 114, 117, 101] : List UInt8)) = false := bne_eq_false_iff_eq.mpr c26
       clear c26
       (first | rw [c26b0] | (simp only [i64_w, i32_w]; rw [c26b0]) | skip)
       have H' := Aside0.mk H
       clear H
       go_wp2
       go_meet
       case rel => exact ⟨_, ((a0.toList == ([116, 114, 117, 101] : List UInt8))), (by first | rfl | (simp; done) | (simp [*]; done)), H', ⟨by have := HK1.out; first | omega | exact Nat.le_refl _⟩, ⟨by (with_reducible repeat (first | refine blk_drewN ?_ _ | refine blk_drew ?_ | refine blk_alloc ?_ _)); exact BK179.out⟩, ⟨by (with_reducible repeat (first | refine blk_drewN ?_ _ | refine blk_drew ?_ | refine blk_alloc ?_ _)); exact BK180.out⟩, ⟨by repeat (first | (with_reducible first | exact HB.out | apply below_alloc | apply pw_below_drewN | apply below_drew1 | refine below_set ?_ GE179.out | refine below_set ?_ GE180.out) | exact HB.out)⟩⟩
      ·rw [if_neg c26] at H
       have c26b0 : (a0.toList == ([116, 114, 117, 101] : List UInt8)) = false := beq_eq_false_iff_ne.mpr c26
       have c26b1 : (a0.toList != ([116, 114, 117, 101] : List UInt8)) = true := bne_iff_ne.mpr c26
       (first | rw [c26b0] | (simp only [i64_w, i32_w]; rw [c26b0]) | skip)
       have H' := Aside0.mk H
       clear H
       go_wp2
       go_meet
       case rel => exact ⟨_, ((a0.toList == ([102, 97, 108, 115, 101] : List UInt8))), (by first | rfl | (simp; done) | (simp [*]; done)), H', ⟨by have := HK1.out; first | omega | exact Nat.le_refl _⟩, ⟨by (with_reducible repeat (first | refine blk_drewN ?_ _ | refine blk_drew ?_ | refine blk_alloc ?_ _)); exact BK179.out⟩, ⟨by (with_reducible repeat (first | refine blk_drewN ?_ _ | refine blk_drew ?_ | refine blk_alloc ?_ _)); exact BK180.out⟩, ⟨by repeat (first | (with_reducible first | exact HB.out | apply below_alloc | apply pw_below_drewN | apply below_drew1 | refine below_set ?_ GE179.out | refine below_set ?_ GE180.out) | exact HB.out)⟩⟩
     case rest =>
      clear HC25
      try clear c1
      try clear p1
      try clear q1
      try clear hx1
      try clear c2
      try clear p2
      try clear c4
      try clear c5
      try clear c5b0
      try clear c5b1
      try clear p6
      try clear c7
      try clear c8
      try clear c8b0
      try clear c9
      try clear c9b0
      try clear c10
      try clear c10b0
      try clear c12
      try clear c12b0
      try clear c12b1
      try clear c14
      try clear c15
      try clear c18
      try clear p18
      try clear q18
      try clear hx18
      try clear c19
      try clear c20
      try clear c23
      try clear c26
      try clear c26b0
      try clear c26b1
      try clear hcz16_0
      try clear hcz16_1
      try clear hcz16_2
      try clear hcz16_3
      try clear hcz16_4
      try clear hcz16_5
      try clear hcz21_0
      try clear hcz21_1
      try clear hcz21_2
      try clear hcz21_3
      try clear hcz21_4
      try clear hcz21_5
      try clear hcz24_0
      try clear hcz24_1
      try clear hcz24_2
      try clear hcz24_3
      try clear hcz24_4
      try clear hcz24_5
      try clear hfz16_0
      try clear hfz16_1
      try clear hfz16_2
      try clear hfz16_3
      try clear hfz16_4
      try clear hfz16_5
      try clear hfz21_0
      try clear hfz21_1
      try clear hfz21_2
      try clear hfz21_3
      try clear hfz21_4
      try clear hfz21_5
      try clear hfz24_0
      try clear hfz24_1
      try clear hfz24_2
      try clear hfz24_3
      try clear hfz24_4
      try clear hfz24_5
      try clear hx182_0
      try clear hx182_1
      try clear hx182_2
      try clear hx182_3
      try clear hx182_4
      try clear hx182_5
      try clear p182
      try clear p2
      try clear q182
      obtain ⟨kq, x33_24, rfl, HA, HJ24, BK179, BK180, HB⟩ := hcut
      cases kq with
      | zero => exact absurd HA.out (by simp [value_call.j1])
      | succ kj24 =>
       have H := HA.out
       clear HA
       simp only [value_call.j1] at H
       by_cases c27 : x33_24 = true
       ·subst c27
        have H1 : ((value_truth.f (a0.toList == ([116, 114, 117, 101] : List UInt8))).bind fun bt185 => (some (bt185.1, bt185.2.1, bt185.2.2.1, bt185.2.2.2.1, bt185.2.2.2.2.1, bt185.2.2.2.2.2, 0))) = some (r1, r2, r3, r4, r5, r6, r7) := by rw [if_pos rfl] at H; exact H
        clear H
        have H := H1
        clear H1
        replace H := Option.bind_eq_some_iff.mp H
        obtain ⟨⟨t185, t186, t187, t188, t189, t190⟩, A280, H⟩ := H
        replace H : (some (t185, t186, t187, t188, t189, t190, 0)) = some (r1, r2, r3, r4, r5, r6, r7) := H
        have A28 := Aside0.mk A280
        clear A280
        simp only [Option.some.injEq, Prod.mk.injEq] at H
        obtain ⟨rfl, rfl, rfl, rfl, rfl, rfl, rfl⟩ := H
        go_wp2_with (first | ((with_reducible refine gate_callee (f := 65) rfl ?_); refine goesL_ (some 38) rfl rfl Tryd.func65 (by kernel_rfl) rfl #[.bool (a0.toList == ([116, 114, 117, 101] : List UInt8))] rfl rf_ ?_; (with_reducible refine (value_truth.calls (a0.toList == ([116, 114, 117, 101] : List UInt8)) t185 t186 t187 t188 t189 t190 _ A28.out).mono ?_); rintro e w29 ⟨v191, rfl, ho0, hb⟩; refine ⟨_, rfl, ?_⟩; have n0_ := Aside0.mk (Kd.R_lower ho0 (below_size (by repeat (first | (with_reducible first | exact HB.out | apply below_alloc | apply pw_below_drewN | apply below_drew1 | refine below_set ?_ GE179.out | refine below_set ?_ GE180.out) | exact HB.out)))); have n1_ := Aside0.mk (blk_below (g := gb179) (o := .cells #[.int .i64 a1_0, .int .i64 a1_1, .string a1_2, .string a1_3, .slice A1_4 l1_4.length c1_4] 61 (0, 0)) (bk_ BK179.out) hb); have n2_ := Aside0.mk (blk_below (g := gb180) (o := .cells #[.int .i64 x181000_1, .bool x181001_1, .int .i64 x181002_1, .bool x181003_1, .string x181004_1, .slice none 0 0] 49 (0, 0)) (bk_ BK180.out) hb); have n3_ := Aside0.mk (below_step (by repeat (first | (with_reducible first | exact HB.out | apply below_alloc | apply pw_below_drewN | apply below_drew1 | refine below_set ?_ GE179.out | refine below_set ?_ GE180.out) | exact HB.out)) hb); clear BK179; clear BK180; clear HB; have HO192 := n0_; have BK179 := n1_; have BK180 := n2_; have HB := n3_; clear n0_ n1_ n2_ n3_; (try clear hb); (try clear hb2); (try clear hk); (try clear hi); (try clear ho0); have hnb30 := NB180_179.out; have hnc30 := NB179_180.out; have hcz31_0 : w29.cell? ⟨gb180, 0, none⟩ = some (.int .i64 x181000_1) := (blk_cell BK180.out 0).trans rfl; have hcz31_1 : w29.cell? ⟨gb180, 1, none⟩ = some (.bool x181001_1) := (blk_cell BK180.out 1).trans rfl; have hcz31_2 : w29.cell? ⟨gb180, 2, none⟩ = some (.int .i64 x181002_1) := (blk_cell BK180.out 2).trans rfl; have hcz31_3 : w29.cell? ⟨gb180, 3, none⟩ = some (.bool x181003_1) := (blk_cell BK180.out 3).trans rfl; have hcz31_4 : w29.cell? ⟨gb180, 4, none⟩ = some (.string x181004_1) := (blk_cell BK180.out 4).trans rfl; have hcz31_5 : w29.cell? ⟨gb180, 5, none⟩ = some (.slice none 0 0) := (blk_cell BK180.out 5).trans rfl; have hfz31_0 := blk_frozen BK180.out 0; have hfz31_1 := blk_frozen BK180.out 1; have hfz31_2 := blk_frozen BK180.out 2; have hfz31_3 := blk_frozen BK180.out 3; have hfz31_4 := blk_frozen BK180.out 4; have hfz31_5 := blk_frozen BK180.out 5; obtain ⟨Ao32, co32, eo32⟩ := Kd.R_slice HO192.out; subst eo32))
        refine bodyPost_ret (results_ct rfl _ _ gb180 49 #[.int .i64 t185, .bool t186, .int .i64 t187, .bool t188, .string t189, .slice Ao32 t190.length co32] (0, 0) _ rfl (by (with_reducible repeat (first | refine blk_drewN ?_ _ | refine blk_drew ?_ | refine blk_alloc ?_ _)); refine blk_put (cs := #[.int .i64 t185, .bool t186, .int .i64 t187, .bool t188, .string t189, .slice none 0 0]) ?_ 5 _ rfl; (with_reducible repeat (first | refine blk_drewN ?_ _ | refine blk_drew ?_ | refine blk_alloc ?_ _)); refine blk_put (cs := #[.int .i64 t185, .bool t186, .int .i64 t187, .bool t188, .string x181004_1, .slice none 0 0]) ?_ 4 _ rfl; (with_reducible repeat (first | refine blk_drewN ?_ _ | refine blk_drew ?_ | refine blk_alloc ?_ _)); refine blk_put (cs := #[.int .i64 t185, .bool t186, .int .i64 t187, .bool x181003_1, .string x181004_1, .slice none 0 0]) ?_ 3 _ rfl; (with_reducible repeat (first | refine blk_drewN ?_ _ | refine blk_drew ?_ | refine blk_alloc ?_ _)); refine blk_put (cs := #[.int .i64 t185, .bool t186, .int .i64 x181002_1, .bool x181003_1, .string x181004_1, .slice none 0 0]) ?_ 2 _ rfl; (with_reducible repeat (first | refine blk_drewN ?_ _ | refine blk_drew ?_ | refine blk_alloc ?_ _)); refine blk_put (cs := #[.int .i64 t185, .bool x181001_1, .int .i64 x181002_1, .bool x181003_1, .string x181004_1, .slice none 0 0]) ?_ 1 _ rfl; (with_reducible repeat (first | refine blk_drewN ?_ _ | refine blk_drew ?_ | refine blk_alloc ?_ _)); refine blk_put (cs := #[.int .i64 x181000_1, .bool x181001_1, .int .i64 x181002_1, .bool x181003_1, .string x181004_1, .slice none 0 0]) ?_ 0 _ rfl; (with_reducible repeat (first | refine blk_drewN ?_ _ | refine blk_drew ?_ | refine blk_alloc ?_ _)); exact BK180.out) Tryd.underlying49 rfl (by kernel_rfl)) rfl ?_
        exact ⟨_, er_, by (with_reducible repeat (first | apply Kd.R_alloc | apply Kd.R_drewN | apply Kd.R_drew)); exact Kd.R_mono (Kd.R_far (p := ⟨gb180, 5, none⟩) (Kd.R_far (p := ⟨gb180, 4, none⟩) (Kd.R_far (p := ⟨gb180, 3, none⟩) (Kd.R_far (p := ⟨gb180, 2, none⟩) (Kd.R_far (p := ⟨gb180, 1, none⟩) (Kd.R_far (p := ⟨gb180, 0, none⟩) (Kd.R_types HO192.out BK180.out (by decide)) (fun _ hk => hk.2) (.int .i64 t185)) (fun _ hk => hk.2) (.bool t186)) (fun _ hk => hk.2) (.int .i64 t187)) (fun _ hk => hk.2) (.bool t188)) (fun _ hk => hk.2) (.string t189)) (fun _ hk => hk.2) (.slice Ao32 t190.length co32)) (fun _ hk => trivial), by repeat (first | (with_reducible first | exact HB.out | apply below_alloc | apply pw_below_drewN | apply below_drew1 | refine below_set ?_ GE179.out | refine below_set ?_ GE180.out) | exact HB.out)⟩
       ·replace c27 := Bool.eq_false_iff.mpr c27
        subst c27
        have H1 : (if a0.toList = ([112, 111, 115, 105, 116, 105, 111, 110] : List UInt8) then ((value_numbered.f a1_0 true).bind fun bt193 => (some (bt193.1, bt193.2.1, bt193.2.2.1, bt193.2.2.2.1, bt193.2.2.2.2.1, bt193.2.2.2.2.2, 0))) else (if a0.toList = ([108, 97, 115, 116] : List UInt8) then ((value_numbered.f a1_1 true).bind fun bt201 => (some (bt201.1, bt201.2.1, bt201.2.2.1, bt201.2.2.2.1, bt201.2.2.2.2.1, bt201.2.2.2.2.2, 0))) else (if a0.toList = ([110, 97, 109, 101] : List UInt8) then ((value_texted.f a1_2).bind fun bt209 => (some (bt209.1, bt209.2.1, bt209.2.2.1, bt209.2.2.2.1, bt209.2.2.2.2.1, bt209.2.2.2.2.2, 0))) else (if a0.toList = ([110, 111, 116] : List UInt8) then (if 0 < (l2.length : Int) then ((value_asBool.f ((rd_T49 l2 0).f0) ((rd_T49 l2 0).f1) ((rd_T49 l2 0).f2) ((rd_T49 l2 0).f3) ((rd_T49 l2 0).f4) ((rd_T49 l2 0).f5)).bind fun t218 => ((value_truth.f (!t218)).bind fun bt219 => (some (bt219.1, bt219.2.1, bt219.2.2.1, bt219.2.2.2.1, bt219.2.2.2.2.1, bt219.2.2.2.2.2, 0)))) else (none)) else (if a0.toList = ([115, 116, 114, 105, 110, 103] : List UInt8) then (if 0 < (l2.length : Int) then ((value_asText.f ((rd_T49 l2 0).f0) ((rd_T49 l2 0).f1) ((rd_T49 l2 0).f2) ((rd_T49 l2 0).f3) ((rd_T49 l2 0).f4) ((rd_T49 l2 0).f5)).bind fun t228 => ((value_texted.f t228).bind fun bt229 => (some (bt229.1, bt229.2.1, bt229.2.2.1, bt229.2.2.2.1, bt229.2.2.2.2.1, bt229.2.2.2.2.2, 0)))) else (none)) else (if a0.toList = ([110, 117, 109, 98, 101, 114] : List UInt8) then (if 0 < (l2.length : Int) then ((value_asNumber.f ((rd_T49 l2 0).f0) ((rd_T49 l2 0).f1) ((rd_T49 l2 0).f2) ((rd_T49 l2 0).f3) ((rd_T49 l2 0).f4) ((rd_T49 l2 0).f5)).bind fun bt238 => ((value_numbered.f bt238.1 bt238.2).bind fun bt240 => (some (bt240.1, bt240.2.1, bt240.2.2.1, bt240.2.2.2.1, bt240.2.2.2.2.1, bt240.2.2.2.2.2, 0)))) else (none)) else (if a0.toList = ([99, 111, 117, 110, 116] : List UInt8) then (if 0 < (l2.length : Int) then ((value_numbered.f (((rd_T49 l2 0).f5).length : Int) (((rd_T49 l2 0).f0) == 4)).bind fun bt250 => (some (bt250.1, bt250.2.1, bt250.2.2.1, bt250.2.2.2.1, bt250.2.2.2.2.1, bt250.2.2.2.2.2, 0))) else (none)) else (if a0.toList = ([115, 117, 109] : List UInt8) then (if 0 < (l2.length : Int) then ((value_sum.f kj24 ((rd_T49 l2 0).f0) ((rd_T49 l2 0).f1) ((rd_T49 l2 0).f2) ((rd_T49 l2 0).f3) ((rd_T49 l2 0).f4) ((rd_T49 l2 0).f5)).bind fun bt259 => (some (bt259.1, bt259.2.1, bt259.2.2.1, bt259.2.2.2.1, bt259.2.2.2.2.1, bt259.2.2.2.2.2, 0))) else (none)) else (if a0.toList = ([108, 101, 110, 103, 116, 104] : List UInt8) then (if 0 < (l2.length : Int) then ((value_asText.f ((rd_T49 l2 0).f0) ((rd_T49 l2 0).f1) ((rd_T49 l2 0).f2) ((rd_T49 l2 0).f3) ((rd_T49 l2 0).f4) ((rd_T49 l2 0).f5)).bind fun t268 => ((chars_Len.f kj24 t268).bind fun bt269 => ((value_numbered.f bt269.1 true).bind fun bt271 => (some (bt271.1, bt271.2.1, bt271.2.2.1, bt271.2.2.2.1, bt271.2.2.2.2.1, bt271.2.2.2.2.2, 0))))) else (none)) else (if a0.toList = ([99, 111, 110, 116, 97, 105, 110, 115] : List UInt8) then (if 0 < (l2.length : Int) then ((value_asText.f ((rd_T49 l2 0).f0) ((rd_T49 l2 0).f1) ((rd_T49 l2 0).f2) ((rd_T49 l2 0).f3) ((rd_T49 l2 0).f4) ((rd_T49 l2 0).f5)).bind fun t280 => (if 1 < (l2.length : Int) then ((value_asText.f ((rd_T49 l2 1).f0) ((rd_T49 l2 1).f1) ((rd_T49 l2 1).f2) ((rd_T49 l2 1).f3) ((rd_T49 l2 1).f4) ((rd_T49 l2 1).f5)).bind fun t282 => ((strings_Contains.f t280 t282).bind fun t283 => ((value_truth.f t283).bind fun bt284 => (some (bt284.1, bt284.2.1, bt284.2.2.1, bt284.2.2.2.1, bt284.2.2.2.2.1, bt284.2.2.2.2.2, 0))))) else (none))) else (none)) else (if 0 < (l2.length : Int) then ((value_asText.f ((rd_T49 l2 0).f0) ((rd_T49 l2 0).f1) ((rd_T49 l2 0).f2) ((rd_T49 l2 0).f3) ((rd_T49 l2 0).f4) ((rd_T49 l2 0).f5)).bind fun t293 => (if 1 < (l2.length : Int) then ((value_asText.f ((rd_T49 l2 1).f0) ((rd_T49 l2 1).f1) ((rd_T49 l2 1).f2) ((rd_T49 l2 1).f3) ((rd_T49 l2 1).f4) ((rd_T49 l2 1).f5)).bind fun t295 => ((strings_HasPrefix.f t293 t295).bind fun t296 => ((value_truth.f t296).bind fun bt297 => (some (bt297.1, bt297.2.1, bt297.2.2.1, bt297.2.2.2.1, bt297.2.2.2.2.1, bt297.2.2.2.2.2, 0))))) else (none))) else (none)))))))))))) = some (r1, r2, r3, r4, r5, r6, r7) := by rw [if_neg (show ¬ (false = true) by decide)] at H; exact H
        clear H
        have H := H1
        clear H1
        by_cases c33 : a0.toList = ([112, 111, 115, 105, 116, 105, 111, 110] : List UInt8)
        ·rw [if_pos c33] at H
         have c33b0 : (a0.toList == ([112, 111, 115, 105, 116, 105, 111, 110] : List UInt8)) = true := beq_iff_eq.mpr c33
         have c33b1 : (a0.toList != ([112, 111, 115, 105, 116, 105, 111, 110] : List UInt8)) = false := bne_eq_false_iff_eq.mpr c33
         clear c33
         replace H := Option.bind_eq_some_iff.mp H
         obtain ⟨⟨t193, t194, t195, t196, t197, t198⟩, A340, H⟩ := H
         replace H : (some (t193, t194, t195, t196, t197, t198, 0)) = some (r1, r2, r3, r4, r5, r6, r7) := H
         have A34 := Aside0.mk A340
         clear A340
         simp only [Option.some.injEq, Prod.mk.injEq] at H
         obtain ⟨rfl, rfl, rfl, rfl, rfl, rfl, rfl⟩ := H
         have hnb35 := NB179_180.out
         have hnc35 := NB180_179.out
         have hcz36_0 : wc.cell? ⟨gb179, 0, none⟩ = some (.int .i64 a1_0) := (blk_cell BK179.out 0).trans rfl
         have hcz36_1 : wc.cell? ⟨gb179, 1, none⟩ = some (.int .i64 a1_1) := (blk_cell BK179.out 1).trans rfl
         have hcz36_2 : wc.cell? ⟨gb179, 2, none⟩ = some (.string a1_2) := (blk_cell BK179.out 2).trans rfl
         have hcz36_3 : wc.cell? ⟨gb179, 3, none⟩ = some (.string a1_3) := (blk_cell BK179.out 3).trans rfl
         have hcz36_4 : wc.cell? ⟨gb179, 4, none⟩ = some (.slice A1_4 l1_4.length c1_4) := (blk_cell BK179.out 4).trans rfl
         have hfz36_0 := blk_frozen BK179.out 0
         have hfz36_1 := blk_frozen BK179.out 1
         have hfz36_2 := blk_frozen BK179.out 2
         have hfz36_3 := blk_frozen BK179.out 3
         have hfz36_4 := blk_frozen BK179.out 4
         go_wp2_with (first | ((with_reducible refine gate_callee (f := 71) rfl ?_); refine goesL_ (some 43) rfl rfl Tryd.func71 (by kernel_rfl) rfl #[.int .i64 a1_0, .bool true] rfl rf_ ?_; (with_reducible refine (value_numbered.calls a1_0 true t193 t194 t195 t196 t197 t198 _ A34.out).mono ?_); rintro e w37 ⟨v199, rfl, ho0, hb⟩; refine ⟨_, rfl, ?_⟩; have n0_ := Aside0.mk (Kd.R_lower ho0 (below_size (by repeat (first | (with_reducible first | exact HB.out | apply below_alloc | apply pw_below_drewN | apply below_drew1 | refine below_set ?_ GE179.out | refine below_set ?_ GE180.out) | exact HB.out)))); have n1_ := Aside0.mk (blk_below (g := gb179) (o := .cells #[.int .i64 a1_0, .int .i64 a1_1, .string a1_2, .string a1_3, .slice A1_4 l1_4.length c1_4] 61 (0, 0)) (bk_ BK179.out) hb); have n2_ := Aside0.mk (blk_below (g := gb180) (o := .cells #[.int .i64 x181000_1, .bool x181001_1, .int .i64 x181002_1, .bool x181003_1, .string x181004_1, .slice none 0 0] 49 (0, 0)) (bk_ BK180.out) hb); have n3_ := Aside0.mk (below_step (by repeat (first | (with_reducible first | exact HB.out | apply below_alloc | apply pw_below_drewN | apply below_drew1 | refine below_set ?_ GE179.out | refine below_set ?_ GE180.out) | exact HB.out)) hb); clear BK179; clear BK180; clear HB; have HO200 := n0_; have BK179 := n1_; have BK180 := n2_; have HB := n3_; clear n0_ n1_ n2_ n3_; (try clear hb); (try clear hb2); (try clear hk); (try clear hi); (try clear ho0); have hcz38_0 : w37.cell? ⟨gb180, 0, none⟩ = some (.int .i64 x181000_1) := (blk_cell BK180.out 0).trans rfl; have hcz38_1 : w37.cell? ⟨gb180, 1, none⟩ = some (.bool x181001_1) := (blk_cell BK180.out 1).trans rfl; have hcz38_2 : w37.cell? ⟨gb180, 2, none⟩ = some (.int .i64 x181002_1) := (blk_cell BK180.out 2).trans rfl; have hcz38_3 : w37.cell? ⟨gb180, 3, none⟩ = some (.bool x181003_1) := (blk_cell BK180.out 3).trans rfl; have hcz38_4 : w37.cell? ⟨gb180, 4, none⟩ = some (.string x181004_1) := (blk_cell BK180.out 4).trans rfl; have hcz38_5 : w37.cell? ⟨gb180, 5, none⟩ = some (.slice none 0 0) := (blk_cell BK180.out 5).trans rfl; have hfz38_0 := blk_frozen BK180.out 0; have hfz38_1 := blk_frozen BK180.out 1; have hfz38_2 := blk_frozen BK180.out 2; have hfz38_3 := blk_frozen BK180.out 3; have hfz38_4 := blk_frozen BK180.out 4; have hfz38_5 := blk_frozen BK180.out 5; obtain ⟨Ao39, co39, eo39⟩ := Kd.R_slice HO200.out; subst eo39))
         refine bodyPost_ret (results_ct rfl _ _ gb180 49 #[.int .i64 t193, .bool t194, .int .i64 t195, .bool t196, .string t197, .slice Ao39 t198.length co39] (0, 0) _ rfl (by (with_reducible repeat (first | refine blk_drewN ?_ _ | refine blk_drew ?_ | refine blk_alloc ?_ _)); refine blk_put (cs := #[.int .i64 t193, .bool t194, .int .i64 t195, .bool t196, .string t197, .slice none 0 0]) ?_ 5 _ rfl; (with_reducible repeat (first | refine blk_drewN ?_ _ | refine blk_drew ?_ | refine blk_alloc ?_ _)); refine blk_put (cs := #[.int .i64 t193, .bool t194, .int .i64 t195, .bool t196, .string x181004_1, .slice none 0 0]) ?_ 4 _ rfl; (with_reducible repeat (first | refine blk_drewN ?_ _ | refine blk_drew ?_ | refine blk_alloc ?_ _)); refine blk_put (cs := #[.int .i64 t193, .bool t194, .int .i64 t195, .bool x181003_1, .string x181004_1, .slice none 0 0]) ?_ 3 _ rfl; (with_reducible repeat (first | refine blk_drewN ?_ _ | refine blk_drew ?_ | refine blk_alloc ?_ _)); refine blk_put (cs := #[.int .i64 t193, .bool t194, .int .i64 x181002_1, .bool x181003_1, .string x181004_1, .slice none 0 0]) ?_ 2 _ rfl; (with_reducible repeat (first | refine blk_drewN ?_ _ | refine blk_drew ?_ | refine blk_alloc ?_ _)); refine blk_put (cs := #[.int .i64 t193, .bool x181001_1, .int .i64 x181002_1, .bool x181003_1, .string x181004_1, .slice none 0 0]) ?_ 1 _ rfl; (with_reducible repeat (first | refine blk_drewN ?_ _ | refine blk_drew ?_ | refine blk_alloc ?_ _)); refine blk_put (cs := #[.int .i64 x181000_1, .bool x181001_1, .int .i64 x181002_1, .bool x181003_1, .string x181004_1, .slice none 0 0]) ?_ 0 _ rfl; (with_reducible repeat (first | refine blk_drewN ?_ _ | refine blk_drew ?_ | refine blk_alloc ?_ _)); exact BK180.out) Tryd.underlying49 rfl (by kernel_rfl)) rfl ?_
         exact ⟨_, er_, by (with_reducible repeat (first | apply Kd.R_alloc | apply Kd.R_drewN | apply Kd.R_drew)); exact Kd.R_mono (Kd.R_far (p := ⟨gb180, 5, none⟩) (Kd.R_far (p := ⟨gb180, 4, none⟩) (Kd.R_far (p := ⟨gb180, 3, none⟩) (Kd.R_far (p := ⟨gb180, 2, none⟩) (Kd.R_far (p := ⟨gb180, 1, none⟩) (Kd.R_far (p := ⟨gb180, 0, none⟩) (Kd.R_types HO200.out BK180.out (by decide)) (fun _ hk => hk.2) (.int .i64 t193)) (fun _ hk => hk.2) (.bool t194)) (fun _ hk => hk.2) (.int .i64 t195)) (fun _ hk => hk.2) (.bool t196)) (fun _ hk => hk.2) (.string t197)) (fun _ hk => hk.2) (.slice Ao39 t198.length co39)) (fun _ hk => trivial), by repeat (first | (with_reducible first | exact HB.out | apply below_alloc | apply pw_below_drewN | apply below_drew1 | refine below_set ?_ GE179.out | refine below_set ?_ GE180.out) | exact HB.out)⟩
        ·rw [if_neg c33] at H
         have c33b0 : (a0.toList == ([112, 111, 115, 105, 116, 105, 111, 110] : List UInt8)) = false := beq_eq_false_iff_ne.mpr c33
         have c33b1 : (a0.toList != ([112, 111, 115, 105, 116, 105, 111, 110] : List UInt8)) = true := bne_iff_ne.mpr c33
         by_cases c40 : a0.toList = ([108, 97, 115, 116] : List UInt8)
         ·rw [if_pos c40] at H
          have c40b0 : (a0.toList == ([108, 97, 115, 116] : List UInt8)) = true := beq_iff_eq.mpr c40
          have c40b1 : (a0.toList != ([108, 97, 115, 116] : List UInt8)) = false := bne_eq_false_iff_eq.mpr c40
          clear c40
          replace H := Option.bind_eq_some_iff.mp H
          obtain ⟨⟨t201, t202, t203, t204, t205, t206⟩, A410, H⟩ := H
          replace H : (some (t201, t202, t203, t204, t205, t206, 0)) = some (r1, r2, r3, r4, r5, r6, r7) := H
          have A41 := Aside0.mk A410
          clear A410
          simp only [Option.some.injEq, Prod.mk.injEq] at H
          obtain ⟨rfl, rfl, rfl, rfl, rfl, rfl, rfl⟩ := H
          have hnb42 := NB179_180.out
          have hnc42 := NB180_179.out
          have hcz43_0 : wc.cell? ⟨gb179, 0, none⟩ = some (.int .i64 a1_0) := (blk_cell BK179.out 0).trans rfl
          have hcz43_1 : wc.cell? ⟨gb179, 1, none⟩ = some (.int .i64 a1_1) := (blk_cell BK179.out 1).trans rfl
          have hcz43_2 : wc.cell? ⟨gb179, 2, none⟩ = some (.string a1_2) := (blk_cell BK179.out 2).trans rfl
          have hcz43_3 : wc.cell? ⟨gb179, 3, none⟩ = some (.string a1_3) := (blk_cell BK179.out 3).trans rfl
          have hcz43_4 : wc.cell? ⟨gb179, 4, none⟩ = some (.slice A1_4 l1_4.length c1_4) := (blk_cell BK179.out 4).trans rfl
          have hfz43_0 := blk_frozen BK179.out 0
          have hfz43_1 := blk_frozen BK179.out 1
          have hfz43_2 := blk_frozen BK179.out 2
          have hfz43_3 := blk_frozen BK179.out 3
          have hfz43_4 := blk_frozen BK179.out 4
          go_wp2_with (first | ((with_reducible refine gate_callee (f := 71) rfl ?_); refine goesL_ (some 48) rfl rfl Tryd.func71 (by kernel_rfl) rfl #[.int .i64 a1_1, .bool true] rfl rf_ ?_; (with_reducible refine (value_numbered.calls a1_1 true t201 t202 t203 t204 t205 t206 _ A41.out).mono ?_); rintro e w44 ⟨v207, rfl, ho0, hb⟩; refine ⟨_, rfl, ?_⟩; have n0_ := Aside0.mk (Kd.R_lower ho0 (below_size (by repeat (first | (with_reducible first | exact HB.out | apply below_alloc | apply pw_below_drewN | apply below_drew1 | refine below_set ?_ GE179.out | refine below_set ?_ GE180.out) | exact HB.out)))); have n1_ := Aside0.mk (blk_below (g := gb179) (o := .cells #[.int .i64 a1_0, .int .i64 a1_1, .string a1_2, .string a1_3, .slice A1_4 l1_4.length c1_4] 61 (0, 0)) (bk_ BK179.out) hb); have n2_ := Aside0.mk (blk_below (g := gb180) (o := .cells #[.int .i64 x181000_1, .bool x181001_1, .int .i64 x181002_1, .bool x181003_1, .string x181004_1, .slice none 0 0] 49 (0, 0)) (bk_ BK180.out) hb); have n3_ := Aside0.mk (below_step (by repeat (first | (with_reducible first | exact HB.out | apply below_alloc | apply pw_below_drewN | apply below_drew1 | refine below_set ?_ GE179.out | refine below_set ?_ GE180.out) | exact HB.out)) hb); clear BK179; clear BK180; clear HB; have HO208 := n0_; have BK179 := n1_; have BK180 := n2_; have HB := n3_; clear n0_ n1_ n2_ n3_; (try clear hb); (try clear hb2); (try clear hk); (try clear hi); (try clear ho0); have hcz45_0 : w44.cell? ⟨gb180, 0, none⟩ = some (.int .i64 x181000_1) := (blk_cell BK180.out 0).trans rfl; have hcz45_1 : w44.cell? ⟨gb180, 1, none⟩ = some (.bool x181001_1) := (blk_cell BK180.out 1).trans rfl; have hcz45_2 : w44.cell? ⟨gb180, 2, none⟩ = some (.int .i64 x181002_1) := (blk_cell BK180.out 2).trans rfl; have hcz45_3 : w44.cell? ⟨gb180, 3, none⟩ = some (.bool x181003_1) := (blk_cell BK180.out 3).trans rfl; have hcz45_4 : w44.cell? ⟨gb180, 4, none⟩ = some (.string x181004_1) := (blk_cell BK180.out 4).trans rfl; have hcz45_5 : w44.cell? ⟨gb180, 5, none⟩ = some (.slice none 0 0) := (blk_cell BK180.out 5).trans rfl; have hfz45_0 := blk_frozen BK180.out 0; have hfz45_1 := blk_frozen BK180.out 1; have hfz45_2 := blk_frozen BK180.out 2; have hfz45_3 := blk_frozen BK180.out 3; have hfz45_4 := blk_frozen BK180.out 4; have hfz45_5 := blk_frozen BK180.out 5; obtain ⟨Ao46, co46, eo46⟩ := Kd.R_slice HO208.out; subst eo46))
          refine bodyPost_ret (results_ct rfl _ _ gb180 49 #[.int .i64 t201, .bool t202, .int .i64 t203, .bool t204, .string t205, .slice Ao46 t206.length co46] (0, 0) _ rfl (by (with_reducible repeat (first | refine blk_drewN ?_ _ | refine blk_drew ?_ | refine blk_alloc ?_ _)); refine blk_put (cs := #[.int .i64 t201, .bool t202, .int .i64 t203, .bool t204, .string t205, .slice none 0 0]) ?_ 5 _ rfl; (with_reducible repeat (first | refine blk_drewN ?_ _ | refine blk_drew ?_ | refine blk_alloc ?_ _)); refine blk_put (cs := #[.int .i64 t201, .bool t202, .int .i64 t203, .bool t204, .string x181004_1, .slice none 0 0]) ?_ 4 _ rfl; (with_reducible repeat (first | refine blk_drewN ?_ _ | refine blk_drew ?_ | refine blk_alloc ?_ _)); refine blk_put (cs := #[.int .i64 t201, .bool t202, .int .i64 t203, .bool x181003_1, .string x181004_1, .slice none 0 0]) ?_ 3 _ rfl; (with_reducible repeat (first | refine blk_drewN ?_ _ | refine blk_drew ?_ | refine blk_alloc ?_ _)); refine blk_put (cs := #[.int .i64 t201, .bool t202, .int .i64 x181002_1, .bool x181003_1, .string x181004_1, .slice none 0 0]) ?_ 2 _ rfl; (with_reducible repeat (first | refine blk_drewN ?_ _ | refine blk_drew ?_ | refine blk_alloc ?_ _)); refine blk_put (cs := #[.int .i64 t201, .bool x181001_1, .int .i64 x181002_1, .bool x181003_1, .string x181004_1, .slice none 0 0]) ?_ 1 _ rfl; (with_reducible repeat (first | refine blk_drewN ?_ _ | refine blk_drew ?_ | refine blk_alloc ?_ _)); refine blk_put (cs := #[.int .i64 x181000_1, .bool x181001_1, .int .i64 x181002_1, .bool x181003_1, .string x181004_1, .slice none 0 0]) ?_ 0 _ rfl; (with_reducible repeat (first | refine blk_drewN ?_ _ | refine blk_drew ?_ | refine blk_alloc ?_ _)); exact BK180.out) Tryd.underlying49 rfl (by kernel_rfl)) rfl ?_
          exact ⟨_, er_, by (with_reducible repeat (first | apply Kd.R_alloc | apply Kd.R_drewN | apply Kd.R_drew)); exact Kd.R_mono (Kd.R_far (p := ⟨gb180, 5, none⟩) (Kd.R_far (p := ⟨gb180, 4, none⟩) (Kd.R_far (p := ⟨gb180, 3, none⟩) (Kd.R_far (p := ⟨gb180, 2, none⟩) (Kd.R_far (p := ⟨gb180, 1, none⟩) (Kd.R_far (p := ⟨gb180, 0, none⟩) (Kd.R_types HO208.out BK180.out (by decide)) (fun _ hk => hk.2) (.int .i64 t201)) (fun _ hk => hk.2) (.bool t202)) (fun _ hk => hk.2) (.int .i64 t203)) (fun _ hk => hk.2) (.bool t204)) (fun _ hk => hk.2) (.string t205)) (fun _ hk => hk.2) (.slice Ao46 t206.length co46)) (fun _ hk => trivial), by repeat (first | (with_reducible first | exact HB.out | apply below_alloc | apply pw_below_drewN | apply below_drew1 | refine below_set ?_ GE179.out | refine below_set ?_ GE180.out) | exact HB.out)⟩
         ·rw [if_neg c40] at H
          have c40b0 : (a0.toList == ([108, 97, 115, 116] : List UInt8)) = false := beq_eq_false_iff_ne.mpr c40
          have c40b1 : (a0.toList != ([108, 97, 115, 116] : List UInt8)) = true := bne_iff_ne.mpr c40
          by_cases c47 : a0.toList = ([110, 97, 109, 101] : List UInt8)
          ·rw [if_pos c47] at H
           have c47b0 : (a0.toList == ([110, 97, 109, 101] : List UInt8)) = true := beq_iff_eq.mpr c47
           have c47b1 : (a0.toList != ([110, 97, 109, 101] : List UInt8)) = false := bne_eq_false_iff_eq.mpr c47
           clear c47
           replace H := Option.bind_eq_some_iff.mp H
           obtain ⟨⟨t209, t210, t211, t212, t213, t214⟩, A480, H⟩ := H
           replace H : (some (t209, t210, t211, t212, t213, t214, 0)) = some (r1, r2, r3, r4, r5, r6, r7) := H
           have A48 := Aside0.mk A480
           clear A480
           simp only [Option.some.injEq, Prod.mk.injEq] at H
           obtain ⟨rfl, rfl, rfl, rfl, rfl, rfl, rfl⟩ := H
           have hnb49 := NB179_180.out
           have hnc49 := NB180_179.out
           have hcz50_0 : wc.cell? ⟨gb179, 0, none⟩ = some (.int .i64 a1_0) := (blk_cell BK179.out 0).trans rfl
           have hcz50_1 : wc.cell? ⟨gb179, 1, none⟩ = some (.int .i64 a1_1) := (blk_cell BK179.out 1).trans rfl
           have hcz50_2 : wc.cell? ⟨gb179, 2, none⟩ = some (.string a1_2) := (blk_cell BK179.out 2).trans rfl
           have hcz50_3 : wc.cell? ⟨gb179, 3, none⟩ = some (.string a1_3) := (blk_cell BK179.out 3).trans rfl
           have hcz50_4 : wc.cell? ⟨gb179, 4, none⟩ = some (.slice A1_4 l1_4.length c1_4) := (blk_cell BK179.out 4).trans rfl
           have hfz50_0 := blk_frozen BK179.out 0
           have hfz50_1 := blk_frozen BK179.out 1
           have hfz50_2 := blk_frozen BK179.out 2
           have hfz50_3 := blk_frozen BK179.out 3
           have hfz50_4 := blk_frozen BK179.out 4
           go_wp2_with (first | ((with_reducible refine gate_callee (f := 67) rfl ?_); refine goesL_ (some 53) rfl rfl Tryd.func67 (by kernel_rfl) rfl #[.string a1_2] rfl rf_ ?_; (with_reducible refine (value_texted.calls a1_2 t209 t210 t211 t212 t213 t214 _ A48.out).mono ?_); rintro e w51 ⟨v215, rfl, ho0, hb⟩; refine ⟨_, rfl, ?_⟩; have n0_ := Aside0.mk (Kd.R_lower ho0 (below_size (by repeat (first | (with_reducible first | exact HB.out | apply below_alloc | apply pw_below_drewN | apply below_drew1 | refine below_set ?_ GE179.out | refine below_set ?_ GE180.out) | exact HB.out)))); have n1_ := Aside0.mk (blk_below (g := gb179) (o := .cells #[.int .i64 a1_0, .int .i64 a1_1, .string a1_2, .string a1_3, .slice A1_4 l1_4.length c1_4] 61 (0, 0)) (bk_ BK179.out) hb); have n2_ := Aside0.mk (blk_below (g := gb180) (o := .cells #[.int .i64 x181000_1, .bool x181001_1, .int .i64 x181002_1, .bool x181003_1, .string x181004_1, .slice none 0 0] 49 (0, 0)) (bk_ BK180.out) hb); have n3_ := Aside0.mk (below_step (by repeat (first | (with_reducible first | exact HB.out | apply below_alloc | apply pw_below_drewN | apply below_drew1 | refine below_set ?_ GE179.out | refine below_set ?_ GE180.out) | exact HB.out)) hb); clear BK179; clear BK180; clear HB; have HO216 := n0_; have BK179 := n1_; have BK180 := n2_; have HB := n3_; clear n0_ n1_ n2_ n3_; (try clear hb); (try clear hb2); (try clear hk); (try clear hi); (try clear ho0); have hcz52_0 : w51.cell? ⟨gb180, 0, none⟩ = some (.int .i64 x181000_1) := (blk_cell BK180.out 0).trans rfl; have hcz52_1 : w51.cell? ⟨gb180, 1, none⟩ = some (.bool x181001_1) := (blk_cell BK180.out 1).trans rfl; have hcz52_2 : w51.cell? ⟨gb180, 2, none⟩ = some (.int .i64 x181002_1) := (blk_cell BK180.out 2).trans rfl; have hcz52_3 : w51.cell? ⟨gb180, 3, none⟩ = some (.bool x181003_1) := (blk_cell BK180.out 3).trans rfl; have hcz52_4 : w51.cell? ⟨gb180, 4, none⟩ = some (.string x181004_1) := (blk_cell BK180.out 4).trans rfl; have hcz52_5 : w51.cell? ⟨gb180, 5, none⟩ = some (.slice none 0 0) := (blk_cell BK180.out 5).trans rfl; have hfz52_0 := blk_frozen BK180.out 0; have hfz52_1 := blk_frozen BK180.out 1; have hfz52_2 := blk_frozen BK180.out 2; have hfz52_3 := blk_frozen BK180.out 3; have hfz52_4 := blk_frozen BK180.out 4; have hfz52_5 := blk_frozen BK180.out 5; obtain ⟨Ao53, co53, eo53⟩ := Kd.R_slice HO216.out; subst eo53))
           refine bodyPost_ret (results_ct rfl _ _ gb180 49 #[.int .i64 t209, .bool t210, .int .i64 t211, .bool t212, .string t213, .slice Ao53 t214.length co53] (0, 0) _ rfl (by (with_reducible repeat (first | refine blk_drewN ?_ _ | refine blk_drew ?_ | refine blk_alloc ?_ _)); refine blk_put (cs := #[.int .i64 t209, .bool t210, .int .i64 t211, .bool t212, .string t213, .slice none 0 0]) ?_ 5 _ rfl; (with_reducible repeat (first | refine blk_drewN ?_ _ | refine blk_drew ?_ | refine blk_alloc ?_ _)); refine blk_put (cs := #[.int .i64 t209, .bool t210, .int .i64 t211, .bool t212, .string x181004_1, .slice none 0 0]) ?_ 4 _ rfl; (with_reducible repeat (first | refine blk_drewN ?_ _ | refine blk_drew ?_ | refine blk_alloc ?_ _)); refine blk_put (cs := #[.int .i64 t209, .bool t210, .int .i64 t211, .bool x181003_1, .string x181004_1, .slice none 0 0]) ?_ 3 _ rfl; (with_reducible repeat (first | refine blk_drewN ?_ _ | refine blk_drew ?_ | refine blk_alloc ?_ _)); refine blk_put (cs := #[.int .i64 t209, .bool t210, .int .i64 x181002_1, .bool x181003_1, .string x181004_1, .slice none 0 0]) ?_ 2 _ rfl; (with_reducible repeat (first | refine blk_drewN ?_ _ | refine blk_drew ?_ | refine blk_alloc ?_ _)); refine blk_put (cs := #[.int .i64 t209, .bool x181001_1, .int .i64 x181002_1, .bool x181003_1, .string x181004_1, .slice none 0 0]) ?_ 1 _ rfl; (with_reducible repeat (first | refine blk_drewN ?_ _ | refine blk_drew ?_ | refine blk_alloc ?_ _)); refine blk_put (cs := #[.int .i64 x181000_1, .bool x181001_1, .int .i64 x181002_1, .bool x181003_1, .string x181004_1, .slice none 0 0]) ?_ 0 _ rfl; (with_reducible repeat (first | refine blk_drewN ?_ _ | refine blk_drew ?_ | refine blk_alloc ?_ _)); exact BK180.out) Tryd.underlying49 rfl (by kernel_rfl)) rfl ?_
           exact ⟨_, er_, by (with_reducible repeat (first | apply Kd.R_alloc | apply Kd.R_drewN | apply Kd.R_drew)); exact Kd.R_mono (Kd.R_far (p := ⟨gb180, 5, none⟩) (Kd.R_far (p := ⟨gb180, 4, none⟩) (Kd.R_far (p := ⟨gb180, 3, none⟩) (Kd.R_far (p := ⟨gb180, 2, none⟩) (Kd.R_far (p := ⟨gb180, 1, none⟩) (Kd.R_far (p := ⟨gb180, 0, none⟩) (Kd.R_types HO216.out BK180.out (by decide)) (fun _ hk => hk.2) (.int .i64 t209)) (fun _ hk => hk.2) (.bool t210)) (fun _ hk => hk.2) (.int .i64 t211)) (fun _ hk => hk.2) (.bool t212)) (fun _ hk => hk.2) (.string t213)) (fun _ hk => hk.2) (.slice Ao53 t214.length co53)) (fun _ hk => trivial), by repeat (first | (with_reducible first | exact HB.out | apply below_alloc | apply pw_below_drewN | apply below_drew1 | refine below_set ?_ GE179.out | refine below_set ?_ GE180.out) | exact HB.out)⟩
          ·rw [if_neg c47] at H
           have c47b0 : (a0.toList == ([110, 97, 109, 101] : List UInt8)) = false := beq_eq_false_iff_ne.mpr c47
           have c47b1 : (a0.toList != ([110, 97, 109, 101] : List UInt8)) = true := bne_iff_ne.mpr c47
           by_cases c54 : a0.toList = ([110, 111, 116] : List UInt8)
           ·rw [if_pos c54] at H
            have c54b0 : (a0.toList == ([110, 111, 116] : List UInt8)) = true := beq_iff_eq.mpr c54
            have c54b1 : (a0.toList != ([110, 111, 116] : List UInt8)) = false := bne_eq_false_iff_eq.mpr c54
            clear c54
            by_cases c55 : 0 < (l2.length : Int)
            ·rw [if_pos c55] at H
             have c55b0 : decide (0 < (l2.length : Int)) = true := decide_eq_true c55
             have c55b1 : decide (0 < l2.length) = true := decide_eq_true (by omega)
             clear c55
             replace H := Option.bind_eq_some_iff.mp H
             obtain ⟨t218, A560, H⟩ := H
             replace H : ((value_truth.f (!t218)).bind fun bt219 => (some (bt219.1, bt219.2.1, bt219.2.2.1, bt219.2.2.2.1, bt219.2.2.2.2.1, bt219.2.2.2.2.2, 0))) = some (r1, r2, r3, r4, r5, r6, r7) := H
             have A56 := Aside0.mk A560
             clear A560
             replace H := Option.bind_eq_some_iff.mp H
             obtain ⟨⟨t219, t220, t221, t222, t223, t224⟩, A570, H⟩ := H
             replace H : (some (t219, t220, t221, t222, t223, t224, 0)) = some (r1, r2, r3, r4, r5, r6, r7) := H
             have A57 := Aside0.mk A570
             clear A570
             simp only [Option.some.injEq, Prod.mk.injEq] at H
             obtain ⟨rfl, rfl, rfl, rfl, rfl, rfl, rfl⟩ := H
             have p217 : 0 ≤ (0 : Int) := (by omega)
             have q217 : 0 < (l2.length : Int) := of_decide_eq_true (by first | (with_reducible assumption) | assumption)
             obtain ⟨ad217, A217_5, c217_5, e217, hx217_0, hx217_1, hx217_2, hx217_3, hx217_4, hx217_5, hl217_5, hi217_5⟩ := at_T49 HR2.out 0 p217 q217
             cases e217
             have qi217 : (0 < l2.length) = True := eq_true (by omega)
             (try rw [show ((0 : Int)).toNat = 0 from rfl] at hx217_0)
             (try rw [show 0 * 6 = 0 from rfl] at hx217_0)
             (try rw [Addr.add_zero'] at hx217_0)
             (try rw [show ((0 : Int)).toNat = 0 from rfl] at hx217_1)
             (try rw [show 0 * 6 = 0 from rfl] at hx217_1)
             (try rw [Addr.add_zero'] at hx217_1)
             (try rw [show ((0 : Int)).toNat = 0 from rfl] at hx217_2)
             (try rw [show 0 * 6 = 0 from rfl] at hx217_2)
             (try rw [Addr.add_zero'] at hx217_2)
             (try rw [show ((0 : Int)).toNat = 0 from rfl] at hx217_3)
             (try rw [show 0 * 6 = 0 from rfl] at hx217_3)
             (try rw [Addr.add_zero'] at hx217_3)
             (try rw [show ((0 : Int)).toNat = 0 from rfl] at hx217_4)
             (try rw [show 0 * 6 = 0 from rfl] at hx217_4)
             (try rw [Addr.add_zero'] at hx217_4)
             (try rw [show ((0 : Int)).toNat = 0 from rfl] at hx217_5)
             (try rw [show 0 * 6 = 0 from rfl] at hx217_5)
             (try rw [Addr.add_zero'] at hx217_5)
             replace hx217_0 := (HB.out.cell (World.block_lt_of_cell? w _ hx217_0)).trans hx217_0
             replace hx217_1 := (HB.out.cell (World.block_lt_of_cell? w _ hx217_1)).trans hx217_1
             replace hx217_2 := (HB.out.cell (World.block_lt_of_cell? w _ hx217_2)).trans hx217_2
             replace hx217_3 := (HB.out.cell (World.block_lt_of_cell? w _ hx217_3)).trans hx217_3
             replace hx217_4 := (HB.out.cell (World.block_lt_of_cell? w _ hx217_4)).trans hx217_4
             replace hx217_5 := (HB.out.cell (World.block_lt_of_cell? w _ hx217_5)).trans hx217_5
             have HR217_5 := Aside0.mk hi217_5
             have HC217_5 := Aside0.mk hl217_5
             clear hi217_5 hl217_5
             replace p217 := eq_true p217
             replace q217 := eq_true q217
             go_wp2_with (first | ((with_reducible refine gate_callee (f := 47) rfl ?_); refine goesL_ (some 59) rfl rfl Tryd.func47 (by kernel_rfl) rfl #[.agg #[.int .i64 ((rd_T49 l2 0).f0), .bool ((rd_T49 l2 0).f1), .int .i64 ((rd_T49 l2 0).f2), .bool ((rd_T49 l2 0).f3), .string ((rd_T49 l2 0).f4), .slice A217_5 ((rd_T49 l2 0).f5).length c217_5]] rfl rf_ ?_; (with_reducible refine (value_asBool.calls ((rd_T49 l2 0).f0) ((rd_T49 l2 0).f1) ((rd_T49 l2 0).f2) ((rd_T49 l2 0).f3) ((rd_T49 l2 0).f4) _ _ ((rd_T49 l2 0).f5) t218 _ ?side1 ?side2 A56.out).mono ?_); (case side1 => repeat (first | exact (Kd.C_below HR217_5.out HB.out) | (with_reducible refine Kd.C_alloc ?_ _) | (with_reducible refine Kd.C_drewN ?_ _) | (with_reducible refine Kd.C_drew ?_))); (case side2 => exact HC217_5.out); rintro e w58 ⟨rfl, hb⟩; refine ⟨_, rfl, ?_⟩; have n0_ := Aside0.mk (blk_below (g := gb179) (o := .cells #[.int .i64 a1_0, .int .i64 a1_1, .string a1_2, .string a1_3, .slice A1_4 l1_4.length c1_4] 61 (0, 0)) (bk_ BK179.out) hb); have n1_ := Aside0.mk (blk_below (g := gb180) (o := .cells #[.int .i64 x181000_1, .bool x181001_1, .int .i64 x181002_1, .bool x181003_1, .string x181004_1, .slice none 0 0] 49 (0, 0)) (bk_ BK180.out) hb); have n2_ := Aside0.mk (below_step (by repeat (first | (with_reducible first | exact HB.out | apply below_alloc | apply pw_below_drewN | apply below_drew1 | refine below_set ?_ GE179.out | refine below_set ?_ GE180.out) | exact HB.out)) hb); clear BK179; clear BK180; clear HB; have BK179 := n0_; have BK180 := n1_; have HB := n2_; clear n0_ n1_ n2_; (try clear hb); (try clear hb2); (try clear hk); (try clear hi)) | ((with_reducible refine gate_callee (f := 65) rfl ?_); refine goesL_ (some 61) rfl rfl Tryd.func65 (by kernel_rfl) rfl #[.bool (!t218)] rfl rf_ ?_; (with_reducible refine (value_truth.calls (!t218) t219 t220 t221 t222 t223 t224 _ A57.out).mono ?_); rintro e w59 ⟨v225, rfl, ho0, hb⟩; refine ⟨_, rfl, ?_⟩; have n0_ := Aside0.mk (Kd.R_lower ho0 (below_size (by repeat (first | (with_reducible first | exact HB.out | apply below_alloc | apply pw_below_drewN | apply below_drew1 | refine below_set ?_ GE179.out | refine below_set ?_ GE180.out) | exact HB.out)))); have n1_ := Aside0.mk (blk_below (g := gb179) (o := .cells #[.int .i64 a1_0, .int .i64 a1_1, .string a1_2, .string a1_3, .slice A1_4 l1_4.length c1_4] 61 (0, 0)) (bk_ BK179.out) hb); have n2_ := Aside0.mk (blk_below (g := gb180) (o := .cells #[.int .i64 x181000_1, .bool x181001_1, .int .i64 x181002_1, .bool x181003_1, .string x181004_1, .slice none 0 0] 49 (0, 0)) (bk_ BK180.out) hb); have n3_ := Aside0.mk (below_step (by repeat (first | (with_reducible first | exact HB.out | apply below_alloc | apply pw_below_drewN | apply below_drew1 | refine below_set ?_ GE179.out | refine below_set ?_ GE180.out) | exact HB.out)) hb); clear BK179; clear BK180; clear HB; have HO226 := n0_; have BK179 := n1_; have BK180 := n2_; have HB := n3_; clear n0_ n1_ n2_ n3_; (try clear hb); (try clear hb2); (try clear hk); (try clear hi); (try clear ho0); have hnb60 := NB180_179.out; have hnc60 := NB179_180.out; have hcz61_0 : w59.cell? ⟨gb180, 0, none⟩ = some (.int .i64 x181000_1) := (blk_cell BK180.out 0).trans rfl; have hcz61_1 : w59.cell? ⟨gb180, 1, none⟩ = some (.bool x181001_1) := (blk_cell BK180.out 1).trans rfl; have hcz61_2 : w59.cell? ⟨gb180, 2, none⟩ = some (.int .i64 x181002_1) := (blk_cell BK180.out 2).trans rfl; have hcz61_3 : w59.cell? ⟨gb180, 3, none⟩ = some (.bool x181003_1) := (blk_cell BK180.out 3).trans rfl; have hcz61_4 : w59.cell? ⟨gb180, 4, none⟩ = some (.string x181004_1) := (blk_cell BK180.out 4).trans rfl; have hcz61_5 : w59.cell? ⟨gb180, 5, none⟩ = some (.slice none 0 0) := (blk_cell BK180.out 5).trans rfl; have hfz61_0 := blk_frozen BK180.out 0; have hfz61_1 := blk_frozen BK180.out 1; have hfz61_2 := blk_frozen BK180.out 2; have hfz61_3 := blk_frozen BK180.out 3; have hfz61_4 := blk_frozen BK180.out 4; have hfz61_5 := blk_frozen BK180.out 5; obtain ⟨Ao62, co62, eo62⟩ := Kd.R_slice HO226.out; subst eo62))
             refine bodyPost_ret (results_ct rfl _ _ gb180 49 #[.int .i64 t219, .bool t220, .int .i64 t221, .bool t222, .string t223, .slice Ao62 t224.length co62] (0, 0) _ rfl (by (with_reducible repeat (first | refine blk_drewN ?_ _ | refine blk_drew ?_ | refine blk_alloc ?_ _)); refine blk_put (cs := #[.int .i64 t219, .bool t220, .int .i64 t221, .bool t222, .string t223, .slice none 0 0]) ?_ 5 _ rfl; (with_reducible repeat (first | refine blk_drewN ?_ _ | refine blk_drew ?_ | refine blk_alloc ?_ _)); refine blk_put (cs := #[.int .i64 t219, .bool t220, .int .i64 t221, .bool t222, .string x181004_1, .slice none 0 0]) ?_ 4 _ rfl; (with_reducible repeat (first | refine blk_drewN ?_ _ | refine blk_drew ?_ | refine blk_alloc ?_ _)); refine blk_put (cs := #[.int .i64 t219, .bool t220, .int .i64 t221, .bool x181003_1, .string x181004_1, .slice none 0 0]) ?_ 3 _ rfl; (with_reducible repeat (first | refine blk_drewN ?_ _ | refine blk_drew ?_ | refine blk_alloc ?_ _)); refine blk_put (cs := #[.int .i64 t219, .bool t220, .int .i64 x181002_1, .bool x181003_1, .string x181004_1, .slice none 0 0]) ?_ 2 _ rfl; (with_reducible repeat (first | refine blk_drewN ?_ _ | refine blk_drew ?_ | refine blk_alloc ?_ _)); refine blk_put (cs := #[.int .i64 t219, .bool x181001_1, .int .i64 x181002_1, .bool x181003_1, .string x181004_1, .slice none 0 0]) ?_ 1 _ rfl; (with_reducible repeat (first | refine blk_drewN ?_ _ | refine blk_drew ?_ | refine blk_alloc ?_ _)); refine blk_put (cs := #[.int .i64 x181000_1, .bool x181001_1, .int .i64 x181002_1, .bool x181003_1, .string x181004_1, .slice none 0 0]) ?_ 0 _ rfl; (with_reducible repeat (first | refine blk_drewN ?_ _ | refine blk_drew ?_ | refine blk_alloc ?_ _)); exact BK180.out) Tryd.underlying49 rfl (by kernel_rfl)) rfl ?_
             exact ⟨_, er_, by (with_reducible repeat (first | apply Kd.R_alloc | apply Kd.R_drewN | apply Kd.R_drew)); exact Kd.R_mono (Kd.R_far (p := ⟨gb180, 5, none⟩) (Kd.R_far (p := ⟨gb180, 4, none⟩) (Kd.R_far (p := ⟨gb180, 3, none⟩) (Kd.R_far (p := ⟨gb180, 2, none⟩) (Kd.R_far (p := ⟨gb180, 1, none⟩) (Kd.R_far (p := ⟨gb180, 0, none⟩) (Kd.R_types HO226.out BK180.out (by decide)) (fun _ hk => hk.2) (.int .i64 t219)) (fun _ hk => hk.2) (.bool t220)) (fun _ hk => hk.2) (.int .i64 t221)) (fun _ hk => hk.2) (.bool t222)) (fun _ hk => hk.2) (.string t223)) (fun _ hk => hk.2) (.slice Ao62 t224.length co62)) (fun _ hk => trivial), by repeat (first | (with_reducible first | exact HB.out | apply below_alloc | apply pw_below_drewN | apply below_drew1 | refine below_set ?_ GE179.out | refine below_set ?_ GE180.out) | exact HB.out)⟩
            ·rw [if_neg c55] at H
             exact absurd H (by simp)
           ·rw [if_neg c54] at H
            have c54b0 : (a0.toList == ([110, 111, 116] : List UInt8)) = false := beq_eq_false_iff_ne.mpr c54
            have c54b1 : (a0.toList != ([110, 111, 116] : List UInt8)) = true := bne_iff_ne.mpr c54
            by_cases c63 : a0.toList = ([115, 116, 114, 105, 110, 103] : List UInt8)
            ·rw [if_pos c63] at H
             have c63b0 : (a0.toList == ([115, 116, 114, 105, 110, 103] : List UInt8)) = true := beq_iff_eq.mpr c63
             have c63b1 : (a0.toList != ([115, 116, 114, 105, 110, 103] : List UInt8)) = false := bne_eq_false_iff_eq.mpr c63
             clear c63
             by_cases c64 : 0 < (l2.length : Int)
             ·rw [if_pos c64] at H
              have c64b0 : decide (0 < (l2.length : Int)) = true := decide_eq_true c64
              have c64b1 : decide (0 < l2.length) = true := decide_eq_true (by omega)
              clear c64
              replace H := Option.bind_eq_some_iff.mp H
              obtain ⟨t228, A650, H⟩ := H
              replace H : ((value_texted.f t228).bind fun bt229 => (some (bt229.1, bt229.2.1, bt229.2.2.1, bt229.2.2.2.1, bt229.2.2.2.2.1, bt229.2.2.2.2.2, 0))) = some (r1, r2, r3, r4, r5, r6, r7) := H
              have A65 := Aside0.mk A650
              clear A650
              replace H := Option.bind_eq_some_iff.mp H
              obtain ⟨⟨t229, t230, t231, t232, t233, t234⟩, A660, H⟩ := H
              replace H : (some (t229, t230, t231, t232, t233, t234, 0)) = some (r1, r2, r3, r4, r5, r6, r7) := H
              have A66 := Aside0.mk A660
              clear A660
              simp only [Option.some.injEq, Prod.mk.injEq] at H
              obtain ⟨rfl, rfl, rfl, rfl, rfl, rfl, rfl⟩ := H
              have p227 : 0 ≤ (0 : Int) := (by omega)
              have q227 : 0 < (l2.length : Int) := of_decide_eq_true (by first | (with_reducible assumption) | assumption)
              obtain ⟨ad227, A227_5, c227_5, e227, hx227_0, hx227_1, hx227_2, hx227_3, hx227_4, hx227_5, hl227_5, hi227_5⟩ := at_T49 HR2.out 0 p227 q227
              cases e227
              have qi227 : (0 < l2.length) = True := eq_true (by omega)
              (try rw [show ((0 : Int)).toNat = 0 from rfl] at hx227_0)
              (try rw [show 0 * 6 = 0 from rfl] at hx227_0)
              (try rw [Addr.add_zero'] at hx227_0)
              (try rw [show ((0 : Int)).toNat = 0 from rfl] at hx227_1)
              (try rw [show 0 * 6 = 0 from rfl] at hx227_1)
              (try rw [Addr.add_zero'] at hx227_1)
              (try rw [show ((0 : Int)).toNat = 0 from rfl] at hx227_2)
              (try rw [show 0 * 6 = 0 from rfl] at hx227_2)
              (try rw [Addr.add_zero'] at hx227_2)
              (try rw [show ((0 : Int)).toNat = 0 from rfl] at hx227_3)
              (try rw [show 0 * 6 = 0 from rfl] at hx227_3)
              (try rw [Addr.add_zero'] at hx227_3)
              (try rw [show ((0 : Int)).toNat = 0 from rfl] at hx227_4)
              (try rw [show 0 * 6 = 0 from rfl] at hx227_4)
              (try rw [Addr.add_zero'] at hx227_4)
              (try rw [show ((0 : Int)).toNat = 0 from rfl] at hx227_5)
              (try rw [show 0 * 6 = 0 from rfl] at hx227_5)
              (try rw [Addr.add_zero'] at hx227_5)
              replace hx227_0 := (HB.out.cell (World.block_lt_of_cell? w _ hx227_0)).trans hx227_0
              replace hx227_1 := (HB.out.cell (World.block_lt_of_cell? w _ hx227_1)).trans hx227_1
              replace hx227_2 := (HB.out.cell (World.block_lt_of_cell? w _ hx227_2)).trans hx227_2
              replace hx227_3 := (HB.out.cell (World.block_lt_of_cell? w _ hx227_3)).trans hx227_3
              replace hx227_4 := (HB.out.cell (World.block_lt_of_cell? w _ hx227_4)).trans hx227_4
              replace hx227_5 := (HB.out.cell (World.block_lt_of_cell? w _ hx227_5)).trans hx227_5
              have HR227_5 := Aside0.mk hi227_5
              have HC227_5 := Aside0.mk hl227_5
              clear hi227_5 hl227_5
              replace p227 := eq_true p227
              replace q227 := eq_true q227
              go_wp2_with (first | ((with_reducible refine gate_callee (f := 45) rfl ?_); refine goesL_ (some 67) rfl rfl Tryd.func45 (by kernel_rfl) rfl #[.agg #[.int .i64 ((rd_T49 l2 0).f0), .bool ((rd_T49 l2 0).f1), .int .i64 ((rd_T49 l2 0).f2), .bool ((rd_T49 l2 0).f3), .string ((rd_T49 l2 0).f4), .slice A227_5 ((rd_T49 l2 0).f5).length c227_5]] rfl rf_ ?_; (with_reducible refine (value_asText.calls ((rd_T49 l2 0).f0) ((rd_T49 l2 0).f1) ((rd_T49 l2 0).f2) ((rd_T49 l2 0).f3) ((rd_T49 l2 0).f4) _ _ ((rd_T49 l2 0).f5) t228 _ ?side1 ?side2 A65.out).mono ?_); (case side1 => repeat (first | exact (Kd.C_below HR227_5.out HB.out) | (with_reducible refine Kd.C_alloc ?_ _) | (with_reducible refine Kd.C_drewN ?_ _) | (with_reducible refine Kd.C_drew ?_))); (case side2 => exact HC227_5.out); rintro e w67 ⟨rfl, hb⟩; refine ⟨_, rfl, ?_⟩; have n0_ := Aside0.mk (blk_below (g := gb179) (o := .cells #[.int .i64 a1_0, .int .i64 a1_1, .string a1_2, .string a1_3, .slice A1_4 l1_4.length c1_4] 61 (0, 0)) (bk_ BK179.out) hb); have n1_ := Aside0.mk (blk_below (g := gb180) (o := .cells #[.int .i64 x181000_1, .bool x181001_1, .int .i64 x181002_1, .bool x181003_1, .string x181004_1, .slice none 0 0] 49 (0, 0)) (bk_ BK180.out) hb); have n2_ := Aside0.mk (below_step (by repeat (first | (with_reducible first | exact HB.out | apply below_alloc | apply pw_below_drewN | apply below_drew1 | refine below_set ?_ GE179.out | refine below_set ?_ GE180.out) | exact HB.out)) hb); clear BK179; clear BK180; clear HB; have BK179 := n0_; have BK180 := n1_; have HB := n2_; clear n0_ n1_ n2_; (try clear hb); (try clear hb2); (try clear hk); (try clear hi)) | ((with_reducible refine gate_callee (f := 67) rfl ?_); refine goesL_ (some 68) rfl rfl Tryd.func67 (by kernel_rfl) rfl #[.string t228] rfl rf_ ?_; (with_reducible refine (value_texted.calls t228 t229 t230 t231 t232 t233 t234 _ A66.out).mono ?_); rintro e w68 ⟨v235, rfl, ho0, hb⟩; refine ⟨_, rfl, ?_⟩; have n0_ := Aside0.mk (Kd.R_lower ho0 (below_size (by repeat (first | (with_reducible first | exact HB.out | apply below_alloc | apply pw_below_drewN | apply below_drew1 | refine below_set ?_ GE179.out | refine below_set ?_ GE180.out) | exact HB.out)))); have n1_ := Aside0.mk (blk_below (g := gb179) (o := .cells #[.int .i64 a1_0, .int .i64 a1_1, .string a1_2, .string a1_3, .slice A1_4 l1_4.length c1_4] 61 (0, 0)) (bk_ BK179.out) hb); have n2_ := Aside0.mk (blk_below (g := gb180) (o := .cells #[.int .i64 x181000_1, .bool x181001_1, .int .i64 x181002_1, .bool x181003_1, .string x181004_1, .slice none 0 0] 49 (0, 0)) (bk_ BK180.out) hb); have n3_ := Aside0.mk (below_step (by repeat (first | (with_reducible first | exact HB.out | apply below_alloc | apply pw_below_drewN | apply below_drew1 | refine below_set ?_ GE179.out | refine below_set ?_ GE180.out) | exact HB.out)) hb); clear BK179; clear BK180; clear HB; have HO236 := n0_; have BK179 := n1_; have BK180 := n2_; have HB := n3_; clear n0_ n1_ n2_ n3_; (try clear hb); (try clear hb2); (try clear hk); (try clear hi); (try clear ho0); have hnb69 := NB180_179.out; have hnc69 := NB179_180.out; have hcz70_0 : w68.cell? ⟨gb180, 0, none⟩ = some (.int .i64 x181000_1) := (blk_cell BK180.out 0).trans rfl; have hcz70_1 : w68.cell? ⟨gb180, 1, none⟩ = some (.bool x181001_1) := (blk_cell BK180.out 1).trans rfl; have hcz70_2 : w68.cell? ⟨gb180, 2, none⟩ = some (.int .i64 x181002_1) := (blk_cell BK180.out 2).trans rfl; have hcz70_3 : w68.cell? ⟨gb180, 3, none⟩ = some (.bool x181003_1) := (blk_cell BK180.out 3).trans rfl; have hcz70_4 : w68.cell? ⟨gb180, 4, none⟩ = some (.string x181004_1) := (blk_cell BK180.out 4).trans rfl; have hcz70_5 : w68.cell? ⟨gb180, 5, none⟩ = some (.slice none 0 0) := (blk_cell BK180.out 5).trans rfl; have hfz70_0 := blk_frozen BK180.out 0; have hfz70_1 := blk_frozen BK180.out 1; have hfz70_2 := blk_frozen BK180.out 2; have hfz70_3 := blk_frozen BK180.out 3; have hfz70_4 := blk_frozen BK180.out 4; have hfz70_5 := blk_frozen BK180.out 5; obtain ⟨Ao71, co71, eo71⟩ := Kd.R_slice HO236.out; subst eo71))
              refine bodyPost_ret (results_ct rfl _ _ gb180 49 #[.int .i64 t229, .bool t230, .int .i64 t231, .bool t232, .string t233, .slice Ao71 t234.length co71] (0, 0) _ rfl (by (with_reducible repeat (first | refine blk_drewN ?_ _ | refine blk_drew ?_ | refine blk_alloc ?_ _)); refine blk_put (cs := #[.int .i64 t229, .bool t230, .int .i64 t231, .bool t232, .string t233, .slice none 0 0]) ?_ 5 _ rfl; (with_reducible repeat (first | refine blk_drewN ?_ _ | refine blk_drew ?_ | refine blk_alloc ?_ _)); refine blk_put (cs := #[.int .i64 t229, .bool t230, .int .i64 t231, .bool t232, .string x181004_1, .slice none 0 0]) ?_ 4 _ rfl; (with_reducible repeat (first | refine blk_drewN ?_ _ | refine blk_drew ?_ | refine blk_alloc ?_ _)); refine blk_put (cs := #[.int .i64 t229, .bool t230, .int .i64 t231, .bool x181003_1, .string x181004_1, .slice none 0 0]) ?_ 3 _ rfl; (with_reducible repeat (first | refine blk_drewN ?_ _ | refine blk_drew ?_ | refine blk_alloc ?_ _)); refine blk_put (cs := #[.int .i64 t229, .bool t230, .int .i64 x181002_1, .bool x181003_1, .string x181004_1, .slice none 0 0]) ?_ 2 _ rfl; (with_reducible repeat (first | refine blk_drewN ?_ _ | refine blk_drew ?_ | refine blk_alloc ?_ _)); refine blk_put (cs := #[.int .i64 t229, .bool x181001_1, .int .i64 x181002_1, .bool x181003_1, .string x181004_1, .slice none 0 0]) ?_ 1 _ rfl; (with_reducible repeat (first | refine blk_drewN ?_ _ | refine blk_drew ?_ | refine blk_alloc ?_ _)); refine blk_put (cs := #[.int .i64 x181000_1, .bool x181001_1, .int .i64 x181002_1, .bool x181003_1, .string x181004_1, .slice none 0 0]) ?_ 0 _ rfl; (with_reducible repeat (first | refine blk_drewN ?_ _ | refine blk_drew ?_ | refine blk_alloc ?_ _)); exact BK180.out) Tryd.underlying49 rfl (by kernel_rfl)) rfl ?_
              exact ⟨_, er_, by (with_reducible repeat (first | apply Kd.R_alloc | apply Kd.R_drewN | apply Kd.R_drew)); exact Kd.R_mono (Kd.R_far (p := ⟨gb180, 5, none⟩) (Kd.R_far (p := ⟨gb180, 4, none⟩) (Kd.R_far (p := ⟨gb180, 3, none⟩) (Kd.R_far (p := ⟨gb180, 2, none⟩) (Kd.R_far (p := ⟨gb180, 1, none⟩) (Kd.R_far (p := ⟨gb180, 0, none⟩) (Kd.R_types HO236.out BK180.out (by decide)) (fun _ hk => hk.2) (.int .i64 t229)) (fun _ hk => hk.2) (.bool t230)) (fun _ hk => hk.2) (.int .i64 t231)) (fun _ hk => hk.2) (.bool t232)) (fun _ hk => hk.2) (.string t233)) (fun _ hk => hk.2) (.slice Ao71 t234.length co71)) (fun _ hk => trivial), by repeat (first | (with_reducible first | exact HB.out | apply below_alloc | apply pw_below_drewN | apply below_drew1 | refine below_set ?_ GE179.out | refine below_set ?_ GE180.out) | exact HB.out)⟩
             ·rw [if_neg c64] at H
              exact absurd H (by simp)
            ·rw [if_neg c63] at H
             have c63b0 : (a0.toList == ([115, 116, 114, 105, 110, 103] : List UInt8)) = false := beq_eq_false_iff_ne.mpr c63
             have c63b1 : (a0.toList != ([115, 116, 114, 105, 110, 103] : List UInt8)) = true := bne_iff_ne.mpr c63
             by_cases c72 : a0.toList = ([110, 117, 109, 98, 101, 114] : List UInt8)
             ·rw [if_pos c72] at H
              have c72b0 : (a0.toList == ([110, 117, 109, 98, 101, 114] : List UInt8)) = true := beq_iff_eq.mpr c72
              have c72b1 : (a0.toList != ([110, 117, 109, 98, 101, 114] : List UInt8)) = false := bne_eq_false_iff_eq.mpr c72
              clear c72
              by_cases c73 : 0 < (l2.length : Int)
              ·rw [if_pos c73] at H
               have c73b0 : decide (0 < (l2.length : Int)) = true := decide_eq_true c73
               have c73b1 : decide (0 < l2.length) = true := decide_eq_true (by omega)
               clear c73
               replace H := Option.bind_eq_some_iff.mp H
               obtain ⟨⟨t238, t239⟩, A740, H⟩ := H
               replace H : ((value_numbered.f t238 t239).bind fun bt240 => (some (bt240.1, bt240.2.1, bt240.2.2.1, bt240.2.2.2.1, bt240.2.2.2.2.1, bt240.2.2.2.2.2, 0))) = some (r1, r2, r3, r4, r5, r6, r7) := H
               have A74 := Aside0.mk A740
               clear A740
               replace H := Option.bind_eq_some_iff.mp H
               obtain ⟨⟨t240, t241, t242, t243, t244, t245⟩, A750, H⟩ := H
               replace H : (some (t240, t241, t242, t243, t244, t245, 0)) = some (r1, r2, r3, r4, r5, r6, r7) := H
               have A75 := Aside0.mk A750
               clear A750
               simp only [Option.some.injEq, Prod.mk.injEq] at H
               obtain ⟨rfl, rfl, rfl, rfl, rfl, rfl, rfl⟩ := H
               have p237 : 0 ≤ (0 : Int) := (by omega)
               have q237 : 0 < (l2.length : Int) := of_decide_eq_true (by first | (with_reducible assumption) | assumption)
               obtain ⟨ad237, A237_5, c237_5, e237, hx237_0, hx237_1, hx237_2, hx237_3, hx237_4, hx237_5, hl237_5, hi237_5⟩ := at_T49 HR2.out 0 p237 q237
               cases e237
               have qi237 : (0 < l2.length) = True := eq_true (by omega)
               (try rw [show ((0 : Int)).toNat = 0 from rfl] at hx237_0)
               (try rw [show 0 * 6 = 0 from rfl] at hx237_0)
               (try rw [Addr.add_zero'] at hx237_0)
               (try rw [show ((0 : Int)).toNat = 0 from rfl] at hx237_1)
               (try rw [show 0 * 6 = 0 from rfl] at hx237_1)
               (try rw [Addr.add_zero'] at hx237_1)
               (try rw [show ((0 : Int)).toNat = 0 from rfl] at hx237_2)
               (try rw [show 0 * 6 = 0 from rfl] at hx237_2)
               (try rw [Addr.add_zero'] at hx237_2)
               (try rw [show ((0 : Int)).toNat = 0 from rfl] at hx237_3)
               (try rw [show 0 * 6 = 0 from rfl] at hx237_3)
               (try rw [Addr.add_zero'] at hx237_3)
               (try rw [show ((0 : Int)).toNat = 0 from rfl] at hx237_4)
               (try rw [show 0 * 6 = 0 from rfl] at hx237_4)
               (try rw [Addr.add_zero'] at hx237_4)
               (try rw [show ((0 : Int)).toNat = 0 from rfl] at hx237_5)
               (try rw [show 0 * 6 = 0 from rfl] at hx237_5)
               (try rw [Addr.add_zero'] at hx237_5)
               replace hx237_0 := (HB.out.cell (World.block_lt_of_cell? w _ hx237_0)).trans hx237_0
               replace hx237_1 := (HB.out.cell (World.block_lt_of_cell? w _ hx237_1)).trans hx237_1
               replace hx237_2 := (HB.out.cell (World.block_lt_of_cell? w _ hx237_2)).trans hx237_2
               replace hx237_3 := (HB.out.cell (World.block_lt_of_cell? w _ hx237_3)).trans hx237_3
               replace hx237_4 := (HB.out.cell (World.block_lt_of_cell? w _ hx237_4)).trans hx237_4
               replace hx237_5 := (HB.out.cell (World.block_lt_of_cell? w _ hx237_5)).trans hx237_5
               have HR237_5 := Aside0.mk hi237_5
               have HC237_5 := Aside0.mk hl237_5
               clear hi237_5 hl237_5
               replace p237 := eq_true p237
               replace q237 := eq_true q237
               go_wp2_with (first | ((with_reducible refine gate_callee (f := 46) rfl ?_); refine goesL_ (some 74) rfl rfl Tryd.func46 (by kernel_rfl) rfl #[.agg #[.int .i64 ((rd_T49 l2 0).f0), .bool ((rd_T49 l2 0).f1), .int .i64 ((rd_T49 l2 0).f2), .bool ((rd_T49 l2 0).f3), .string ((rd_T49 l2 0).f4), .slice A237_5 ((rd_T49 l2 0).f5).length c237_5]] rfl rf_ ?_; (with_reducible refine (value_asNumber.calls ((rd_T49 l2 0).f0) ((rd_T49 l2 0).f1) ((rd_T49 l2 0).f2) ((rd_T49 l2 0).f3) ((rd_T49 l2 0).f4) _ _ ((rd_T49 l2 0).f5) t238 t239 _ ?side1 ?side2 A74.out).mono ?_); (case side1 => repeat (first | exact (Kd.C_below HR237_5.out HB.out) | (with_reducible refine Kd.C_alloc ?_ _) | (with_reducible refine Kd.C_drewN ?_ _) | (with_reducible refine Kd.C_drew ?_))); (case side2 => exact HC237_5.out); rintro e w76 ⟨rfl, hb⟩; refine ⟨_, rfl, ?_⟩; have n0_ := Aside0.mk (blk_below (g := gb179) (o := .cells #[.int .i64 a1_0, .int .i64 a1_1, .string a1_2, .string a1_3, .slice A1_4 l1_4.length c1_4] 61 (0, 0)) (bk_ BK179.out) hb); have n1_ := Aside0.mk (blk_below (g := gb180) (o := .cells #[.int .i64 x181000_1, .bool x181001_1, .int .i64 x181002_1, .bool x181003_1, .string x181004_1, .slice none 0 0] 49 (0, 0)) (bk_ BK180.out) hb); have n2_ := Aside0.mk (below_step (by repeat (first | (with_reducible first | exact HB.out | apply below_alloc | apply pw_below_drewN | apply below_drew1 | refine below_set ?_ GE179.out | refine below_set ?_ GE180.out) | exact HB.out)) hb); clear BK179; clear BK180; clear HB; have BK179 := n0_; have BK180 := n1_; have HB := n2_; clear n0_ n1_ n2_; (try clear hb); (try clear hb2); (try clear hk); (try clear hi)) | ((with_reducible refine gate_callee (f := 71) rfl ?_); refine goesL_ (some 77) rfl rfl Tryd.func71 (by kernel_rfl) rfl #[.int .i64 t238, .bool t239] rfl rf_ ?_; (with_reducible refine (value_numbered.calls t238 t239 t240 t241 t242 t243 t244 t245 _ A75.out).mono ?_); rintro e w77 ⟨v246, rfl, ho0, hb⟩; refine ⟨_, rfl, ?_⟩; have n0_ := Aside0.mk (Kd.R_lower ho0 (below_size (by repeat (first | (with_reducible first | exact HB.out | apply below_alloc | apply pw_below_drewN | apply below_drew1 | refine below_set ?_ GE179.out | refine below_set ?_ GE180.out) | exact HB.out)))); have n1_ := Aside0.mk (blk_below (g := gb179) (o := .cells #[.int .i64 a1_0, .int .i64 a1_1, .string a1_2, .string a1_3, .slice A1_4 l1_4.length c1_4] 61 (0, 0)) (bk_ BK179.out) hb); have n2_ := Aside0.mk (blk_below (g := gb180) (o := .cells #[.int .i64 x181000_1, .bool x181001_1, .int .i64 x181002_1, .bool x181003_1, .string x181004_1, .slice none 0 0] 49 (0, 0)) (bk_ BK180.out) hb); have n3_ := Aside0.mk (below_step (by repeat (first | (with_reducible first | exact HB.out | apply below_alloc | apply pw_below_drewN | apply below_drew1 | refine below_set ?_ GE179.out | refine below_set ?_ GE180.out) | exact HB.out)) hb); clear BK179; clear BK180; clear HB; have HO247 := n0_; have BK179 := n1_; have BK180 := n2_; have HB := n3_; clear n0_ n1_ n2_ n3_; (try clear hb); (try clear hb2); (try clear hk); (try clear hi); (try clear ho0); have hnb78 := NB180_179.out; have hnc78 := NB179_180.out; have hcz79_0 : w77.cell? ⟨gb180, 0, none⟩ = some (.int .i64 x181000_1) := (blk_cell BK180.out 0).trans rfl; have hcz79_1 : w77.cell? ⟨gb180, 1, none⟩ = some (.bool x181001_1) := (blk_cell BK180.out 1).trans rfl; have hcz79_2 : w77.cell? ⟨gb180, 2, none⟩ = some (.int .i64 x181002_1) := (blk_cell BK180.out 2).trans rfl; have hcz79_3 : w77.cell? ⟨gb180, 3, none⟩ = some (.bool x181003_1) := (blk_cell BK180.out 3).trans rfl; have hcz79_4 : w77.cell? ⟨gb180, 4, none⟩ = some (.string x181004_1) := (blk_cell BK180.out 4).trans rfl; have hcz79_5 : w77.cell? ⟨gb180, 5, none⟩ = some (.slice none 0 0) := (blk_cell BK180.out 5).trans rfl; have hfz79_0 := blk_frozen BK180.out 0; have hfz79_1 := blk_frozen BK180.out 1; have hfz79_2 := blk_frozen BK180.out 2; have hfz79_3 := blk_frozen BK180.out 3; have hfz79_4 := blk_frozen BK180.out 4; have hfz79_5 := blk_frozen BK180.out 5; obtain ⟨Ao80, co80, eo80⟩ := Kd.R_slice HO247.out; subst eo80))
               refine bodyPost_ret (results_ct rfl _ _ gb180 49 #[.int .i64 t240, .bool t241, .int .i64 t242, .bool t243, .string t244, .slice Ao80 t245.length co80] (0, 0) _ rfl (by (with_reducible repeat (first | refine blk_drewN ?_ _ | refine blk_drew ?_ | refine blk_alloc ?_ _)); refine blk_put (cs := #[.int .i64 t240, .bool t241, .int .i64 t242, .bool t243, .string t244, .slice none 0 0]) ?_ 5 _ rfl; (with_reducible repeat (first | refine blk_drewN ?_ _ | refine blk_drew ?_ | refine blk_alloc ?_ _)); refine blk_put (cs := #[.int .i64 t240, .bool t241, .int .i64 t242, .bool t243, .string x181004_1, .slice none 0 0]) ?_ 4 _ rfl; (with_reducible repeat (first | refine blk_drewN ?_ _ | refine blk_drew ?_ | refine blk_alloc ?_ _)); refine blk_put (cs := #[.int .i64 t240, .bool t241, .int .i64 t242, .bool x181003_1, .string x181004_1, .slice none 0 0]) ?_ 3 _ rfl; (with_reducible repeat (first | refine blk_drewN ?_ _ | refine blk_drew ?_ | refine blk_alloc ?_ _)); refine blk_put (cs := #[.int .i64 t240, .bool t241, .int .i64 x181002_1, .bool x181003_1, .string x181004_1, .slice none 0 0]) ?_ 2 _ rfl; (with_reducible repeat (first | refine blk_drewN ?_ _ | refine blk_drew ?_ | refine blk_alloc ?_ _)); refine blk_put (cs := #[.int .i64 t240, .bool x181001_1, .int .i64 x181002_1, .bool x181003_1, .string x181004_1, .slice none 0 0]) ?_ 1 _ rfl; (with_reducible repeat (first | refine blk_drewN ?_ _ | refine blk_drew ?_ | refine blk_alloc ?_ _)); refine blk_put (cs := #[.int .i64 x181000_1, .bool x181001_1, .int .i64 x181002_1, .bool x181003_1, .string x181004_1, .slice none 0 0]) ?_ 0 _ rfl; (with_reducible repeat (first | refine blk_drewN ?_ _ | refine blk_drew ?_ | refine blk_alloc ?_ _)); exact BK180.out) Tryd.underlying49 rfl (by kernel_rfl)) rfl ?_
               exact ⟨_, er_, by (with_reducible repeat (first | apply Kd.R_alloc | apply Kd.R_drewN | apply Kd.R_drew)); exact Kd.R_mono (Kd.R_far (p := ⟨gb180, 5, none⟩) (Kd.R_far (p := ⟨gb180, 4, none⟩) (Kd.R_far (p := ⟨gb180, 3, none⟩) (Kd.R_far (p := ⟨gb180, 2, none⟩) (Kd.R_far (p := ⟨gb180, 1, none⟩) (Kd.R_far (p := ⟨gb180, 0, none⟩) (Kd.R_types HO247.out BK180.out (by decide)) (fun _ hk => hk.2) (.int .i64 t240)) (fun _ hk => hk.2) (.bool t241)) (fun _ hk => hk.2) (.int .i64 t242)) (fun _ hk => hk.2) (.bool t243)) (fun _ hk => hk.2) (.string t244)) (fun _ hk => hk.2) (.slice Ao80 t245.length co80)) (fun _ hk => trivial), by repeat (first | (with_reducible first | exact HB.out | apply below_alloc | apply pw_below_drewN | apply below_drew1 | refine below_set ?_ GE179.out | refine below_set ?_ GE180.out) | exact HB.out)⟩
              ·rw [if_neg c73] at H
               exact absurd H (by simp)
             ·rw [if_neg c72] at H
              have c72b0 : (a0.toList == ([110, 117, 109, 98, 101, 114] : List UInt8)) = false := beq_eq_false_iff_ne.mpr c72
              have c72b1 : (a0.toList != ([110, 117, 109, 98, 101, 114] : List UInt8)) = true := bne_iff_ne.mpr c72
              by_cases c81 : a0.toList = ([99, 111, 117, 110, 116] : List UInt8)
              ·rw [if_pos c81] at H
               have c81b0 : (a0.toList == ([99, 111, 117, 110, 116] : List UInt8)) = true := beq_iff_eq.mpr c81
               have c81b1 : (a0.toList != ([99, 111, 117, 110, 116] : List UInt8)) = false := bne_eq_false_iff_eq.mpr c81
               clear c81
               by_cases c82 : 0 < (l2.length : Int)
               ·rw [if_pos c82] at H
                have c82b0 : decide (0 < (l2.length : Int)) = true := decide_eq_true c82
                have c82b1 : decide (0 < l2.length) = true := decide_eq_true (by omega)
                clear c82
                replace H := Option.bind_eq_some_iff.mp H
                obtain ⟨⟨t250, t251, t252, t253, t254, t255⟩, A830, H⟩ := H
                replace H : (some (t250, t251, t252, t253, t254, t255, 0)) = some (r1, r2, r3, r4, r5, r6, r7) := H
                have A83 := Aside0.mk A830
                clear A830
                simp only [Option.some.injEq, Prod.mk.injEq] at H
                obtain ⟨rfl, rfl, rfl, rfl, rfl, rfl, rfl⟩ := H
                try go_wp2
                have n0_ := Aside0.mk (blk_drew BK179.out)
                have n1_ := Aside0.mk (blk_drew BK180.out)
                have n2_ := Aside0.mk (below_drew1 HB.out)
                clear BK179
                clear BK180
                clear HB
                have BK179 := n0_
                have BK180 := n1_
                have HB := n2_
                clear n0_ n1_ n2_
                have p248 : 0 ≤ (0 : Int) := (by omega)
                have q248 : 0 < (l2.length : Int) := of_decide_eq_true (by first | (with_reducible assumption) | assumption)
                obtain ⟨ad248, A248_5, c248_5, e248, hx248_0, hx248_1, hx248_2, hx248_3, hx248_4, hx248_5, hl248_5, hi248_5⟩ := at_T49 HR2.out 0 p248 q248
                have hw248_5 := hx248_5
                (try rw [show ((0 : Int)).toNat = 0 from rfl] at hw248_5)
                (try rw [show 0 * 6 = 0 from rfl] at hw248_5)
                (try rw [Addr.add_zero'] at hw248_5)
                have hw248_4 := hx248_4
                (try rw [show ((0 : Int)).toNat = 0 from rfl] at hw248_4)
                (try rw [show 0 * 6 = 0 from rfl] at hw248_4)
                (try rw [Addr.add_zero'] at hw248_4)
                have hw248_3 := hx248_3
                (try rw [show ((0 : Int)).toNat = 0 from rfl] at hw248_3)
                (try rw [show 0 * 6 = 0 from rfl] at hw248_3)
                (try rw [Addr.add_zero'] at hw248_3)
                have hw248_2 := hx248_2
                (try rw [show ((0 : Int)).toNat = 0 from rfl] at hw248_2)
                (try rw [show 0 * 6 = 0 from rfl] at hw248_2)
                (try rw [Addr.add_zero'] at hw248_2)
                have hw248_1 := hx248_1
                (try rw [show ((0 : Int)).toNat = 0 from rfl] at hw248_1)
                (try rw [show 0 * 6 = 0 from rfl] at hw248_1)
                (try rw [Addr.add_zero'] at hw248_1)
                have hw248_0 := hx248_0
                (try rw [show ((0 : Int)).toNat = 0 from rfl] at hw248_0)
                (try rw [show 0 * 6 = 0 from rfl] at hw248_0)
                (try rw [Addr.add_zero'] at hw248_0)
                cases e248
                have qi248 : (0 < l2.length) = True := eq_true (by omega)
                (try rw [show ((0 : Int)).toNat = 0 from rfl] at hx248_0)
                (try rw [show 0 * 6 = 0 from rfl] at hx248_0)
                (try rw [Addr.add_zero'] at hx248_0)
                (try rw [show ((0 : Int)).toNat = 0 from rfl] at hx248_1)
                (try rw [show 0 * 6 = 0 from rfl] at hx248_1)
                (try rw [Addr.add_zero'] at hx248_1)
                (try rw [show ((0 : Int)).toNat = 0 from rfl] at hx248_2)
                (try rw [show 0 * 6 = 0 from rfl] at hx248_2)
                (try rw [Addr.add_zero'] at hx248_2)
                (try rw [show ((0 : Int)).toNat = 0 from rfl] at hx248_3)
                (try rw [show 0 * 6 = 0 from rfl] at hx248_3)
                (try rw [Addr.add_zero'] at hx248_3)
                (try rw [show ((0 : Int)).toNat = 0 from rfl] at hx248_4)
                (try rw [show 0 * 6 = 0 from rfl] at hx248_4)
                (try rw [Addr.add_zero'] at hx248_4)
                (try rw [show ((0 : Int)).toNat = 0 from rfl] at hx248_5)
                (try rw [show 0 * 6 = 0 from rfl] at hx248_5)
                (try rw [Addr.add_zero'] at hx248_5)
                replace hx248_0 := (HB.out.cell (World.block_lt_of_cell? w _ hx248_0)).trans hx248_0
                replace hx248_1 := (HB.out.cell (World.block_lt_of_cell? w _ hx248_1)).trans hx248_1
                replace hx248_2 := (HB.out.cell (World.block_lt_of_cell? w _ hx248_2)).trans hx248_2
                replace hx248_3 := (HB.out.cell (World.block_lt_of_cell? w _ hx248_3)).trans hx248_3
                replace hx248_4 := (HB.out.cell (World.block_lt_of_cell? w _ hx248_4)).trans hx248_4
                replace hx248_5 := (HB.out.cell (World.block_lt_of_cell? w _ hx248_5)).trans hx248_5
                have HR248_5 := Aside0.mk hi248_5
                have HC248_5 := Aside0.mk hl248_5
                clear hi248_5 hl248_5
                replace p248 := eq_true p248
                replace q248 := eq_true q248
                have p249 : 0 ≤ (0 : Int) := (by omega)
                have q249 : 0 < (l2.length : Int) := of_decide_eq_true (by first | (with_reducible assumption) | assumption)
                obtain ⟨ad249, A249_5, c249_5, e249, hx249_0, hx249_1, hx249_2, hx249_3, hx249_4, hx249_5, hl249_5, hi249_5⟩ := at_T49 HR2.out 0 p249 q249
                have hw249_5 := hx249_5
                (try rw [show ((0 : Int)).toNat = 0 from rfl] at hw249_5)
                (try rw [show 0 * 6 = 0 from rfl] at hw249_5)
                (try rw [Addr.add_zero'] at hw249_5)
                have hw249_4 := hx249_4
                (try rw [show ((0 : Int)).toNat = 0 from rfl] at hw249_4)
                (try rw [show 0 * 6 = 0 from rfl] at hw249_4)
                (try rw [Addr.add_zero'] at hw249_4)
                have hw249_3 := hx249_3
                (try rw [show ((0 : Int)).toNat = 0 from rfl] at hw249_3)
                (try rw [show 0 * 6 = 0 from rfl] at hw249_3)
                (try rw [Addr.add_zero'] at hw249_3)
                have hw249_2 := hx249_2
                (try rw [show ((0 : Int)).toNat = 0 from rfl] at hw249_2)
                (try rw [show 0 * 6 = 0 from rfl] at hw249_2)
                (try rw [Addr.add_zero'] at hw249_2)
                have hw249_1 := hx249_1
                (try rw [show ((0 : Int)).toNat = 0 from rfl] at hw249_1)
                (try rw [show 0 * 6 = 0 from rfl] at hw249_1)
                (try rw [Addr.add_zero'] at hw249_1)
                have hw249_0 := hx249_0
                (try rw [show ((0 : Int)).toNat = 0 from rfl] at hw249_0)
                (try rw [show 0 * 6 = 0 from rfl] at hw249_0)
                (try rw [Addr.add_zero'] at hw249_0)
                obtain rfl : ad248 = ad249 := (by injection e249)
                have qi249 : (0 < l2.length) = True := eq_true (by omega)
                (try rw [show ((0 : Int)).toNat = 0 from rfl] at hx249_0)
                (try rw [show 0 * 6 = 0 from rfl] at hx249_0)
                (try rw [Addr.add_zero'] at hx249_0)
                (try rw [show ((0 : Int)).toNat = 0 from rfl] at hx249_1)
                (try rw [show 0 * 6 = 0 from rfl] at hx249_1)
                (try rw [Addr.add_zero'] at hx249_1)
                (try rw [show ((0 : Int)).toNat = 0 from rfl] at hx249_2)
                (try rw [show 0 * 6 = 0 from rfl] at hx249_2)
                (try rw [Addr.add_zero'] at hx249_2)
                (try rw [show ((0 : Int)).toNat = 0 from rfl] at hx249_3)
                (try rw [show 0 * 6 = 0 from rfl] at hx249_3)
                (try rw [Addr.add_zero'] at hx249_3)
                (try rw [show ((0 : Int)).toNat = 0 from rfl] at hx249_4)
                (try rw [show 0 * 6 = 0 from rfl] at hx249_4)
                (try rw [Addr.add_zero'] at hx249_4)
                (try rw [show ((0 : Int)).toNat = 0 from rfl] at hx249_5)
                (try rw [show 0 * 6 = 0 from rfl] at hx249_5)
                (try rw [Addr.add_zero'] at hx249_5)
                replace hx249_0 := (HB.out.cell (World.block_lt_of_cell? w _ hx249_0)).trans hx249_0
                replace hx249_1 := (HB.out.cell (World.block_lt_of_cell? w _ hx249_1)).trans hx249_1
                replace hx249_2 := (HB.out.cell (World.block_lt_of_cell? w _ hx249_2)).trans hx249_2
                replace hx249_3 := (HB.out.cell (World.block_lt_of_cell? w _ hx249_3)).trans hx249_3
                replace hx249_4 := (HB.out.cell (World.block_lt_of_cell? w _ hx249_4)).trans hx249_4
                replace hx249_5 := (HB.out.cell (World.block_lt_of_cell? w _ hx249_5)).trans hx249_5
                have HR249_5 := Aside0.mk hi249_5
                have HC249_5 := Aside0.mk hl249_5
                clear hi249_5 hl249_5
                replace p249 := eq_true p249
                replace q249 := eq_true q249
                have ea_ := Option.some.inj (hx248_5.symm.trans hx249_5)
                injection ea_ with ea_ en_ ec_
                subst ea_
                subst ec_
                clear en_
                refine start_ (n := 13) (S := fun w' => w'.cell? ad248 = some (.int .i64 ((rd_T49 l2 0).f0)) ∧ w'.cell? ⟨ad248.block, ad248.off + 1, none⟩ = some (.bool ((rd_T49 l2 0).f1)) ∧ w'.cell? ⟨ad248.block, ad248.off + 2, none⟩ = some (.int .i64 ((rd_T49 l2 0).f2)) ∧ w'.cell? ⟨ad248.block, ad248.off + 3, none⟩ = some (.bool ((rd_T49 l2 0).f3)) ∧ w'.cell? ⟨ad248.block, ad248.off + 4, none⟩ = some (.string ((rd_T49 l2 0).f4)) ∧ w'.cell? ⟨ad248.block, ad248.off + 5, none⟩ = some (.slice A248_5 ((rd_T49 l2 0).f5).length c248_5) ∧ w'.cell? ad248 = some (.int .i64 ((rd_T49 l2 0).f0)) ∧ w'.cell? ⟨ad248.block, ad248.off + 1, none⟩ = some (.bool ((rd_T49 l2 0).f1)) ∧ w'.cell? ⟨ad248.block, ad248.off + 2, none⟩ = some (.int .i64 ((rd_T49 l2 0).f2)) ∧ w'.cell? ⟨ad248.block, ad248.off + 3, none⟩ = some (.bool ((rd_T49 l2 0).f3)) ∧ w'.cell? ⟨ad248.block, ad248.off + 4, none⟩ = some (.string ((rd_T49 l2 0).f4)) ∧ w'.cell? ⟨ad248.block, ad248.off + 5, none⟩ = some (.slice A248_5 ((rd_T49 l2 0).f5).length c248_5)) (ds := []) #[false, false, false, false, false, false, false, false, false, false, false, false, false] (by kernel_rfl) rfl rfl ⟨((HB.out.cell (World.block_lt_of_cell? w _ hw248_0)).trans hw248_0), ((HB.out.cell (World.block_lt_of_cell? w _ hw248_1)).trans hw248_1), ((HB.out.cell (World.block_lt_of_cell? w _ hw248_2)).trans hw248_2), ((HB.out.cell (World.block_lt_of_cell? w _ hw248_3)).trans hw248_3), ((HB.out.cell (World.block_lt_of_cell? w _ hw248_4)).trans hw248_4), ((HB.out.cell (World.block_lt_of_cell? w _ hw248_5)).trans hw248_5), ((HB.out.cell (World.block_lt_of_cell? w _ hw249_0)).trans hw249_0), ((HB.out.cell (World.block_lt_of_cell? w _ hw249_1)).trans hw249_1), ((HB.out.cell (World.block_lt_of_cell? w _ hw249_2)).trans hw249_2), ((HB.out.cell (World.block_lt_of_cell? w _ hw249_3)).trans hw249_3), ((HB.out.cell (World.block_lt_of_cell? w _ hw249_4)).trans hw249_4), ((HB.out.cell (World.block_lt_of_cell? w _ hw249_5)).trans hw249_5)⟩ (fun hHeld => ?_); refine with_tabW value_call.tab27 value_call.bits27 (fun HT_ HW_ => ?_)
                generalize wc.drew = w84 at BK179 BK180 HB HR248_5 HR249_5 hx248_0 hx248_1 hx248_2 hx248_3 hx248_4 hx248_5 hx249_0 hx249_1 hx249_2 hx249_3 hx249_4 hx249_5 hHeld ⊢
                refine pure_ (i := 0) (N := some 80) (v := ?_) (a' := ?_) #[true, false, false, false, false, false, false, false, false, false, false, false, false] rfl rfl (any_of HT_.out (by kernel_rfl)) (fun _ _ _ h => h) (Or.inl ⟨by rfl, ?_⟩) ?_ ?_
                rotate_left
                ·intro w'
                 go_simp
                 with_reducible rfl
                rotate_left
                ·simp only [Act.put, List.setIfInBounds_toArray, List.set_cons_zero, List.set_cons_succ, i64_w, i32_w]
                 rfl
                refine pure_ (i := 1) (N := some 81) (v := ?_) (a' := ?_) #[true, true, false, false, false, false, false, false, false, false, false, false, false] rfl rfl (any_of HT_.out (by kernel_rfl)) (fun _ _ _ h => h) (Or.inl ⟨by rfl, ?_⟩) ?_ ?_
                rotate_left
                ·intro w'
                 go_simp
                 with_reducible rfl
                rotate_left
                ·simp only [Act.put, List.setIfInBounds_toArray, List.set_cons_zero, List.set_cons_succ, i64_w, i32_w]
                 rfl
                refine pure_ (i := 2) (N := some 82) (v := ?_) (a' := ?_) #[true, true, true, false, false, false, false, false, false, false, false, false, false] rfl rfl (any_of HT_.out (by kernel_rfl)) (fun _ _ _ h => h) (Or.inl ⟨by rfl, ?_⟩) ?_ ?_
                rotate_left
                ·intro w'
                 go_simp
                 with_reducible rfl
                rotate_left
                ·simp only [Act.put, List.setIfInBounds_toArray, List.set_cons_zero, List.set_cons_succ, i64_w, i32_w]
                 rfl
                refine pure_ (i := 5) (N := some 85) (v := ?_) (a' := ?_) #[true, true, true, false, false, true, false, false, false, false, false, false, false] rfl rfl (any_of HT_.out (by kernel_rfl)) (fun _ _ _ h => h) (Or.inl ⟨by rfl, ?_⟩) ?_ ?_
                rotate_left
                ·intro w'
                 go_simp
                 with_reducible rfl
                rotate_left
                ·simp only [Act.put, List.setIfInBounds_toArray, List.set_cons_zero, List.set_cons_succ, i64_w, i32_w]
                 rfl
                refine pure_ (i := 6) (N := some 86) (v := ?_) (a' := ?_) #[true, true, true, false, false, true, true, false, false, false, false, false, false] rfl rfl (any_of HT_.out (by kernel_rfl)) (fun _ _ _ h => h) (Or.inl ⟨by rfl, ?_⟩) ?_ ?_
                rotate_left
                ·intro w'
                 go_simp
                 with_reducible rfl
                rotate_left
                ·simp only [Act.put, List.setIfInBounds_toArray, List.set_cons_zero, List.set_cons_succ, i64_w, i32_w]
                 rfl
                refine pure_ (i := 7) (N := some 87) (v := ?_) (a' := ?_) #[true, true, true, false, false, true, true, true, false, false, false, false, false] rfl rfl (any_of HT_.out (by kernel_rfl)) (fun _ _ _ h => h) (Or.inl ⟨by rfl, ?_⟩) ?_ ?_
                rotate_left
                ·intro w'
                 go_simp
                 with_reducible rfl
                rotate_left
                ·simp only [Act.put, List.setIfInBounds_toArray, List.set_cons_zero, List.set_cons_succ, i64_w, i32_w]
                 rfl
                refine take_ (i := 3) (N := some 83) (v := ?_) (a' := ?_) #[true, true, true, true, false, true, true, true, false, false, false, false, false] rfl rfl (take_ofW HT_.out HW_.out (by kernel_rfl)) (fun _ _ _ h => h) (Or.inl ⟨by rfl, ?_⟩) hHeld ?_ ?_
                rotate_left
                ·rintro w' ⟨s0, s1, s2, s3, s4, s5, s6, s7, s8, s9, s10, s11⟩
                 go_simp
                 with_reducible rfl
                rotate_left
                ·simp only [Act.put, List.setIfInBounds_toArray, List.set_cons_zero, List.set_cons_succ, i64_w, i32_w]
                 rfl
                refine pure_ (i := 4) (N := some 84) (v := ?_) (a' := ?_) #[true, true, true, true, true, true, true, true, false, false, false, false, false] rfl rfl (any_of HT_.out (by kernel_rfl)) (fun _ _ _ h => h) (Or.inl ⟨by rfl, ?_⟩) ?_ ?_
                rotate_left
                ·intro w'
                 go_simp
                 with_reducible rfl
                rotate_left
                ·simp only [Act.put, List.setIfInBounds_toArray, List.set_cons_zero, List.set_cons_succ, i64_w, i32_w]
                 rfl
                refine take_ (i := 8) (N := some 88) (v := ?_) (a' := ?_) #[true, true, true, true, true, true, true, true, true, false, false, false, false] rfl rfl (take_ofW HT_.out HW_.out (by kernel_rfl)) (fun _ _ _ h => h) (Or.inl ⟨by rfl, ?_⟩) hHeld ?_ ?_
                rotate_left
                ·rintro w' ⟨s0, s1, s2, s3, s4, s5, s6, s7, s8, s9, s10, s11⟩
                 go_simp
                 with_reducible rfl
                rotate_left
                ·simp only [Act.put, List.setIfInBounds_toArray, List.set_cons_zero, List.set_cons_succ, i64_w, i32_w]
                 rfl
                refine pure_ (i := 9) (N := some 89) (v := ?_) (a' := ?_) #[true, true, true, true, true, true, true, true, true, true, false, false, false] rfl rfl (any_of HT_.out (by kernel_rfl)) (fun _ _ _ h => h) (Or.inl ⟨by rfl, ?_⟩) ?_ ?_
                rotate_left
                ·intro w'
                 go_simp
                 with_reducible rfl
                rotate_left
                ·simp only [Act.put, List.setIfInBounds_toArray, List.set_cons_zero, List.set_cons_succ, i64_w, i32_w]
                 rfl
                refine one_ (i := 10) (N := some 90) #[true, true, true, true, true, true, true, true, true, true, true, false, false] rfl rfl (one_of HT_.out (by kernel_rfl)) (by decide) (fun K hK => ?_)
                refine goes_ Tryd.func71 (by kernel_rfl) rfl #[.int .i64 (((rd_T49 l2 0).f5).length : Int), .bool (((rd_T49 l2 0).f0) == 4)] (by rfl) rfl rfl rf_ ?_
                with_reducible refine (value_numbered.calls (((rd_T49 l2 0).f5).length : Int) (((rd_T49 l2 0).f0) == 4) t250 t251 t252 t253 t254 t255 _ A83.out).mono ?_
                rintro e w85 ⟨v256, rfl, ho0, hb⟩
                refine ⟨_, rfl, ?_⟩
                have n0_ := Aside0.mk (Kd.R_lower ho0 (below_size (by repeat (first | (with_reducible first | exact HB.out | apply below_alloc | apply pw_below_drewN | apply below_drew1 | refine below_set ?_ GE179.out | refine below_set ?_ GE180.out) | exact HB.out))))
                have n1_ := Aside0.mk (blk_below (g := gb179) (o := .cells #[.int .i64 a1_0, .int .i64 a1_1, .string a1_2, .string a1_3, .slice A1_4 l1_4.length c1_4] 61 (0, 0)) (bk_ BK179.out) hb)
                have n2_ := Aside0.mk (blk_below (g := gb180) (o := .cells #[.int .i64 x181000_1, .bool x181001_1, .int .i64 x181002_1, .bool x181003_1, .string x181004_1, .slice none 0 0] 49 (0, 0)) (bk_ BK180.out) hb)
                have n3_ := Aside0.mk (below_step (by repeat (first | (with_reducible first | exact HB.out | apply below_alloc | apply pw_below_drewN | apply below_drew1 | refine below_set ?_ GE179.out | refine below_set ?_ GE180.out) | exact HB.out)) hb)
                clear BK179
                clear BK180
                clear HB
                have HO257 := n0_
                have BK179 := n1_
                have BK180 := n2_
                have HB := n3_
                clear n0_ n1_ n2_ n3_
                (try clear hb)
                (try clear hb2)
                (try clear hk)
                (try clear hi)
                (try clear ho0)
                obtain ⟨Ao91, co91, eo91⟩ := Kd.R_slice HO257.out
                (first | subst eo91 | (injection eo91 with f1_ f2_ f3_; have f4_ := f1_.symm; have f5_ := f3_.symm; clear f1_ f2_ f3_; subst f4_; subst f5_))
                refine hK.out _ _ ⟨((HB.out.cell (World.block_lt_of_cell? w _ hw248_0)).trans hw248_0), ((HB.out.cell (World.block_lt_of_cell? w _ hw248_1)).trans hw248_1), ((HB.out.cell (World.block_lt_of_cell? w _ hw248_2)).trans hw248_2), ((HB.out.cell (World.block_lt_of_cell? w _ hw248_3)).trans hw248_3), ((HB.out.cell (World.block_lt_of_cell? w _ hw248_4)).trans hw248_4), ((HB.out.cell (World.block_lt_of_cell? w _ hw248_5)).trans hw248_5), ((HB.out.cell (World.block_lt_of_cell? w _ hw249_0)).trans hw249_0), ((HB.out.cell (World.block_lt_of_cell? w _ hw249_1)).trans hw249_1), ((HB.out.cell (World.block_lt_of_cell? w _ hw249_2)).trans hw249_2), ((HB.out.cell (World.block_lt_of_cell? w _ hw249_3)).trans hw249_3), ((HB.out.cell (World.block_lt_of_cell? w _ hw249_4)).trans hw249_4), ((HB.out.cell (World.block_lt_of_cell? w _ hw249_5)).trans hw249_5)⟩ (fun hHeld => ?_)
                clear hK K
                refine norm_ (a' := ?_) ?_ ?_
                rotate_left
                ·show Act.put _ (some 90) _ = _
                 simp only [Act.put, List.setIfInBounds_toArray, List.set_cons_zero, List.set_cons_succ, i64_w, i32_w]
                 rfl
                refine one_ (i := 11) (N := none) #[true, true, true, true, true, true, true, true, true, true, true, true, false] rfl rfl (one_of HT_.out (by kernel_rfl)) (by decide) (fun K hK => ?_)
                have hs86 : w85.cell? ⟨gb180, 0, none⟩ = some (.int .i64 x181000_1) := (blk_cell BK180.out 0).trans rfl
                have hfs86 := blk_frozen BK180.out 0
                have hns86_0 := NB179_180.out
                have hms86_0 := NB180_179.out
                have hs87 : w85.cell? ⟨gb180, 1, none⟩ = some (.bool x181001_1) := (blk_cell BK180.out 1).trans rfl
                have hfs87 := blk_frozen BK180.out 1
                have hns87_0 := NB179_180.out
                have hms87_0 := NB180_179.out
                have hs88 : w85.cell? ⟨gb180, 2, none⟩ = some (.int .i64 x181002_1) := (blk_cell BK180.out 2).trans rfl
                have hfs88 := blk_frozen BK180.out 2
                have hns88_0 := NB179_180.out
                have hms88_0 := NB180_179.out
                have hs89 : w85.cell? ⟨gb180, 3, none⟩ = some (.bool x181003_1) := (blk_cell BK180.out 3).trans rfl
                have hfs89 := blk_frozen BK180.out 3
                have hns89_0 := NB179_180.out
                have hms89_0 := NB180_179.out
                have hs90 : w85.cell? ⟨gb180, 4, none⟩ = some (.string x181004_1) := (blk_cell BK180.out 4).trans rfl
                have hfs90 := blk_frozen BK180.out 4
                have hns90_0 := NB179_180.out
                have hms90_0 := NB180_179.out
                have hs92 : w85.cell? ⟨gb180, 5, none⟩ = some (.slice none 0 0) := (blk_cell BK180.out 5).trans rfl
                have hfs92 := blk_frozen BK180.out 5
                have hns92_0 := NB179_180.out
                have hms92_0 := NB180_179.out
                refine skip_ (w1 := ?_) (by rfl) rfl ?_ ?_
                rotate_left
                ·go_simp
                 rfl
                refine hK.out _ _ ⟨((far_ hw248_0 GW180.out _).trans (((far_ hw248_0 GW180.out _).trans (((far_ hw248_0 GW180.out _).trans (((far_ hw248_0 GW180.out _).trans (((far_ hw248_0 GW180.out _).trans (((far_ hw248_0 GW180.out _).trans (hHeld.1)))))))))))), ((far_ hw248_1 GW180.out _).trans (((far_ hw248_1 GW180.out _).trans (((far_ hw248_1 GW180.out _).trans (((far_ hw248_1 GW180.out _).trans (((far_ hw248_1 GW180.out _).trans (((far_ hw248_1 GW180.out _).trans (hHeld.2.1)))))))))))), ((far_ hw248_2 GW180.out _).trans (((far_ hw248_2 GW180.out _).trans (((far_ hw248_2 GW180.out _).trans (((far_ hw248_2 GW180.out _).trans (((far_ hw248_2 GW180.out _).trans (((far_ hw248_2 GW180.out _).trans (hHeld.2.2.1)))))))))))), ((far_ hw248_3 GW180.out _).trans (((far_ hw248_3 GW180.out _).trans (((far_ hw248_3 GW180.out _).trans (((far_ hw248_3 GW180.out _).trans (((far_ hw248_3 GW180.out _).trans (((far_ hw248_3 GW180.out _).trans (hHeld.2.2.2.1)))))))))))), ((far_ hw248_4 GW180.out _).trans (((far_ hw248_4 GW180.out _).trans (((far_ hw248_4 GW180.out _).trans (((far_ hw248_4 GW180.out _).trans (((far_ hw248_4 GW180.out _).trans (((far_ hw248_4 GW180.out _).trans (hHeld.2.2.2.2.1)))))))))))), ((far_ hw248_5 GW180.out _).trans (((far_ hw248_5 GW180.out _).trans (((far_ hw248_5 GW180.out _).trans (((far_ hw248_5 GW180.out _).trans (((far_ hw248_5 GW180.out _).trans (((far_ hw248_5 GW180.out _).trans (hHeld.2.2.2.2.2.1)))))))))))), ((far_ hw249_0 GW180.out _).trans (((far_ hw249_0 GW180.out _).trans (((far_ hw249_0 GW180.out _).trans (((far_ hw249_0 GW180.out _).trans (((far_ hw249_0 GW180.out _).trans (((far_ hw249_0 GW180.out _).trans (hHeld.2.2.2.2.2.2.1)))))))))))), ((far_ hw249_1 GW180.out _).trans (((far_ hw249_1 GW180.out _).trans (((far_ hw249_1 GW180.out _).trans (((far_ hw249_1 GW180.out _).trans (((far_ hw249_1 GW180.out _).trans (((far_ hw249_1 GW180.out _).trans (hHeld.2.2.2.2.2.2.2.1)))))))))))), ((far_ hw249_2 GW180.out _).trans (((far_ hw249_2 GW180.out _).trans (((far_ hw249_2 GW180.out _).trans (((far_ hw249_2 GW180.out _).trans (((far_ hw249_2 GW180.out _).trans (((far_ hw249_2 GW180.out _).trans (hHeld.2.2.2.2.2.2.2.2.1)))))))))))), ((far_ hw249_3 GW180.out _).trans (((far_ hw249_3 GW180.out _).trans (((far_ hw249_3 GW180.out _).trans (((far_ hw249_3 GW180.out _).trans (((far_ hw249_3 GW180.out _).trans (((far_ hw249_3 GW180.out _).trans (hHeld.2.2.2.2.2.2.2.2.2.1)))))))))))), ((far_ hw249_4 GW180.out _).trans (((far_ hw249_4 GW180.out _).trans (((far_ hw249_4 GW180.out _).trans (((far_ hw249_4 GW180.out _).trans (((far_ hw249_4 GW180.out _).trans (((far_ hw249_4 GW180.out _).trans (hHeld.2.2.2.2.2.2.2.2.2.2.1)))))))))))), ((far_ hw249_5 GW180.out _).trans (((far_ hw249_5 GW180.out _).trans (((far_ hw249_5 GW180.out _).trans (((far_ hw249_5 GW180.out _).trans (((far_ hw249_5 GW180.out _).trans (((far_ hw249_5 GW180.out _).trans (hHeld.2.2.2.2.2.2.2.2.2.2.2))))))))))))⟩ (fun hHeld => ?_)
                clear hK K
                refine pure_ (i := 12) (N := some 7) (v := ?_) (a' := ?_) #[true, true, true, true, true, true, true, true, true, true, true, true, true] rfl rfl (any_of HT_.out (by kernel_rfl)) (fun _ _ _ h => h) (Or.inl ⟨by rfl, ?_⟩) ?_ ?_
                rotate_left
                ·intro w'
                 go_simp
                 with_reducible rfl
                rotate_left
                ·simp only [Act.put, List.setIfInBounds_toArray, List.set_cons_zero, List.set_cons_succ, i64_w, i32_w]
                 rfl
                refine done_ (done_of HT_.out (by kernel_rfl)) ?_
                try go_wp2
                refine bodyPost_ret (results_ct rfl _ _ gb180 49 #[.int .i64 t250, .bool t251, .int .i64 t252, .bool t253, .string t254, .slice Ao91 t255.length co91] (0, 0) _ rfl (by (with_reducible repeat (first | refine blk_drewN ?_ _ | refine blk_drew ?_ | refine blk_alloc ?_ _)); refine blk_put (cs := #[.int .i64 t250, .bool t251, .int .i64 t252, .bool t253, .string t254, .slice none 0 0]) ?_ 5 _ rfl; (with_reducible repeat (first | refine blk_drewN ?_ _ | refine blk_drew ?_ | refine blk_alloc ?_ _)); refine blk_put (cs := #[.int .i64 t250, .bool t251, .int .i64 t252, .bool t253, .string x181004_1, .slice none 0 0]) ?_ 4 _ rfl; (with_reducible repeat (first | refine blk_drewN ?_ _ | refine blk_drew ?_ | refine blk_alloc ?_ _)); refine blk_put (cs := #[.int .i64 t250, .bool t251, .int .i64 t252, .bool x181003_1, .string x181004_1, .slice none 0 0]) ?_ 3 _ rfl; (with_reducible repeat (first | refine blk_drewN ?_ _ | refine blk_drew ?_ | refine blk_alloc ?_ _)); refine blk_put (cs := #[.int .i64 t250, .bool t251, .int .i64 x181002_1, .bool x181003_1, .string x181004_1, .slice none 0 0]) ?_ 2 _ rfl; (with_reducible repeat (first | refine blk_drewN ?_ _ | refine blk_drew ?_ | refine blk_alloc ?_ _)); refine blk_put (cs := #[.int .i64 t250, .bool x181001_1, .int .i64 x181002_1, .bool x181003_1, .string x181004_1, .slice none 0 0]) ?_ 1 _ rfl; (with_reducible repeat (first | refine blk_drewN ?_ _ | refine blk_drew ?_ | refine blk_alloc ?_ _)); refine blk_put (cs := #[.int .i64 x181000_1, .bool x181001_1, .int .i64 x181002_1, .bool x181003_1, .string x181004_1, .slice none 0 0]) ?_ 0 _ rfl; (with_reducible repeat (first | refine blk_drewN ?_ _ | refine blk_drew ?_ | refine blk_alloc ?_ _)); exact BK180.out) Tryd.underlying49 rfl (by kernel_rfl)) rfl ?_
                exact ⟨_, er_, by (with_reducible repeat (first | apply Kd.R_alloc | apply Kd.R_drewN | apply Kd.R_drew)); exact Kd.R_mono (Kd.R_far (p := ⟨gb180, 5, none⟩) (Kd.R_far (p := ⟨gb180, 4, none⟩) (Kd.R_far (p := ⟨gb180, 3, none⟩) (Kd.R_far (p := ⟨gb180, 2, none⟩) (Kd.R_far (p := ⟨gb180, 1, none⟩) (Kd.R_far (p := ⟨gb180, 0, none⟩) (Kd.R_types HO257.out BK180.out (by decide)) (fun _ hk => hk.2) (.int .i64 t250)) (fun _ hk => hk.2) (.bool t251)) (fun _ hk => hk.2) (.int .i64 t252)) (fun _ hk => hk.2) (.bool t253)) (fun _ hk => hk.2) (.string t254)) (fun _ hk => hk.2) (.slice Ao91 t255.length co91)) (fun _ hk => trivial), by repeat (first | (with_reducible first | exact HB.out | apply below_alloc | apply pw_below_drewN | apply below_drew1 | refine below_set ?_ GE179.out | refine below_set ?_ GE180.out) | exact HB.out)⟩
               ·rw [if_neg c82] at H
                exact absurd H (by simp)
              ·rw [if_neg c81] at H
               have c81b0 : (a0.toList == ([99, 111, 117, 110, 116] : List UInt8)) = false := beq_eq_false_iff_ne.mpr c81
               have c81b1 : (a0.toList != ([99, 111, 117, 110, 116] : List UInt8)) = true := bne_iff_ne.mpr c81
               by_cases c93 : a0.toList = ([115, 117, 109] : List UInt8)
               ·rw [if_pos c93] at H
                have c93b0 : (a0.toList == ([115, 117, 109] : List UInt8)) = true := beq_iff_eq.mpr c93
                have c93b1 : (a0.toList != ([115, 117, 109] : List UInt8)) = false := bne_eq_false_iff_eq.mpr c93
                clear c93
                by_cases c94 : 0 < (l2.length : Int)
                ·rw [if_pos c94] at H
                 have c94b0 : decide (0 < (l2.length : Int)) = true := decide_eq_true c94
                 have c94b1 : decide (0 < l2.length) = true := decide_eq_true (by omega)
                 clear c94
                 replace H := Option.bind_eq_some_iff.mp H
                 obtain ⟨⟨t259, t260, t261, t262, t263, t264⟩, A950, H⟩ := H
                 replace H : (some (t259, t260, t261, t262, t263, t264, 0)) = some (r1, r2, r3, r4, r5, r6, r7) := H
                 have A95 := Aside0.mk A950
                 clear A950
                 simp only [Option.some.injEq, Prod.mk.injEq] at H
                 obtain ⟨rfl, rfl, rfl, rfl, rfl, rfl, rfl⟩ := H
                 have p258 : 0 ≤ (0 : Int) := (by omega)
                 have q258 : 0 < (l2.length : Int) := of_decide_eq_true (by first | (with_reducible assumption) | assumption)
                 obtain ⟨ad258, A258_5, c258_5, e258, hx258_0, hx258_1, hx258_2, hx258_3, hx258_4, hx258_5, hl258_5, hi258_5⟩ := at_T49 HR2.out 0 p258 q258
                 cases e258
                 have qi258 : (0 < l2.length) = True := eq_true (by omega)
                 (try rw [show ((0 : Int)).toNat = 0 from rfl] at hx258_0)
                 (try rw [show 0 * 6 = 0 from rfl] at hx258_0)
                 (try rw [Addr.add_zero'] at hx258_0)
                 (try rw [show ((0 : Int)).toNat = 0 from rfl] at hx258_1)
                 (try rw [show 0 * 6 = 0 from rfl] at hx258_1)
                 (try rw [Addr.add_zero'] at hx258_1)
                 (try rw [show ((0 : Int)).toNat = 0 from rfl] at hx258_2)
                 (try rw [show 0 * 6 = 0 from rfl] at hx258_2)
                 (try rw [Addr.add_zero'] at hx258_2)
                 (try rw [show ((0 : Int)).toNat = 0 from rfl] at hx258_3)
                 (try rw [show 0 * 6 = 0 from rfl] at hx258_3)
                 (try rw [Addr.add_zero'] at hx258_3)
                 (try rw [show ((0 : Int)).toNat = 0 from rfl] at hx258_4)
                 (try rw [show 0 * 6 = 0 from rfl] at hx258_4)
                 (try rw [Addr.add_zero'] at hx258_4)
                 (try rw [show ((0 : Int)).toNat = 0 from rfl] at hx258_5)
                 (try rw [show 0 * 6 = 0 from rfl] at hx258_5)
                 (try rw [Addr.add_zero'] at hx258_5)
                 replace hx258_0 := (HB.out.cell (World.block_lt_of_cell? w _ hx258_0)).trans hx258_0
                 replace hx258_1 := (HB.out.cell (World.block_lt_of_cell? w _ hx258_1)).trans hx258_1
                 replace hx258_2 := (HB.out.cell (World.block_lt_of_cell? w _ hx258_2)).trans hx258_2
                 replace hx258_3 := (HB.out.cell (World.block_lt_of_cell? w _ hx258_3)).trans hx258_3
                 replace hx258_4 := (HB.out.cell (World.block_lt_of_cell? w _ hx258_4)).trans hx258_4
                 replace hx258_5 := (HB.out.cell (World.block_lt_of_cell? w _ hx258_5)).trans hx258_5
                 have HR258_5 := Aside0.mk hi258_5
                 have HC258_5 := Aside0.mk hl258_5
                 clear hi258_5 hl258_5
                 replace p258 := eq_true p258
                 replace q258 := eq_true q258
                 go_wp2_with (first | ((with_reducible refine gate_callee (f := 72) rfl ?_); refine goesL_ (some 96) rfl rfl Tryd.func72 (by kernel_rfl) rfl #[.agg #[.int .i64 ((rd_T49 l2 0).f0), .bool ((rd_T49 l2 0).f1), .int .i64 ((rd_T49 l2 0).f2), .bool ((rd_T49 l2 0).f3), .string ((rd_T49 l2 0).f4), .slice A258_5 ((rd_T49 l2 0).f5).length c258_5]] rfl rf_ ?_; (with_reducible refine (value_sum.calls kj24 ((rd_T49 l2 0).f0) ((rd_T49 l2 0).f1) ((rd_T49 l2 0).f2) ((rd_T49 l2 0).f3) ((rd_T49 l2 0).f4) _ _ ((rd_T49 l2 0).f5) t259 t260 t261 t262 t263 t264 _ ?side1 ?side2 A95.out).mono ?_); (case side1 => repeat (first | exact (Kd.C_below HR258_5.out HB.out) | (with_reducible refine Kd.C_alloc ?_ _) | (with_reducible refine Kd.C_drewN ?_ _) | (with_reducible refine Kd.C_drew ?_))); (case side2 => exact HC258_5.out); rintro e w96 ⟨v265, rfl, ho0, hb⟩; refine ⟨_, rfl, ?_⟩; have n0_ := Aside0.mk (Kd.R_lower ho0 (below_size (by repeat (first | (with_reducible first | exact HB.out | apply below_alloc | apply pw_below_drewN | apply below_drew1 | refine below_set ?_ GE179.out | refine below_set ?_ GE180.out) | exact HB.out)))); have n1_ := Aside0.mk (blk_below (g := gb179) (o := .cells #[.int .i64 a1_0, .int .i64 a1_1, .string a1_2, .string a1_3, .slice A1_4 l1_4.length c1_4] 61 (0, 0)) (bk_ BK179.out) hb); have n2_ := Aside0.mk (blk_below (g := gb180) (o := .cells #[.int .i64 x181000_1, .bool x181001_1, .int .i64 x181002_1, .bool x181003_1, .string x181004_1, .slice none 0 0] 49 (0, 0)) (bk_ BK180.out) hb); have n3_ := Aside0.mk (below_step (by repeat (first | (with_reducible first | exact HB.out | apply below_alloc | apply pw_below_drewN | apply below_drew1 | refine below_set ?_ GE179.out | refine below_set ?_ GE180.out) | exact HB.out)) hb); clear BK179; clear BK180; clear HB; have HO266 := n0_; have BK179 := n1_; have BK180 := n2_; have HB := n3_; clear n0_ n1_ n2_ n3_; (try clear hb); (try clear hb2); (try clear hk); (try clear hi); (try clear ho0); have hnb97 := NB180_179.out; have hnc97 := NB179_180.out; have hcz98_0 : w96.cell? ⟨gb180, 0, none⟩ = some (.int .i64 x181000_1) := (blk_cell BK180.out 0).trans rfl; have hcz98_1 : w96.cell? ⟨gb180, 1, none⟩ = some (.bool x181001_1) := (blk_cell BK180.out 1).trans rfl; have hcz98_2 : w96.cell? ⟨gb180, 2, none⟩ = some (.int .i64 x181002_1) := (blk_cell BK180.out 2).trans rfl; have hcz98_3 : w96.cell? ⟨gb180, 3, none⟩ = some (.bool x181003_1) := (blk_cell BK180.out 3).trans rfl; have hcz98_4 : w96.cell? ⟨gb180, 4, none⟩ = some (.string x181004_1) := (blk_cell BK180.out 4).trans rfl; have hcz98_5 : w96.cell? ⟨gb180, 5, none⟩ = some (.slice none 0 0) := (blk_cell BK180.out 5).trans rfl; have hfz98_0 := blk_frozen BK180.out 0; have hfz98_1 := blk_frozen BK180.out 1; have hfz98_2 := blk_frozen BK180.out 2; have hfz98_3 := blk_frozen BK180.out 3; have hfz98_4 := blk_frozen BK180.out 4; have hfz98_5 := blk_frozen BK180.out 5; obtain ⟨Ao99, co99, eo99⟩ := Kd.R_slice HO266.out; subst eo99))
                 refine bodyPost_ret (results_ct rfl _ _ gb180 49 #[.int .i64 t259, .bool t260, .int .i64 t261, .bool t262, .string t263, .slice Ao99 t264.length co99] (0, 0) _ rfl (by (with_reducible repeat (first | refine blk_drewN ?_ _ | refine blk_drew ?_ | refine blk_alloc ?_ _)); refine blk_put (cs := #[.int .i64 t259, .bool t260, .int .i64 t261, .bool t262, .string t263, .slice none 0 0]) ?_ 5 _ rfl; (with_reducible repeat (first | refine blk_drewN ?_ _ | refine blk_drew ?_ | refine blk_alloc ?_ _)); refine blk_put (cs := #[.int .i64 t259, .bool t260, .int .i64 t261, .bool t262, .string x181004_1, .slice none 0 0]) ?_ 4 _ rfl; (with_reducible repeat (first | refine blk_drewN ?_ _ | refine blk_drew ?_ | refine blk_alloc ?_ _)); refine blk_put (cs := #[.int .i64 t259, .bool t260, .int .i64 t261, .bool x181003_1, .string x181004_1, .slice none 0 0]) ?_ 3 _ rfl; (with_reducible repeat (first | refine blk_drewN ?_ _ | refine blk_drew ?_ | refine blk_alloc ?_ _)); refine blk_put (cs := #[.int .i64 t259, .bool t260, .int .i64 x181002_1, .bool x181003_1, .string x181004_1, .slice none 0 0]) ?_ 2 _ rfl; (with_reducible repeat (first | refine blk_drewN ?_ _ | refine blk_drew ?_ | refine blk_alloc ?_ _)); refine blk_put (cs := #[.int .i64 t259, .bool x181001_1, .int .i64 x181002_1, .bool x181003_1, .string x181004_1, .slice none 0 0]) ?_ 1 _ rfl; (with_reducible repeat (first | refine blk_drewN ?_ _ | refine blk_drew ?_ | refine blk_alloc ?_ _)); refine blk_put (cs := #[.int .i64 x181000_1, .bool x181001_1, .int .i64 x181002_1, .bool x181003_1, .string x181004_1, .slice none 0 0]) ?_ 0 _ rfl; (with_reducible repeat (first | refine blk_drewN ?_ _ | refine blk_drew ?_ | refine blk_alloc ?_ _)); exact BK180.out) Tryd.underlying49 rfl (by kernel_rfl)) rfl ?_
                 exact ⟨_, er_, by (with_reducible repeat (first | apply Kd.R_alloc | apply Kd.R_drewN | apply Kd.R_drew)); exact Kd.R_mono (Kd.R_far (p := ⟨gb180, 5, none⟩) (Kd.R_far (p := ⟨gb180, 4, none⟩) (Kd.R_far (p := ⟨gb180, 3, none⟩) (Kd.R_far (p := ⟨gb180, 2, none⟩) (Kd.R_far (p := ⟨gb180, 1, none⟩) (Kd.R_far (p := ⟨gb180, 0, none⟩) (Kd.R_types HO266.out BK180.out (by decide)) (fun _ hk => hk.2) (.int .i64 t259)) (fun _ hk => hk.2) (.bool t260)) (fun _ hk => hk.2) (.int .i64 t261)) (fun _ hk => hk.2) (.bool t262)) (fun _ hk => hk.2) (.string t263)) (fun _ hk => hk.2) (.slice Ao99 t264.length co99)) (fun _ hk => trivial), by repeat (first | (with_reducible first | exact HB.out | apply below_alloc | apply pw_below_drewN | apply below_drew1 | refine below_set ?_ GE179.out | refine below_set ?_ GE180.out) | exact HB.out)⟩
                ·rw [if_neg c94] at H
                 exact absurd H (by simp)
               ·rw [if_neg c93] at H
                have c93b0 : (a0.toList == ([115, 117, 109] : List UInt8)) = false := beq_eq_false_iff_ne.mpr c93
                have c93b1 : (a0.toList != ([115, 117, 109] : List UInt8)) = true := bne_iff_ne.mpr c93
                by_cases c100 : a0.toList = ([108, 101, 110, 103, 116, 104] : List UInt8)
                ·rw [if_pos c100] at H
                 have c100b0 : (a0.toList == ([108, 101, 110, 103, 116, 104] : List UInt8)) = true := beq_iff_eq.mpr c100
                 have c100b1 : (a0.toList != ([108, 101, 110, 103, 116, 104] : List UInt8)) = false := bne_eq_false_iff_eq.mpr c100
                 clear c100
                 by_cases c101 : 0 < (l2.length : Int)
                 ·rw [if_pos c101] at H
                  have c101b0 : decide (0 < (l2.length : Int)) = true := decide_eq_true c101
                  have c101b1 : decide (0 < l2.length) = true := decide_eq_true (by omega)
                  clear c101
                  replace H := Option.bind_eq_some_iff.mp H
                  obtain ⟨t268, A1020, H⟩ := H
                  replace H : ((chars_Len.f kj24 t268).bind fun bt269 => ((value_numbered.f bt269.1 true).bind fun bt271 => (some (bt271.1, bt271.2.1, bt271.2.2.1, bt271.2.2.2.1, bt271.2.2.2.2.1, bt271.2.2.2.2.2, 0)))) = some (r1, r2, r3, r4, r5, r6, r7) := H
                  have A102 := Aside0.mk A1020
                  clear A1020
                  replace H := Option.bind_eq_some_iff.mp H
                  obtain ⟨⟨t269, t270⟩, A1030, H⟩ := H
                  replace H : ((value_numbered.f t269 true).bind fun bt271 => (some (bt271.1, bt271.2.1, bt271.2.2.1, bt271.2.2.2.1, bt271.2.2.2.2.1, bt271.2.2.2.2.2, 0))) = some (r1, r2, r3, r4, r5, r6, r7) := H
                  have A103 := Aside0.mk A1030
                  clear A1030
                  replace H := Option.bind_eq_some_iff.mp H
                  obtain ⟨⟨t271, t272, t273, t274, t275, t276⟩, A1040, H⟩ := H
                  replace H : (some (t271, t272, t273, t274, t275, t276, 0)) = some (r1, r2, r3, r4, r5, r6, r7) := H
                  have A104 := Aside0.mk A1040
                  clear A1040
                  simp only [Option.some.injEq, Prod.mk.injEq] at H
                  obtain ⟨rfl, rfl, rfl, rfl, rfl, rfl, rfl⟩ := H
                  have p267 : 0 ≤ (0 : Int) := (by omega)
                  have q267 : 0 < (l2.length : Int) := of_decide_eq_true (by first | (with_reducible assumption) | assumption)
                  obtain ⟨ad267, A267_5, c267_5, e267, hx267_0, hx267_1, hx267_2, hx267_3, hx267_4, hx267_5, hl267_5, hi267_5⟩ := at_T49 HR2.out 0 p267 q267
                  cases e267
                  have qi267 : (0 < l2.length) = True := eq_true (by omega)
                  (try rw [show ((0 : Int)).toNat = 0 from rfl] at hx267_0)
                  (try rw [show 0 * 6 = 0 from rfl] at hx267_0)
                  (try rw [Addr.add_zero'] at hx267_0)
                  (try rw [show ((0 : Int)).toNat = 0 from rfl] at hx267_1)
                  (try rw [show 0 * 6 = 0 from rfl] at hx267_1)
                  (try rw [Addr.add_zero'] at hx267_1)
                  (try rw [show ((0 : Int)).toNat = 0 from rfl] at hx267_2)
                  (try rw [show 0 * 6 = 0 from rfl] at hx267_2)
                  (try rw [Addr.add_zero'] at hx267_2)
                  (try rw [show ((0 : Int)).toNat = 0 from rfl] at hx267_3)
                  (try rw [show 0 * 6 = 0 from rfl] at hx267_3)
                  (try rw [Addr.add_zero'] at hx267_3)
                  (try rw [show ((0 : Int)).toNat = 0 from rfl] at hx267_4)
                  (try rw [show 0 * 6 = 0 from rfl] at hx267_4)
                  (try rw [Addr.add_zero'] at hx267_4)
                  (try rw [show ((0 : Int)).toNat = 0 from rfl] at hx267_5)
                  (try rw [show 0 * 6 = 0 from rfl] at hx267_5)
                  (try rw [Addr.add_zero'] at hx267_5)
                  replace hx267_0 := (HB.out.cell (World.block_lt_of_cell? w _ hx267_0)).trans hx267_0
                  replace hx267_1 := (HB.out.cell (World.block_lt_of_cell? w _ hx267_1)).trans hx267_1
                  replace hx267_2 := (HB.out.cell (World.block_lt_of_cell? w _ hx267_2)).trans hx267_2
                  replace hx267_3 := (HB.out.cell (World.block_lt_of_cell? w _ hx267_3)).trans hx267_3
                  replace hx267_4 := (HB.out.cell (World.block_lt_of_cell? w _ hx267_4)).trans hx267_4
                  replace hx267_5 := (HB.out.cell (World.block_lt_of_cell? w _ hx267_5)).trans hx267_5
                  have HR267_5 := Aside0.mk hi267_5
                  have HC267_5 := Aside0.mk hl267_5
                  clear hi267_5 hl267_5
                  replace p267 := eq_true p267
                  replace q267 := eq_true q267
                  go_wp2_with (first | ((with_reducible refine gate_callee (f := 45) rfl ?_); refine goesL_ (some 103) rfl rfl Tryd.func45 (by kernel_rfl) rfl #[.agg #[.int .i64 ((rd_T49 l2 0).f0), .bool ((rd_T49 l2 0).f1), .int .i64 ((rd_T49 l2 0).f2), .bool ((rd_T49 l2 0).f3), .string ((rd_T49 l2 0).f4), .slice A267_5 ((rd_T49 l2 0).f5).length c267_5]] rfl rf_ ?_; (with_reducible refine (value_asText.calls ((rd_T49 l2 0).f0) ((rd_T49 l2 0).f1) ((rd_T49 l2 0).f2) ((rd_T49 l2 0).f3) ((rd_T49 l2 0).f4) _ _ ((rd_T49 l2 0).f5) t268 _ ?side1 ?side2 A102.out).mono ?_); (case side1 => repeat (first | exact (Kd.C_below HR267_5.out HB.out) | (with_reducible refine Kd.C_alloc ?_ _) | (with_reducible refine Kd.C_drewN ?_ _) | (with_reducible refine Kd.C_drew ?_))); (case side2 => exact HC267_5.out); rintro e w105 ⟨rfl, hb⟩; refine ⟨_, rfl, ?_⟩; have n0_ := Aside0.mk (blk_below (g := gb179) (o := .cells #[.int .i64 a1_0, .int .i64 a1_1, .string a1_2, .string a1_3, .slice A1_4 l1_4.length c1_4] 61 (0, 0)) (bk_ BK179.out) hb); have n1_ := Aside0.mk (blk_below (g := gb180) (o := .cells #[.int .i64 x181000_1, .bool x181001_1, .int .i64 x181002_1, .bool x181003_1, .string x181004_1, .slice none 0 0] 49 (0, 0)) (bk_ BK180.out) hb); have n2_ := Aside0.mk (below_step (by repeat (first | (with_reducible first | exact HB.out | apply below_alloc | apply pw_below_drewN | apply below_drew1 | refine below_set ?_ GE179.out | refine below_set ?_ GE180.out) | exact HB.out)) hb); clear BK179; clear BK180; clear HB; have BK179 := n0_; have BK180 := n1_; have HB := n2_; clear n0_ n1_ n2_; (try clear hb); (try clear hb2); (try clear hk); (try clear hi)) | ((with_reducible refine gate_callee (f := 73) rfl ?_); refine goesL_ (some 104) rfl rfl Tryd.func73 (by kernel_rfl) rfl #[.string t268] rfl rf_ ?_; (with_reducible refine (chars_Len.calls kj24 t268 t269 t270 _ A103.out).mono ?_); rintro e w106 ⟨rfl, hb⟩; refine ⟨_, rfl, ?_⟩; have n0_ := Aside0.mk (blk_below (g := gb179) (o := .cells #[.int .i64 a1_0, .int .i64 a1_1, .string a1_2, .string a1_3, .slice A1_4 l1_4.length c1_4] 61 (0, 0)) (bk_ BK179.out) hb); have n1_ := Aside0.mk (blk_below (g := gb180) (o := .cells #[.int .i64 x181000_1, .bool x181001_1, .int .i64 x181002_1, .bool x181003_1, .string x181004_1, .slice none 0 0] 49 (0, 0)) (bk_ BK180.out) hb); have n2_ := Aside0.mk (below_step (by repeat (first | (with_reducible first | exact HB.out | apply below_alloc | apply pw_below_drewN | apply below_drew1 | refine below_set ?_ GE179.out | refine below_set ?_ GE180.out) | exact HB.out)) hb); clear BK179; clear BK180; clear HB; have BK179 := n0_; have BK180 := n1_; have HB := n2_; clear n0_ n1_ n2_; (try clear hb); (try clear hb2); (try clear hk); (try clear hi)) | ((with_reducible refine gate_callee (f := 71) rfl ?_); refine goesL_ (some 108) rfl rfl Tryd.func71 (by kernel_rfl) rfl #[.int .i64 t269, .bool true] rfl rf_ ?_; (with_reducible refine (value_numbered.calls t269 true t271 t272 t273 t274 t275 t276 _ A104.out).mono ?_); rintro e w107 ⟨v277, rfl, ho0, hb⟩; refine ⟨_, rfl, ?_⟩; have n0_ := Aside0.mk (Kd.R_lower ho0 (below_size (by repeat (first | (with_reducible first | exact HB.out | apply below_alloc | apply pw_below_drewN | apply below_drew1 | refine below_set ?_ GE179.out | refine below_set ?_ GE180.out) | exact HB.out)))); have n1_ := Aside0.mk (blk_below (g := gb179) (o := .cells #[.int .i64 a1_0, .int .i64 a1_1, .string a1_2, .string a1_3, .slice A1_4 l1_4.length c1_4] 61 (0, 0)) (bk_ BK179.out) hb); have n2_ := Aside0.mk (blk_below (g := gb180) (o := .cells #[.int .i64 x181000_1, .bool x181001_1, .int .i64 x181002_1, .bool x181003_1, .string x181004_1, .slice none 0 0] 49 (0, 0)) (bk_ BK180.out) hb); have n3_ := Aside0.mk (below_step (by repeat (first | (with_reducible first | exact HB.out | apply below_alloc | apply pw_below_drewN | apply below_drew1 | refine below_set ?_ GE179.out | refine below_set ?_ GE180.out) | exact HB.out)) hb); clear BK179; clear BK180; clear HB; have HO278 := n0_; have BK179 := n1_; have BK180 := n2_; have HB := n3_; clear n0_ n1_ n2_ n3_; (try clear hb); (try clear hb2); (try clear hk); (try clear hi); (try clear ho0); have hnb108 := NB180_179.out; have hnc108 := NB179_180.out; have hcz109_0 : w107.cell? ⟨gb180, 0, none⟩ = some (.int .i64 x181000_1) := (blk_cell BK180.out 0).trans rfl; have hcz109_1 : w107.cell? ⟨gb180, 1, none⟩ = some (.bool x181001_1) := (blk_cell BK180.out 1).trans rfl; have hcz109_2 : w107.cell? ⟨gb180, 2, none⟩ = some (.int .i64 x181002_1) := (blk_cell BK180.out 2).trans rfl; have hcz109_3 : w107.cell? ⟨gb180, 3, none⟩ = some (.bool x181003_1) := (blk_cell BK180.out 3).trans rfl; have hcz109_4 : w107.cell? ⟨gb180, 4, none⟩ = some (.string x181004_1) := (blk_cell BK180.out 4).trans rfl; have hcz109_5 : w107.cell? ⟨gb180, 5, none⟩ = some (.slice none 0 0) := (blk_cell BK180.out 5).trans rfl; have hfz109_0 := blk_frozen BK180.out 0; have hfz109_1 := blk_frozen BK180.out 1; have hfz109_2 := blk_frozen BK180.out 2; have hfz109_3 := blk_frozen BK180.out 3; have hfz109_4 := blk_frozen BK180.out 4; have hfz109_5 := blk_frozen BK180.out 5; obtain ⟨Ao110, co110, eo110⟩ := Kd.R_slice HO278.out; subst eo110))
                  refine bodyPost_ret (results_ct rfl _ _ gb180 49 #[.int .i64 t271, .bool t272, .int .i64 t273, .bool t274, .string t275, .slice Ao110 t276.length co110] (0, 0) _ rfl (by (with_reducible repeat (first | refine blk_drewN ?_ _ | refine blk_drew ?_ | refine blk_alloc ?_ _)); refine blk_put (cs := #[.int .i64 t271, .bool t272, .int .i64 t273, .bool t274, .string t275, .slice none 0 0]) ?_ 5 _ rfl; (with_reducible repeat (first | refine blk_drewN ?_ _ | refine blk_drew ?_ | refine blk_alloc ?_ _)); refine blk_put (cs := #[.int .i64 t271, .bool t272, .int .i64 t273, .bool t274, .string x181004_1, .slice none 0 0]) ?_ 4 _ rfl; (with_reducible repeat (first | refine blk_drewN ?_ _ | refine blk_drew ?_ | refine blk_alloc ?_ _)); refine blk_put (cs := #[.int .i64 t271, .bool t272, .int .i64 t273, .bool x181003_1, .string x181004_1, .slice none 0 0]) ?_ 3 _ rfl; (with_reducible repeat (first | refine blk_drewN ?_ _ | refine blk_drew ?_ | refine blk_alloc ?_ _)); refine blk_put (cs := #[.int .i64 t271, .bool t272, .int .i64 x181002_1, .bool x181003_1, .string x181004_1, .slice none 0 0]) ?_ 2 _ rfl; (with_reducible repeat (first | refine blk_drewN ?_ _ | refine blk_drew ?_ | refine blk_alloc ?_ _)); refine blk_put (cs := #[.int .i64 t271, .bool x181001_1, .int .i64 x181002_1, .bool x181003_1, .string x181004_1, .slice none 0 0]) ?_ 1 _ rfl; (with_reducible repeat (first | refine blk_drewN ?_ _ | refine blk_drew ?_ | refine blk_alloc ?_ _)); refine blk_put (cs := #[.int .i64 x181000_1, .bool x181001_1, .int .i64 x181002_1, .bool x181003_1, .string x181004_1, .slice none 0 0]) ?_ 0 _ rfl; (with_reducible repeat (first | refine blk_drewN ?_ _ | refine blk_drew ?_ | refine blk_alloc ?_ _)); exact BK180.out) Tryd.underlying49 rfl (by kernel_rfl)) rfl ?_
                  exact ⟨_, er_, by (with_reducible repeat (first | apply Kd.R_alloc | apply Kd.R_drewN | apply Kd.R_drew)); exact Kd.R_mono (Kd.R_far (p := ⟨gb180, 5, none⟩) (Kd.R_far (p := ⟨gb180, 4, none⟩) (Kd.R_far (p := ⟨gb180, 3, none⟩) (Kd.R_far (p := ⟨gb180, 2, none⟩) (Kd.R_far (p := ⟨gb180, 1, none⟩) (Kd.R_far (p := ⟨gb180, 0, none⟩) (Kd.R_types HO278.out BK180.out (by decide)) (fun _ hk => hk.2) (.int .i64 t271)) (fun _ hk => hk.2) (.bool t272)) (fun _ hk => hk.2) (.int .i64 t273)) (fun _ hk => hk.2) (.bool t274)) (fun _ hk => hk.2) (.string t275)) (fun _ hk => hk.2) (.slice Ao110 t276.length co110)) (fun _ hk => trivial), by repeat (first | (with_reducible first | exact HB.out | apply below_alloc | apply pw_below_drewN | apply below_drew1 | refine below_set ?_ GE179.out | refine below_set ?_ GE180.out) | exact HB.out)⟩
                 ·rw [if_neg c101] at H
                  exact absurd H (by simp)
                ·rw [if_neg c100] at H
                 have c100b0 : (a0.toList == ([108, 101, 110, 103, 116, 104] : List UInt8)) = false := beq_eq_false_iff_ne.mpr c100
                 have c100b1 : (a0.toList != ([108, 101, 110, 103, 116, 104] : List UInt8)) = true := bne_iff_ne.mpr c100
                 by_cases c111 : a0.toList = ([99, 111, 110, 116, 97, 105, 110, 115] : List UInt8)
                 ·rw [if_pos c111] at H
                  have c111b0 : (a0.toList == ([99, 111, 110, 116, 97, 105, 110, 115] : List UInt8)) = true := beq_iff_eq.mpr c111
                  have c111b1 : (a0.toList != ([99, 111, 110, 116, 97, 105, 110, 115] : List UInt8)) = false := bne_eq_false_iff_eq.mpr c111
                  clear c111
                  by_cases c112 : 0 < (l2.length : Int)
                  ·rw [if_pos c112] at H
                   have c112b0 : decide (0 < (l2.length : Int)) = true := decide_eq_true c112
                   have c112b1 : decide (0 < l2.length) = true := decide_eq_true (by omega)
                   clear c112
                   replace H := Option.bind_eq_some_iff.mp H
                   obtain ⟨t280, A1130, H⟩ := H
                   replace H : (if 1 < (l2.length : Int) then ((value_asText.f ((rd_T49 l2 1).f0) ((rd_T49 l2 1).f1) ((rd_T49 l2 1).f2) ((rd_T49 l2 1).f3) ((rd_T49 l2 1).f4) ((rd_T49 l2 1).f5)).bind fun t282 => ((strings_Contains.f t280 t282).bind fun t283 => ((value_truth.f t283).bind fun bt284 => (some (bt284.1, bt284.2.1, bt284.2.2.1, bt284.2.2.2.1, bt284.2.2.2.2.1, bt284.2.2.2.2.2, 0))))) else (none)) = some (r1, r2, r3, r4, r5, r6, r7) := H
                   have A113 := Aside0.mk A1130
                   clear A1130
                   by_cases c114 : 1 < (l2.length : Int)
                   ·rw [if_pos c114] at H
                    have c114b0 : decide (1 < (l2.length : Int)) = true := decide_eq_true c114
                    have c114b1 : decide (1 < l2.length) = true := decide_eq_true (by omega)
                    clear c114
                    replace H := Option.bind_eq_some_iff.mp H
                    obtain ⟨t282, A1150, H⟩ := H
                    replace H : ((strings_Contains.f t280 t282).bind fun t283 => ((value_truth.f t283).bind fun bt284 => (some (bt284.1, bt284.2.1, bt284.2.2.1, bt284.2.2.2.1, bt284.2.2.2.2.1, bt284.2.2.2.2.2, 0)))) = some (r1, r2, r3, r4, r5, r6, r7) := H
                    have A115 := Aside0.mk A1150
                    clear A1150
                    replace H := Option.bind_eq_some_iff.mp H
                    obtain ⟨t283, A1160, H⟩ := H
                    replace H : ((value_truth.f t283).bind fun bt284 => (some (bt284.1, bt284.2.1, bt284.2.2.1, bt284.2.2.2.1, bt284.2.2.2.2.1, bt284.2.2.2.2.2, 0))) = some (r1, r2, r3, r4, r5, r6, r7) := H
                    have A116 := Aside0.mk A1160
                    clear A1160
                    replace H := Option.bind_eq_some_iff.mp H
                    obtain ⟨⟨t284, t285, t286, t287, t288, t289⟩, A1170, H⟩ := H
                    replace H : (some (t284, t285, t286, t287, t288, t289, 0)) = some (r1, r2, r3, r4, r5, r6, r7) := H
                    have A117 := Aside0.mk A1170
                    clear A1170
                    simp only [Option.some.injEq, Prod.mk.injEq] at H
                    obtain ⟨rfl, rfl, rfl, rfl, rfl, rfl, rfl⟩ := H
                    try go_wp2
                    have n0_ := Aside0.mk (blk_drew BK179.out)
                    have n1_ := Aside0.mk (blk_drew BK180.out)
                    have n2_ := Aside0.mk (below_drew1 HB.out)
                    clear BK179
                    clear BK180
                    clear HB
                    have BK179 := n0_
                    have BK180 := n1_
                    have HB := n2_
                    clear n0_ n1_ n2_
                    have p279 : 0 ≤ (0 : Int) := (by omega)
                    have q279 : 0 < (l2.length : Int) := of_decide_eq_true (by first | (with_reducible assumption) | assumption)
                    obtain ⟨ad279, A279_5, c279_5, e279, hx279_0, hx279_1, hx279_2, hx279_3, hx279_4, hx279_5, hl279_5, hi279_5⟩ := at_T49 HR2.out 0 p279 q279
                    have hw279_5 := hx279_5
                    (try rw [show ((0 : Int)).toNat = 0 from rfl] at hw279_5)
                    (try rw [show 0 * 6 = 0 from rfl] at hw279_5)
                    (try rw [Addr.add_zero'] at hw279_5)
                    have hw279_4 := hx279_4
                    (try rw [show ((0 : Int)).toNat = 0 from rfl] at hw279_4)
                    (try rw [show 0 * 6 = 0 from rfl] at hw279_4)
                    (try rw [Addr.add_zero'] at hw279_4)
                    have hw279_3 := hx279_3
                    (try rw [show ((0 : Int)).toNat = 0 from rfl] at hw279_3)
                    (try rw [show 0 * 6 = 0 from rfl] at hw279_3)
                    (try rw [Addr.add_zero'] at hw279_3)
                    have hw279_2 := hx279_2
                    (try rw [show ((0 : Int)).toNat = 0 from rfl] at hw279_2)
                    (try rw [show 0 * 6 = 0 from rfl] at hw279_2)
                    (try rw [Addr.add_zero'] at hw279_2)
                    have hw279_1 := hx279_1
                    (try rw [show ((0 : Int)).toNat = 0 from rfl] at hw279_1)
                    (try rw [show 0 * 6 = 0 from rfl] at hw279_1)
                    (try rw [Addr.add_zero'] at hw279_1)
                    have hw279_0 := hx279_0
                    (try rw [show ((0 : Int)).toNat = 0 from rfl] at hw279_0)
                    (try rw [show 0 * 6 = 0 from rfl] at hw279_0)
                    (try rw [Addr.add_zero'] at hw279_0)
                    cases e279
                    have qi279 : (0 < l2.length) = True := eq_true (by omega)
                    (try rw [show ((0 : Int)).toNat = 0 from rfl] at hx279_0)
                    (try rw [show 0 * 6 = 0 from rfl] at hx279_0)
                    (try rw [Addr.add_zero'] at hx279_0)
                    (try rw [show ((0 : Int)).toNat = 0 from rfl] at hx279_1)
                    (try rw [show 0 * 6 = 0 from rfl] at hx279_1)
                    (try rw [Addr.add_zero'] at hx279_1)
                    (try rw [show ((0 : Int)).toNat = 0 from rfl] at hx279_2)
                    (try rw [show 0 * 6 = 0 from rfl] at hx279_2)
                    (try rw [Addr.add_zero'] at hx279_2)
                    (try rw [show ((0 : Int)).toNat = 0 from rfl] at hx279_3)
                    (try rw [show 0 * 6 = 0 from rfl] at hx279_3)
                    (try rw [Addr.add_zero'] at hx279_3)
                    (try rw [show ((0 : Int)).toNat = 0 from rfl] at hx279_4)
                    (try rw [show 0 * 6 = 0 from rfl] at hx279_4)
                    (try rw [Addr.add_zero'] at hx279_4)
                    (try rw [show ((0 : Int)).toNat = 0 from rfl] at hx279_5)
                    (try rw [show 0 * 6 = 0 from rfl] at hx279_5)
                    (try rw [Addr.add_zero'] at hx279_5)
                    replace hx279_0 := (HB.out.cell (World.block_lt_of_cell? w _ hx279_0)).trans hx279_0
                    replace hx279_1 := (HB.out.cell (World.block_lt_of_cell? w _ hx279_1)).trans hx279_1
                    replace hx279_2 := (HB.out.cell (World.block_lt_of_cell? w _ hx279_2)).trans hx279_2
                    replace hx279_3 := (HB.out.cell (World.block_lt_of_cell? w _ hx279_3)).trans hx279_3
                    replace hx279_4 := (HB.out.cell (World.block_lt_of_cell? w _ hx279_4)).trans hx279_4
                    replace hx279_5 := (HB.out.cell (World.block_lt_of_cell? w _ hx279_5)).trans hx279_5
                    have HR279_5 := Aside0.mk hi279_5
                    have HC279_5 := Aside0.mk hl279_5
                    clear hi279_5 hl279_5
                    replace p279 := eq_true p279
                    replace q279 := eq_true q279
                    have p281 : 0 ≤ (1 : Int) := (by omega)
                    have q281 : 1 < (l2.length : Int) := of_decide_eq_true (by first | (with_reducible assumption) | assumption)
                    obtain ⟨ad281, A281_5, c281_5, e281, hx281_0, hx281_1, hx281_2, hx281_3, hx281_4, hx281_5, hl281_5, hi281_5⟩ := at_T49 HR2.out 1 p281 q281
                    have hw281_5 := hx281_5
                    (try rw [show ((1 : Int)).toNat = 1 from rfl] at hw281_5)
                    (try rw [show 1 * 6 = 6 from rfl] at hw281_5)
                    (try simp only [Nat.reduceMul, Nat.reduceEqDiff, Go.Addr.add, ↓reduceIte] at hw281_5)
                    have hw281_4 := hx281_4
                    (try rw [show ((1 : Int)).toNat = 1 from rfl] at hw281_4)
                    (try rw [show 1 * 6 = 6 from rfl] at hw281_4)
                    (try simp only [Nat.reduceMul, Nat.reduceEqDiff, Go.Addr.add, ↓reduceIte] at hw281_4)
                    have hw281_3 := hx281_3
                    (try rw [show ((1 : Int)).toNat = 1 from rfl] at hw281_3)
                    (try rw [show 1 * 6 = 6 from rfl] at hw281_3)
                    (try simp only [Nat.reduceMul, Nat.reduceEqDiff, Go.Addr.add, ↓reduceIte] at hw281_3)
                    have hw281_2 := hx281_2
                    (try rw [show ((1 : Int)).toNat = 1 from rfl] at hw281_2)
                    (try rw [show 1 * 6 = 6 from rfl] at hw281_2)
                    (try simp only [Nat.reduceMul, Nat.reduceEqDiff, Go.Addr.add, ↓reduceIte] at hw281_2)
                    have hw281_1 := hx281_1
                    (try rw [show ((1 : Int)).toNat = 1 from rfl] at hw281_1)
                    (try rw [show 1 * 6 = 6 from rfl] at hw281_1)
                    (try simp only [Nat.reduceMul, Nat.reduceEqDiff, Go.Addr.add, ↓reduceIte] at hw281_1)
                    have hw281_0 := hx281_0
                    (try rw [show ((1 : Int)).toNat = 1 from rfl] at hw281_0)
                    (try rw [show 1 * 6 = 6 from rfl] at hw281_0)
                    (try simp only [Nat.reduceMul, Nat.reduceEqDiff, Go.Addr.add, ↓reduceIte] at hw281_0)
                    obtain rfl : ad279 = ad281 := (by injection e281)
                    (try simp only [show (1 : Int).toNat = 1 from rfl, Nat.reduceMul, Nat.reduceEqDiff, Go.Addr.add, ↓reduceIte] at hx281_0)
                    (try simp only [show (1 : Int).toNat = 1 from rfl, Nat.reduceMul, Nat.reduceEqDiff, Go.Addr.add, ↓reduceIte] at hx281_1)
                    (try simp only [show (1 : Int).toNat = 1 from rfl, Nat.reduceMul, Nat.reduceEqDiff, Go.Addr.add, ↓reduceIte] at hx281_2)
                    (try simp only [show (1 : Int).toNat = 1 from rfl, Nat.reduceMul, Nat.reduceEqDiff, Go.Addr.add, ↓reduceIte] at hx281_3)
                    (try simp only [show (1 : Int).toNat = 1 from rfl, Nat.reduceMul, Nat.reduceEqDiff, Go.Addr.add, ↓reduceIte] at hx281_4)
                    (try simp only [show (1 : Int).toNat = 1 from rfl, Nat.reduceMul, Nat.reduceEqDiff, Go.Addr.add, ↓reduceIte] at hx281_5)
                    have qi281 : (1 < l2.length) = True := eq_true (by omega)
                    (try rw [show ((1 : Int)).toNat = 1 from rfl] at hx281_0)
                    (try rw [show 1 * 6 = 6 from rfl] at hx281_0)
                    (try rw [show ((1 : Int)).toNat = 1 from rfl] at hx281_1)
                    (try rw [show 1 * 6 = 6 from rfl] at hx281_1)
                    (try rw [show ((1 : Int)).toNat = 1 from rfl] at hx281_2)
                    (try rw [show 1 * 6 = 6 from rfl] at hx281_2)
                    (try rw [show ((1 : Int)).toNat = 1 from rfl] at hx281_3)
                    (try rw [show 1 * 6 = 6 from rfl] at hx281_3)
                    (try rw [show ((1 : Int)).toNat = 1 from rfl] at hx281_4)
                    (try rw [show 1 * 6 = 6 from rfl] at hx281_4)
                    (try rw [show ((1 : Int)).toNat = 1 from rfl] at hx281_5)
                    (try rw [show 1 * 6 = 6 from rfl] at hx281_5)
                    replace hx281_0 := (HB.out.cell (World.block_lt_of_cell? w _ hx281_0)).trans hx281_0
                    replace hx281_1 := (HB.out.cell (World.block_lt_of_cell? w _ hx281_1)).trans hx281_1
                    replace hx281_2 := (HB.out.cell (World.block_lt_of_cell? w _ hx281_2)).trans hx281_2
                    replace hx281_3 := (HB.out.cell (World.block_lt_of_cell? w _ hx281_3)).trans hx281_3
                    replace hx281_4 := (HB.out.cell (World.block_lt_of_cell? w _ hx281_4)).trans hx281_4
                    replace hx281_5 := (HB.out.cell (World.block_lt_of_cell? w _ hx281_5)).trans hx281_5
                    have HR281_5 := Aside0.mk hi281_5
                    have HC281_5 := Aside0.mk hl281_5
                    clear hi281_5 hl281_5
                    replace p281 := eq_true p281
                    replace q281 := eq_true q281
                    refine start_ (n := 12) (S := fun w' => w'.cell? ad279 = some (.int .i64 ((rd_T49 l2 0).f0)) ∧ w'.cell? ⟨ad279.block, ad279.off + 1, none⟩ = some (.bool ((rd_T49 l2 0).f1)) ∧ w'.cell? ⟨ad279.block, ad279.off + 2, none⟩ = some (.int .i64 ((rd_T49 l2 0).f2)) ∧ w'.cell? ⟨ad279.block, ad279.off + 3, none⟩ = some (.bool ((rd_T49 l2 0).f3)) ∧ w'.cell? ⟨ad279.block, ad279.off + 4, none⟩ = some (.string ((rd_T49 l2 0).f4)) ∧ w'.cell? ⟨ad279.block, ad279.off + 5, none⟩ = some (.slice A279_5 ((rd_T49 l2 0).f5).length c279_5) ∧ w'.cell? ⟨ad279.block, ad279.off + 6, none⟩ = some (.int .i64 ((rd_T49 l2 1).f0)) ∧ w'.cell? ⟨ad279.block, ad279.off + 6 + 1, none⟩ = some (.bool ((rd_T49 l2 1).f1)) ∧ w'.cell? ⟨ad279.block, ad279.off + 6 + 2, none⟩ = some (.int .i64 ((rd_T49 l2 1).f2)) ∧ w'.cell? ⟨ad279.block, ad279.off + 6 + 3, none⟩ = some (.bool ((rd_T49 l2 1).f3)) ∧ w'.cell? ⟨ad279.block, ad279.off + 6 + 4, none⟩ = some (.string ((rd_T49 l2 1).f4)) ∧ w'.cell? ⟨ad279.block, ad279.off + 6 + 5, none⟩ = some (.slice A281_5 ((rd_T49 l2 1).f5).length c281_5)) (ds := []) #[false, false, false, false, false, false, false, false, false, false, false, false] (by kernel_rfl) rfl rfl ⟨((HB.out.cell (World.block_lt_of_cell? w _ hw279_0)).trans hw279_0), ((HB.out.cell (World.block_lt_of_cell? w _ hw279_1)).trans hw279_1), ((HB.out.cell (World.block_lt_of_cell? w _ hw279_2)).trans hw279_2), ((HB.out.cell (World.block_lt_of_cell? w _ hw279_3)).trans hw279_3), ((HB.out.cell (World.block_lt_of_cell? w _ hw279_4)).trans hw279_4), ((HB.out.cell (World.block_lt_of_cell? w _ hw279_5)).trans hw279_5), ((HB.out.cell (World.block_lt_of_cell? w _ hw281_0)).trans hw281_0), ((HB.out.cell (World.block_lt_of_cell? w _ hw281_1)).trans hw281_1), ((HB.out.cell (World.block_lt_of_cell? w _ hw281_2)).trans hw281_2), ((HB.out.cell (World.block_lt_of_cell? w _ hw281_3)).trans hw281_3), ((HB.out.cell (World.block_lt_of_cell? w _ hw281_4)).trans hw281_4), ((HB.out.cell (World.block_lt_of_cell? w _ hw281_5)).trans hw281_5)⟩ (fun hHeld => ?_); refine with_tabW value_call.tab34 value_call.bits34 (fun HT_ HW_ => ?_)
                    generalize wc.drew = w118 at BK179 BK180 HB HR279_5 HR281_5 hx279_0 hx279_1 hx279_2 hx279_3 hx279_4 hx279_5 hx281_0 hx281_1 hx281_2 hx281_3 hx281_4 hx281_5 hHeld ⊢
                    refine pure_ (i := 0) (N := some 111) (v := ?_) (a' := ?_) #[true, false, false, false, false, false, false, false, false, false, false, false] rfl rfl (any_of HT_.out (by kernel_rfl)) (fun _ _ _ h => h) (Or.inl ⟨by rfl, ?_⟩) ?_ ?_
                    rotate_left
                    ·intro w'
                     go_simp
                     with_reducible rfl
                    rotate_left
                    ·simp only [Act.put, List.setIfInBounds_toArray, List.set_cons_zero, List.set_cons_succ, i64_w, i32_w]
                     rfl
                    refine pure_ (i := 1) (N := some 112) (v := ?_) (a' := ?_) #[true, true, false, false, false, false, false, false, false, false, false, false] rfl rfl (any_of HT_.out (by kernel_rfl)) (fun _ _ _ h => h) (Or.inl ⟨by rfl, ?_⟩) ?_ ?_
                    rotate_left
                    ·intro w'
                     go_simp
                     with_reducible rfl
                    rotate_left
                    ·simp only [Act.put, List.setIfInBounds_toArray, List.set_cons_zero, List.set_cons_succ, i64_w, i32_w]
                     rfl
                    refine pure_ (i := 4) (N := some 115) (v := ?_) (a' := ?_) #[true, true, false, false, true, false, false, false, false, false, false, false] rfl rfl (any_of HT_.out (by kernel_rfl)) (fun _ _ _ h => h) (Or.inl ⟨by rfl, ?_⟩) ?_ ?_
                    rotate_left
                    ·intro w'
                     go_simp
                     with_reducible rfl
                    rotate_left
                    ·simp only [Act.put, List.setIfInBounds_toArray, List.set_cons_zero, List.set_cons_succ, i64_w, i32_w]
                     rfl
                    refine pure_ (i := 5) (N := some 116) (v := ?_) (a' := ?_) #[true, true, false, false, true, true, false, false, false, false, false, false] rfl rfl (any_of HT_.out (by kernel_rfl)) (fun _ _ _ h => h) (Or.inl ⟨by rfl, ?_⟩) ?_ ?_
                    rotate_left
                    ·intro w'
                     go_simp
                     with_reducible rfl
                    rotate_left
                    ·simp only [Act.put, List.setIfInBounds_toArray, List.set_cons_zero, List.set_cons_succ, i64_w, i32_w]
                     rfl
                    refine take_ (i := 2) (N := some 113) (v := ?_) (a' := ?_) #[true, true, true, false, true, true, false, false, false, false, false, false] rfl rfl (take_ofW HT_.out HW_.out (by kernel_rfl)) (fun _ _ _ h => h) (Or.inl ⟨by rfl, ?_⟩) hHeld ?_ ?_
                    rotate_left
                    ·rintro w' ⟨s0, s1, s2, s3, s4, s5, s6, s7, s8, s9, s10, s11⟩
                     go_simp
                     with_reducible rfl
                    rotate_left
                    ·simp only [Act.put, List.setIfInBounds_toArray, List.set_cons_zero, List.set_cons_succ, i64_w, i32_w]
                     rfl
                    refine take_ (i := 6) (N := some 117) (v := ?_) (a' := ?_) #[true, true, true, false, true, true, true, false, false, false, false, false] rfl rfl (take_ofW HT_.out HW_.out (by kernel_rfl)) (fun _ _ _ h => h) (Or.inl ⟨by rfl, ?_⟩) hHeld ?_ ?_
                    rotate_left
                    ·rintro w' ⟨s0, s1, s2, s3, s4, s5, s6, s7, s8, s9, s10, s11⟩
                     go_simp
                     with_reducible rfl
                    rotate_left
                    ·simp only [Act.put, List.setIfInBounds_toArray, List.set_cons_zero, List.set_cons_succ, i64_w, i32_w]
                     rfl
                    refine one_ (i := 3) (N := some 114) #[true, true, true, true, true, true, true, false, false, false, false, false] rfl rfl (one_of HT_.out (by kernel_rfl)) (by decide) (fun K hK => ?_)
                    refine goes_ Tryd.func45 (by kernel_rfl) rfl #[.agg #[.int .i64 ((rd_T49 l2 0).f0), .bool ((rd_T49 l2 0).f1), .int .i64 ((rd_T49 l2 0).f2), .bool ((rd_T49 l2 0).f3), .string ((rd_T49 l2 0).f4), .slice A279_5 ((rd_T49 l2 0).f5).length c279_5]] (by rfl) rfl rfl rf_ ?_
                    with_reducible refine (value_asText.calls ((rd_T49 l2 0).f0) ((rd_T49 l2 0).f1) ((rd_T49 l2 0).f2) ((rd_T49 l2 0).f3) ((rd_T49 l2 0).f4) _ _ ((rd_T49 l2 0).f5) t280 _ ?side1 ?side2 A113.out).mono ?_
                    (case side1 => repeat (first | exact (Kd.C_below HR279_5.out HB.out) | (with_reducible refine Kd.C_alloc ?_ _) | (with_reducible refine Kd.C_drewN ?_ _) | (with_reducible refine Kd.C_drew ?_)))
                    (case side2 => exact HC279_5.out)
                    rintro e w119 ⟨rfl, hb⟩
                    refine ⟨_, rfl, ?_⟩
                    have n0_ := Aside0.mk (blk_below (g := gb179) (o := .cells #[.int .i64 a1_0, .int .i64 a1_1, .string a1_2, .string a1_3, .slice A1_4 l1_4.length c1_4] 61 (0, 0)) (bk_ BK179.out) hb)
                    have n1_ := Aside0.mk (blk_below (g := gb180) (o := .cells #[.int .i64 x181000_1, .bool x181001_1, .int .i64 x181002_1, .bool x181003_1, .string x181004_1, .slice none 0 0] 49 (0, 0)) (bk_ BK180.out) hb)
                    have n2_ := Aside0.mk (below_step (by repeat (first | (with_reducible first | exact HB.out | apply below_alloc | apply pw_below_drewN | apply below_drew1 | refine below_set ?_ GE179.out | refine below_set ?_ GE180.out) | exact HB.out)) hb)
                    clear BK179
                    clear BK180
                    clear HB
                    have BK179 := n0_
                    have BK180 := n1_
                    have HB := n2_
                    clear n0_ n1_ n2_
                    (try clear hb)
                    (try clear hb2)
                    (try clear hk)
                    (try clear hi)
                    refine hK.out _ _ ⟨((HB.out.cell (World.block_lt_of_cell? w _ hw279_0)).trans hw279_0), ((HB.out.cell (World.block_lt_of_cell? w _ hw279_1)).trans hw279_1), ((HB.out.cell (World.block_lt_of_cell? w _ hw279_2)).trans hw279_2), ((HB.out.cell (World.block_lt_of_cell? w _ hw279_3)).trans hw279_3), ((HB.out.cell (World.block_lt_of_cell? w _ hw279_4)).trans hw279_4), ((HB.out.cell (World.block_lt_of_cell? w _ hw279_5)).trans hw279_5), ((HB.out.cell (World.block_lt_of_cell? w _ hw281_0)).trans hw281_0), ((HB.out.cell (World.block_lt_of_cell? w _ hw281_1)).trans hw281_1), ((HB.out.cell (World.block_lt_of_cell? w _ hw281_2)).trans hw281_2), ((HB.out.cell (World.block_lt_of_cell? w _ hw281_3)).trans hw281_3), ((HB.out.cell (World.block_lt_of_cell? w _ hw281_4)).trans hw281_4), ((HB.out.cell (World.block_lt_of_cell? w _ hw281_5)).trans hw281_5)⟩ (fun hHeld => ?_)
                    clear hK K
                    refine norm_ (a' := ?_) ?_ ?_
                    rotate_left
                    ·show Act.put _ (some 114) _ = _
                     simp only [Act.put, List.setIfInBounds_toArray, List.set_cons_zero, List.set_cons_succ, i64_w, i32_w]
                     rfl
                    refine one_ (i := 7) (N := some 118) #[true, true, true, true, true, true, true, true, false, false, false, false] rfl rfl (one_of HT_.out (by kernel_rfl)) (by decide) (fun K hK => ?_)
                    refine goes_ Tryd.func45 (by kernel_rfl) rfl #[.agg #[.int .i64 ((rd_T49 l2 1).f0), .bool ((rd_T49 l2 1).f1), .int .i64 ((rd_T49 l2 1).f2), .bool ((rd_T49 l2 1).f3), .string ((rd_T49 l2 1).f4), .slice A281_5 ((rd_T49 l2 1).f5).length c281_5]] (by rfl) rfl rfl rf_ ?_
                    with_reducible refine (value_asText.calls ((rd_T49 l2 1).f0) ((rd_T49 l2 1).f1) ((rd_T49 l2 1).f2) ((rd_T49 l2 1).f3) ((rd_T49 l2 1).f4) _ _ ((rd_T49 l2 1).f5) t282 _ ?side1 ?side2 A115.out).mono ?_
                    (case side1 => repeat (first | exact (Kd.C_below HR281_5.out HB.out) | (with_reducible refine Kd.C_alloc ?_ _) | (with_reducible refine Kd.C_drewN ?_ _) | (with_reducible refine Kd.C_drew ?_)))
                    (case side2 => exact HC281_5.out)
                    rintro e w120 ⟨rfl, hb⟩
                    refine ⟨_, rfl, ?_⟩
                    have n0_ := Aside0.mk (blk_below (g := gb179) (o := .cells #[.int .i64 a1_0, .int .i64 a1_1, .string a1_2, .string a1_3, .slice A1_4 l1_4.length c1_4] 61 (0, 0)) (bk_ BK179.out) hb)
                    have n1_ := Aside0.mk (blk_below (g := gb180) (o := .cells #[.int .i64 x181000_1, .bool x181001_1, .int .i64 x181002_1, .bool x181003_1, .string x181004_1, .slice none 0 0] 49 (0, 0)) (bk_ BK180.out) hb)
                    have n2_ := Aside0.mk (below_step (by repeat (first | (with_reducible first | exact HB.out | apply below_alloc | apply pw_below_drewN | apply below_drew1 | refine below_set ?_ GE179.out | refine below_set ?_ GE180.out) | exact HB.out)) hb)
                    clear BK179
                    clear BK180
                    clear HB
                    have BK179 := n0_
                    have BK180 := n1_
                    have HB := n2_
                    clear n0_ n1_ n2_
                    (try clear hb)
                    (try clear hb2)
                    (try clear hk)
                    (try clear hi)
                    refine hK.out _ _ ⟨((HB.out.cell (World.block_lt_of_cell? w _ hw279_0)).trans hw279_0), ((HB.out.cell (World.block_lt_of_cell? w _ hw279_1)).trans hw279_1), ((HB.out.cell (World.block_lt_of_cell? w _ hw279_2)).trans hw279_2), ((HB.out.cell (World.block_lt_of_cell? w _ hw279_3)).trans hw279_3), ((HB.out.cell (World.block_lt_of_cell? w _ hw279_4)).trans hw279_4), ((HB.out.cell (World.block_lt_of_cell? w _ hw279_5)).trans hw279_5), ((HB.out.cell (World.block_lt_of_cell? w _ hw281_0)).trans hw281_0), ((HB.out.cell (World.block_lt_of_cell? w _ hw281_1)).trans hw281_1), ((HB.out.cell (World.block_lt_of_cell? w _ hw281_2)).trans hw281_2), ((HB.out.cell (World.block_lt_of_cell? w _ hw281_3)).trans hw281_3), ((HB.out.cell (World.block_lt_of_cell? w _ hw281_4)).trans hw281_4), ((HB.out.cell (World.block_lt_of_cell? w _ hw281_5)).trans hw281_5)⟩ (fun hHeld => ?_)
                    clear hK K
                    refine norm_ (a' := ?_) ?_ ?_
                    rotate_left
                    ·show Act.put _ (some 118) _ = _
                     simp only [Act.put, List.setIfInBounds_toArray, List.set_cons_zero, List.set_cons_succ, i64_w, i32_w]
                     rfl
                    refine one_ (i := 8) (N := some 119) #[true, true, true, true, true, true, true, true, true, false, false, false] rfl rfl (one_of HT_.out (by kernel_rfl)) (by decide) (fun K hK => ?_)
                    refine goes_ Tryd.func61 (by kernel_rfl) rfl #[.string t280, .string t282] (by rfl) rfl rfl rf_ ?_
                    with_reducible refine (strings_Contains.calls t280 t282 t283 _ A116.out).mono ?_
                    rintro e w121 ⟨rfl, hb⟩
                    refine ⟨_, rfl, ?_⟩
                    have n0_ := Aside0.mk (blk_below (g := gb179) (o := .cells #[.int .i64 a1_0, .int .i64 a1_1, .string a1_2, .string a1_3, .slice A1_4 l1_4.length c1_4] 61 (0, 0)) (bk_ BK179.out) hb)
                    have n1_ := Aside0.mk (blk_below (g := gb180) (o := .cells #[.int .i64 x181000_1, .bool x181001_1, .int .i64 x181002_1, .bool x181003_1, .string x181004_1, .slice none 0 0] 49 (0, 0)) (bk_ BK180.out) hb)
                    have n2_ := Aside0.mk (below_step (by repeat (first | (with_reducible first | exact HB.out | apply below_alloc | apply pw_below_drewN | apply below_drew1 | refine below_set ?_ GE179.out | refine below_set ?_ GE180.out) | exact HB.out)) hb)
                    clear BK179
                    clear BK180
                    clear HB
                    have BK179 := n0_
                    have BK180 := n1_
                    have HB := n2_
                    clear n0_ n1_ n2_
                    (try clear hb)
                    (try clear hb2)
                    (try clear hk)
                    (try clear hi)
                    refine hK.out _ _ ⟨((HB.out.cell (World.block_lt_of_cell? w _ hw279_0)).trans hw279_0), ((HB.out.cell (World.block_lt_of_cell? w _ hw279_1)).trans hw279_1), ((HB.out.cell (World.block_lt_of_cell? w _ hw279_2)).trans hw279_2), ((HB.out.cell (World.block_lt_of_cell? w _ hw279_3)).trans hw279_3), ((HB.out.cell (World.block_lt_of_cell? w _ hw279_4)).trans hw279_4), ((HB.out.cell (World.block_lt_of_cell? w _ hw279_5)).trans hw279_5), ((HB.out.cell (World.block_lt_of_cell? w _ hw281_0)).trans hw281_0), ((HB.out.cell (World.block_lt_of_cell? w _ hw281_1)).trans hw281_1), ((HB.out.cell (World.block_lt_of_cell? w _ hw281_2)).trans hw281_2), ((HB.out.cell (World.block_lt_of_cell? w _ hw281_3)).trans hw281_3), ((HB.out.cell (World.block_lt_of_cell? w _ hw281_4)).trans hw281_4), ((HB.out.cell (World.block_lt_of_cell? w _ hw281_5)).trans hw281_5)⟩ (fun hHeld => ?_)
                    clear hK K
                    refine norm_ (a' := ?_) ?_ ?_
                    rotate_left
                    ·show Act.put _ (some 119) _ = _
                     simp only [Act.put, List.setIfInBounds_toArray, List.set_cons_zero, List.set_cons_succ, i64_w, i32_w]
                     rfl
                    refine one_ (i := 9) (N := some 120) #[true, true, true, true, true, true, true, true, true, true, false, false] rfl rfl (one_of HT_.out (by kernel_rfl)) (by decide) (fun K hK => ?_)
                    refine goes_ Tryd.func65 (by kernel_rfl) rfl #[.bool t283] (by rfl) rfl rfl rf_ ?_
                    with_reducible refine (value_truth.calls t283 t284 t285 t286 t287 t288 t289 _ A117.out).mono ?_
                    rintro e w122 ⟨v290, rfl, ho0, hb⟩
                    refine ⟨_, rfl, ?_⟩
                    have n0_ := Aside0.mk (Kd.R_lower ho0 (below_size (by repeat (first | (with_reducible first | exact HB.out | apply below_alloc | apply pw_below_drewN | apply below_drew1 | refine below_set ?_ GE179.out | refine below_set ?_ GE180.out) | exact HB.out))))
                    have n1_ := Aside0.mk (blk_below (g := gb179) (o := .cells #[.int .i64 a1_0, .int .i64 a1_1, .string a1_2, .string a1_3, .slice A1_4 l1_4.length c1_4] 61 (0, 0)) (bk_ BK179.out) hb)
                    have n2_ := Aside0.mk (blk_below (g := gb180) (o := .cells #[.int .i64 x181000_1, .bool x181001_1, .int .i64 x181002_1, .bool x181003_1, .string x181004_1, .slice none 0 0] 49 (0, 0)) (bk_ BK180.out) hb)
                    have n3_ := Aside0.mk (below_step (by repeat (first | (with_reducible first | exact HB.out | apply below_alloc | apply pw_below_drewN | apply below_drew1 | refine below_set ?_ GE179.out | refine below_set ?_ GE180.out) | exact HB.out)) hb)
                    clear BK179
                    clear BK180
                    clear HB
                    have HO291 := n0_
                    have BK179 := n1_
                    have BK180 := n2_
                    have HB := n3_
                    clear n0_ n1_ n2_ n3_
                    (try clear hb)
                    (try clear hb2)
                    (try clear hk)
                    (try clear hi)
                    (try clear ho0)
                    obtain ⟨Ao128, co128, eo128⟩ := Kd.R_slice HO291.out
                    (first | subst eo128 | (injection eo128 with f1_ f2_ f3_; have f4_ := f1_.symm; have f5_ := f3_.symm; clear f1_ f2_ f3_; subst f4_; subst f5_))
                    refine hK.out _ _ ⟨((HB.out.cell (World.block_lt_of_cell? w _ hw279_0)).trans hw279_0), ((HB.out.cell (World.block_lt_of_cell? w _ hw279_1)).trans hw279_1), ((HB.out.cell (World.block_lt_of_cell? w _ hw279_2)).trans hw279_2), ((HB.out.cell (World.block_lt_of_cell? w _ hw279_3)).trans hw279_3), ((HB.out.cell (World.block_lt_of_cell? w _ hw279_4)).trans hw279_4), ((HB.out.cell (World.block_lt_of_cell? w _ hw279_5)).trans hw279_5), ((HB.out.cell (World.block_lt_of_cell? w _ hw281_0)).trans hw281_0), ((HB.out.cell (World.block_lt_of_cell? w _ hw281_1)).trans hw281_1), ((HB.out.cell (World.block_lt_of_cell? w _ hw281_2)).trans hw281_2), ((HB.out.cell (World.block_lt_of_cell? w _ hw281_3)).trans hw281_3), ((HB.out.cell (World.block_lt_of_cell? w _ hw281_4)).trans hw281_4), ((HB.out.cell (World.block_lt_of_cell? w _ hw281_5)).trans hw281_5)⟩ (fun hHeld => ?_)
                    clear hK K
                    refine norm_ (a' := ?_) ?_ ?_
                    rotate_left
                    ·show Act.put _ (some 120) _ = _
                     simp only [Act.put, List.setIfInBounds_toArray, List.set_cons_zero, List.set_cons_succ, i64_w, i32_w]
                     rfl
                    refine one_ (i := 10) (N := none) #[true, true, true, true, true, true, true, true, true, true, true, false] rfl rfl (one_of HT_.out (by kernel_rfl)) (by decide) (fun K hK => ?_)
                    have hs123 : w122.cell? ⟨gb180, 0, none⟩ = some (.int .i64 x181000_1) := (blk_cell BK180.out 0).trans rfl
                    have hfs123 := blk_frozen BK180.out 0
                    have hns123_0 := NB179_180.out
                    have hms123_0 := NB180_179.out
                    have hs124 : w122.cell? ⟨gb180, 1, none⟩ = some (.bool x181001_1) := (blk_cell BK180.out 1).trans rfl
                    have hfs124 := blk_frozen BK180.out 1
                    have hns124_0 := NB179_180.out
                    have hms124_0 := NB180_179.out
                    have hs125 : w122.cell? ⟨gb180, 2, none⟩ = some (.int .i64 x181002_1) := (blk_cell BK180.out 2).trans rfl
                    have hfs125 := blk_frozen BK180.out 2
                    have hns125_0 := NB179_180.out
                    have hms125_0 := NB180_179.out
                    have hs126 : w122.cell? ⟨gb180, 3, none⟩ = some (.bool x181003_1) := (blk_cell BK180.out 3).trans rfl
                    have hfs126 := blk_frozen BK180.out 3
                    have hns126_0 := NB179_180.out
                    have hms126_0 := NB180_179.out
                    have hs127 : w122.cell? ⟨gb180, 4, none⟩ = some (.string x181004_1) := (blk_cell BK180.out 4).trans rfl
                    have hfs127 := blk_frozen BK180.out 4
                    have hns127_0 := NB179_180.out
                    have hms127_0 := NB180_179.out
                    have hs129 : w122.cell? ⟨gb180, 5, none⟩ = some (.slice none 0 0) := (blk_cell BK180.out 5).trans rfl
                    have hfs129 := blk_frozen BK180.out 5
                    have hns129_0 := NB179_180.out
                    have hms129_0 := NB180_179.out
                    refine skip_ (w1 := ?_) (by rfl) rfl ?_ ?_
                    rotate_left
                    ·go_simp
                     rfl
                    refine hK.out _ _ ⟨((far_ hw279_0 GW180.out _).trans (((far_ hw279_0 GW180.out _).trans (((far_ hw279_0 GW180.out _).trans (((far_ hw279_0 GW180.out _).trans (((far_ hw279_0 GW180.out _).trans (((far_ hw279_0 GW180.out _).trans (hHeld.1)))))))))))), ((far_ hw279_1 GW180.out _).trans (((far_ hw279_1 GW180.out _).trans (((far_ hw279_1 GW180.out _).trans (((far_ hw279_1 GW180.out _).trans (((far_ hw279_1 GW180.out _).trans (((far_ hw279_1 GW180.out _).trans (hHeld.2.1)))))))))))), ((far_ hw279_2 GW180.out _).trans (((far_ hw279_2 GW180.out _).trans (((far_ hw279_2 GW180.out _).trans (((far_ hw279_2 GW180.out _).trans (((far_ hw279_2 GW180.out _).trans (((far_ hw279_2 GW180.out _).trans (hHeld.2.2.1)))))))))))), ((far_ hw279_3 GW180.out _).trans (((far_ hw279_3 GW180.out _).trans (((far_ hw279_3 GW180.out _).trans (((far_ hw279_3 GW180.out _).trans (((far_ hw279_3 GW180.out _).trans (((far_ hw279_3 GW180.out _).trans (hHeld.2.2.2.1)))))))))))), ((far_ hw279_4 GW180.out _).trans (((far_ hw279_4 GW180.out _).trans (((far_ hw279_4 GW180.out _).trans (((far_ hw279_4 GW180.out _).trans (((far_ hw279_4 GW180.out _).trans (((far_ hw279_4 GW180.out _).trans (hHeld.2.2.2.2.1)))))))))))), ((far_ hw279_5 GW180.out _).trans (((far_ hw279_5 GW180.out _).trans (((far_ hw279_5 GW180.out _).trans (((far_ hw279_5 GW180.out _).trans (((far_ hw279_5 GW180.out _).trans (((far_ hw279_5 GW180.out _).trans (hHeld.2.2.2.2.2.1)))))))))))), ((far_ hw281_0 GW180.out _).trans (((far_ hw281_0 GW180.out _).trans (((far_ hw281_0 GW180.out _).trans (((far_ hw281_0 GW180.out _).trans (((far_ hw281_0 GW180.out _).trans (((far_ hw281_0 GW180.out _).trans (hHeld.2.2.2.2.2.2.1)))))))))))), ((far_ hw281_1 GW180.out _).trans (((far_ hw281_1 GW180.out _).trans (((far_ hw281_1 GW180.out _).trans (((far_ hw281_1 GW180.out _).trans (((far_ hw281_1 GW180.out _).trans (((far_ hw281_1 GW180.out _).trans (hHeld.2.2.2.2.2.2.2.1)))))))))))), ((far_ hw281_2 GW180.out _).trans (((far_ hw281_2 GW180.out _).trans (((far_ hw281_2 GW180.out _).trans (((far_ hw281_2 GW180.out _).trans (((far_ hw281_2 GW180.out _).trans (((far_ hw281_2 GW180.out _).trans (hHeld.2.2.2.2.2.2.2.2.1)))))))))))), ((far_ hw281_3 GW180.out _).trans (((far_ hw281_3 GW180.out _).trans (((far_ hw281_3 GW180.out _).trans (((far_ hw281_3 GW180.out _).trans (((far_ hw281_3 GW180.out _).trans (((far_ hw281_3 GW180.out _).trans (hHeld.2.2.2.2.2.2.2.2.2.1)))))))))))), ((far_ hw281_4 GW180.out _).trans (((far_ hw281_4 GW180.out _).trans (((far_ hw281_4 GW180.out _).trans (((far_ hw281_4 GW180.out _).trans (((far_ hw281_4 GW180.out _).trans (((far_ hw281_4 GW180.out _).trans (hHeld.2.2.2.2.2.2.2.2.2.2.1)))))))))))), ((far_ hw281_5 GW180.out _).trans (((far_ hw281_5 GW180.out _).trans (((far_ hw281_5 GW180.out _).trans (((far_ hw281_5 GW180.out _).trans (((far_ hw281_5 GW180.out _).trans (((far_ hw281_5 GW180.out _).trans (hHeld.2.2.2.2.2.2.2.2.2.2.2))))))))))))⟩ (fun hHeld => ?_)
                    clear hK K
                    refine pure_ (i := 11) (N := some 7) (v := ?_) (a' := ?_) #[true, true, true, true, true, true, true, true, true, true, true, true] rfl rfl (any_of HT_.out (by kernel_rfl)) (fun _ _ _ h => h) (Or.inl ⟨by rfl, ?_⟩) ?_ ?_
                    rotate_left
                    ·intro w'
                     go_simp
                     with_reducible rfl
                    rotate_left
                    ·simp only [Act.put, List.setIfInBounds_toArray, List.set_cons_zero, List.set_cons_succ, i64_w, i32_w]
                     rfl
                    refine done_ (done_of HT_.out (by kernel_rfl)) ?_
                    try go_wp2
                    refine bodyPost_ret (results_ct rfl _ _ gb180 49 #[.int .i64 t284, .bool t285, .int .i64 t286, .bool t287, .string t288, .slice Ao128 t289.length co128] (0, 0) _ rfl (by (with_reducible repeat (first | refine blk_drewN ?_ _ | refine blk_drew ?_ | refine blk_alloc ?_ _)); refine blk_put (cs := #[.int .i64 t284, .bool t285, .int .i64 t286, .bool t287, .string t288, .slice none 0 0]) ?_ 5 _ rfl; (with_reducible repeat (first | refine blk_drewN ?_ _ | refine blk_drew ?_ | refine blk_alloc ?_ _)); refine blk_put (cs := #[.int .i64 t284, .bool t285, .int .i64 t286, .bool t287, .string x181004_1, .slice none 0 0]) ?_ 4 _ rfl; (with_reducible repeat (first | refine blk_drewN ?_ _ | refine blk_drew ?_ | refine blk_alloc ?_ _)); refine blk_put (cs := #[.int .i64 t284, .bool t285, .int .i64 t286, .bool x181003_1, .string x181004_1, .slice none 0 0]) ?_ 3 _ rfl; (with_reducible repeat (first | refine blk_drewN ?_ _ | refine blk_drew ?_ | refine blk_alloc ?_ _)); refine blk_put (cs := #[.int .i64 t284, .bool t285, .int .i64 x181002_1, .bool x181003_1, .string x181004_1, .slice none 0 0]) ?_ 2 _ rfl; (with_reducible repeat (first | refine blk_drewN ?_ _ | refine blk_drew ?_ | refine blk_alloc ?_ _)); refine blk_put (cs := #[.int .i64 t284, .bool x181001_1, .int .i64 x181002_1, .bool x181003_1, .string x181004_1, .slice none 0 0]) ?_ 1 _ rfl; (with_reducible repeat (first | refine blk_drewN ?_ _ | refine blk_drew ?_ | refine blk_alloc ?_ _)); refine blk_put (cs := #[.int .i64 x181000_1, .bool x181001_1, .int .i64 x181002_1, .bool x181003_1, .string x181004_1, .slice none 0 0]) ?_ 0 _ rfl; (with_reducible repeat (first | refine blk_drewN ?_ _ | refine blk_drew ?_ | refine blk_alloc ?_ _)); exact BK180.out) Tryd.underlying49 rfl (by kernel_rfl)) rfl ?_
                    exact ⟨_, er_, by (with_reducible repeat (first | apply Kd.R_alloc | apply Kd.R_drewN | apply Kd.R_drew)); exact Kd.R_mono (Kd.R_far (p := ⟨gb180, 5, none⟩) (Kd.R_far (p := ⟨gb180, 4, none⟩) (Kd.R_far (p := ⟨gb180, 3, none⟩) (Kd.R_far (p := ⟨gb180, 2, none⟩) (Kd.R_far (p := ⟨gb180, 1, none⟩) (Kd.R_far (p := ⟨gb180, 0, none⟩) (Kd.R_types HO291.out BK180.out (by decide)) (fun _ hk => hk.2) (.int .i64 t284)) (fun _ hk => hk.2) (.bool t285)) (fun _ hk => hk.2) (.int .i64 t286)) (fun _ hk => hk.2) (.bool t287)) (fun _ hk => hk.2) (.string t288)) (fun _ hk => hk.2) (.slice Ao128 t289.length co128)) (fun _ hk => trivial), by repeat (first | (with_reducible first | exact HB.out | apply below_alloc | apply pw_below_drewN | apply below_drew1 | refine below_set ?_ GE179.out | refine below_set ?_ GE180.out) | exact HB.out)⟩
                   ·rw [if_neg c114] at H
                    exact absurd H (by simp)
                  ·rw [if_neg c112] at H
                   exact absurd H (by simp)
                 ·rw [if_neg c111] at H
                  have c111b0 : (a0.toList == ([99, 111, 110, 116, 97, 105, 110, 115] : List UInt8)) = false := beq_eq_false_iff_ne.mpr c111
                  have c111b1 : (a0.toList != ([99, 111, 110, 116, 97, 105, 110, 115] : List UInt8)) = true := bne_iff_ne.mpr c111
                  by_cases c130 : 0 < (l2.length : Int)
                  ·rw [if_pos c130] at H
                   have c130b0 : decide (0 < (l2.length : Int)) = true := decide_eq_true c130
                   have c130b1 : decide (0 < l2.length) = true := decide_eq_true (by omega)
                   clear c130
                   replace H := Option.bind_eq_some_iff.mp H
                   obtain ⟨t293, A1310, H⟩ := H
                   replace H : (if 1 < (l2.length : Int) then ((value_asText.f ((rd_T49 l2 1).f0) ((rd_T49 l2 1).f1) ((rd_T49 l2 1).f2) ((rd_T49 l2 1).f3) ((rd_T49 l2 1).f4) ((rd_T49 l2 1).f5)).bind fun t295 => ((strings_HasPrefix.f t293 t295).bind fun t296 => ((value_truth.f t296).bind fun bt297 => (some (bt297.1, bt297.2.1, bt297.2.2.1, bt297.2.2.2.1, bt297.2.2.2.2.1, bt297.2.2.2.2.2, 0))))) else (none)) = some (r1, r2, r3, r4, r5, r6, r7) := H
                   have A131 := Aside0.mk A1310
                   clear A1310
                   by_cases c132 : 1 < (l2.length : Int)
                   ·rw [if_pos c132] at H
                    have c132b0 : decide (1 < (l2.length : Int)) = true := decide_eq_true c132
                    have c132b1 : decide (1 < l2.length) = true := decide_eq_true (by omega)
                    clear c132
                    replace H := Option.bind_eq_some_iff.mp H
                    obtain ⟨t295, A1330, H⟩ := H
                    replace H : ((strings_HasPrefix.f t293 t295).bind fun t296 => ((value_truth.f t296).bind fun bt297 => (some (bt297.1, bt297.2.1, bt297.2.2.1, bt297.2.2.2.1, bt297.2.2.2.2.1, bt297.2.2.2.2.2, 0)))) = some (r1, r2, r3, r4, r5, r6, r7) := H
                    have A133 := Aside0.mk A1330
                    clear A1330
                    replace H := Option.bind_eq_some_iff.mp H
                    obtain ⟨t296, A1340, H⟩ := H
                    replace H : ((value_truth.f t296).bind fun bt297 => (some (bt297.1, bt297.2.1, bt297.2.2.1, bt297.2.2.2.1, bt297.2.2.2.2.1, bt297.2.2.2.2.2, 0))) = some (r1, r2, r3, r4, r5, r6, r7) := H
                    have A134 := Aside0.mk A1340
                    clear A1340
                    replace H := Option.bind_eq_some_iff.mp H
                    obtain ⟨⟨t297, t298, t299, t300, t301, t302⟩, A1350, H⟩ := H
                    replace H : (some (t297, t298, t299, t300, t301, t302, 0)) = some (r1, r2, r3, r4, r5, r6, r7) := H
                    have A135 := Aside0.mk A1350
                    clear A1350
                    simp only [Option.some.injEq, Prod.mk.injEq] at H
                    obtain ⟨rfl, rfl, rfl, rfl, rfl, rfl, rfl⟩ := H
                    try go_wp2
                    have n0_ := Aside0.mk (blk_drew BK179.out)
                    have n1_ := Aside0.mk (blk_drew BK180.out)
                    have n2_ := Aside0.mk (below_drew1 HB.out)
                    clear BK179
                    clear BK180
                    clear HB
                    have BK179 := n0_
                    have BK180 := n1_
                    have HB := n2_
                    clear n0_ n1_ n2_
                    have p292 : 0 ≤ (0 : Int) := (by omega)
                    have q292 : 0 < (l2.length : Int) := of_decide_eq_true (by first | (with_reducible assumption) | assumption)
                    obtain ⟨ad292, A292_5, c292_5, e292, hx292_0, hx292_1, hx292_2, hx292_3, hx292_4, hx292_5, hl292_5, hi292_5⟩ := at_T49 HR2.out 0 p292 q292
                    have hw292_5 := hx292_5
                    (try rw [show ((0 : Int)).toNat = 0 from rfl] at hw292_5)
                    (try rw [show 0 * 6 = 0 from rfl] at hw292_5)
                    (try rw [Addr.add_zero'] at hw292_5)
                    have hw292_4 := hx292_4
                    (try rw [show ((0 : Int)).toNat = 0 from rfl] at hw292_4)
                    (try rw [show 0 * 6 = 0 from rfl] at hw292_4)
                    (try rw [Addr.add_zero'] at hw292_4)
                    have hw292_3 := hx292_3
                    (try rw [show ((0 : Int)).toNat = 0 from rfl] at hw292_3)
                    (try rw [show 0 * 6 = 0 from rfl] at hw292_3)
                    (try rw [Addr.add_zero'] at hw292_3)
                    have hw292_2 := hx292_2
                    (try rw [show ((0 : Int)).toNat = 0 from rfl] at hw292_2)
                    (try rw [show 0 * 6 = 0 from rfl] at hw292_2)
                    (try rw [Addr.add_zero'] at hw292_2)
                    have hw292_1 := hx292_1
                    (try rw [show ((0 : Int)).toNat = 0 from rfl] at hw292_1)
                    (try rw [show 0 * 6 = 0 from rfl] at hw292_1)
                    (try rw [Addr.add_zero'] at hw292_1)
                    have hw292_0 := hx292_0
                    (try rw [show ((0 : Int)).toNat = 0 from rfl] at hw292_0)
                    (try rw [show 0 * 6 = 0 from rfl] at hw292_0)
                    (try rw [Addr.add_zero'] at hw292_0)
                    cases e292
                    have qi292 : (0 < l2.length) = True := eq_true (by omega)
                    (try rw [show ((0 : Int)).toNat = 0 from rfl] at hx292_0)
                    (try rw [show 0 * 6 = 0 from rfl] at hx292_0)
                    (try rw [Addr.add_zero'] at hx292_0)
                    (try rw [show ((0 : Int)).toNat = 0 from rfl] at hx292_1)
                    (try rw [show 0 * 6 = 0 from rfl] at hx292_1)
                    (try rw [Addr.add_zero'] at hx292_1)
                    (try rw [show ((0 : Int)).toNat = 0 from rfl] at hx292_2)
                    (try rw [show 0 * 6 = 0 from rfl] at hx292_2)
                    (try rw [Addr.add_zero'] at hx292_2)
                    (try rw [show ((0 : Int)).toNat = 0 from rfl] at hx292_3)
                    (try rw [show 0 * 6 = 0 from rfl] at hx292_3)
                    (try rw [Addr.add_zero'] at hx292_3)
                    (try rw [show ((0 : Int)).toNat = 0 from rfl] at hx292_4)
                    (try rw [show 0 * 6 = 0 from rfl] at hx292_4)
                    (try rw [Addr.add_zero'] at hx292_4)
                    (try rw [show ((0 : Int)).toNat = 0 from rfl] at hx292_5)
                    (try rw [show 0 * 6 = 0 from rfl] at hx292_5)
                    (try rw [Addr.add_zero'] at hx292_5)
                    replace hx292_0 := (HB.out.cell (World.block_lt_of_cell? w _ hx292_0)).trans hx292_0
                    replace hx292_1 := (HB.out.cell (World.block_lt_of_cell? w _ hx292_1)).trans hx292_1
                    replace hx292_2 := (HB.out.cell (World.block_lt_of_cell? w _ hx292_2)).trans hx292_2
                    replace hx292_3 := (HB.out.cell (World.block_lt_of_cell? w _ hx292_3)).trans hx292_3
                    replace hx292_4 := (HB.out.cell (World.block_lt_of_cell? w _ hx292_4)).trans hx292_4
                    replace hx292_5 := (HB.out.cell (World.block_lt_of_cell? w _ hx292_5)).trans hx292_5
                    have HR292_5 := Aside0.mk hi292_5
                    have HC292_5 := Aside0.mk hl292_5
                    clear hi292_5 hl292_5
                    replace p292 := eq_true p292
                    replace q292 := eq_true q292
                    have p294 : 0 ≤ (1 : Int) := (by omega)
                    have q294 : 1 < (l2.length : Int) := of_decide_eq_true (by first | (with_reducible assumption) | assumption)
                    obtain ⟨ad294, A294_5, c294_5, e294, hx294_0, hx294_1, hx294_2, hx294_3, hx294_4, hx294_5, hl294_5, hi294_5⟩ := at_T49 HR2.out 1 p294 q294
                    have hw294_5 := hx294_5
                    (try rw [show ((1 : Int)).toNat = 1 from rfl] at hw294_5)
                    (try rw [show 1 * 6 = 6 from rfl] at hw294_5)
                    (try simp only [Nat.reduceMul, Nat.reduceEqDiff, Go.Addr.add, ↓reduceIte] at hw294_5)
                    have hw294_4 := hx294_4
                    (try rw [show ((1 : Int)).toNat = 1 from rfl] at hw294_4)
                    (try rw [show 1 * 6 = 6 from rfl] at hw294_4)
                    (try simp only [Nat.reduceMul, Nat.reduceEqDiff, Go.Addr.add, ↓reduceIte] at hw294_4)
                    have hw294_3 := hx294_3
                    (try rw [show ((1 : Int)).toNat = 1 from rfl] at hw294_3)
                    (try rw [show 1 * 6 = 6 from rfl] at hw294_3)
                    (try simp only [Nat.reduceMul, Nat.reduceEqDiff, Go.Addr.add, ↓reduceIte] at hw294_3)
                    have hw294_2 := hx294_2
                    (try rw [show ((1 : Int)).toNat = 1 from rfl] at hw294_2)
                    (try rw [show 1 * 6 = 6 from rfl] at hw294_2)
                    (try simp only [Nat.reduceMul, Nat.reduceEqDiff, Go.Addr.add, ↓reduceIte] at hw294_2)
                    have hw294_1 := hx294_1
                    (try rw [show ((1 : Int)).toNat = 1 from rfl] at hw294_1)
                    (try rw [show 1 * 6 = 6 from rfl] at hw294_1)
                    (try simp only [Nat.reduceMul, Nat.reduceEqDiff, Go.Addr.add, ↓reduceIte] at hw294_1)
                    have hw294_0 := hx294_0
                    (try rw [show ((1 : Int)).toNat = 1 from rfl] at hw294_0)
                    (try rw [show 1 * 6 = 6 from rfl] at hw294_0)
                    (try simp only [Nat.reduceMul, Nat.reduceEqDiff, Go.Addr.add, ↓reduceIte] at hw294_0)
                    obtain rfl : ad292 = ad294 := (by injection e294)
                    (try simp only [show (1 : Int).toNat = 1 from rfl, Nat.reduceMul, Nat.reduceEqDiff, Go.Addr.add, ↓reduceIte] at hx294_0)
                    (try simp only [show (1 : Int).toNat = 1 from rfl, Nat.reduceMul, Nat.reduceEqDiff, Go.Addr.add, ↓reduceIte] at hx294_1)
                    (try simp only [show (1 : Int).toNat = 1 from rfl, Nat.reduceMul, Nat.reduceEqDiff, Go.Addr.add, ↓reduceIte] at hx294_2)
                    (try simp only [show (1 : Int).toNat = 1 from rfl, Nat.reduceMul, Nat.reduceEqDiff, Go.Addr.add, ↓reduceIte] at hx294_3)
                    (try simp only [show (1 : Int).toNat = 1 from rfl, Nat.reduceMul, Nat.reduceEqDiff, Go.Addr.add, ↓reduceIte] at hx294_4)
                    (try simp only [show (1 : Int).toNat = 1 from rfl, Nat.reduceMul, Nat.reduceEqDiff, Go.Addr.add, ↓reduceIte] at hx294_5)
                    have qi294 : (1 < l2.length) = True := eq_true (by omega)
                    (try rw [show ((1 : Int)).toNat = 1 from rfl] at hx294_0)
                    (try rw [show 1 * 6 = 6 from rfl] at hx294_0)
                    (try rw [show ((1 : Int)).toNat = 1 from rfl] at hx294_1)
                    (try rw [show 1 * 6 = 6 from rfl] at hx294_1)
                    (try rw [show ((1 : Int)).toNat = 1 from rfl] at hx294_2)
                    (try rw [show 1 * 6 = 6 from rfl] at hx294_2)
                    (try rw [show ((1 : Int)).toNat = 1 from rfl] at hx294_3)
                    (try rw [show 1 * 6 = 6 from rfl] at hx294_3)
                    (try rw [show ((1 : Int)).toNat = 1 from rfl] at hx294_4)
                    (try rw [show 1 * 6 = 6 from rfl] at hx294_4)
                    (try rw [show ((1 : Int)).toNat = 1 from rfl] at hx294_5)
                    (try rw [show 1 * 6 = 6 from rfl] at hx294_5)
                    replace hx294_0 := (HB.out.cell (World.block_lt_of_cell? w _ hx294_0)).trans hx294_0
                    replace hx294_1 := (HB.out.cell (World.block_lt_of_cell? w _ hx294_1)).trans hx294_1
                    replace hx294_2 := (HB.out.cell (World.block_lt_of_cell? w _ hx294_2)).trans hx294_2
                    replace hx294_3 := (HB.out.cell (World.block_lt_of_cell? w _ hx294_3)).trans hx294_3
                    replace hx294_4 := (HB.out.cell (World.block_lt_of_cell? w _ hx294_4)).trans hx294_4
                    replace hx294_5 := (HB.out.cell (World.block_lt_of_cell? w _ hx294_5)).trans hx294_5
                    have HR294_5 := Aside0.mk hi294_5
                    have HC294_5 := Aside0.mk hl294_5
                    clear hi294_5 hl294_5
                    replace p294 := eq_true p294
                    replace q294 := eq_true q294
                    refine start_ (n := 12) (S := fun w' => w'.cell? ad292 = some (.int .i64 ((rd_T49 l2 0).f0)) ∧ w'.cell? ⟨ad292.block, ad292.off + 1, none⟩ = some (.bool ((rd_T49 l2 0).f1)) ∧ w'.cell? ⟨ad292.block, ad292.off + 2, none⟩ = some (.int .i64 ((rd_T49 l2 0).f2)) ∧ w'.cell? ⟨ad292.block, ad292.off + 3, none⟩ = some (.bool ((rd_T49 l2 0).f3)) ∧ w'.cell? ⟨ad292.block, ad292.off + 4, none⟩ = some (.string ((rd_T49 l2 0).f4)) ∧ w'.cell? ⟨ad292.block, ad292.off + 5, none⟩ = some (.slice A292_5 ((rd_T49 l2 0).f5).length c292_5) ∧ w'.cell? ⟨ad292.block, ad292.off + 6, none⟩ = some (.int .i64 ((rd_T49 l2 1).f0)) ∧ w'.cell? ⟨ad292.block, ad292.off + 6 + 1, none⟩ = some (.bool ((rd_T49 l2 1).f1)) ∧ w'.cell? ⟨ad292.block, ad292.off + 6 + 2, none⟩ = some (.int .i64 ((rd_T49 l2 1).f2)) ∧ w'.cell? ⟨ad292.block, ad292.off + 6 + 3, none⟩ = some (.bool ((rd_T49 l2 1).f3)) ∧ w'.cell? ⟨ad292.block, ad292.off + 6 + 4, none⟩ = some (.string ((rd_T49 l2 1).f4)) ∧ w'.cell? ⟨ad292.block, ad292.off + 6 + 5, none⟩ = some (.slice A294_5 ((rd_T49 l2 1).f5).length c294_5)) (ds := []) #[false, false, false, false, false, false, false, false, false, false, false, false] (by kernel_rfl) rfl rfl ⟨((HB.out.cell (World.block_lt_of_cell? w _ hw292_0)).trans hw292_0), ((HB.out.cell (World.block_lt_of_cell? w _ hw292_1)).trans hw292_1), ((HB.out.cell (World.block_lt_of_cell? w _ hw292_2)).trans hw292_2), ((HB.out.cell (World.block_lt_of_cell? w _ hw292_3)).trans hw292_3), ((HB.out.cell (World.block_lt_of_cell? w _ hw292_4)).trans hw292_4), ((HB.out.cell (World.block_lt_of_cell? w _ hw292_5)).trans hw292_5), ((HB.out.cell (World.block_lt_of_cell? w _ hw294_0)).trans hw294_0), ((HB.out.cell (World.block_lt_of_cell? w _ hw294_1)).trans hw294_1), ((HB.out.cell (World.block_lt_of_cell? w _ hw294_2)).trans hw294_2), ((HB.out.cell (World.block_lt_of_cell? w _ hw294_3)).trans hw294_3), ((HB.out.cell (World.block_lt_of_cell? w _ hw294_4)).trans hw294_4), ((HB.out.cell (World.block_lt_of_cell? w _ hw294_5)).trans hw294_5)⟩ (fun hHeld => ?_); refine with_tabW value_call.tab35 value_call.bits35 (fun HT_ HW_ => ?_)
                    generalize wc.drew = w136 at BK179 BK180 HB HR292_5 HR294_5 hx292_0 hx292_1 hx292_2 hx292_3 hx292_4 hx292_5 hx294_0 hx294_1 hx294_2 hx294_3 hx294_4 hx294_5 hHeld ⊢
                    refine pure_ (i := 0) (N := some 121) (v := ?_) (a' := ?_) #[true, false, false, false, false, false, false, false, false, false, false, false] rfl rfl (any_of HT_.out (by kernel_rfl)) (fun _ _ _ h => h) (Or.inl ⟨by rfl, ?_⟩) ?_ ?_
                    rotate_left
                    ·intro w'
                     go_simp
                     with_reducible rfl
                    rotate_left
                    ·simp only [Act.put, List.setIfInBounds_toArray, List.set_cons_zero, List.set_cons_succ, i64_w, i32_w]
                     rfl
                    refine pure_ (i := 1) (N := some 122) (v := ?_) (a' := ?_) #[true, true, false, false, false, false, false, false, false, false, false, false] rfl rfl (any_of HT_.out (by kernel_rfl)) (fun _ _ _ h => h) (Or.inl ⟨by rfl, ?_⟩) ?_ ?_
                    rotate_left
                    ·intro w'
                     go_simp
                     with_reducible rfl
                    rotate_left
                    ·simp only [Act.put, List.setIfInBounds_toArray, List.set_cons_zero, List.set_cons_succ, i64_w, i32_w]
                     rfl
                    refine pure_ (i := 4) (N := some 125) (v := ?_) (a' := ?_) #[true, true, false, false, true, false, false, false, false, false, false, false] rfl rfl (any_of HT_.out (by kernel_rfl)) (fun _ _ _ h => h) (Or.inl ⟨by rfl, ?_⟩) ?_ ?_
                    rotate_left
                    ·intro w'
                     go_simp
                     with_reducible rfl
                    rotate_left
                    ·simp only [Act.put, List.setIfInBounds_toArray, List.set_cons_zero, List.set_cons_succ, i64_w, i32_w]
                     rfl
                    refine pure_ (i := 5) (N := some 126) (v := ?_) (a' := ?_) #[true, true, false, false, true, true, false, false, false, false, false, false] rfl rfl (any_of HT_.out (by kernel_rfl)) (fun _ _ _ h => h) (Or.inl ⟨by rfl, ?_⟩) ?_ ?_
                    rotate_left
                    ·intro w'
                     go_simp
                     with_reducible rfl
                    rotate_left
                    ·simp only [Act.put, List.setIfInBounds_toArray, List.set_cons_zero, List.set_cons_succ, i64_w, i32_w]
                     rfl
                    refine take_ (i := 2) (N := some 123) (v := ?_) (a' := ?_) #[true, true, true, false, true, true, false, false, false, false, false, false] rfl rfl (take_ofW HT_.out HW_.out (by kernel_rfl)) (fun _ _ _ h => h) (Or.inl ⟨by rfl, ?_⟩) hHeld ?_ ?_
                    rotate_left
                    ·rintro w' ⟨s0, s1, s2, s3, s4, s5, s6, s7, s8, s9, s10, s11⟩
                     go_simp
                     with_reducible rfl
                    rotate_left
                    ·simp only [Act.put, List.setIfInBounds_toArray, List.set_cons_zero, List.set_cons_succ, i64_w, i32_w]
                     rfl
                    refine take_ (i := 6) (N := some 127) (v := ?_) (a' := ?_) #[true, true, true, false, true, true, true, false, false, false, false, false] rfl rfl (take_ofW HT_.out HW_.out (by kernel_rfl)) (fun _ _ _ h => h) (Or.inl ⟨by rfl, ?_⟩) hHeld ?_ ?_
                    rotate_left
                    ·rintro w' ⟨s0, s1, s2, s3, s4, s5, s6, s7, s8, s9, s10, s11⟩
                     go_simp
                     with_reducible rfl
                    rotate_left
                    ·simp only [Act.put, List.setIfInBounds_toArray, List.set_cons_zero, List.set_cons_succ, i64_w, i32_w]
                     rfl
                    refine one_ (i := 3) (N := some 124) #[true, true, true, true, true, true, true, false, false, false, false, false] rfl rfl (one_of HT_.out (by kernel_rfl)) (by decide) (fun K hK => ?_)
                    refine goes_ Tryd.func45 (by kernel_rfl) rfl #[.agg #[.int .i64 ((rd_T49 l2 0).f0), .bool ((rd_T49 l2 0).f1), .int .i64 ((rd_T49 l2 0).f2), .bool ((rd_T49 l2 0).f3), .string ((rd_T49 l2 0).f4), .slice A292_5 ((rd_T49 l2 0).f5).length c292_5]] (by rfl) rfl rfl rf_ ?_
                    with_reducible refine (value_asText.calls ((rd_T49 l2 0).f0) ((rd_T49 l2 0).f1) ((rd_T49 l2 0).f2) ((rd_T49 l2 0).f3) ((rd_T49 l2 0).f4) _ _ ((rd_T49 l2 0).f5) t293 _ ?side1 ?side2 A131.out).mono ?_
                    (case side1 => repeat (first | exact (Kd.C_below HR292_5.out HB.out) | (with_reducible refine Kd.C_alloc ?_ _) | (with_reducible refine Kd.C_drewN ?_ _) | (with_reducible refine Kd.C_drew ?_)))
                    (case side2 => exact HC292_5.out)
                    rintro e w137 ⟨rfl, hb⟩
                    refine ⟨_, rfl, ?_⟩
                    have n0_ := Aside0.mk (blk_below (g := gb179) (o := .cells #[.int .i64 a1_0, .int .i64 a1_1, .string a1_2, .string a1_3, .slice A1_4 l1_4.length c1_4] 61 (0, 0)) (bk_ BK179.out) hb)
                    have n1_ := Aside0.mk (blk_below (g := gb180) (o := .cells #[.int .i64 x181000_1, .bool x181001_1, .int .i64 x181002_1, .bool x181003_1, .string x181004_1, .slice none 0 0] 49 (0, 0)) (bk_ BK180.out) hb)
                    have n2_ := Aside0.mk (below_step (by repeat (first | (with_reducible first | exact HB.out | apply below_alloc | apply pw_below_drewN | apply below_drew1 | refine below_set ?_ GE179.out | refine below_set ?_ GE180.out) | exact HB.out)) hb)
                    clear BK179
                    clear BK180
                    clear HB
                    have BK179 := n0_
                    have BK180 := n1_
                    have HB := n2_
                    clear n0_ n1_ n2_
                    (try clear hb)
                    (try clear hb2)
                    (try clear hk)
                    (try clear hi)
                    refine hK.out _ _ ⟨((HB.out.cell (World.block_lt_of_cell? w _ hw292_0)).trans hw292_0), ((HB.out.cell (World.block_lt_of_cell? w _ hw292_1)).trans hw292_1), ((HB.out.cell (World.block_lt_of_cell? w _ hw292_2)).trans hw292_2), ((HB.out.cell (World.block_lt_of_cell? w _ hw292_3)).trans hw292_3), ((HB.out.cell (World.block_lt_of_cell? w _ hw292_4)).trans hw292_4), ((HB.out.cell (World.block_lt_of_cell? w _ hw292_5)).trans hw292_5), ((HB.out.cell (World.block_lt_of_cell? w _ hw294_0)).trans hw294_0), ((HB.out.cell (World.block_lt_of_cell? w _ hw294_1)).trans hw294_1), ((HB.out.cell (World.block_lt_of_cell? w _ hw294_2)).trans hw294_2), ((HB.out.cell (World.block_lt_of_cell? w _ hw294_3)).trans hw294_3), ((HB.out.cell (World.block_lt_of_cell? w _ hw294_4)).trans hw294_4), ((HB.out.cell (World.block_lt_of_cell? w _ hw294_5)).trans hw294_5)⟩ (fun hHeld => ?_)
                    clear hK K
                    refine norm_ (a' := ?_) ?_ ?_
                    rotate_left
                    ·show Act.put _ (some 124) _ = _
                     simp only [Act.put, List.setIfInBounds_toArray, List.set_cons_zero, List.set_cons_succ, i64_w, i32_w]
                     rfl
                    refine one_ (i := 7) (N := some 128) #[true, true, true, true, true, true, true, true, false, false, false, false] rfl rfl (one_of HT_.out (by kernel_rfl)) (by decide) (fun K hK => ?_)
                    refine goes_ Tryd.func45 (by kernel_rfl) rfl #[.agg #[.int .i64 ((rd_T49 l2 1).f0), .bool ((rd_T49 l2 1).f1), .int .i64 ((rd_T49 l2 1).f2), .bool ((rd_T49 l2 1).f3), .string ((rd_T49 l2 1).f4), .slice A294_5 ((rd_T49 l2 1).f5).length c294_5]] (by rfl) rfl rfl rf_ ?_
                    with_reducible refine (value_asText.calls ((rd_T49 l2 1).f0) ((rd_T49 l2 1).f1) ((rd_T49 l2 1).f2) ((rd_T49 l2 1).f3) ((rd_T49 l2 1).f4) _ _ ((rd_T49 l2 1).f5) t295 _ ?side1 ?side2 A133.out).mono ?_
                    (case side1 => repeat (first | exact (Kd.C_below HR294_5.out HB.out) | (with_reducible refine Kd.C_alloc ?_ _) | (with_reducible refine Kd.C_drewN ?_ _) | (with_reducible refine Kd.C_drew ?_)))
                    (case side2 => exact HC294_5.out)
                    rintro e w138 ⟨rfl, hb⟩
                    refine ⟨_, rfl, ?_⟩
                    have n0_ := Aside0.mk (blk_below (g := gb179) (o := .cells #[.int .i64 a1_0, .int .i64 a1_1, .string a1_2, .string a1_3, .slice A1_4 l1_4.length c1_4] 61 (0, 0)) (bk_ BK179.out) hb)
                    have n1_ := Aside0.mk (blk_below (g := gb180) (o := .cells #[.int .i64 x181000_1, .bool x181001_1, .int .i64 x181002_1, .bool x181003_1, .string x181004_1, .slice none 0 0] 49 (0, 0)) (bk_ BK180.out) hb)
                    have n2_ := Aside0.mk (below_step (by repeat (first | (with_reducible first | exact HB.out | apply below_alloc | apply pw_below_drewN | apply below_drew1 | refine below_set ?_ GE179.out | refine below_set ?_ GE180.out) | exact HB.out)) hb)
                    clear BK179
                    clear BK180
                    clear HB
                    have BK179 := n0_
                    have BK180 := n1_
                    have HB := n2_
                    clear n0_ n1_ n2_
                    (try clear hb)
                    (try clear hb2)
                    (try clear hk)
                    (try clear hi)
                    refine hK.out _ _ ⟨((HB.out.cell (World.block_lt_of_cell? w _ hw292_0)).trans hw292_0), ((HB.out.cell (World.block_lt_of_cell? w _ hw292_1)).trans hw292_1), ((HB.out.cell (World.block_lt_of_cell? w _ hw292_2)).trans hw292_2), ((HB.out.cell (World.block_lt_of_cell? w _ hw292_3)).trans hw292_3), ((HB.out.cell (World.block_lt_of_cell? w _ hw292_4)).trans hw292_4), ((HB.out.cell (World.block_lt_of_cell? w _ hw292_5)).trans hw292_5), ((HB.out.cell (World.block_lt_of_cell? w _ hw294_0)).trans hw294_0), ((HB.out.cell (World.block_lt_of_cell? w _ hw294_1)).trans hw294_1), ((HB.out.cell (World.block_lt_of_cell? w _ hw294_2)).trans hw294_2), ((HB.out.cell (World.block_lt_of_cell? w _ hw294_3)).trans hw294_3), ((HB.out.cell (World.block_lt_of_cell? w _ hw294_4)).trans hw294_4), ((HB.out.cell (World.block_lt_of_cell? w _ hw294_5)).trans hw294_5)⟩ (fun hHeld => ?_)
                    clear hK K
                    refine norm_ (a' := ?_) ?_ ?_
                    rotate_left
                    ·show Act.put _ (some 128) _ = _
                     simp only [Act.put, List.setIfInBounds_toArray, List.set_cons_zero, List.set_cons_succ, i64_w, i32_w]
                     rfl
                    refine one_ (i := 8) (N := some 129) #[true, true, true, true, true, true, true, true, true, false, false, false] rfl rfl (one_of HT_.out (by kernel_rfl)) (by decide) (fun K hK => ?_)
                    refine goes_ Tryd.func74 (by kernel_rfl) rfl #[.string t293, .string t295] (by rfl) rfl rfl rf_ ?_
                    with_reducible refine (strings_HasPrefix.calls t293 t295 t296 _ A134.out).mono ?_
                    rintro e w' ⟨rfl, ⟨nd, rfl⟩⟩
                    refine ⟨_, rfl, ?_⟩
                    refine hK.out _ _ ⟨((HB.out.cell (World.block_lt_of_cell? w _ hw292_0)).trans hw292_0), ((HB.out.cell (World.block_lt_of_cell? w _ hw292_1)).trans hw292_1), ((HB.out.cell (World.block_lt_of_cell? w _ hw292_2)).trans hw292_2), ((HB.out.cell (World.block_lt_of_cell? w _ hw292_3)).trans hw292_3), ((HB.out.cell (World.block_lt_of_cell? w _ hw292_4)).trans hw292_4), ((HB.out.cell (World.block_lt_of_cell? w _ hw292_5)).trans hw292_5), ((HB.out.cell (World.block_lt_of_cell? w _ hw294_0)).trans hw294_0), ((HB.out.cell (World.block_lt_of_cell? w _ hw294_1)).trans hw294_1), ((HB.out.cell (World.block_lt_of_cell? w _ hw294_2)).trans hw294_2), ((HB.out.cell (World.block_lt_of_cell? w _ hw294_3)).trans hw294_3), ((HB.out.cell (World.block_lt_of_cell? w _ hw294_4)).trans hw294_4), ((HB.out.cell (World.block_lt_of_cell? w _ hw294_5)).trans hw294_5)⟩ (fun hHeld => ?_)
                    clear hK K
                    refine norm_ (a' := ?_) ?_ ?_
                    rotate_left
                    ·show Act.put _ (some 129) _ = _
                     simp only [Act.put, List.setIfInBounds_toArray, List.set_cons_zero, List.set_cons_succ, i64_w, i32_w]
                     rfl
                    refine one_ (i := 9) (N := some 130) #[true, true, true, true, true, true, true, true, true, true, false, false] rfl rfl (one_of HT_.out (by kernel_rfl)) (by decide) (fun K hK => ?_)
                    refine goes_ Tryd.func65 (by kernel_rfl) rfl #[.bool t296] (by rfl) rfl rfl rf_ ?_
                    with_reducible refine (value_truth.calls t296 t297 t298 t299 t300 t301 t302 _ A135.out).mono ?_
                    rintro e w139 ⟨v303, rfl, ho0, hb⟩
                    refine ⟨_, rfl, ?_⟩
                    have n0_ := Aside0.mk (Kd.R_lower ho0 (below_size (by repeat (first | (with_reducible first | exact HB.out | apply below_alloc | apply pw_below_drewN | apply below_drew1 | refine below_set ?_ GE179.out | refine below_set ?_ GE180.out) | exact HB.out))))
                    have n1_ := Aside0.mk (blk_below (g := gb179) (o := .cells #[.int .i64 a1_0, .int .i64 a1_1, .string a1_2, .string a1_3, .slice A1_4 l1_4.length c1_4] 61 (0, 0)) (bk_ BK179.out) hb)
                    have n2_ := Aside0.mk (blk_below (g := gb180) (o := .cells #[.int .i64 x181000_1, .bool x181001_1, .int .i64 x181002_1, .bool x181003_1, .string x181004_1, .slice none 0 0] 49 (0, 0)) (bk_ BK180.out) hb)
                    have n3_ := Aside0.mk (below_step (by repeat (first | (with_reducible first | exact HB.out | apply below_alloc | apply pw_below_drewN | apply below_drew1 | refine below_set ?_ GE179.out | refine below_set ?_ GE180.out) | exact HB.out)) hb)
                    clear BK179
                    clear BK180
                    clear HB
                    have HO304 := n0_
                    have BK179 := n1_
                    have BK180 := n2_
                    have HB := n3_
                    clear n0_ n1_ n2_ n3_
                    (try clear hb)
                    (try clear hb2)
                    (try clear hk)
                    (try clear hi)
                    (try clear ho0)
                    obtain ⟨Ao145, co145, eo145⟩ := Kd.R_slice HO304.out
                    (first | subst eo145 | (injection eo145 with f1_ f2_ f3_; have f4_ := f1_.symm; have f5_ := f3_.symm; clear f1_ f2_ f3_; subst f4_; subst f5_))
                    refine hK.out _ _ ⟨((HB.out.cell (World.block_lt_of_cell? w _ hw292_0)).trans hw292_0), ((HB.out.cell (World.block_lt_of_cell? w _ hw292_1)).trans hw292_1), ((HB.out.cell (World.block_lt_of_cell? w _ hw292_2)).trans hw292_2), ((HB.out.cell (World.block_lt_of_cell? w _ hw292_3)).trans hw292_3), ((HB.out.cell (World.block_lt_of_cell? w _ hw292_4)).trans hw292_4), ((HB.out.cell (World.block_lt_of_cell? w _ hw292_5)).trans hw292_5), ((HB.out.cell (World.block_lt_of_cell? w _ hw294_0)).trans hw294_0), ((HB.out.cell (World.block_lt_of_cell? w _ hw294_1)).trans hw294_1), ((HB.out.cell (World.block_lt_of_cell? w _ hw294_2)).trans hw294_2), ((HB.out.cell (World.block_lt_of_cell? w _ hw294_3)).trans hw294_3), ((HB.out.cell (World.block_lt_of_cell? w _ hw294_4)).trans hw294_4), ((HB.out.cell (World.block_lt_of_cell? w _ hw294_5)).trans hw294_5)⟩ (fun hHeld => ?_)
                    clear hK K
                    refine norm_ (a' := ?_) ?_ ?_
                    rotate_left
                    ·show Act.put _ (some 130) _ = _
                     simp only [Act.put, List.setIfInBounds_toArray, List.set_cons_zero, List.set_cons_succ, i64_w, i32_w]
                     rfl
                    refine one_ (i := 10) (N := none) #[true, true, true, true, true, true, true, true, true, true, true, false] rfl rfl (one_of HT_.out (by kernel_rfl)) (by decide) (fun K hK => ?_)
                    have hs140 : w139.cell? ⟨gb180, 0, none⟩ = some (.int .i64 x181000_1) := (blk_cell BK180.out 0).trans rfl
                    have hfs140 := blk_frozen BK180.out 0
                    have hns140_0 := NB179_180.out
                    have hms140_0 := NB180_179.out
                    have hs141 : w139.cell? ⟨gb180, 1, none⟩ = some (.bool x181001_1) := (blk_cell BK180.out 1).trans rfl
                    have hfs141 := blk_frozen BK180.out 1
                    have hns141_0 := NB179_180.out
                    have hms141_0 := NB180_179.out
                    have hs142 : w139.cell? ⟨gb180, 2, none⟩ = some (.int .i64 x181002_1) := (blk_cell BK180.out 2).trans rfl
                    have hfs142 := blk_frozen BK180.out 2
                    have hns142_0 := NB179_180.out
                    have hms142_0 := NB180_179.out
                    have hs143 : w139.cell? ⟨gb180, 3, none⟩ = some (.bool x181003_1) := (blk_cell BK180.out 3).trans rfl
                    have hfs143 := blk_frozen BK180.out 3
                    have hns143_0 := NB179_180.out
                    have hms143_0 := NB180_179.out
                    have hs144 : w139.cell? ⟨gb180, 4, none⟩ = some (.string x181004_1) := (blk_cell BK180.out 4).trans rfl
                    have hfs144 := blk_frozen BK180.out 4
                    have hns144_0 := NB179_180.out
                    have hms144_0 := NB180_179.out
                    have hs146 : w139.cell? ⟨gb180, 5, none⟩ = some (.slice none 0 0) := (blk_cell BK180.out 5).trans rfl
                    have hfs146 := blk_frozen BK180.out 5
                    have hns146_0 := NB179_180.out
                    have hms146_0 := NB180_179.out
                    refine skip_ (w1 := ?_) (by rfl) rfl ?_ ?_
                    rotate_left
                    ·go_simp
                     rfl
                    refine hK.out _ _ ⟨((far_ hw292_0 GW180.out _).trans (((far_ hw292_0 GW180.out _).trans (((far_ hw292_0 GW180.out _).trans (((far_ hw292_0 GW180.out _).trans (((far_ hw292_0 GW180.out _).trans (((far_ hw292_0 GW180.out _).trans (hHeld.1)))))))))))), ((far_ hw292_1 GW180.out _).trans (((far_ hw292_1 GW180.out _).trans (((far_ hw292_1 GW180.out _).trans (((far_ hw292_1 GW180.out _).trans (((far_ hw292_1 GW180.out _).trans (((far_ hw292_1 GW180.out _).trans (hHeld.2.1)))))))))))), ((far_ hw292_2 GW180.out _).trans (((far_ hw292_2 GW180.out _).trans (((far_ hw292_2 GW180.out _).trans (((far_ hw292_2 GW180.out _).trans (((far_ hw292_2 GW180.out _).trans (((far_ hw292_2 GW180.out _).trans (hHeld.2.2.1)))))))))))), ((far_ hw292_3 GW180.out _).trans (((far_ hw292_3 GW180.out _).trans (((far_ hw292_3 GW180.out _).trans (((far_ hw292_3 GW180.out _).trans (((far_ hw292_3 GW180.out _).trans (((far_ hw292_3 GW180.out _).trans (hHeld.2.2.2.1)))))))))))), ((far_ hw292_4 GW180.out _).trans (((far_ hw292_4 GW180.out _).trans (((far_ hw292_4 GW180.out _).trans (((far_ hw292_4 GW180.out _).trans (((far_ hw292_4 GW180.out _).trans (((far_ hw292_4 GW180.out _).trans (hHeld.2.2.2.2.1)))))))))))), ((far_ hw292_5 GW180.out _).trans (((far_ hw292_5 GW180.out _).trans (((far_ hw292_5 GW180.out _).trans (((far_ hw292_5 GW180.out _).trans (((far_ hw292_5 GW180.out _).trans (((far_ hw292_5 GW180.out _).trans (hHeld.2.2.2.2.2.1)))))))))))), ((far_ hw294_0 GW180.out _).trans (((far_ hw294_0 GW180.out _).trans (((far_ hw294_0 GW180.out _).trans (((far_ hw294_0 GW180.out _).trans (((far_ hw294_0 GW180.out _).trans (((far_ hw294_0 GW180.out _).trans (hHeld.2.2.2.2.2.2.1)))))))))))), ((far_ hw294_1 GW180.out _).trans (((far_ hw294_1 GW180.out _).trans (((far_ hw294_1 GW180.out _).trans (((far_ hw294_1 GW180.out _).trans (((far_ hw294_1 GW180.out _).trans (((far_ hw294_1 GW180.out _).trans (hHeld.2.2.2.2.2.2.2.1)))))))))))), ((far_ hw294_2 GW180.out _).trans (((far_ hw294_2 GW180.out _).trans (((far_ hw294_2 GW180.out _).trans (((far_ hw294_2 GW180.out _).trans (((far_ hw294_2 GW180.out _).trans (((far_ hw294_2 GW180.out _).trans (hHeld.2.2.2.2.2.2.2.2.1)))))))))))), ((far_ hw294_3 GW180.out _).trans (((far_ hw294_3 GW180.out _).trans (((far_ hw294_3 GW180.out _).trans (((far_ hw294_3 GW180.out _).trans (((far_ hw294_3 GW180.out _).trans (((far_ hw294_3 GW180.out _).trans (hHeld.2.2.2.2.2.2.2.2.2.1)))))))))))), ((far_ hw294_4 GW180.out _).trans (((far_ hw294_4 GW180.out _).trans (((far_ hw294_4 GW180.out _).trans (((far_ hw294_4 GW180.out _).trans (((far_ hw294_4 GW180.out _).trans (((far_ hw294_4 GW180.out _).trans (hHeld.2.2.2.2.2.2.2.2.2.2.1)))))))))))), ((far_ hw294_5 GW180.out _).trans (((far_ hw294_5 GW180.out _).trans (((far_ hw294_5 GW180.out _).trans (((far_ hw294_5 GW180.out _).trans (((far_ hw294_5 GW180.out _).trans (((far_ hw294_5 GW180.out _).trans (hHeld.2.2.2.2.2.2.2.2.2.2.2))))))))))))⟩ (fun hHeld => ?_)
                    clear hK K
                    refine pure_ (i := 11) (N := some 7) (v := ?_) (a' := ?_) #[true, true, true, true, true, true, true, true, true, true, true, true] rfl rfl (any_of HT_.out (by kernel_rfl)) (fun _ _ _ h => h) (Or.inl ⟨by rfl, ?_⟩) ?_ ?_
                    rotate_left
                    ·intro w'
                     go_simp
                     with_reducible rfl
                    rotate_left
                    ·simp only [Act.put, List.setIfInBounds_toArray, List.set_cons_zero, List.set_cons_succ, i64_w, i32_w]
                     rfl
                    refine done_ (done_of HT_.out (by kernel_rfl)) ?_
                    try go_wp2
                    refine bodyPost_ret (results_ct rfl _ _ gb180 49 #[.int .i64 t297, .bool t298, .int .i64 t299, .bool t300, .string t301, .slice Ao145 t302.length co145] (0, 0) _ rfl (by (with_reducible repeat (first | refine blk_drewN ?_ _ | refine blk_drew ?_ | refine blk_alloc ?_ _)); refine blk_put (cs := #[.int .i64 t297, .bool t298, .int .i64 t299, .bool t300, .string t301, .slice none 0 0]) ?_ 5 _ rfl; (with_reducible repeat (first | refine blk_drewN ?_ _ | refine blk_drew ?_ | refine blk_alloc ?_ _)); refine blk_put (cs := #[.int .i64 t297, .bool t298, .int .i64 t299, .bool t300, .string x181004_1, .slice none 0 0]) ?_ 4 _ rfl; (with_reducible repeat (first | refine blk_drewN ?_ _ | refine blk_drew ?_ | refine blk_alloc ?_ _)); refine blk_put (cs := #[.int .i64 t297, .bool t298, .int .i64 t299, .bool x181003_1, .string x181004_1, .slice none 0 0]) ?_ 3 _ rfl; (with_reducible repeat (first | refine blk_drewN ?_ _ | refine blk_drew ?_ | refine blk_alloc ?_ _)); refine blk_put (cs := #[.int .i64 t297, .bool t298, .int .i64 x181002_1, .bool x181003_1, .string x181004_1, .slice none 0 0]) ?_ 2 _ rfl; (with_reducible repeat (first | refine blk_drewN ?_ _ | refine blk_drew ?_ | refine blk_alloc ?_ _)); refine blk_put (cs := #[.int .i64 t297, .bool x181001_1, .int .i64 x181002_1, .bool x181003_1, .string x181004_1, .slice none 0 0]) ?_ 1 _ rfl; (with_reducible repeat (first | refine blk_drewN ?_ _ | refine blk_drew ?_ | refine blk_alloc ?_ _)); refine blk_put (cs := #[.int .i64 x181000_1, .bool x181001_1, .int .i64 x181002_1, .bool x181003_1, .string x181004_1, .slice none 0 0]) ?_ 0 _ rfl; (with_reducible repeat (first | refine blk_drewN ?_ _ | refine blk_drew ?_ | refine blk_alloc ?_ _)); exact BK180.out) Tryd.underlying49 rfl (by kernel_rfl)) rfl ?_
                    exact ⟨_, er_, by (with_reducible repeat (first | apply Kd.R_alloc | apply Kd.R_drewN | apply Kd.R_drew)); exact Kd.R_mono (Kd.R_far (p := ⟨gb180, 5, none⟩) (Kd.R_far (p := ⟨gb180, 4, none⟩) (Kd.R_far (p := ⟨gb180, 3, none⟩) (Kd.R_far (p := ⟨gb180, 2, none⟩) (Kd.R_far (p := ⟨gb180, 1, none⟩) (Kd.R_far (p := ⟨gb180, 0, none⟩) (Kd.R_types HO304.out BK180.out (by decide)) (fun _ hk => hk.2) (.int .i64 t297)) (fun _ hk => hk.2) (.bool t298)) (fun _ hk => hk.2) (.int .i64 t299)) (fun _ hk => hk.2) (.bool t300)) (fun _ hk => hk.2) (.string t301)) (fun _ hk => hk.2) (.slice Ao145 t302.length co145)) (fun _ hk => trivial), by repeat (first | (with_reducible first | exact HB.out | apply below_alloc | apply pw_below_drewN | apply below_drew1 | refine below_set ?_ GE179.out | refine below_set ?_ GE180.out) | exact HB.out)⟩
                   ·rw [if_neg c132] at H
                    exact absurd H (by simp)
                  ·rw [if_neg c130] at H
                   exact absurd H (by simp)
 ·rw [if_neg c5] at H
  have c5b0 : (t181 == (l2.length : Int)) = false := beq_eq_false_iff_ne.mpr c5
  have c5b1 : (t181 != (l2.length : Int)) = true := bne_iff_ne.mpr c5
  simp only [Option.some.injEq, Prod.mk.injEq] at H
  obtain ⟨rfl, rfl, rfl, rfl, rfl, rfl, rfl⟩ := H
  go_enter Tryd.func44, Tryd.ntmps44
  go_wp2_with (first | ((with_reducible refine gate_dst (N := 4) rfl ?_); refine box_event ?hg (N := 4) ?hd (cs := #[.int .i64 a1_0, .int .i64 a1_1, .string a1_2, .string a1_3, .slice A1_4 l1_4.length c1_4]) (t := 61) ?hr ?_; (case hd => rfl); (case hg => rfl); (case hr => first | (go_simp; done) | (go_simp; rfl)); intro gb179 hg w147 hbox hb; have n0_ := Aside0.mk (below_step hb_ hb); have n1_ := Aside0.mk (hbox); have n2_ := Aside0.mk ((by rw [hg]; exact (below_size hb_) : w.heap.size ≤ gb179)); have n3_ := Aside0.mk ((by rw [hg]; exact (below_size hb_) : w.heap.size ≤ gb179)); clear HB; have HB := n0_; have BK179 := n1_; have GW179 := n2_; have GE179 := n3_; clear n0_ n1_ n2_ n3_; clear hb hbox hg) | ((with_reducible refine gate_dst (N := 6) rfl ?_); refine box_event ?hg (N := 6) ?hd (cs := #[.int .i64 0, .bool false, .int .i64 0, .bool false, .string (⟨#[]⟩ : ByteArray), .slice none 0 0]) (t := 49) ?hr ?_; (case hd => rfl); (case hg => rfl); (case hr => first | (go_simp; done) | (go_simp; rfl)); intro gb180 hg w148 hbox hb; have n0_ := Aside0.mk (blk_below (g := gb179) (o := .cells #[.int .i64 a1_0, .int .i64 a1_1, .string a1_2, .string a1_3, .slice A1_4 l1_4.length c1_4] 61 (0, 0)) (bk_ BK179.out) hb); have n1_ := Aside0.mk (below_step (by repeat (first | (with_reducible first | exact HB.out | apply below_alloc | apply pw_below_drewN | apply below_drew1 | refine below_set ?_ GE179.out) | exact HB.out)) hb); have n2_ := Aside0.mk (hbox); have n3_ := Aside0.mk ((by rw [hg]; exact (below_size (by repeat (first | (with_reducible first | exact HB.out | apply below_alloc | apply pw_below_drewN | apply below_drew1 | refine below_set ?_ GE179.out) | exact HB.out))) : w.heap.size ≤ gb180)); have n4_ := Aside0.mk ((by rw [hg]; exact (below_size (by repeat (first | (with_reducible first | exact HB.out | apply below_alloc | apply pw_below_drewN | apply below_drew1 | refine below_set ?_ GE179.out) | exact HB.out))) : w.heap.size ≤ gb180)); have n5_ := Aside0.mk ((by rw [hg]; exact Nat.ne_of_lt (blk_lt (g := gb179) (o := .cells #[.int .i64 a1_0, .int .i64 a1_1, .string a1_2, .string a1_3, .slice A1_4 l1_4.length c1_4] 61 (0, 0)) (bk_ BK179.out)) : gb179 ≠ gb180)); have n6_ := Aside0.mk ((by rw [hg]; exact Nat.ne_of_gt (blk_lt (g := gb179) (o := .cells #[.int .i64 a1_0, .int .i64 a1_1, .string a1_2, .string a1_3, .slice A1_4 l1_4.length c1_4] 61 (0, 0)) (bk_ BK179.out)) : gb180 ≠ gb179)); clear BK179; clear HB; have BK179 := n0_; have HB := n1_; have BK180 := n2_; have GW180 := n3_; have GE180 := n4_; have NB179_180 := n5_; have NB180_179 := n6_; clear n0_ n1_ n2_ n3_ n4_ n5_ n6_; clear hb hbox hg) | ((with_reducible refine gate_callee (f := 70) rfl ?_); refine goesL_ (some 14) rfl rfl Tryd.func70 (by kernel_rfl) rfl #[.string a0] rfl rf_ ?_; (with_reducible refine (value_takes.calls k a0 t181 _ A4.out).mono ?_); rintro e w' ⟨rfl, ⟨nd, rfl⟩⟩; refine ⟨_, rfl, ?_⟩; (try (rw [drewN_self w148]; generalize hq_ : World.drewN w148 _ = w148; have n0_ : Aside0 (w148.heap[gb179]? = some (.cells #[.int .i64 a1_0, .int .i64 a1_1, .string a1_2, .string a1_3, .slice A1_4 l1_4.length c1_4] 61 (0, 0))) := ⟨by rw [← hq_]; exact (bk_ BK179.out)⟩; have n1_ : Aside0 (w148.heap[gb180]? = some (.cells #[.int .i64 0, .bool false, .int .i64 0, .bool false, .string (⟨#[]⟩ : ByteArray), .slice none 0 0] 49 (0, 0))) := ⟨by rw [← hq_]; exact (bk_ BK180.out)⟩; have n2_ : Aside0 (Below w.heap.size w w148) := ⟨by rw [← hq_]; exact (by repeat (first | (with_reducible first | exact HB.out | apply below_alloc | apply pw_below_drewN | apply below_drew1 | refine below_set ?_ GE179.out | refine below_set ?_ GE180.out) | exact HB.out))⟩; clear BK179 BK180 HB hq_; have BK179 := n0_; have BK180 := n1_; have HB := n2_; clear n0_ n1_ n2_)); have hnb149 := NB180_179.out; have hnc149 := NB179_180.out; have hcz150_0 : w148.cell? ⟨gb180, 0, none⟩ = some (.int .i64 0) := (blk_cell BK180.out 0).trans rfl; have hcz150_1 : w148.cell? ⟨gb180, 1, none⟩ = some (.bool false) := (blk_cell BK180.out 1).trans rfl; have hcz150_2 : w148.cell? ⟨gb180, 2, none⟩ = some (.int .i64 0) := (blk_cell BK180.out 2).trans rfl; have hcz150_3 : w148.cell? ⟨gb180, 3, none⟩ = some (.bool false) := (blk_cell BK180.out 3).trans rfl; have hcz150_4 : w148.cell? ⟨gb180, 4, none⟩ = some (.string (⟨#[]⟩ : ByteArray)) := (blk_cell BK180.out 4).trans rfl; have hcz150_5 : w148.cell? ⟨gb180, 5, none⟩ = some (.slice none 0 0) := (blk_cell BK180.out 5).trans rfl; have hfz150_0 := blk_frozen BK180.out 0; have hfz150_1 := blk_frozen BK180.out 1; have hfz150_2 := blk_frozen BK180.out 2; have hfz150_3 := blk_frozen BK180.out 3; have hfz150_4 := blk_frozen BK180.out 4; have hfz150_5 := blk_frozen BK180.out 5))
  refine bodyPost_ret (results_ct rfl _ _ gb180 49 #[.int .i64 0, .bool false, .int .i64 0, .bool false, .string (⟨#[]⟩ : ByteArray), .slice none 0 0] (0, 0) _ rfl (by (with_reducible repeat (first | refine blk_drewN ?_ _ | refine blk_drew ?_ | refine blk_alloc ?_ _)); refine blk_put (cs := #[.int .i64 0, .bool false, .int .i64 0, .bool false, .string (⟨#[]⟩ : ByteArray), .slice none 0 0]) ?_ 5 _ rfl; (with_reducible repeat (first | refine blk_drewN ?_ _ | refine blk_drew ?_ | refine blk_alloc ?_ _)); refine blk_put (cs := #[.int .i64 0, .bool false, .int .i64 0, .bool false, .string (⟨#[]⟩ : ByteArray), .slice none 0 0]) ?_ 4 _ rfl; (with_reducible repeat (first | refine blk_drewN ?_ _ | refine blk_drew ?_ | refine blk_alloc ?_ _)); refine blk_put (cs := #[.int .i64 0, .bool false, .int .i64 0, .bool false, .string (⟨#[]⟩ : ByteArray), .slice none 0 0]) ?_ 3 _ rfl; (with_reducible repeat (first | refine blk_drewN ?_ _ | refine blk_drew ?_ | refine blk_alloc ?_ _)); refine blk_put (cs := #[.int .i64 0, .bool false, .int .i64 0, .bool false, .string (⟨#[]⟩ : ByteArray), .slice none 0 0]) ?_ 2 _ rfl; (with_reducible repeat (first | refine blk_drewN ?_ _ | refine blk_drew ?_ | refine blk_alloc ?_ _)); refine blk_put (cs := #[.int .i64 0, .bool false, .int .i64 0, .bool false, .string (⟨#[]⟩ : ByteArray), .slice none 0 0]) ?_ 1 _ rfl; (with_reducible repeat (first | refine blk_drewN ?_ _ | refine blk_drew ?_ | refine blk_alloc ?_ _)); refine blk_put (cs := #[.int .i64 0, .bool false, .int .i64 0, .bool false, .string (⟨#[]⟩ : ByteArray), .slice none 0 0]) ?_ 0 _ rfl; (with_reducible repeat (first | refine blk_drewN ?_ _ | refine blk_drew ?_ | refine blk_alloc ?_ _)); exact BK180.out) Tryd.underlying49 rfl (by kernel_rfl)) rfl ?_
  exact ⟨_, er_, by first | exact Kd.R_nil _ _ _ _ _ | exact Kd.N_nil _ _ _ _ _ | exact Kd.V_nil _ _ _ _ _ | exact Kd.Q_nil _ _ _ _ _ | exact Kd.S_nil _ _ _ _ _, by repeat (first | (with_reducible first | exact HB.out | apply below_alloc | apply pw_below_drewN | apply below_drew1 | refine below_set ?_ GE179.out | refine below_set ?_ GE180.out) | exact HB.out)⟩

end Go.Proofs.YtnkjchcaonaifaaDoor.PA
