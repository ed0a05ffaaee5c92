-- Written by a program of this session (wip/tools/xprint.py: the kit's print, with given functions). Not trusted: Lean checks it.
-- squeezed
import Derived.Test.YtnkjchcaonaifaaGreatDoorPA0
import Derived.Test.YtnkjchcaonaifaaGreatDoorPA9
import Derived.Test.YtnkjchcaonaifaaGreatDoorPA10
import Derived.Test.YtnkjchcaonaifaaGreatDoorPA12
import Derived.Test.YtnkjchcaonaifaaGreatDoorPA13
namespace Go.Proofs.YtnkjchcaonaifaaGreatDoor.PA
open Go.RowKit Go.Proofs.YtnkjchcaonaifaaGreatDoorW.PrintWords Go.Proofs.YtnkjchcaonaifaaGreatDoorW.PrintLast Go.Proofs.YtnkjchcaonaifaaGreatDoorW.PrintMore
attribute [local go_sem] max2_int min2_int max_two min_two max_three min_three max_four min_four   -- for this text's walks alone
set_option linter.unusedVariables false
set_option linter.unusedSimpArgs false

/-! ### espalierref14_Call: function 9 -/
mutual
def espalierref14_Call.j0 : Nat → ByteArray → List (S28) → ByteArray → Bool → Int → Int → ByteArray → ByteArray → List (S146) → Option (Int × Bool × Int × Bool × ByteArray × List ByteArray)
 | 0, _, _, _, _, _, _, _, _, _ => none
 | k + 1, x0, x2, x10, x11, x379000, x379001, x379002, x379003, x379004 => if x11 = true then ((espalierref14_truth.f (x0.toList == ([116, 114, 117, 101] : List UInt8))).bind fun bt380 => (some (bt380.1, bt380.2.1, bt380.2.2.1, bt380.2.2.2.1, bt380.2.2.2.2.1, bt380.2.2.2.2.2))) else (if x10.toList = ([112, 111, 115, 105, 116, 105, 111, 110] : List UInt8) then ((espalierref14_number.f true x379000).bind fun bt388 => (some (bt388.1, bt388.2.1, bt388.2.2.1, bt388.2.2.2.1, bt388.2.2.2.2.1, bt388.2.2.2.2.2))) else (if x10.toList = ([108, 97, 115, 116] : List UInt8) then ((espalierref14_number.f true x379001).bind fun bt396 => (some (bt396.1, bt396.2.1, bt396.2.2.1, bt396.2.2.2.1, bt396.2.2.2.2.1, bt396.2.2.2.2.2))) else (if x10.toList = ([110, 97, 109, 101] : List UInt8) then ((espalierref14_said.f x379002).bind fun bt404 => (some (bt404.1, bt404.2.1, bt404.2.2.1, bt404.2.2.2.1, bt404.2.2.2.2.1, bt404.2.2.2.2.2))) else (if x10.toList = ([110, 111, 116] : List UInt8) then (if 0 < (x2.length : Int) then ((espalierref14_Bool.f ((rd_T28 x2 0).f0) ((rd_T28 x2 0).f1) ((rd_T28 x2 0).f2) ((rd_T28 x2 0).f3) ((rd_T28 x2 0).f4) ((rd_T28 x2 0).f5)).bind fun t413 => ((espalierref14_truth.f (!t413)).bind fun bt414 => (some (bt414.1, bt414.2.1, bt414.2.2.1, bt414.2.2.2.1, bt414.2.2.2.2.1, bt414.2.2.2.2.2)))) else (none)) else (if x10.toList = ([99, 111, 117, 110, 116] : List UInt8) then (if 0 < (x2.length : Int) then ((espalierref14_number.f (((rd_T28 x2 0).f0) == 4) (((rd_T28 x2 0).f5).length : Int)).bind fun bt424 => (some (bt424.1, bt424.2.1, bt424.2.2.1, bt424.2.2.2.1, bt424.2.2.2.2.1, bt424.2.2.2.2.2))) else (none)) else (if x10.toList = ([115, 116, 114, 105, 110, 103] : List UInt8) then (if 0 < (x2.length : Int) then ((espalierref14_Text.f k ((rd_T28 x2 0).f0) ((rd_T28 x2 0).f1) ((rd_T28 x2 0).f2) ((rd_T28 x2 0).f3) ((rd_T28 x2 0).f4) ((rd_T28 x2 0).f5)).bind fun t433 => ((espalierref14_said.f t433).bind fun bt434 => (some (bt434.1, bt434.2.1, bt434.2.2.1, bt434.2.2.2.1, bt434.2.2.2.2.1, bt434.2.2.2.2.2)))) else (none)) else (if x10.toList = ([110, 117, 109, 98, 101, 114] : List UInt8) then (if 0 < (x2.length : Int) then ((espalierref14_Number.f k ((rd_T28 x2 0).f0) ((rd_T28 x2 0).f1) ((rd_T28 x2 0).f2) ((rd_T28 x2 0).f3) ((rd_T28 x2 0).f4) ((rd_T28 x2 0).f5)).bind fun bt443 => ((espalierref14_number.f bt443.1 bt443.2).bind fun bt445 => (some (bt445.1, bt445.2.1, bt445.2.2.1, bt445.2.2.2.1, bt445.2.2.2.2.1, bt445.2.2.2.2.2)))) else (none)) else (if x10.toList = ([115, 117, 109] : List UInt8) then (if 0 < (x2.length : Int) then ((espalierref14_sum.f k ((rd_T28 x2 0).f0) ((rd_T28 x2 0).f1) ((rd_T28 x2 0).f2) ((rd_T28 x2 0).f3) ((rd_T28 x2 0).f4) ((rd_T28 x2 0).f5)).bind fun bt454 => ((espalierref14_number.f bt454.1 bt454.2).bind fun bt456 => (some (bt456.1, bt456.2.1, bt456.2.2.1, bt456.2.2.2.1, bt456.2.2.2.2.1, bt456.2.2.2.2.2)))) else (none)) else (if x10.toList = ([108, 101, 110, 103, 116, 104] : List UInt8) then (if 0 < (x2.length : Int) then ((espalierref14_Text.f k ((rd_T28 x2 0).f0) ((rd_T28 x2 0).f1) ((rd_T28 x2 0).f2) ((rd_T28 x2 0).f3) ((rd_T28 x2 0).f4) ((rd_T28 x2 0).f5)).bind fun t465 => ((espalierref02_Chars.f k t465).bind fun t466 => ((espalierref14_number.f true (t466.length : Int)).bind fun bt469 => (some (bt469.1, bt469.2.1, bt469.2.2.1, bt469.2.2.2.1, bt469.2.2.2.2.1, bt469.2.2.2.2.2))))) else (none)) else (if x10.toList = ([115, 116, 97, 114, 116, 115] : List UInt8) then (if 0 < (x2.length : Int) then ((espalierref14_Text.f k ((rd_T28 x2 0).f0) ((rd_T28 x2 0).f1) ((rd_T28 x2 0).f2) ((rd_T28 x2 0).f3) ((rd_T28 x2 0).f4) ((rd_T28 x2 0).f5)).bind fun t478 => (if 1 < (x2.length : Int) then ((espalierref14_Text.f k ((rd_T28 x2 1).f0) ((rd_T28 x2 1).f1) ((rd_T28 x2 1).f2) ((rd_T28 x2 1).f3) ((rd_T28 x2 1).f4) ((rd_T28 x2 1).f5)).bind fun t480 => ((espalierref14_has.f t478 t480 0).bind fun t481 => ((espalierref14_truth.f t481).bind fun bt482 => (some (bt482.1, bt482.2.1, bt482.2.2.1, bt482.2.2.2.1, bt482.2.2.2.2.1, bt482.2.2.2.2.2))))) else (none))) else (none)) else (if 0 < (x2.length : Int) then ((espalierref14_Text.f k ((rd_T28 x2 0).f0) ((rd_T28 x2 0).f1) ((rd_T28 x2 0).f2) ((rd_T28 x2 0).f3) ((rd_T28 x2 0).f4) ((rd_T28 x2 0).f5)).bind fun t491 => (if 1 < (x2.length : Int) then ((espalierref14_Text.f k ((rd_T28 x2 1).f0) ((rd_T28 x2 1).f1) ((rd_T28 x2 1).f2) ((rd_T28 x2 1).f3) ((rd_T28 x2 1).f4) ((rd_T28 x2 1).f5)).bind fun t493 => (espalierref14_Call.l0 k t491 t493 0)) else (none))) else (none))))))))))))
def espalierref14_Call.l0 : Nat → ByteArray → ByteArray → Int → Option (Int × Bool × Int × Bool × ByteArray × List ByteArray)
 | 0, _, _, _ => none
 | k + 1, x7, x8, x9 => if x9 ≤ (x7.size : Int) then ((espalierref14_has.f x7 x8 x9).bind fun t502 => (if t502 = true then ((espalierref14_truth.f true).bind fun bt503 => (some (bt503.1, bt503.2.1, bt503.2.2.1, bt503.2.2.2.1, bt503.2.2.2.2.1, bt503.2.2.2.2.2))) else (espalierref14_Call.l0 k x7 x8 (wrap64 (x9 + 1))))) else ((espalierref14_truth.f false).bind fun bt494 => (some (bt494.1, bt494.2.1, bt494.2.2.1, bt494.2.2.2.1, bt494.2.2.2.2.1, bt494.2.2.2.2.2)))
end
def espalierref14_Call.f (k : Nat) (a0 : ByteArray) (a1_0 : Int) (a1_1 : Int) (a1_2 : ByteArray) (a1_3 : ByteArray) (l1_4 : List (S146)) (l2 : List (S28)) : Option (Int × Bool × Int × Bool × ByteArray × List ByteArray) := if a0.toList = ([116, 114, 117, 101] : List UInt8) then (espalierref14_Call.j0 k a0 l2 a0 (a0.toList == ([116, 114, 117, 101] : List UInt8)) a1_0 a1_1 a1_2 a1_3 l1_4) else (espalierref14_Call.j0 k a0 l2 a0 (a0.toList == ([102, 97, 108, 115, 101] : List UInt8)) a1_0 a1_1 a1_2 a1_3 l1_4)
theorem espalierref14_Call.mono_l : ∀ k, (∀ y0 y1 y2 y3 y4 y5 y6 y7 y8, LeO (espalierref14_Call.j0 k y0 y1 y2 y3 y4 y5 y6 y7 y8) (espalierref14_Call.j0 (k + 1) y0 y1 y2 y3 y4 y5 y6 y7 y8)) ∧ (∀ y0 y1 y2, LeO (espalierref14_Call.l0 k y0 y1 y2) (espalierref14_Call.l0 (k + 1) y0 y1 y2))
 | 0 => ⟨fun _ _ _ _ _ _ _ _ _ r h => by simp [espalierref14_Call.j0] at h, fun _ _ _ r h => by simp [espalierref14_Call.l0] at h⟩
 | k + 1 => by
  obtain ⟨ih0, ih1⟩ := espalierref14_Call.mono_l k
  refine ⟨?_, ?_⟩
  ·intro y0 y1 y2 y3 y4 y5 y6 y7 y8
   unfold espalierref14_Call.j0
   repeat' first
   | (with_reducible exact ih0 _ _ _ _ _ _ _ _ _)
   | (with_reducible exact ih1 _ _ _)
   | (with_reducible exact espalierref02_Chars.mono _ _)
   | (with_reducible exact espalierref14_Number.mono _ _ _ _ _ _ _)
   | (with_reducible exact espalierref14_Text.mono _ _ _ _ _ _ _)
   | (with_reducible exact espalierref14_sum.mono _ _ _ _ _ _ _)
   | (with_reducible exact LeO.refl _)
   | (with_reducible exact LeO.none _)
   | (with_reducible refine LeO.ite ?_ ?_)
   | (with_reducible refine LeO.bind ?_ (fun _ => ?_))
   | exact ih0 _ _ _ _ _ _ _ _ _
   | exact ih1 _ _ _
   | exact espalierref02_Chars.mono _ _
   | exact espalierref14_Number.mono _ _ _ _ _ _ _
   | exact espalierref14_Text.mono _ _ _ _ _ _ _
   | exact espalierref14_sum.mono _ _ _ _ _ _ _
   | exact LeO.none _
   | refine LeO.ite ?_ ?_
   | refine LeO.bind ?_ (fun _ => ?_)
  ·intro y0 y1 y2
   unfold espalierref14_Call.l0
   repeat' first
   | (with_reducible exact ih0 _ _ _ _ _ _ _ _ _)
   | (with_reducible exact ih1 _ _ _)
   | (with_reducible exact espalierref02_Chars.mono _ _)
   | (with_reducible exact espalierref14_Number.mono _ _ _ _ _ _ _)
   | (with_reducible exact espalierref14_Text.mono _ _ _ _ _ _ _)
   | (with_reducible exact espalierref14_sum.mono _ _ _ _ _ _ _)
   | (with_reducible exact LeO.refl _)
   | (with_reducible exact LeO.none _)
   | (with_reducible refine LeO.ite ?_ ?_)
   | (with_reducible refine LeO.bind ?_ (fun _ => ?_))
   | exact ih0 _ _ _ _ _ _ _ _ _
   | exact ih1 _ _ _
   | exact espalierref02_Chars.mono _ _
   | exact espalierref14_Number.mono _ _ _ _ _ _ _
   | exact espalierref14_Text.mono _ _ _ _ _ _ _
   | exact espalierref14_sum.mono _ _ _ _ _ _ _
   | exact LeO.none _
   | refine LeO.ite ?_ ?_
   | refine LeO.bind ?_ (fun _ => ?_)
theorem espalierref14_Call.mono : ∀ a0 a1 a2 a3 a4 a5 a6 k, LeO (espalierref14_Call.f k a0 a1 a2 a3 a4 a5 a6) (espalierref14_Call.f (k + 1) a0 a1 a2 a3 a4 a5 a6) := by
 intro a0 a1 a2 a3 a4 a5 a6 k
 obtain ⟨ih0, ih1⟩ := espalierref14_Call.mono_l k
 unfold espalierref14_Call.f
 repeat' first
   | (with_reducible exact ih0 _ _ _ _ _ _ _ _ _)
   | (with_reducible exact ih1 _ _ _)
   | (with_reducible exact espalierref02_Chars.mono _ _)
   | (with_reducible exact espalierref14_Number.mono _ _ _ _ _ _ _)
   | (with_reducible exact espalierref14_Text.mono _ _ _ _ _ _ _)
   | (with_reducible exact espalierref14_sum.mono _ _ _ _ _ _ _)
   | (with_reducible exact LeO.refl _)
   | (with_reducible exact LeO.none _)
   | (with_reducible refine LeO.ite ?_ ?_)
   | (with_reducible refine LeO.bind ?_ (fun _ => ?_))
   | exact ih0 _ _ _ _ _ _ _ _ _
   | exact ih1 _ _ _
   | exact espalierref02_Chars.mono _ _
   | exact espalierref14_Number.mono _ _ _ _ _ _ _
   | exact espalierref14_Text.mono _ _ _ _ _ _ _
   | exact espalierref14_sum.mono _ _ _ _ _ _ _
   | exact LeO.none _
   | refine LeO.ite ?_ ?_
   | refine LeO.bind ?_ (fun _ => ?_)
def espalierref14_Call.T14 : Bool × List (List Nat × List Nat) := (true, [([], []), ([0], [0]), ([1], [1]), ([2], [2]), ([3], [3]), ([], []), ([5], [5]), ([6], [6]), ([7], [7]), ([8], [8]), ([4, 9], [4, 9]), ([10], [10]), ([11, 11, 0, 1, 2, 3, 4, 5, 6, 7, 8, 9, 10, 11], [11])])
def espalierref14_Call.B14 : List Nat := [0, 1, 3, 7, 15, 0, 32, 96, 224, 480, 1023, 2047, 4095]
theorem espalierref14_Call.tab14 : rtab .any (opsOf Tryz.f9 14) = espalierref14_Call.T14 := by kernel_rfl
theorem espalierref14_Call.bits14 : waitsOk espalierref14_Call.T14.2 espalierref14_Call.B14 = true := by kernel_rfl
def espalierref14_Call.T24 : Bool × List (List Nat × List Nat) := (true, [([], []), ([0], [0]), ([1], [1]), ([2], [2]), ([], []), ([4], [4]), ([5], [5]), ([6, 3], [6]), ([3, 7, 7], [3, 7]), ([8, 8], [8]), ([9, 9, 0, 1, 2, 3, 4, 5, 6, 7, 8, 9], [9])])
def espalierref14_Call.B24 : List Nat := [0, 1, 3, 7, 0, 16, 48, 127, 255, 511, 1023]
theorem espalierref14_Call.tab24 : rtab .any (opsOf Tryz.f9 24) = espalierref14_Call.T24 := by kernel_rfl
theorem espalierref14_Call.bits24 : waitsOk espalierref14_Call.T24.2 espalierref14_Call.B24 = true := by kernel_rfl
def espalierref14_Call.T25 : Bool × List (List Nat × List Nat) := (true, [([], []), ([0], [0]), ([1], [1]), ([2], [2]), ([], []), ([4], [4]), ([5], [5]), ([6, 3], [6]), ([3, 7, 0, 1, 2, 3], [3]), ([7, 8, 0, 1, 2, 3, 4, 5, 6, 7, 8], [7])])
def espalierref14_Call.B25 : List Nat := [0, 1, 3, 7, 0, 16, 48, 127, 255, 511]
theorem espalierref14_Call.tab25 : rtab .any (opsOf Tryz.f9 25) = espalierref14_Call.T25 := by kernel_rfl
theorem espalierref14_Call.bits25 : waitsOk espalierref14_Call.T25.2 espalierref14_Call.B25 = true := by kernel_rfl
set_option maxHeartbeats 8000000 in
set_option maxRecDepth 100000 in
theorem espalierref14_Call.calls (k : Nat) (a0 : ByteArray) (a1_0 : Int) (a1_1 : Int) (a1_2 : ByteArray) (a1_3 : ByteArray) (A1_4 : Option Addr) (c1_4 : Nat) (l1_4 : List (S146)) (A2 : Option Addr) (c2 : Nat) (l2 : List (S28)) (r1 : Int) (r2 : Bool) (r3 : Int) (r4 : Bool) (r5 : ByteArray) (r6 : List ByteArray) (w : World) (hr1_4 : Kd.C k146 w A1_4 l1_4.length l1_4) (hc1_4 : l1_4.length ≤ c1_4) (hr2 : Kd.C k28 w A2 l2.length l2) (hc2 : l2.length ≤ c2) (h : espalierref14_Call.f k a0 a1_0 a1_1 a1_2 a1_3 l1_4 l2 = some (r1, r2, r3, r4, r5, r6)) :
  Calls Tryz.prog 9 #[.string a0, .agg #[.int .i64 a1_0, .int .i64 a1_1, .string a1_2, .string a1_3, .slice A1_4 l1_4.length c1_4], .slice A2 l2.length c2] w fun e w' => ∃ v5_ : Value, e = .returned (.agg #[.int .i64 r1, .bool r2, .int .i64 r3, .bool r4, .string r5, v5_]) ∧ Kd.R Kd.string 9 w' w.heap.size (fun _ => True) v5_ r6 ∧ Below w.heap.size w w' := by
 have hu24 := Tryz.underlying24
 have hu28 := Tryz.underlying28
 have hu42 := Tryz.underlying42
 have HR1_4 := Aside0.mk hr1_4
 have HC1_4 := Aside0.mk hc1_4
 clear hr1_4 hc1_4
 have HR2 := Aside0.mk hr2
 have HC2 := Aside0.mk hc2
 clear hr2 hc2
 have HB := Aside0.mk (Below.refl w.heap.size w)
 have H : (if a0.toList = ([116, 114, 117, 101] : List UInt8) then (espalierref14_Call.j0 k a0 l2 a0 (a0.toList == ([116, 114, 117, 101] : List UInt8)) a1_0 a1_1 a1_2 a1_3 l1_4) else (espalierref14_Call.j0 k a0 l2 a0 (a0.toList == ([102, 97, 108, 115, 101] : List UInt8)) a1_0 a1_1 a1_2 a1_3 l1_4)) = some (r1, r2, r3, r4, r5, r6) := h
 clear h
 have HC4 := Aside0.mk H
 clear H
 go_enter Tryz.func9, Tryz.ntmps9
 go_upto_if 11 with (first | ((with_reducible refine gate_dst (N := 4) rfl ?_); refine box_event ?hg (N := 4) ?hd (cs := #[.int .i64 a1_0, .int .i64 a1_1, .string a1_2, .string a1_3, .slice A1_4 l1_4.length c1_4]) (t := 24) ?hr ?_; (case hd => rfl); (case hg => rfl); (case hr => first | (go_simp; done) | (go_simp; rfl)); intro gb378 hg w5 hbox hb; have n0_ := Aside0.mk (below_step hb_ hb); have n1_ := Aside0.mk (hbox); have n2_ := Aside0.mk ((by rw [hg]; exact (below_size hb_) : w.heap.size ≤ gb378)); have n3_ := Aside0.mk ((by rw [hg]; exact (below_size hb_) : w.heap.size ≤ gb378)); clear HB; have HB := n0_; have BK378 := n1_; have GW378 := n2_; have GE378 := n3_; clear n0_ n1_ n2_ n3_; clear hb hbox hg) | ((with_reducible refine gate_dst (N := 6) rfl ?_); refine box_event ?hg (N := 6) ?hd (cs := #[.int .i64 0, .bool false, .int .i64 0, .bool false, .string (⟨#[]⟩ : ByteArray), .slice none 0 0]) (t := 28) ?hr ?_; (case hd => rfl); (case hg => rfl); (case hr => first | (go_simp; done) | (go_simp; rfl)); intro gb379 hg w6 hbox hb; have n0_ := Aside0.mk (blk_below (g := gb378) (o := .cells #[.int .i64 a1_0, .int .i64 a1_1, .string a1_2, .string a1_3, .slice A1_4 l1_4.length c1_4] 24 (0, 0)) (bk_ BK378.out) hb); have n1_ := Aside0.mk (below_step (hb1_ GE378.out) hb); have n2_ := Aside0.mk (hbox); have n3_ := Aside0.mk ((by rw [hg]; exact (below_size (hb1_ GE378.out)) : w.heap.size ≤ gb379)); have n4_ := Aside0.mk ((by rw [hg]; exact (below_size (hb1_ GE378.out)) : w.heap.size ≤ gb379)); have n5_ := Aside0.mk ((by rw [hg]; exact Nat.ne_of_lt (blk_lt (g := gb378) (o := .cells #[.int .i64 a1_0, .int .i64 a1_1, .string a1_2, .string a1_3, .slice A1_4 l1_4.length c1_4] 24 (0, 0)) (bk_ BK378.out)) : gb378 ≠ gb379)); have n6_ := Aside0.mk ((by rw [hg]; exact Nat.ne_of_gt (blk_lt (g := gb378) (o := .cells #[.int .i64 a1_0, .int .i64 a1_1, .string a1_2, .string a1_3, .slice A1_4 l1_4.length c1_4] 24 (0, 0)) (bk_ BK378.out)) : gb379 ≠ gb378)); clear BK378; clear HB; have BK378 := n0_; have HB := n1_; have BK379 := n2_; have GW379 := n3_; have GE379 := n4_; have NB378_379 := n5_; have NB379_378 := n6_; clear n0_ n1_ n2_ n3_ n4_ n5_ n6_; clear hb hbox hg))
 (try simp only [Act.put, List.setIfInBounds_toArray, List.set_cons_zero, List.set_cons_succ])
 go_cut [11] (fun v11 wc => ∃ (kq : Nat) (x11_3 : Bool), v11 = .bool x11_3 ∧ Aside0 (espalierref14_Call.j0 kq a0 l2 a0 x11_3 a1_0 a1_1 a1_2 a1_3 l1_4 = some (r1, r2, r3, r4, r5, r6)) ∧ Aside0 (kq ≤ k) ∧ Aside0 (wc.heap[gb378]? = some (.cells #[.int .i64 a1_0, .int .i64 a1_1, .string a1_2, .string a1_3, (.slice A1_4 l1_4.length c1_4)] 24 (0, 0))) ∧ Aside0 (wc.heap[gb379]? = some (.cells #[.int .i64 0, .bool false, .int .i64 0, .bool false, .string (⟨#[]⟩ : ByteArray), (.slice none 0 0)] 28 (0, 0))) ∧ Aside0 (Below w.heap.size w wc))
 case first =>
  have H := HC4.out
  clear HC4
  by_cases c7 : a0.toList = ([116, 114, 117, 101] : List UInt8)
  ·rw [if_pos c7] at H
   have c7b0 := beq_iff_eq.mpr c7
   have c7b1 := bne_eq_false_iff_eq.mpr c7
   clear c7
   (first | rw [c7b0] | (simp only [i64_w, i32_w]; rw [c7b0]) | skip)
   have H' := Aside0.mk H
   clear H
   go_wp2
   go_meet
   case rel => exact ⟨_, ((a0.toList == ([116, 114, 117, 101] : List UInt8))), (by first | rfl | (simp; done) | (simp [*]; done)), H', ⟨by first | omega | exact Nat.le_refl _⟩, ⟨bk_ BK378.out⟩, ⟨bk_ BK379.out⟩, ⟨hb2_ GE378.out GE379.out⟩⟩
  ·rw [if_neg c7] at H
   have c7b0 := beq_eq_false_iff_ne.mpr c7
   have c7b1 := bne_iff_ne.mpr c7
   (first | rw [c7b0] | (simp only [i64_w, i32_w]; rw [c7b0]) | skip)
   have H' := Aside0.mk H
   clear H
   go_wp2
   go_meet
   case rel => exact ⟨_, ((a0.toList == ([102, 97, 108, 115, 101] : List UInt8))), (by first | rfl | (simp; done) | (simp [*]; done)), H', ⟨by first | omega | exact Nat.le_refl _⟩, ⟨bk_ BK378.out⟩, ⟨bk_ BK379.out⟩, ⟨hb2_ GE378.out GE379.out⟩⟩
 case rest =>
  clear HC4
  try clear c1
  try clear c2
  try clear p2
  try clear c7
  try clear c7b0
  try clear c7b1
  obtain ⟨kq, x11_3, rfl, HA, HJ3, BK378, BK379, HB⟩ := hcut
  cases kq with
  | zero => exact absurd HA.out (by simp [espalierref14_Call.j0])
  | succ kj3 =>
   have H := HA.out
   clear HA
   simp only [espalierref14_Call.j0] at H
   by_cases c8 : x11_3 = true
   ·subst c8
    rw [if_pos rfl] at H
    replace H := Option.bind_eq_some_iff.mp H
    obtain ⟨⟨t380, t381, t382, t383, t384, t385⟩, A90, H⟩ := H
    replace H : (some (t380, t381, t382, t383, t384, t385)) = some (r1, r2, r3, r4, r5, r6) := H
    have A9 := Aside0.mk A90
    clear A90
    simp only [Option.some.injEq, Prod.mk.injEq] at H
    obtain ⟨rfl, rfl, rfl, rfl, rfl, rfl⟩ := H
    go_wp2_with (first | ((with_reducible refine gate_callee (f := 12) rfl ?_); refine goesL_ (some 16) rfl rfl Tryz.func12 (by kernel_rfl) rfl #[.bool (a0.toList == ([116, 114, 117, 101] : List UInt8))] rfl rf_ ?_; (with_reducible refine (espalierref14_truth.calls (a0.toList == ([116, 114, 117, 101] : List UInt8)) t380 t381 t382 t383 t384 t385 _ A9.out).mono ?_); rintro e w10 ⟨v386, rfl, ho0, hb⟩; refine ⟨_, rfl, ?_⟩; have HO387 := Aside0.mk (Kd.R_lower ho0 (below_size (hb2_ GE378.out GE379.out))); replace BK378 := Aside0.mk (blk_below (g := gb378) (o := .cells #[.int .i64 a1_0, .int .i64 a1_1, .string a1_2, .string a1_3, .slice A1_4 l1_4.length c1_4] 24 (0, 0)) (bk_ BK378.out) hb); replace BK379 := Aside0.mk (blk_below (g := gb379) (o := .cells #[.int .i64 0, .bool false, .int .i64 0, .bool false, .string (⟨#[]⟩ : ByteArray), .slice none 0 0] 28 (0, 0)) (bk_ BK379.out) hb); replace HB := Aside0.mk (below_step (hb2_ GE378.out GE379.out) hb); (try clear hb); (try clear hb2); (try clear hk); (try clear hi); (try clear ho0); have hnb11 := NB379_378.out; have hnc11 := NB378_379.out; obtain ⟨hcz12_0, hcz12_1, hcz12_2, hcz12_3, hcz12_4, hcz12_5⟩ := ce6_ BK379.out; obtain ⟨hfz12_0, hfz12_1, hfz12_2, hfz12_3, hfz12_4, hfz12_5⟩ := fr6_ BK379.out; obtain ⟨Ao13, co13, eo13⟩ := Kd.R_slice HO387.out; subst eo13))
    refine bodyPost_ret (results_cell_row rfl _ _ gb379 28 #[.int .i64 t380, .bool t381, .int .i64 t382, .bool t383, .string t384, .slice Ao13 t385.length co13] (0, 0) _ rfl (bp_ BK379.out) Tryz.underlying28 rfl (by kernel_rfl)) rfl ?_
    exact ⟨_, er_, rm_ (Kd.R_types HO387.out BK379.out (by decide)) (fun _ hk => hk.2), hb2_ GE378.out GE379.out⟩
   ·replace c8 := Bool.eq_false_iff.mpr c8
    subst c8
    rw [if_neg (show ¬ (false = true) by decide)] at H
    by_cases c14 : a0.toList = ([112, 111, 115, 105, 116, 105, 111, 110] : List UInt8)
    ·rw [if_pos c14] at H
     have c14b0 := beq_iff_eq.mpr c14
     have c14b1 := bne_eq_false_iff_eq.mpr c14
     clear c14
     replace H := Option.bind_eq_some_iff.mp H
     obtain ⟨⟨t388, t389, t390, t391, t392, t393⟩, A150, H⟩ := H
     replace H : (some (t388, t389, t390, t391, t392, t393)) = some (r1, r2, r3, r4, r5, r6) := H
     have A15 := Aside0.mk A150
     clear A150
     simp only [Option.some.injEq, Prod.mk.injEq] at H
     obtain ⟨rfl, rfl, rfl, rfl, rfl, rfl⟩ := H
     have hnb16 := NB378_379.out
     have hnc16 := NB379_378.out
     obtain ⟨hcz17_0, hcz17_1, hcz17_2, hcz17_3, hcz17_4⟩ := ce5_ BK378.out
     obtain ⟨hfz17_0, hfz17_1, hfz17_2, hfz17_3, hfz17_4⟩ := fr5_ BK378.out
     go_wp2_with (first | ((with_reducible refine gate_callee (f := 13) rfl ?_); refine goesL_ (some 22) rfl rfl Tryz.func13 (by kernel_rfl) rfl #[.agg #[.bool true, .int .i64 a1_0]] rfl rf_ ?_; (with_reducible refine (espalierref14_number.calls true a1_0 t388 t389 t390 t391 t392 t393 _ A15.out).mono ?_); rintro e w18 ⟨v394, rfl, ho0, hb⟩; refine ⟨_, rfl, ?_⟩; have HO395 := Aside0.mk (Kd.R_lower ho0 (below_size (hb2_ GE378.out GE379.out))); replace BK378 := Aside0.mk (blk_below (g := gb378) (o := .cells #[.int .i64 a1_0, .int .i64 a1_1, .string a1_2, .string a1_3, .slice A1_4 l1_4.length c1_4] 24 (0, 0)) (bk_ BK378.out) hb); replace BK379 := Aside0.mk (blk_below (g := gb379) (o := .cells #[.int .i64 0, .bool false, .int .i64 0, .bool false, .string (⟨#[]⟩ : ByteArray), .slice none 0 0] 28 (0, 0)) (bk_ BK379.out) hb); replace HB := Aside0.mk (below_step (hb2_ GE378.out GE379.out) hb); (try clear hb); (try clear hb2); (try clear hk); (try clear hi); (try clear ho0); obtain ⟨hcz19_0, hcz19_1, hcz19_2, hcz19_3, hcz19_4, hcz19_5⟩ := ce6_ BK379.out; obtain ⟨hfz19_0, hfz19_1, hfz19_2, hfz19_3, hfz19_4, hfz19_5⟩ := fr6_ BK379.out; obtain ⟨Ao20, co20, eo20⟩ := Kd.R_slice HO395.out; subst eo20))
     refine bodyPost_ret (results_cell_row rfl _ _ gb379 28 #[.int .i64 t388, .bool t389, .int .i64 t390, .bool t391, .string t392, .slice Ao20 t393.length co20] (0, 0) _ rfl (bp_ BK379.out) Tryz.underlying28 rfl (by kernel_rfl)) rfl ?_
     exact ⟨_, er_, rm_ (Kd.R_types HO395.out BK379.out (by decide)) (fun _ hk => hk.2), hb2_ GE378.out GE379.out⟩
    ·rw [if_neg c14] at H
     have c14b0 := beq_eq_false_iff_ne.mpr c14
     have c14b1 := bne_iff_ne.mpr c14
     by_cases c21 : a0.toList = ([108, 97, 115, 116] : List UInt8)
     ·rw [if_pos c21] at H
      have c21b0 := beq_iff_eq.mpr c21
      have c21b1 := bne_eq_false_iff_eq.mpr c21
      clear c21
      replace H := Option.bind_eq_some_iff.mp H
      obtain ⟨⟨t396, t397, t398, t399, t400, t401⟩, A220, H⟩ := H
      replace H : (some (t396, t397, t398, t399, t400, t401)) = some (r1, r2, r3, r4, r5, r6) := H
      have A22 := Aside0.mk A220
      clear A220
      simp only [Option.some.injEq, Prod.mk.injEq] at H
      obtain ⟨rfl, rfl, rfl, rfl, rfl, rfl⟩ := H
      have hnb23 := NB378_379.out
      have hnc23 := NB379_378.out
      obtain ⟨hcz24_0, hcz24_1, hcz24_2, hcz24_3, hcz24_4⟩ := ce5_ BK378.out
      obtain ⟨hfz24_0, hfz24_1, hfz24_2, hfz24_3, hfz24_4⟩ := fr5_ BK378.out
      go_wp2_with (first | ((with_reducible refine gate_callee (f := 13) rfl ?_); refine goesL_ (some 28) rfl rfl Tryz.func13 (by kernel_rfl) rfl #[.agg #[.bool true, .int .i64 a1_1]] rfl rf_ ?_; (with_reducible refine (espalierref14_number.calls true a1_1 t396 t397 t398 t399 t400 t401 _ A22.out).mono ?_); rintro e w25 ⟨v402, rfl, ho0, hb⟩; refine ⟨_, rfl, ?_⟩; have HO403 := Aside0.mk (Kd.R_lower ho0 (below_size (hb2_ GE378.out GE379.out))); replace BK378 := Aside0.mk (blk_below (g := gb378) (o := .cells #[.int .i64 a1_0, .int .i64 a1_1, .string a1_2, .string a1_3, .slice A1_4 l1_4.length c1_4] 24 (0, 0)) (bk_ BK378.out) hb); replace BK379 := Aside0.mk (blk_below (g := gb379) (o := .cells #[.int .i64 0, .bool false, .int .i64 0, .bool false, .string (⟨#[]⟩ : ByteArray), .slice none 0 0] 28 (0, 0)) (bk_ BK379.out) hb); replace HB := Aside0.mk (below_step (hb2_ GE378.out GE379.out) hb); (try clear hb); (try clear hb2); (try clear hk); (try clear hi); (try clear ho0); obtain ⟨hcz26_0, hcz26_1, hcz26_2, hcz26_3, hcz26_4, hcz26_5⟩ := ce6_ BK379.out; obtain ⟨hfz26_0, hfz26_1, hfz26_2, hfz26_3, hfz26_4, hfz26_5⟩ := fr6_ BK379.out; obtain ⟨Ao27, co27, eo27⟩ := Kd.R_slice HO403.out; subst eo27))
      refine bodyPost_ret (results_cell_row rfl _ _ gb379 28 #[.int .i64 t396, .bool t397, .int .i64 t398, .bool t399, .string t400, .slice Ao27 t401.length co27] (0, 0) _ rfl (bp_ BK379.out) Tryz.underlying28 rfl (by kernel_rfl)) rfl ?_
      exact ⟨_, er_, rm_ (Kd.R_types HO403.out BK379.out (by decide)) (fun _ hk => hk.2), hb2_ GE378.out GE379.out⟩
     ·rw [if_neg c21] at H
      have c21b0 := beq_eq_false_iff_ne.mpr c21
      have c21b1 := bne_iff_ne.mpr c21
      by_cases c28 : a0.toList = ([110, 97, 109, 101] : List UInt8)
      ·rw [if_pos c28] at H
       have c28b0 := beq_iff_eq.mpr c28
       have c28b1 := bne_eq_false_iff_eq.mpr c28
       clear c28
       replace H := Option.bind_eq_some_iff.mp H
       obtain ⟨⟨t404, t405, t406, t407, t408, t409⟩, A290, H⟩ := H
       replace H : (some (t404, t405, t406, t407, t408, t409)) = some (r1, r2, r3, r4, r5, r6) := H
       have A29 := Aside0.mk A290
       clear A290
       simp only [Option.some.injEq, Prod.mk.injEq] at H
       obtain ⟨rfl, rfl, rfl, rfl, rfl, rfl⟩ := H
       have hnb30 := NB378_379.out
       have hnc30 := NB379_378.out
       obtain ⟨hcz31_0, hcz31_1, hcz31_2, hcz31_3, hcz31_4⟩ := ce5_ BK378.out
       obtain ⟨hfz31_0, hfz31_1, hfz31_2, hfz31_3, hfz31_4⟩ := fr5_ BK378.out
       go_wp2_with (first | ((with_reducible refine gate_callee (f := 14) rfl ?_); refine goesL_ (some 33) rfl rfl Tryz.func14 (by kernel_rfl) rfl #[.string a1_2] rfl rf_ ?_; (with_reducible refine (espalierref14_said.calls a1_2 t404 t405 t406 t407 t408 t409 _ A29.out).mono ?_); rintro e w32 ⟨v410, rfl, ho0, hb⟩; refine ⟨_, rfl, ?_⟩; have HO411 := Aside0.mk (Kd.R_lower ho0 (below_size (hb2_ GE378.out GE379.out))); replace BK378 := Aside0.mk (blk_below (g := gb378) (o := .cells #[.int .i64 a1_0, .int .i64 a1_1, .string a1_2, .string a1_3, .slice A1_4 l1_4.length c1_4] 24 (0, 0)) (bk_ BK378.out) hb); replace BK379 := Aside0.mk (blk_below (g := gb379) (o := .cells #[.int .i64 0, .bool false, .int .i64 0, .bool false, .string (⟨#[]⟩ : ByteArray), .slice none 0 0] 28 (0, 0)) (bk_ BK379.out) hb); replace HB := Aside0.mk (below_step (hb2_ GE378.out GE379.out) hb); (try clear hb); (try clear hb2); (try clear hk); (try clear hi); (try clear ho0); obtain ⟨hcz33_0, hcz33_1, hcz33_2, hcz33_3, hcz33_4, hcz33_5⟩ := ce6_ BK379.out; obtain ⟨hfz33_0, hfz33_1, hfz33_2, hfz33_3, hfz33_4, hfz33_5⟩ := fr6_ BK379.out; obtain ⟨Ao34, co34, eo34⟩ := Kd.R_slice HO411.out; subst eo34))
       refine bodyPost_ret (results_cell_row rfl _ _ gb379 28 #[.int .i64 t404, .bool t405, .int .i64 t406, .bool t407, .string t408, .slice Ao34 t409.length co34] (0, 0) _ rfl (bp_ BK379.out) Tryz.underlying28 rfl (by kernel_rfl)) rfl ?_
       exact ⟨_, er_, rm_ (Kd.R_types HO411.out BK379.out (by decide)) (fun _ hk => hk.2), hb2_ GE378.out GE379.out⟩
      ·rw [if_neg c28] at H
       have c28b0 := beq_eq_false_iff_ne.mpr c28
       have c28b1 := bne_iff_ne.mpr c28
       by_cases c35 : a0.toList = ([110, 111, 116] : List UInt8)
       ·rw [if_pos c35] at H
        have c35b0 := beq_iff_eq.mpr c35
        have c35b1 := bne_eq_false_iff_eq.mpr c35
        clear c35
        by_cases c36 : 0 < (l2.length : Int)
        ·rw [if_pos c36] at H
         have c36b0 : decide (0 < (l2.length : Int)) = true := decide_eq_true c36
         have c36b1 : decide (0 < l2.length) = true := decide_eq_true (by omega)
         clear c36
         replace H := Option.bind_eq_some_iff.mp H
         obtain ⟨t413, A370, H⟩ := H
         replace H : ((espalierref14_truth.f (!t413)).bind fun bt414 => (some (bt414.1, bt414.2.1, bt414.2.2.1, bt414.2.2.2.1, bt414.2.2.2.2.1, bt414.2.2.2.2.2))) = some (r1, r2, r3, r4, r5, r6) := H
         have A37 := Aside0.mk A370
         clear A370
         replace H := Option.bind_eq_some_iff.mp H
         obtain ⟨⟨t414, t415, t416, t417, t418, t419⟩, A380, H⟩ := H
         replace H : (some (t414, t415, t416, t417, t418, t419)) = some (r1, r2, r3, r4, r5, r6) := H
         have A38 := Aside0.mk A380
         clear A380
         simp only [Option.some.injEq, Prod.mk.injEq] at H
         obtain ⟨rfl, rfl, rfl, rfl, rfl, rfl⟩ := H
         have p412 : 0 ≤ (0 : Int) := (by omega)
         have q412 : 0 < (l2.length : Int) := of_decide_eq_true (by first | (with_reducible assumption) | assumption)
         obtain ⟨ad412, A412_5, c412_5, e412, hx412_0, hx412_1, hx412_2, hx412_3, hx412_4, hx412_5, hl412_5, hi412_5⟩ := at_T28 HR2.out 0 p412 q412
         cases e412
         have qi412 : (0 < l2.length) = True := eq_true (by omega)
         (try rw [show ((0 : Int)).toNat = 0 from rfl] at hx412_0)
         (try rw [show 0 * 6 = 0 from rfl] at hx412_0)
         (try rw [Addr.add_zero'] at hx412_0)
         (try rw [show ((0 : Int)).toNat = 0 from rfl] at hx412_1)
         (try rw [show 0 * 6 = 0 from rfl] at hx412_1)
         (try rw [Addr.add_zero'] at hx412_1)
         (try rw [show ((0 : Int)).toNat = 0 from rfl] at hx412_2)
         (try rw [show 0 * 6 = 0 from rfl] at hx412_2)
         (try rw [Addr.add_zero'] at hx412_2)
         (try rw [show ((0 : Int)).toNat = 0 from rfl] at hx412_3)
         (try rw [show 0 * 6 = 0 from rfl] at hx412_3)
         (try rw [Addr.add_zero'] at hx412_3)
         (try rw [show ((0 : Int)).toNat = 0 from rfl] at hx412_4)
         (try rw [show 0 * 6 = 0 from rfl] at hx412_4)
         (try rw [Addr.add_zero'] at hx412_4)
         (try rw [show ((0 : Int)).toNat = 0 from rfl] at hx412_5)
         (try rw [show 0 * 6 = 0 from rfl] at hx412_5)
         (try rw [Addr.add_zero'] at hx412_5)
         replace hx412_0 := hc_ HB.out hx412_0
         replace hx412_1 := hc_ HB.out hx412_1
         replace hx412_2 := hc_ HB.out hx412_2
         replace hx412_3 := hc_ HB.out hx412_3
         replace hx412_4 := hc_ HB.out hx412_4
         replace hx412_5 := hc_ HB.out hx412_5
         have HR412_5 := Aside0.mk hi412_5
         have HC412_5 := Aside0.mk hl412_5
         clear hi412_5 hl412_5
         replace p412 := eq_true p412
         replace q412 := eq_true q412
         go_wp2_with (first | ((with_reducible refine gate_callee (f := 15) rfl ?_); refine goesL_ (some 39) rfl rfl Tryz.func15 (by kernel_rfl) rfl #[.agg #[.int .i64 ((rd_T28 l2 0).f0), .bool ((rd_T28 l2 0).f1), .int .i64 ((rd_T28 l2 0).f2), .bool ((rd_T28 l2 0).f3), .string ((rd_T28 l2 0).f4), .slice A412_5 ((rd_T28 l2 0).f5).length c412_5]] rfl rf_ ?_; (with_reducible refine (espalierref14_Bool.calls ((rd_T28 l2 0).f0) ((rd_T28 l2 0).f1) ((rd_T28 l2 0).f2) ((rd_T28 l2 0).f3) ((rd_T28 l2 0).f4) _ _ ((rd_T28 l2 0).f5) t413 _ ?side1 ?side2 A37.out).mono ?_); (case side1 => exact sc_ (Kd.C_below HR412_5.out HB.out)); (case side2 => exact HC412_5.out); rintro e w39 ⟨rfl, hb⟩; refine ⟨_, rfl, ?_⟩; replace BK378 := Aside0.mk (blk_below (g := gb378) (o := .cells #[.int .i64 a1_0, .int .i64 a1_1, .string a1_2, .string a1_3, .slice A1_4 l1_4.length c1_4] 24 (0, 0)) (bk_ BK378.out) hb); replace BK379 := Aside0.mk (blk_below (g := gb379) (o := .cells #[.int .i64 0, .bool false, .int .i64 0, .bool false, .string (⟨#[]⟩ : ByteArray), .slice none 0 0] 28 (0, 0)) (bk_ BK379.out) hb); replace HB := Aside0.mk (below_step (hb2_ GE378.out GE379.out) hb); (try clear hb); (try clear hb2); (try clear hk); (try clear hi)) | ((with_reducible refine gate_callee (f := 12) rfl ?_); refine goesL_ (some 41) rfl rfl Tryz.func12 (by kernel_rfl) rfl #[.bool (!t413)] rfl rf_ ?_; (with_reducible refine (espalierref14_truth.calls (!t413) t414 t415 t416 t417 t418 t419 _ A38.out).mono ?_); rintro e w40 ⟨v420, rfl, ho0, hb⟩; refine ⟨_, rfl, ?_⟩; have HO421 := Aside0.mk (Kd.R_lower ho0 (below_size (hb2_ GE378.out GE379.out))); replace BK378 := Aside0.mk (blk_below (g := gb378) (o := .cells #[.int .i64 a1_0, .int .i64 a1_1, .string a1_2, .string a1_3, .slice A1_4 l1_4.length c1_4] 24 (0, 0)) (bk_ BK378.out) hb); replace BK379 := Aside0.mk (blk_below (g := gb379) (o := .cells #[.int .i64 0, .bool false, .int .i64 0, .bool false, .string (⟨#[]⟩ : ByteArray), .slice none 0 0] 28 (0, 0)) (bk_ BK379.out) hb); replace HB := Aside0.mk (below_step (hb2_ GE378.out GE379.out) hb); (try clear hb); (try clear hb2); (try clear hk); (try clear hi); (try clear ho0); have hnb41 := NB379_378.out; have hnc41 := NB378_379.out; obtain ⟨hcz42_0, hcz42_1, hcz42_2, hcz42_3, hcz42_4, hcz42_5⟩ := ce6_ BK379.out; obtain ⟨hfz42_0, hfz42_1, hfz42_2, hfz42_3, hfz42_4, hfz42_5⟩ := fr6_ BK379.out; obtain ⟨Ao43, co43, eo43⟩ := Kd.R_slice HO421.out; subst eo43))
         refine bodyPost_ret (results_cell_row rfl _ _ gb379 28 #[.int .i64 t414, .bool t415, .int .i64 t416, .bool t417, .string t418, .slice Ao43 t419.length co43] (0, 0) _ rfl (bp_ BK379.out) Tryz.underlying28 rfl (by kernel_rfl)) rfl ?_
         exact ⟨_, er_, rm_ (Kd.R_types HO421.out BK379.out (by decide)) (fun _ hk => hk.2), hb2_ GE378.out GE379.out⟩
        ·rw [if_neg c36] at H
         exact absurd H (by simp)
       ·rw [if_neg c35] at H
        have c35b0 := beq_eq_false_iff_ne.mpr c35
        have c35b1 := bne_iff_ne.mpr c35
        by_cases c44 : a0.toList = ([99, 111, 117, 110, 116] : List UInt8)
        ·rw [if_pos c44] at H
         have c44b0 := beq_iff_eq.mpr c44
         have c44b1 := bne_eq_false_iff_eq.mpr c44
         clear c44
         by_cases c45 : 0 < (l2.length : Int)
         ·rw [if_pos c45] at H
          have c45b0 : decide (0 < (l2.length : Int)) = true := decide_eq_true c45
          have c45b1 : decide (0 < l2.length) = true := decide_eq_true (by omega)
          clear c45
          replace H := Option.bind_eq_some_iff.mp H
          obtain ⟨⟨t424, t425, t426, t427, t428, t429⟩, A460, H⟩ := H
          replace H : (some (t424, t425, t426, t427, t428, t429)) = some (r1, r2, r3, r4, r5, r6) := H
          have A46 := Aside0.mk A460
          clear A460
          simp only [Option.some.injEq, Prod.mk.injEq] at H
          obtain ⟨rfl, rfl, rfl, rfl, rfl, rfl⟩ := H
          try go_wp2
          replace BK378 := Aside0.mk (blk_drew BK378.out)
          replace BK379 := Aside0.mk (blk_drew BK379.out)
          replace HB := Aside0.mk (below_drew1 HB.out)
          have p422 : 0 ≤ (0 : Int) := (by omega)
          have q422 : 0 < (l2.length : Int) := of_decide_eq_true (by first | (with_reducible assumption) | assumption)
          obtain ⟨ad422, A422_5, c422_5, e422, hx422_0, hx422_1, hx422_2, hx422_3, hx422_4, hx422_5, hl422_5, hi422_5⟩ := at_T28 HR2.out 0 p422 q422
          have hw422_5 := hx422_5
          (try rw [show ((0 : Int)).toNat = 0 from rfl] at hw422_5)
          (try rw [show 0 * 6 = 0 from rfl] at hw422_5)
          (try rw [Addr.add_zero'] at hw422_5)
          have hw422_4 := hx422_4
          (try rw [show ((0 : Int)).toNat = 0 from rfl] at hw422_4)
          (try rw [show 0 * 6 = 0 from rfl] at hw422_4)
          (try rw [Addr.add_zero'] at hw422_4)
          have hw422_3 := hx422_3
          (try rw [show ((0 : Int)).toNat = 0 from rfl] at hw422_3)
          (try rw [show 0 * 6 = 0 from rfl] at hw422_3)
          (try rw [Addr.add_zero'] at hw422_3)
          have hw422_2 := hx422_2
          (try rw [show ((0 : Int)).toNat = 0 from rfl] at hw422_2)
          (try rw [show 0 * 6 = 0 from rfl] at hw422_2)
          (try rw [Addr.add_zero'] at hw422_2)
          have hw422_1 := hx422_1
          (try rw [show ((0 : Int)).toNat = 0 from rfl] at hw422_1)
          (try rw [show 0 * 6 = 0 from rfl] at hw422_1)
          (try rw [Addr.add_zero'] at hw422_1)
          have hw422_0 := hx422_0
          (try rw [show ((0 : Int)).toNat = 0 from rfl] at hw422_0)
          (try rw [show 0 * 6 = 0 from rfl] at hw422_0)
          (try rw [Addr.add_zero'] at hw422_0)
          cases e422
          have qi422 : (0 < l2.length) = True := eq_true (by omega)
          (try rw [show ((0 : Int)).toNat = 0 from rfl] at hx422_0)
          (try rw [show 0 * 6 = 0 from rfl] at hx422_0)
          (try rw [Addr.add_zero'] at hx422_0)
          (try rw [show ((0 : Int)).toNat = 0 from rfl] at hx422_1)
          (try rw [show 0 * 6 = 0 from rfl] at hx422_1)
          (try rw [Addr.add_zero'] at hx422_1)
          (try rw [show ((0 : Int)).toNat = 0 from rfl] at hx422_2)
          (try rw [show 0 * 6 = 0 from rfl] at hx422_2)
          (try rw [Addr.add_zero'] at hx422_2)
          (try rw [show ((0 : Int)).toNat = 0 from rfl] at hx422_3)
          (try rw [show 0 * 6 = 0 from rfl] at hx422_3)
          (try rw [Addr.add_zero'] at hx422_3)
          (try rw [show ((0 : Int)).toNat = 0 from rfl] at hx422_4)
          (try rw [show 0 * 6 = 0 from rfl] at hx422_4)
          (try rw [Addr.add_zero'] at hx422_4)
          (try rw [show ((0 : Int)).toNat = 0 from rfl] at hx422_5)
          (try rw [show 0 * 6 = 0 from rfl] at hx422_5)
          (try rw [Addr.add_zero'] at hx422_5)
          replace hx422_0 := hc_ HB.out hx422_0
          replace hx422_1 := hc_ HB.out hx422_1
          replace hx422_2 := hc_ HB.out hx422_2
          replace hx422_3 := hc_ HB.out hx422_3
          replace hx422_4 := hc_ HB.out hx422_4
          replace hx422_5 := hc_ HB.out hx422_5
          have HR422_5 := Aside0.mk hi422_5
          have HC422_5 := Aside0.mk hl422_5
          clear hi422_5 hl422_5
          replace p422 := eq_true p422
          replace q422 := eq_true q422
          have p423 : 0 ≤ (0 : Int) := (by omega)
          have q423 : 0 < (l2.length : Int) := of_decide_eq_true (by first | (with_reducible assumption) | assumption)
          obtain ⟨ad423, A423_5, c423_5, e423, hx423_0, hx423_1, hx423_2, hx423_3, hx423_4, hx423_5, hl423_5, hi423_5⟩ := at_T28 HR2.out 0 p423 q423
          have hw423_5 := hx423_5
          (try rw [show ((0 : Int)).toNat = 0 from rfl] at hw423_5)
          (try rw [show 0 * 6 = 0 from rfl] at hw423_5)
          (try rw [Addr.add_zero'] at hw423_5)
          have hw423_4 := hx423_4
          (try rw [show ((0 : Int)).toNat = 0 from rfl] at hw423_4)
          (try rw [show 0 * 6 = 0 from rfl] at hw423_4)
          (try rw [Addr.add_zero'] at hw423_4)
          have hw423_3 := hx423_3
          (try rw [show ((0 : Int)).toNat = 0 from rfl] at hw423_3)
          (try rw [show 0 * 6 = 0 from rfl] at hw423_3)
          (try rw [Addr.add_zero'] at hw423_3)
          have hw423_2 := hx423_2
          (try rw [show ((0 : Int)).toNat = 0 from rfl] at hw423_2)
          (try rw [show 0 * 6 = 0 from rfl] at hw423_2)
          (try rw [Addr.add_zero'] at hw423_2)
          have hw423_1 := hx423_1
          (try rw [show ((0 : Int)).toNat = 0 from rfl] at hw423_1)
          (try rw [show 0 * 6 = 0 from rfl] at hw423_1)
          (try rw [Addr.add_zero'] at hw423_1)
          have hw423_0 := hx423_0
          (try rw [show ((0 : Int)).toNat = 0 from rfl] at hw423_0)
          (try rw [show 0 * 6 = 0 from rfl] at hw423_0)
          (try rw [Addr.add_zero'] at hw423_0)
          obtain rfl : ad422 = ad423 := (by injection e423)
          have qi423 : (0 < l2.length) = True := eq_true (by omega)
          (try rw [show ((0 : Int)).toNat = 0 from rfl] at hx423_0)
          (try rw [show 0 * 6 = 0 from rfl] at hx423_0)
          (try rw [Addr.add_zero'] at hx423_0)
          (try rw [show ((0 : Int)).toNat = 0 from rfl] at hx423_1)
          (try rw [show 0 * 6 = 0 from rfl] at hx423_1)
          (try rw [Addr.add_zero'] at hx423_1)
          (try rw [show ((0 : Int)).toNat = 0 from rfl] at hx423_2)
          (try rw [show 0 * 6 = 0 from rfl] at hx423_2)
          (try rw [Addr.add_zero'] at hx423_2)
          (try rw [show ((0 : Int)).toNat = 0 from rfl] at hx423_3)
          (try rw [show 0 * 6 = 0 from rfl] at hx423_3)
          (try rw [Addr.add_zero'] at hx423_3)
          (try rw [show ((0 : Int)).toNat = 0 from rfl] at hx423_4)
          (try rw [show 0 * 6 = 0 from rfl] at hx423_4)
          (try rw [Addr.add_zero'] at hx423_4)
          (try rw [show ((0 : Int)).toNat = 0 from rfl] at hx423_5)
          (try rw [show 0 * 6 = 0 from rfl] at hx423_5)
          (try rw [Addr.add_zero'] at hx423_5)
          replace hx423_0 := hc_ HB.out hx423_0
          replace hx423_1 := hc_ HB.out hx423_1
          replace hx423_2 := hc_ HB.out hx423_2
          replace hx423_3 := hc_ HB.out hx423_3
          replace hx423_4 := hc_ HB.out hx423_4
          replace hx423_5 := hc_ HB.out hx423_5
          have HR423_5 := Aside0.mk hi423_5
          have HC423_5 := Aside0.mk hl423_5
          clear hi423_5 hl423_5
          replace p423 := eq_true p423
          replace q423 := eq_true q423
          have ea_ := Option.some.inj (hx422_5.symm.trans hx423_5)
          injection ea_ with ea_ en_ ec_
          subst ea_
          subst ec_
          clear en_
          refine start_ (n := 13) (S := fun w' => w'.cell? ad422 = some (.int .i64 ((rd_T28 l2 0).f0)) ∧ w'.cell? ⟨ad422.block, ad422.off + 1, none⟩ = some (.bool ((rd_T28 l2 0).f1)) ∧ w'.cell? ⟨ad422.block, ad422.off + 2, none⟩ = some (.int .i64 ((rd_T28 l2 0).f2)) ∧ w'.cell? ⟨ad422.block, ad422.off + 3, none⟩ = some (.bool ((rd_T28 l2 0).f3)) ∧ w'.cell? ⟨ad422.block, ad422.off + 4, none⟩ = some (.string ((rd_T28 l2 0).f4)) ∧ w'.cell? ⟨ad422.block, ad422.off + 5, none⟩ = some (.slice A422_5 ((rd_T28 l2 0).f5).length c422_5) ∧ w'.cell? ad422 = some (.int .i64 ((rd_T28 l2 0).f0)) ∧ w'.cell? ⟨ad422.block, ad422.off + 1, none⟩ = some (.bool ((rd_T28 l2 0).f1)) ∧ w'.cell? ⟨ad422.block, ad422.off + 2, none⟩ = some (.int .i64 ((rd_T28 l2 0).f2)) ∧ w'.cell? ⟨ad422.block, ad422.off + 3, none⟩ = some (.bool ((rd_T28 l2 0).f3)) ∧ w'.cell? ⟨ad422.block, ad422.off + 4, none⟩ = some (.string ((rd_T28 l2 0).f4)) ∧ w'.cell? ⟨ad422.block, ad422.off + 5, none⟩ = some (.slice A422_5 ((rd_T28 l2 0).f5).length c422_5)) (ds := []) #[false, false, false, false, false, false, false, false, false, false, false, false, false] (by kernel_rfl) rfl rfl ⟨(hc_ HB.out hw422_0), (hc_ HB.out hw422_1), (hc_ HB.out hw422_2), (hc_ HB.out hw422_3), (hc_ HB.out hw422_4), (hc_ HB.out hw422_5), (hc_ HB.out hw423_0), (hc_ HB.out hw423_1), (hc_ HB.out hw423_2), (hc_ HB.out hw423_3), (hc_ HB.out hw423_4), (hc_ HB.out hw423_5)⟩ (fun hHeld => ?_); refine with_tabW espalierref14_Call.tab14 espalierref14_Call.bits14 (fun HT_ HW_ => ?_)
          generalize wc.drew = w47 at BK378 BK379 HB HR422_5 HR423_5 hx422_0 hx422_1 hx422_2 hx422_3 hx422_4 hx422_5 hx423_0 hx423_1 hx423_2 hx423_3 hx423_4 hx423_5 hHeld ⊢
          refine pu_ 0 (some 44) #[true, false, false, false, false, false, false, false, false, false, false, false, false] (any_of HT_.out (by kernel_rfl)) ?_
          refine pu_ 1 (some 45) #[true, true, false, false, false, false, false, false, false, false, false, false, false] (any_of HT_.out (by kernel_rfl)) ?_
          refine pu_ 2 (some 46) #[true, true, true, false, false, false, false, false, false, false, false, false, false] (any_of HT_.out (by kernel_rfl)) ?_
          refine pu_ 5 (some 49) #[true, true, true, false, false, true, false, false, false, false, false, false, false] (any_of HT_.out (by kernel_rfl)) ?_
          refine pu_ 6 (some 50) #[true, true, true, false, false, true, true, false, false, false, false, false, false] (any_of HT_.out (by kernel_rfl)) ?_
          refine pu_ 7 (some 51) #[true, true, true, false, false, true, true, true, false, false, false, false, false] (any_of HT_.out (by kernel_rfl)) ?_
          refine take_ (i := 3) (N := some 47) (v := ?_) (a' := ?_) #[true, true, true, true, false, true, true, true, false, false, false, false, false] rfl rfl (take_ofW HT_.out HW_.out (by kernel_rfl)) (fun _ _ _ h => h) (Or.inl ⟨by rfl, ?_⟩) hHeld ?_ ?_
          rotate_left
          ·rintro w' ⟨s0, s1, s2, s3, s4, s5, s6, s7, s8, s9, s10, s11⟩
           go_simp
           with_reducible rfl
          rotate_left
          ·simp only [Act.put, List.setIfInBounds_toArray, List.set_cons_zero, List.set_cons_succ, i64_w, i32_w]
           rfl
          refine pu_ 4 (some 48) #[true, true, true, true, true, true, true, true, false, false, false, false, false] (any_of HT_.out (by kernel_rfl)) ?_
          refine take_ (i := 8) (N := some 52) (v := ?_) (a' := ?_) #[true, true, true, true, true, true, true, true, true, false, false, false, false] rfl rfl (take_ofW HT_.out HW_.out (by kernel_rfl)) (fun _ _ _ h => h) (Or.inl ⟨by rfl, ?_⟩) hHeld ?_ ?_
          rotate_left
          ·rintro w' ⟨s0, s1, s2, s3, s4, s5, s6, s7, s8, s9, s10, s11⟩
           go_simp
           with_reducible rfl
          rotate_left
          ·simp only [Act.put, List.setIfInBounds_toArray, List.set_cons_zero, List.set_cons_succ, i64_w, i32_w]
           rfl
          refine pu_ 9 (some 53) #[true, true, true, true, true, true, true, true, true, true, false, false, false] (any_of HT_.out (by kernel_rfl)) ?_
          refine pu_ 10 (some 54) #[true, true, true, true, true, true, true, true, true, true, true, false, false] (any_of HT_.out (by kernel_rfl)) ?_
          refine one_ (i := 11) (N := some 55) #[true, true, true, true, true, true, true, true, true, true, true, true, false] rfl rfl (one_of HT_.out (by kernel_rfl)) (by decide) (fun K hK => ?_)
          refine goes_ Tryz.func13 (by kernel_rfl) rfl #[.agg #[.bool (((rd_T28 l2 0).f0) == 4), .int .i64 (((rd_T28 l2 0).f5).length : Int)]] (by rfl) rfl rfl rf_ ?_
          with_reducible refine (espalierref14_number.calls (((rd_T28 l2 0).f0) == 4) (((rd_T28 l2 0).f5).length : Int) t424 t425 t426 t427 t428 t429 _ A46.out).mono ?_
          rintro e w48 ⟨v430, rfl, ho0, hb⟩
          refine ⟨_, rfl, ?_⟩
          have HO431 := Aside0.mk (Kd.R_lower ho0 (below_size (hb2_ GE378.out GE379.out)))
          replace BK378 := Aside0.mk (blk_below (g := gb378) (o := .cells #[.int .i64 a1_0, .int .i64 a1_1, .string a1_2, .string a1_3, .slice A1_4 l1_4.length c1_4] 24 (0, 0)) (bk_ BK378.out) hb)
          replace BK379 := Aside0.mk (blk_below (g := gb379) (o := .cells #[.int .i64 0, .bool false, .int .i64 0, .bool false, .string (⟨#[]⟩ : ByteArray), .slice none 0 0] 28 (0, 0)) (bk_ BK379.out) hb)
          replace HB := Aside0.mk (below_step (hb2_ GE378.out GE379.out) hb)
          (try clear hb)
          (try clear hb2)
          (try clear hk)
          (try clear hi)
          (try clear ho0)
          obtain ⟨Ao54, co54, eo54⟩ := Kd.R_slice HO431.out
          (first | subst eo54 | (injection eo54 with f1_ f2_ f3_; have f4_ := f1_.symm; have f5_ := f3_.symm; clear f1_ f2_ f3_; subst f4_; subst f5_))
          refine hK.out _ _ ⟨(hc_ HB.out hw422_0), (hc_ HB.out hw422_1), (hc_ HB.out hw422_2), (hc_ HB.out hw422_3), (hc_ HB.out hw422_4), (hc_ HB.out hw422_5), (hc_ HB.out hw423_0), (hc_ HB.out hw423_1), (hc_ HB.out hw423_2), (hc_ HB.out hw423_3), (hc_ HB.out hw423_4), (hc_ HB.out hw423_5)⟩ (fun hHeld => ?_)
          clear hK K
          refine norm_ (a' := ?_) ?_ ?_
          rotate_left
          ·show Act.put _ (some 55) _ = _
           simp only [Act.put, List.setIfInBounds_toArray, List.set_cons_zero, List.set_cons_succ, i64_w, i32_w]
           rfl
          refine one_ (i := 12) (N := none) #[true, true, true, true, true, true, true, true, true, true, true, true, true] rfl rfl (one_of HT_.out (by kernel_rfl)) (by decide) (fun K hK => ?_)
          have hs49 : w48.cell? ⟨gb379, 0, none⟩ = some (.int .i64 0) := (blk_cell BK379.out 0).trans rfl
          have hfs49 := blk_frozen BK379.out 0
          have hns49_0 := NB378_379.out
          have hms49_0 := NB379_378.out
          have hs50 : w48.cell? ⟨gb379, 1, none⟩ = some (.bool false) := (blk_cell BK379.out 1).trans rfl
          have hfs50 := blk_frozen BK379.out 1
          have hns50_0 := NB378_379.out
          have hms50_0 := NB379_378.out
          have hs51 : w48.cell? ⟨gb379, 2, none⟩ = some (.int .i64 0) := (blk_cell BK379.out 2).trans rfl
          have hfs51 := blk_frozen BK379.out 2
          have hns51_0 := NB378_379.out
          have hms51_0 := NB379_378.out
          have hs52 : w48.cell? ⟨gb379, 3, none⟩ = some (.bool false) := (blk_cell BK379.out 3).trans rfl
          have hfs52 := blk_frozen BK379.out 3
          have hns52_0 := NB378_379.out
          have hms52_0 := NB379_378.out
          have hs53 : w48.cell? ⟨gb379, 4, none⟩ = some (.string (⟨#[]⟩ : ByteArray)) := (blk_cell BK379.out 4).trans rfl
          have hfs53 := blk_frozen BK379.out 4
          have hns53_0 := NB378_379.out
          have hms53_0 := NB379_378.out
          have hs55 : w48.cell? ⟨gb379, 5, none⟩ = some (.slice none 0 0) := (blk_cell BK379.out 5).trans rfl
          have hfs55 := blk_frozen BK379.out 5
          have hns55_0 := NB378_379.out
          have hms55_0 := NB379_378.out
          refine skip_ (w1 := ?_) (by rfl) rfl ?_ ?_
          rotate_left
          ·go_simp
           rfl
          refine hK.out _ _ ⟨((far_ hw422_0 GW379.out _).trans (((far_ hw422_0 GW379.out _).trans (((far_ hw422_0 GW379.out _).trans (((far_ hw422_0 GW379.out _).trans (((far_ hw422_0 GW379.out _).trans (((far_ hw422_0 GW379.out _).trans (hHeld.1)))))))))))), ((far_ hw422_1 GW379.out _).trans (((far_ hw422_1 GW379.out _).trans (((far_ hw422_1 GW379.out _).trans (((far_ hw422_1 GW379.out _).trans (((far_ hw422_1 GW379.out _).trans (((far_ hw422_1 GW379.out _).trans (hHeld.2.1)))))))))))), ((far_ hw422_2 GW379.out _).trans (((far_ hw422_2 GW379.out _).trans (((far_ hw422_2 GW379.out _).trans (((far_ hw422_2 GW379.out _).trans (((far_ hw422_2 GW379.out _).trans (((far_ hw422_2 GW379.out _).trans (hHeld.2.2.1)))))))))))), ((far_ hw422_3 GW379.out _).trans (((far_ hw422_3 GW379.out _).trans (((far_ hw422_3 GW379.out _).trans (((far_ hw422_3 GW379.out _).trans (((far_ hw422_3 GW379.out _).trans (((far_ hw422_3 GW379.out _).trans (hHeld.2.2.2.1)))))))))))), ((far_ hw422_4 GW379.out _).trans (((far_ hw422_4 GW379.out _).trans (((far_ hw422_4 GW379.out _).trans (((far_ hw422_4 GW379.out _).trans (((far_ hw422_4 GW379.out _).trans (((far_ hw422_4 GW379.out _).trans (hHeld.2.2.2.2.1)))))))))))), ((far_ hw422_5 GW379.out _).trans (((far_ hw422_5 GW379.out _).trans (((far_ hw422_5 GW379.out _).trans (((far_ hw422_5 GW379.out _).trans (((far_ hw422_5 GW379.out _).trans (((far_ hw422_5 GW379.out _).trans (hHeld.2.2.2.2.2.1)))))))))))), ((far_ hw423_0 GW379.out _).trans (((far_ hw423_0 GW379.out _).trans (((far_ hw423_0 GW379.out _).trans (((far_ hw423_0 GW379.out _).trans (((far_ hw423_0 GW379.out _).trans (((far_ hw423_0 GW379.out _).trans (hHeld.2.2.2.2.2.2.1)))))))))))), ((far_ hw423_1 GW379.out _).trans (((far_ hw423_1 GW379.out _).trans (((far_ hw423_1 GW379.out _).trans (((far_ hw423_1 GW379.out _).trans (((far_ hw423_1 GW379.out _).trans (((far_ hw423_1 GW379.out _).trans (hHeld.2.2.2.2.2.2.2.1)))))))))))), ((far_ hw423_2 GW379.out _).trans (((far_ hw423_2 GW379.out _).trans (((far_ hw423_2 GW379.out _).trans (((far_ hw423_2 GW379.out _).trans (((far_ hw423_2 GW379.out _).trans (((far_ hw423_2 GW379.out _).trans (hHeld.2.2.2.2.2.2.2.2.1)))))))))))), ((far_ hw423_3 GW379.out _).trans (((far_ hw423_3 GW379.out _).trans (((far_ hw423_3 GW379.out _).trans (((far_ hw423_3 GW379.out _).trans (((far_ hw423_3 GW379.out _).trans (((far_ hw423_3 GW379.out _).trans (hHeld.2.2.2.2.2.2.2.2.2.1)))))))))))), ((far_ hw423_4 GW379.out _).trans (((far_ hw423_4 GW379.out _).trans (((far_ hw423_4 GW379.out _).trans (((far_ hw423_4 GW379.out _).trans (((far_ hw423_4 GW379.out _).trans (((far_ hw423_4 GW379.out _).trans (hHeld.2.2.2.2.2.2.2.2.2.2.1)))))))))))), ((far_ hw423_5 GW379.out _).trans (((far_ hw423_5 GW379.out _).trans (((far_ hw423_5 GW379.out _).trans (((far_ hw423_5 GW379.out _).trans (((far_ hw423_5 GW379.out _).trans (((far_ hw423_5 GW379.out _).trans (hHeld.2.2.2.2.2.2.2.2.2.2.2))))))))))))⟩ (fun hHeld => ?_)
          clear hK K
          refine done_ (done_of HT_.out (by kernel_rfl)) ?_
          try go_wp2
          refine bodyPost_ret (results_cell_row rfl _ _ gb379 28 #[.int .i64 t424, .bool t425, .int .i64 t426, .bool t427, .string t428, .slice Ao54 t429.length co54] (0, 0) _ rfl (bp_ BK379.out) Tryz.underlying28 rfl (by kernel_rfl)) rfl ?_
          exact ⟨_, er_, rm_ (Kd.R_types HO431.out BK379.out (by decide)) (fun _ hk => hk.2), hb2_ GE378.out GE379.out⟩
         ·rw [if_neg c45] at H
          exact absurd H (by simp)
        ·rw [if_neg c44] at H
         have c44b0 := beq_eq_false_iff_ne.mpr c44
         have c44b1 := bne_iff_ne.mpr c44
         by_cases c56 : a0.toList = ([115, 116, 114, 105, 110, 103] : List UInt8)
         ·rw [if_pos c56] at H
          have c56b0 := beq_iff_eq.mpr c56
          have c56b1 := bne_eq_false_iff_eq.mpr c56
          clear c56
          by_cases c57 : 0 < (l2.length : Int)
          ·rw [if_pos c57] at H
           have c57b0 : decide (0 < (l2.length : Int)) = true := decide_eq_true c57
           have c57b1 : decide (0 < l2.length) = true := decide_eq_true (by omega)
           clear c57
           replace H := Option.bind_eq_some_iff.mp H
           obtain ⟨t433, A580, H⟩ := H
           replace H : ((espalierref14_said.f t433).bind fun bt434 => (some (bt434.1, bt434.2.1, bt434.2.2.1, bt434.2.2.2.1, bt434.2.2.2.2.1, bt434.2.2.2.2.2))) = some (r1, r2, r3, r4, r5, r6) := H
           have A58 := Aside0.mk A580
           clear A580
           replace H := Option.bind_eq_some_iff.mp H
           obtain ⟨⟨t434, t435, t436, t437, t438, t439⟩, A590, H⟩ := H
           replace H : (some (t434, t435, t436, t437, t438, t439)) = some (r1, r2, r3, r4, r5, r6) := H
           have A59 := Aside0.mk A590
           clear A590
           simp only [Option.some.injEq, Prod.mk.injEq] at H
           obtain ⟨rfl, rfl, rfl, rfl, rfl, rfl⟩ := H
           have p432 : 0 ≤ (0 : Int) := (by omega)
           have q432 : 0 < (l2.length : Int) := of_decide_eq_true (by first | (with_reducible assumption) | assumption)
           obtain ⟨ad432, A432_5, c432_5, e432, hx432_0, hx432_1, hx432_2, hx432_3, hx432_4, hx432_5, hl432_5, hi432_5⟩ := at_T28 HR2.out 0 p432 q432
           cases e432
           have qi432 : (0 < l2.length) = True := eq_true (by omega)
           (try rw [show ((0 : Int)).toNat = 0 from rfl] at hx432_0)
           (try rw [show 0 * 6 = 0 from rfl] at hx432_0)
           (try rw [Addr.add_zero'] at hx432_0)
           (try rw [show ((0 : Int)).toNat = 0 from rfl] at hx432_1)
           (try rw [show 0 * 6 = 0 from rfl] at hx432_1)
           (try rw [Addr.add_zero'] at hx432_1)
           (try rw [show ((0 : Int)).toNat = 0 from rfl] at hx432_2)
           (try rw [show 0 * 6 = 0 from rfl] at hx432_2)
           (try rw [Addr.add_zero'] at hx432_2)
           (try rw [show ((0 : Int)).toNat = 0 from rfl] at hx432_3)
           (try rw [show 0 * 6 = 0 from rfl] at hx432_3)
           (try rw [Addr.add_zero'] at hx432_3)
           (try rw [show ((0 : Int)).toNat = 0 from rfl] at hx432_4)
           (try rw [show 0 * 6 = 0 from rfl] at hx432_4)
           (try rw [Addr.add_zero'] at hx432_4)
           (try rw [show ((0 : Int)).toNat = 0 from rfl] at hx432_5)
           (try rw [show 0 * 6 = 0 from rfl] at hx432_5)
           (try rw [Addr.add_zero'] at hx432_5)
           replace hx432_0 := hc_ HB.out hx432_0
           replace hx432_1 := hc_ HB.out hx432_1
           replace hx432_2 := hc_ HB.out hx432_2
           replace hx432_3 := hc_ HB.out hx432_3
           replace hx432_4 := hc_ HB.out hx432_4
           replace hx432_5 := hc_ HB.out hx432_5
           have HR432_5 := Aside0.mk hi432_5
           have HC432_5 := Aside0.mk hl432_5
           clear hi432_5 hl432_5
           replace p432 := eq_true p432
           replace q432 := eq_true q432
           go_wp2_with (first | ((with_reducible refine gate_callee (f := 16) rfl ?_); refine goesL_ (some 61) rfl rfl Tryz.func16 (by kernel_rfl) rfl #[.agg #[.int .i64 ((rd_T28 l2 0).f0), .bool ((rd_T28 l2 0).f1), .int .i64 ((rd_T28 l2 0).f2), .bool ((rd_T28 l2 0).f3), .string ((rd_T28 l2 0).f4), .slice A432_5 ((rd_T28 l2 0).f5).length c432_5]] rfl rf_ ?_; (with_reducible refine (espalierref14_Text.calls kj3 ((rd_T28 l2 0).f0) ((rd_T28 l2 0).f1) ((rd_T28 l2 0).f2) ((rd_T28 l2 0).f3) ((rd_T28 l2 0).f4) _ _ ((rd_T28 l2 0).f5) t433 _ ?side1 ?side2 A58.out).mono ?_); (case side1 => exact sc_ (Kd.C_below HR432_5.out HB.out)); (case side2 => exact HC432_5.out); rintro e w60 ⟨rfl, hb⟩; refine ⟨_, rfl, ?_⟩; replace BK378 := Aside0.mk (blk_below (g := gb378) (o := .cells #[.int .i64 a1_0, .int .i64 a1_1, .string a1_2, .string a1_3, .slice A1_4 l1_4.length c1_4] 24 (0, 0)) (bk_ BK378.out) hb); replace BK379 := Aside0.mk (blk_below (g := gb379) (o := .cells #[.int .i64 0, .bool false, .int .i64 0, .bool false, .string (⟨#[]⟩ : ByteArray), .slice none 0 0] 28 (0, 0)) (bk_ BK379.out) hb); replace HB := Aside0.mk (below_step (hb2_ GE378.out GE379.out) hb); (try clear hb); (try clear hb2); (try clear hk); (try clear hi)) | ((with_reducible refine gate_callee (f := 14) rfl ?_); refine goesL_ (some 62) rfl rfl Tryz.func14 (by kernel_rfl) rfl #[.string t433] rfl rf_ ?_; (with_reducible refine (espalierref14_said.calls t433 t434 t435 t436 t437 t438 t439 _ A59.out).mono ?_); rintro e w61 ⟨v440, rfl, ho0, hb⟩; refine ⟨_, rfl, ?_⟩; have HO441 := Aside0.mk (Kd.R_lower ho0 (below_size (hb2_ GE378.out GE379.out))); replace BK378 := Aside0.mk (blk_below (g := gb378) (o := .cells #[.int .i64 a1_0, .int .i64 a1_1, .string a1_2, .string a1_3, .slice A1_4 l1_4.length c1_4] 24 (0, 0)) (bk_ BK378.out) hb); replace BK379 := Aside0.mk (blk_below (g := gb379) (o := .cells #[.int .i64 0, .bool false, .int .i64 0, .bool false, .string (⟨#[]⟩ : ByteArray), .slice none 0 0] 28 (0, 0)) (bk_ BK379.out) hb); replace HB := Aside0.mk (below_step (hb2_ GE378.out GE379.out) hb); (try clear hb); (try clear hb2); (try clear hk); (try clear hi); (try clear ho0); have hnb62 := NB379_378.out; have hnc62 := NB378_379.out; obtain ⟨hcz63_0, hcz63_1, hcz63_2, hcz63_3, hcz63_4, hcz63_5⟩ := ce6_ BK379.out; obtain ⟨hfz63_0, hfz63_1, hfz63_2, hfz63_3, hfz63_4, hfz63_5⟩ := fr6_ BK379.out; obtain ⟨Ao64, co64, eo64⟩ := Kd.R_slice HO441.out; subst eo64))
           refine bodyPost_ret (results_cell_row rfl _ _ gb379 28 #[.int .i64 t434, .bool t435, .int .i64 t436, .bool t437, .string t438, .slice Ao64 t439.length co64] (0, 0) _ rfl (bp_ BK379.out) Tryz.underlying28 rfl (by kernel_rfl)) rfl ?_
           exact ⟨_, er_, rm_ (Kd.R_types HO441.out BK379.out (by decide)) (fun _ hk => hk.2), hb2_ GE378.out GE379.out⟩
          ·rw [if_neg c57] at H
           exact absurd H (by simp)
         ·rw [if_neg c56] at H
          have c56b0 := beq_eq_false_iff_ne.mpr c56
          have c56b1 := bne_iff_ne.mpr c56
          by_cases c65 : a0.toList = ([110, 117, 109, 98, 101, 114] : List UInt8)
          ·rw [if_pos c65] at H
           have c65b0 := beq_iff_eq.mpr c65
           have c65b1 := bne_eq_false_iff_eq.mpr c65
           clear c65
           by_cases c66 : 0 < (l2.length : Int)
           ·rw [if_pos c66] at H
            have c66b0 : decide (0 < (l2.length : Int)) = true := decide_eq_true c66
            have c66b1 : decide (0 < l2.length) = true := decide_eq_true (by omega)
            clear c66
            replace H := Option.bind_eq_some_iff.mp H
            obtain ⟨⟨t443, t444⟩, A670, H⟩ := H
            replace H : ((espalierref14_number.f t443 t444).bind fun bt445 => (some (bt445.1, bt445.2.1, bt445.2.2.1, bt445.2.2.2.1, bt445.2.2.2.2.1, bt445.2.2.2.2.2))) = some (r1, r2, r3, r4, r5, r6) := H
            have A67 := Aside0.mk A670
            clear A670
            replace H := Option.bind_eq_some_iff.mp H
            obtain ⟨⟨t445, t446, t447, t448, t449, t450⟩, A680, H⟩ := H
            replace H : (some (t445, t446, t447, t448, t449, t450)) = some (r1, r2, r3, r4, r5, r6) := H
            have A68 := Aside0.mk A680
            clear A680
            simp only [Option.some.injEq, Prod.mk.injEq] at H
            obtain ⟨rfl, rfl, rfl, rfl, rfl, rfl⟩ := H
            have p442 : 0 ≤ (0 : Int) := (by omega)
            have q442 : 0 < (l2.length : Int) := of_decide_eq_true (by first | (with_reducible assumption) | assumption)
            obtain ⟨ad442, A442_5, c442_5, e442, hx442_0, hx442_1, hx442_2, hx442_3, hx442_4, hx442_5, hl442_5, hi442_5⟩ := at_T28 HR2.out 0 p442 q442
            cases e442
            have qi442 : (0 < l2.length) = True := eq_true (by omega)
            (try rw [show ((0 : Int)).toNat = 0 from rfl] at hx442_0)
            (try rw [show 0 * 6 = 0 from rfl] at hx442_0)
            (try rw [Addr.add_zero'] at hx442_0)
            (try rw [show ((0 : Int)).toNat = 0 from rfl] at hx442_1)
            (try rw [show 0 * 6 = 0 from rfl] at hx442_1)
            (try rw [Addr.add_zero'] at hx442_1)
            (try rw [show ((0 : Int)).toNat = 0 from rfl] at hx442_2)
            (try rw [show 0 * 6 = 0 from rfl] at hx442_2)
            (try rw [Addr.add_zero'] at hx442_2)
            (try rw [show ((0 : Int)).toNat = 0 from rfl] at hx442_3)
            (try rw [show 0 * 6 = 0 from rfl] at hx442_3)
            (try rw [Addr.add_zero'] at hx442_3)
            (try rw [show ((0 : Int)).toNat = 0 from rfl] at hx442_4)
            (try rw [show 0 * 6 = 0 from rfl] at hx442_4)
            (try rw [Addr.add_zero'] at hx442_4)
            (try rw [show ((0 : Int)).toNat = 0 from rfl] at hx442_5)
            (try rw [show 0 * 6 = 0 from rfl] at hx442_5)
            (try rw [Addr.add_zero'] at hx442_5)
            replace hx442_0 := hc_ HB.out hx442_0
            replace hx442_1 := hc_ HB.out hx442_1
            replace hx442_2 := hc_ HB.out hx442_2
            replace hx442_3 := hc_ HB.out hx442_3
            replace hx442_4 := hc_ HB.out hx442_4
            replace hx442_5 := hc_ HB.out hx442_5
            have HR442_5 := Aside0.mk hi442_5
            have HC442_5 := Aside0.mk hl442_5
            clear hi442_5 hl442_5
            replace p442 := eq_true p442
            replace q442 := eq_true q442
            go_wp2_with (first | ((with_reducible refine gate_callee (f := 17) rfl ?_); refine goesL_ (some 68) rfl rfl Tryz.func17 (by kernel_rfl) rfl #[.agg #[.int .i64 ((rd_T28 l2 0).f0), .bool ((rd_T28 l2 0).f1), .int .i64 ((rd_T28 l2 0).f2), .bool ((rd_T28 l2 0).f3), .string ((rd_T28 l2 0).f4), .slice A442_5 ((rd_T28 l2 0).f5).length c442_5]] rfl rf_ ?_; (with_reducible refine (espalierref14_Number.calls kj3 ((rd_T28 l2 0).f0) ((rd_T28 l2 0).f1) ((rd_T28 l2 0).f2) ((rd_T28 l2 0).f3) ((rd_T28 l2 0).f4) _ _ ((rd_T28 l2 0).f5) t443 t444 _ ?side1 ?side2 A67.out).mono ?_); (case side1 => exact sc_ (Kd.C_below HR442_5.out HB.out)); (case side2 => exact HC442_5.out); rintro e w69 ⟨rfl, hb⟩; refine ⟨_, rfl, ?_⟩; replace BK378 := Aside0.mk (blk_below (g := gb378) (o := .cells #[.int .i64 a1_0, .int .i64 a1_1, .string a1_2, .string a1_3, .slice A1_4 l1_4.length c1_4] 24 (0, 0)) (bk_ BK378.out) hb); replace BK379 := Aside0.mk (blk_below (g := gb379) (o := .cells #[.int .i64 0, .bool false, .int .i64 0, .bool false, .string (⟨#[]⟩ : ByteArray), .slice none 0 0] 28 (0, 0)) (bk_ BK379.out) hb); replace HB := Aside0.mk (below_step (hb2_ GE378.out GE379.out) hb); (try clear hb); (try clear hb2); (try clear hk); (try clear hi)) | ((with_reducible refine gate_callee (f := 13) rfl ?_); refine goesL_ (some 69) rfl rfl Tryz.func13 (by kernel_rfl) rfl #[.agg #[.bool t443, .int .i64 t444]] rfl rf_ ?_; (with_reducible refine (espalierref14_number.calls t443 t444 t445 t446 t447 t448 t449 t450 _ A68.out).mono ?_); rintro e w70 ⟨v451, rfl, ho0, hb⟩; refine ⟨_, rfl, ?_⟩; have HO452 := Aside0.mk (Kd.R_lower ho0 (below_size (hb2_ GE378.out GE379.out))); replace BK378 := Aside0.mk (blk_below (g := gb378) (o := .cells #[.int .i64 a1_0, .int .i64 a1_1, .string a1_2, .string a1_3, .slice A1_4 l1_4.length c1_4] 24 (0, 0)) (bk_ BK378.out) hb); replace BK379 := Aside0.mk (blk_below (g := gb379) (o := .cells #[.int .i64 0, .bool false, .int .i64 0, .bool false, .string (⟨#[]⟩ : ByteArray), .slice none 0 0] 28 (0, 0)) (bk_ BK379.out) hb); replace HB := Aside0.mk (below_step (hb2_ GE378.out GE379.out) hb); (try clear hb); (try clear hb2); (try clear hk); (try clear hi); (try clear ho0); have hnb71 := NB379_378.out; have hnc71 := NB378_379.out; obtain ⟨hcz72_0, hcz72_1, hcz72_2, hcz72_3, hcz72_4, hcz72_5⟩ := ce6_ BK379.out; obtain ⟨hfz72_0, hfz72_1, hfz72_2, hfz72_3, hfz72_4, hfz72_5⟩ := fr6_ BK379.out; obtain ⟨Ao73, co73, eo73⟩ := Kd.R_slice HO452.out; subst eo73))
            refine bodyPost_ret (results_cell_row rfl _ _ gb379 28 #[.int .i64 t445, .bool t446, .int .i64 t447, .bool t448, .string t449, .slice Ao73 t450.length co73] (0, 0) _ rfl (bp_ BK379.out) Tryz.underlying28 rfl (by kernel_rfl)) rfl ?_
            exact ⟨_, er_, rm_ (Kd.R_types HO452.out BK379.out (by decide)) (fun _ hk => hk.2), hb2_ GE378.out GE379.out⟩
           ·rw [if_neg c66] at H
            exact absurd H (by simp)
          ·rw [if_neg c65] at H
           have c65b0 := beq_eq_false_iff_ne.mpr c65
           have c65b1 := bne_iff_ne.mpr c65
           by_cases c74 : a0.toList = ([115, 117, 109] : List UInt8)
           ·rw [if_pos c74] at H
            have c74b0 := beq_iff_eq.mpr c74
            have c74b1 := bne_eq_false_iff_eq.mpr c74
            clear c74
            by_cases c75 : 0 < (l2.length : Int)
            ·rw [if_pos c75] at H
             have c75b0 : decide (0 < (l2.length : Int)) = true := decide_eq_true c75
             have c75b1 : decide (0 < l2.length) = true := decide_eq_true (by omega)
             clear c75
             replace H := Option.bind_eq_some_iff.mp H
             obtain ⟨⟨t454, t455⟩, A760, H⟩ := H
             replace H : ((espalierref14_number.f t454 t455).bind fun bt456 => (some (bt456.1, bt456.2.1, bt456.2.2.1, bt456.2.2.2.1, bt456.2.2.2.2.1, bt456.2.2.2.2.2))) = some (r1, r2, r3, r4, r5, r6) := H
             have A76 := Aside0.mk A760
             clear A760
             replace H := Option.bind_eq_some_iff.mp H
             obtain ⟨⟨t456, t457, t458, t459, t460, t461⟩, A770, H⟩ := H
             replace H : (some (t456, t457, t458, t459, t460, t461)) = some (r1, r2, r3, r4, r5, r6) := H
             have A77 := Aside0.mk A770
             clear A770
             simp only [Option.some.injEq, Prod.mk.injEq] at H
             obtain ⟨rfl, rfl, rfl, rfl, rfl, rfl⟩ := H
             have p453 : 0 ≤ (0 : Int) := (by omega)
             have q453 : 0 < (l2.length : Int) := of_decide_eq_true (by first | (with_reducible assumption) | assumption)
             obtain ⟨ad453, A453_5, c453_5, e453, hx453_0, hx453_1, hx453_2, hx453_3, hx453_4, hx453_5, hl453_5, hi453_5⟩ := at_T28 HR2.out 0 p453 q453
             cases e453
             have qi453 : (0 < l2.length) = True := eq_true (by omega)
             (try rw [show ((0 : Int)).toNat = 0 from rfl] at hx453_0)
             (try rw [show 0 * 6 = 0 from rfl] at hx453_0)
             (try rw [Addr.add_zero'] at hx453_0)
             (try rw [show ((0 : Int)).toNat = 0 from rfl] at hx453_1)
             (try rw [show 0 * 6 = 0 from rfl] at hx453_1)
             (try rw [Addr.add_zero'] at hx453_1)
             (try rw [show ((0 : Int)).toNat = 0 from rfl] at hx453_2)
             (try rw [show 0 * 6 = 0 from rfl] at hx453_2)
             (try rw [Addr.add_zero'] at hx453_2)
             (try rw [show ((0 : Int)).toNat = 0 from rfl] at hx453_3)
             (try rw [show 0 * 6 = 0 from rfl] at hx453_3)
             (try rw [Addr.add_zero'] at hx453_3)
             (try rw [show ((0 : Int)).toNat = 0 from rfl] at hx453_4)
             (try rw [show 0 * 6 = 0 from rfl] at hx453_4)
             (try rw [Addr.add_zero'] at hx453_4)
             (try rw [show ((0 : Int)).toNat = 0 from rfl] at hx453_5)
             (try rw [show 0 * 6 = 0 from rfl] at hx453_5)
             (try rw [Addr.add_zero'] at hx453_5)
             replace hx453_0 := hc_ HB.out hx453_0
             replace hx453_1 := hc_ HB.out hx453_1
             replace hx453_2 := hc_ HB.out hx453_2
             replace hx453_3 := hc_ HB.out hx453_3
             replace hx453_4 := hc_ HB.out hx453_4
             replace hx453_5 := hc_ HB.out hx453_5
             have HR453_5 := Aside0.mk hi453_5
             have HC453_5 := Aside0.mk hl453_5
             clear hi453_5 hl453_5
             replace p453 := eq_true p453
             replace q453 := eq_true q453
             go_wp2_with (first | ((with_reducible refine gate_callee (f := 18) rfl ?_); refine goesL_ (some 75) rfl rfl Tryz.func18 (by kernel_rfl) rfl #[.agg #[.int .i64 ((rd_T28 l2 0).f0), .bool ((rd_T28 l2 0).f1), .int .i64 ((rd_T28 l2 0).f2), .bool ((rd_T28 l2 0).f3), .string ((rd_T28 l2 0).f4), .slice A453_5 ((rd_T28 l2 0).f5).length c453_5]] rfl rf_ ?_; (with_reducible refine (espalierref14_sum.calls kj3 ((rd_T28 l2 0).f0) ((rd_T28 l2 0).f1) ((rd_T28 l2 0).f2) ((rd_T28 l2 0).f3) ((rd_T28 l2 0).f4) _ _ ((rd_T28 l2 0).f5) t454 t455 _ ?side1 ?side2 A76.out).mono ?_); (case side1 => exact sc_ (Kd.C_below HR453_5.out HB.out)); (case side2 => exact HC453_5.out); rintro e w78 ⟨rfl, hb⟩; refine ⟨_, rfl, ?_⟩; replace BK378 := Aside0.mk (blk_below (g := gb378) (o := .cells #[.int .i64 a1_0, .int .i64 a1_1, .string a1_2, .string a1_3, .slice A1_4 l1_4.length c1_4] 24 (0, 0)) (bk_ BK378.out) hb); replace BK379 := Aside0.mk (blk_below (g := gb379) (o := .cells #[.int .i64 0, .bool false, .int .i64 0, .bool false, .string (⟨#[]⟩ : ByteArray), .slice none 0 0] 28 (0, 0)) (bk_ BK379.out) hb); replace HB := Aside0.mk (below_step (hb2_ GE378.out GE379.out) hb); (try clear hb); (try clear hb2); (try clear hk); (try clear hi)) | ((with_reducible refine gate_callee (f := 13) rfl ?_); refine goesL_ (some 76) rfl rfl Tryz.func13 (by kernel_rfl) rfl #[.agg #[.bool t454, .int .i64 t455]] rfl rf_ ?_; (with_reducible refine (espalierref14_number.calls t454 t455 t456 t457 t458 t459 t460 t461 _ A77.out).mono ?_); rintro e w79 ⟨v462, rfl, ho0, hb⟩; refine ⟨_, rfl, ?_⟩; have HO463 := Aside0.mk (Kd.R_lower ho0 (below_size (hb2_ GE378.out GE379.out))); replace BK378 := Aside0.mk (blk_below (g := gb378) (o := .cells #[.int .i64 a1_0, .int .i64 a1_1, .string a1_2, .string a1_3, .slice A1_4 l1_4.length c1_4] 24 (0, 0)) (bk_ BK378.out) hb); replace BK379 := Aside0.mk (blk_below (g := gb379) (o := .cells #[.int .i64 0, .bool false, .int .i64 0, .bool false, .string (⟨#[]⟩ : ByteArray), .slice none 0 0] 28 (0, 0)) (bk_ BK379.out) hb); replace HB := Aside0.mk (below_step (hb2_ GE378.out GE379.out) hb); (try clear hb); (try clear hb2); (try clear hk); (try clear hi); (try clear ho0); have hnb80 := NB379_378.out; have hnc80 := NB378_379.out; obtain ⟨hcz81_0, hcz81_1, hcz81_2, hcz81_3, hcz81_4, hcz81_5⟩ := ce6_ BK379.out; obtain ⟨hfz81_0, hfz81_1, hfz81_2, hfz81_3, hfz81_4, hfz81_5⟩ := fr6_ BK379.out; obtain ⟨Ao82, co82, eo82⟩ := Kd.R_slice HO463.out; subst eo82))
             refine bodyPost_ret (results_cell_row rfl _ _ gb379 28 #[.int .i64 t456, .bool t457, .int .i64 t458, .bool t459, .string t460, .slice Ao82 t461.length co82] (0, 0) _ rfl (bp_ BK379.out) Tryz.underlying28 rfl (by kernel_rfl)) rfl ?_
             exact ⟨_, er_, rm_ (Kd.R_types HO463.out BK379.out (by decide)) (fun _ hk => hk.2), hb2_ GE378.out GE379.out⟩
            ·rw [if_neg c75] at H
             exact absurd H (by simp)
           ·rw [if_neg c74] at H
            have c74b0 := beq_eq_false_iff_ne.mpr c74
            have c74b1 := bne_iff_ne.mpr c74
            by_cases c83 : a0.toList = ([108, 101, 110, 103, 116, 104] : List UInt8)
            ·rw [if_pos c83] at H
             have c83b0 := beq_iff_eq.mpr c83
             have c83b1 := bne_eq_false_iff_eq.mpr c83
             clear c83
             by_cases c84 : 0 < (l2.length : Int)
             ·rw [if_pos c84] at H
              have c84b0 : decide (0 < (l2.length : Int)) = true := decide_eq_true c84
              have c84b1 : decide (0 < l2.length) = true := decide_eq_true (by omega)
              clear c84
              replace H := Option.bind_eq_some_iff.mp H
              obtain ⟨t465, A850, H⟩ := H
              replace H : ((espalierref02_Chars.f kj3 t465).bind fun t466 => ((espalierref14_number.f true (t466.length : Int)).bind fun bt469 => (some (bt469.1, bt469.2.1, bt469.2.2.1, bt469.2.2.2.1, bt469.2.2.2.2.1, bt469.2.2.2.2.2)))) = some (r1, r2, r3, r4, r5, r6) := H
              have A85 := Aside0.mk A850
              clear A850
              replace H := Option.bind_eq_some_iff.mp H
              obtain ⟨t466, A860, H⟩ := H
              replace H : ((espalierref14_number.f true (t466.length : Int)).bind fun bt469 => (some (bt469.1, bt469.2.1, bt469.2.2.1, bt469.2.2.2.1, bt469.2.2.2.2.1, bt469.2.2.2.2.2))) = some (r1, r2, r3, r4, r5, r6) := H
              have A86 := Aside0.mk A860
              clear A860
              replace H := Option.bind_eq_some_iff.mp H
              obtain ⟨⟨t469, t470, t471, t472, t473, t474⟩, A870, H⟩ := H
              replace H : (some (t469, t470, t471, t472, t473, t474)) = some (r1, r2, r3, r4, r5, r6) := H
              have A87 := Aside0.mk A870
              clear A870
              simp only [Option.some.injEq, Prod.mk.injEq] at H
              obtain ⟨rfl, rfl, rfl, rfl, rfl, rfl⟩ := H
              have p464 : 0 ≤ (0 : Int) := (by omega)
              have q464 : 0 < (l2.length : Int) := of_decide_eq_true (by first | (with_reducible assumption) | assumption)
              obtain ⟨ad464, A464_5, c464_5, e464, hx464_0, hx464_1, hx464_2, hx464_3, hx464_4, hx464_5, hl464_5, hi464_5⟩ := at_T28 HR2.out 0 p464 q464
              cases e464
              have qi464 : (0 < l2.length) = True := eq_true (by omega)
              (try rw [show ((0 : Int)).toNat = 0 from rfl] at hx464_0)
              (try rw [show 0 * 6 = 0 from rfl] at hx464_0)
              (try rw [Addr.add_zero'] at hx464_0)
              (try rw [show ((0 : Int)).toNat = 0 from rfl] at hx464_1)
              (try rw [show 0 * 6 = 0 from rfl] at hx464_1)
              (try rw [Addr.add_zero'] at hx464_1)
              (try rw [show ((0 : Int)).toNat = 0 from rfl] at hx464_2)
              (try rw [show 0 * 6 = 0 from rfl] at hx464_2)
              (try rw [Addr.add_zero'] at hx464_2)
              (try rw [show ((0 : Int)).toNat = 0 from rfl] at hx464_3)
              (try rw [show 0 * 6 = 0 from rfl] at hx464_3)
              (try rw [Addr.add_zero'] at hx464_3)
              (try rw [show ((0 : Int)).toNat = 0 from rfl] at hx464_4)
              (try rw [show 0 * 6 = 0 from rfl] at hx464_4)
              (try rw [Addr.add_zero'] at hx464_4)
              (try rw [show ((0 : Int)).toNat = 0 from rfl] at hx464_5)
              (try rw [show 0 * 6 = 0 from rfl] at hx464_5)
              (try rw [Addr.add_zero'] at hx464_5)
              replace hx464_0 := hc_ HB.out hx464_0
              replace hx464_1 := hc_ HB.out hx464_1
              replace hx464_2 := hc_ HB.out hx464_2
              replace hx464_3 := hc_ HB.out hx464_3
              replace hx464_4 := hc_ HB.out hx464_4
              replace hx464_5 := hc_ HB.out hx464_5
              have HR464_5 := Aside0.mk hi464_5
              have HC464_5 := Aside0.mk hl464_5
              clear hi464_5 hl464_5
              replace p464 := eq_true p464
              replace q464 := eq_true q464
              go_wp2_with (first | ((with_reducible refine gate_callee (f := 16) rfl ?_); refine goesL_ (some 82) rfl rfl Tryz.func16 (by kernel_rfl) rfl #[.agg #[.int .i64 ((rd_T28 l2 0).f0), .bool ((rd_T28 l2 0).f1), .int .i64 ((rd_T28 l2 0).f2), .bool ((rd_T28 l2 0).f3), .string ((rd_T28 l2 0).f4), .slice A464_5 ((rd_T28 l2 0).f5).length c464_5]] rfl rf_ ?_; (with_reducible refine (espalierref14_Text.calls kj3 ((rd_T28 l2 0).f0) ((rd_T28 l2 0).f1) ((rd_T28 l2 0).f2) ((rd_T28 l2 0).f3) ((rd_T28 l2 0).f4) _ _ ((rd_T28 l2 0).f5) t465 _ ?side1 ?side2 A85.out).mono ?_); (case side1 => exact sc_ (Kd.C_below HR464_5.out HB.out)); (case side2 => exact HC464_5.out); rintro e w88 ⟨rfl, hb⟩; refine ⟨_, rfl, ?_⟩; replace BK378 := Aside0.mk (blk_below (g := gb378) (o := .cells #[.int .i64 a1_0, .int .i64 a1_1, .string a1_2, .string a1_3, .slice A1_4 l1_4.length c1_4] 24 (0, 0)) (bk_ BK378.out) hb); replace BK379 := Aside0.mk (blk_below (g := gb379) (o := .cells #[.int .i64 0, .bool false, .int .i64 0, .bool false, .string (⟨#[]⟩ : ByteArray), .slice none 0 0] 28 (0, 0)) (bk_ BK379.out) hb); replace HB := Aside0.mk (below_step (hb2_ GE378.out GE379.out) hb); (try clear hb); (try clear hb2); (try clear hk); (try clear hi)) | ((with_reducible refine gate_callee (f := 19) rfl ?_); refine goesL_ (some 83) rfl rfl Tryz.func19 (by kernel_rfl) rfl #[.string t465] rfl rf_ ?_; (with_reducible refine (espalierref02_Chars.calls kj3 t465 t466 _ A86.out).mono ?_); rintro e w89 ⟨v467, rfl, ho0, hb⟩; refine ⟨_, rfl, ?_⟩; have HO468 := Aside0.mk (Kd.R_lower ho0 (below_size (hb2_ GE378.out GE379.out))); replace BK378 := Aside0.mk (blk_below (g := gb378) (o := .cells #[.int .i64 a1_0, .int .i64 a1_1, .string a1_2, .string a1_3, .slice A1_4 l1_4.length c1_4] 24 (0, 0)) (bk_ BK378.out) hb); replace BK379 := Aside0.mk (blk_below (g := gb379) (o := .cells #[.int .i64 0, .bool false, .int .i64 0, .bool false, .string (⟨#[]⟩ : ByteArray), .slice none 0 0] 28 (0, 0)) (bk_ BK379.out) hb); replace HB := Aside0.mk (below_step (hb2_ GE378.out GE379.out) hb); (try clear hb); (try clear hb2); (try clear hk); (try clear hi); (try clear ho0); obtain ⟨Ao90, co90, eo90⟩ := Kd.R_slice HO468.out; subst eo90) | ((with_reducible refine gate_callee (f := 13) rfl ?_); refine goesL_ (some 86) rfl rfl Tryz.func13 (by kernel_rfl) rfl #[.agg #[.bool true, .int .i64 (t466.length : Int)]] rfl rf_ ?_; (with_reducible refine (espalierref14_number.calls true (t466.length : Int) t469 t470 t471 t472 t473 t474 _ A87.out).mono ?_); rintro e w91 ⟨v475, rfl, ho0, hb⟩; refine ⟨_, rfl, ?_⟩; have HO476 := Aside0.mk (Kd.R_lower (Kd.R_new' ho0 (Kd.R_lt (ra_ HO468.out))) (below_size (hb2_ GE378.out GE379.out))); replace HO468 := Aside0.mk (Kd.R_elder' (ra_ HO468.out) (Kd.R_base ho0) hb); replace BK378 := Aside0.mk (blk_below (g := gb378) (o := .cells #[.int .i64 a1_0, .int .i64 a1_1, .string a1_2, .string a1_3, .slice A1_4 l1_4.length c1_4] 24 (0, 0)) (bk_ BK378.out) hb); replace BK379 := Aside0.mk (blk_below (g := gb379) (o := .cells #[.int .i64 0, .bool false, .int .i64 0, .bool false, .string (⟨#[]⟩ : ByteArray), .slice none 0 0] 28 (0, 0)) (bk_ BK379.out) hb); replace HB := Aside0.mk (below_step (hb2_ GE378.out GE379.out) hb); (try clear hb); (try clear hb2); (try clear hk); (try clear hi); (try clear ho0); have hnb92 := NB379_378.out; have hnc92 := NB378_379.out; obtain ⟨hcz93_0, hcz93_1, hcz93_2, hcz93_3, hcz93_4, hcz93_5⟩ := ce6_ BK379.out; obtain ⟨hfz93_0, hfz93_1, hfz93_2, hfz93_3, hfz93_4, hfz93_5⟩ := fr6_ BK379.out; obtain ⟨Ao94, co94, eo94⟩ := Kd.R_slice HO476.out; subst eo94))
              refine bodyPost_ret (results_cell_row rfl _ _ gb379 28 #[.int .i64 t469, .bool t470, .int .i64 t471, .bool t472, .string t473, .slice Ao94 t474.length co94] (0, 0) _ rfl (bp_ BK379.out) Tryz.underlying28 rfl (by kernel_rfl)) rfl ?_
              exact ⟨_, er_, rm_ (Kd.R_types HO476.out BK379.out (by decide)) (fun _ hk => hk.2), hb2_ GE378.out GE379.out⟩
             ·rw [if_neg c84] at H
              exact absurd H (by simp)
            ·rw [if_neg c83] at H
             have c83b0 := beq_eq_false_iff_ne.mpr c83
             have c83b1 := bne_iff_ne.mpr c83
             by_cases c95 : a0.toList = ([115, 116, 97, 114, 116, 115] : List UInt8)
             ·rw [if_pos c95] at H
              have c95b0 := beq_iff_eq.mpr c95
              have c95b1 := bne_eq_false_iff_eq.mpr c95
              clear c95
              by_cases c96 : 0 < (l2.length : Int)
              ·rw [if_pos c96] at H
               have c96b0 : decide (0 < (l2.length : Int)) = true := decide_eq_true c96
               have c96b1 : decide (0 < l2.length) = true := decide_eq_true (by omega)
               clear c96
               replace H := Option.bind_eq_some_iff.mp H
               obtain ⟨t478, A970, H⟩ := H
               replace H : (if 1 < (l2.length : Int) then ((espalierref14_Text.f kj3 ((rd_T28 l2 1).f0) ((rd_T28 l2 1).f1) ((rd_T28 l2 1).f2) ((rd_T28 l2 1).f3) ((rd_T28 l2 1).f4) ((rd_T28 l2 1).f5)).bind fun t480 => ((espalierref14_has.f t478 t480 0).bind fun t481 => ((espalierref14_truth.f t481).bind fun bt482 => (some (bt482.1, bt482.2.1, bt482.2.2.1, bt482.2.2.2.1, bt482.2.2.2.2.1, bt482.2.2.2.2.2))))) else (none)) = some (r1, r2, r3, r4, r5, r6) := H
               have A97 := Aside0.mk A970
               clear A970
               by_cases c98 : 1 < (l2.length : Int)
               ·rw [if_pos c98] at H
                have c98b0 : decide (1 < (l2.length : Int)) = true := decide_eq_true c98
                have c98b1 : decide (1 < l2.length) = true := decide_eq_true (by omega)
                clear c98
                replace H := Option.bind_eq_some_iff.mp H
                obtain ⟨t480, A990, H⟩ := H
                replace H : ((espalierref14_has.f t478 t480 0).bind fun t481 => ((espalierref14_truth.f t481).bind fun bt482 => (some (bt482.1, bt482.2.1, bt482.2.2.1, bt482.2.2.2.1, bt482.2.2.2.2.1, bt482.2.2.2.2.2)))) = some (r1, r2, r3, r4, r5, r6) := H
                have A99 := Aside0.mk A990
                clear A990
                replace H := Option.bind_eq_some_iff.mp H
                obtain ⟨t481, A1000, H⟩ := H
                replace H : ((espalierref14_truth.f t481).bind fun bt482 => (some (bt482.1, bt482.2.1, bt482.2.2.1, bt482.2.2.2.1, bt482.2.2.2.2.1, bt482.2.2.2.2.2))) = some (r1, r2, r3, r4, r5, r6) := H
                have A100 := Aside0.mk A1000
                clear A1000
                replace H := Option.bind_eq_some_iff.mp H
                obtain ⟨⟨t482, t483, t484, t485, t486, t487⟩, A1010, H⟩ := H
                replace H : (some (t482, t483, t484, t485, t486, t487)) = some (r1, r2, r3, r4, r5, r6) := H
                have A101 := Aside0.mk A1010
                clear A1010
                simp only [Option.some.injEq, Prod.mk.injEq] at H
                obtain ⟨rfl, rfl, rfl, rfl, rfl, rfl⟩ := H
                try go_wp2
                replace BK378 := Aside0.mk (blk_drew BK378.out)
                replace BK379 := Aside0.mk (blk_drew BK379.out)
                replace HB := Aside0.mk (below_drew1 HB.out)
                have p477 : 0 ≤ (0 : Int) := (by omega)
                have q477 : 0 < (l2.length : Int) := of_decide_eq_true (by first | (with_reducible assumption) | assumption)
                obtain ⟨ad477, A477_5, c477_5, e477, hx477_0, hx477_1, hx477_2, hx477_3, hx477_4, hx477_5, hl477_5, hi477_5⟩ := at_T28 HR2.out 0 p477 q477
                have hw477_5 := hx477_5
                (try rw [show ((0 : Int)).toNat = 0 from rfl] at hw477_5)
                (try rw [show 0 * 6 = 0 from rfl] at hw477_5)
                (try rw [Addr.add_zero'] at hw477_5)
                have hw477_4 := hx477_4
                (try rw [show ((0 : Int)).toNat = 0 from rfl] at hw477_4)
                (try rw [show 0 * 6 = 0 from rfl] at hw477_4)
                (try rw [Addr.add_zero'] at hw477_4)
                have hw477_3 := hx477_3
                (try rw [show ((0 : Int)).toNat = 0 from rfl] at hw477_3)
                (try rw [show 0 * 6 = 0 from rfl] at hw477_3)
                (try rw [Addr.add_zero'] at hw477_3)
                have hw477_2 := hx477_2
                (try rw [show ((0 : Int)).toNat = 0 from rfl] at hw477_2)
                (try rw [show 0 * 6 = 0 from rfl] at hw477_2)
                (try rw [Addr.add_zero'] at hw477_2)
                have hw477_1 := hx477_1
                (try rw [show ((0 : Int)).toNat = 0 from rfl] at hw477_1)
                (try rw [show 0 * 6 = 0 from rfl] at hw477_1)
                (try rw [Addr.add_zero'] at hw477_1)
                have hw477_0 := hx477_0
                (try rw [show ((0 : Int)).toNat = 0 from rfl] at hw477_0)
                (try rw [show 0 * 6 = 0 from rfl] at hw477_0)
                (try rw [Addr.add_zero'] at hw477_0)
                cases e477
                have qi477 : (0 < l2.length) = True := eq_true (by omega)
                (try rw [show ((0 : Int)).toNat = 0 from rfl] at hx477_0)
                (try rw [show 0 * 6 = 0 from rfl] at hx477_0)
                (try rw [Addr.add_zero'] at hx477_0)
                (try rw [show ((0 : Int)).toNat = 0 from rfl] at hx477_1)
                (try rw [show 0 * 6 = 0 from rfl] at hx477_1)
                (try rw [Addr.add_zero'] at hx477_1)
                (try rw [show ((0 : Int)).toNat = 0 from rfl] at hx477_2)
                (try rw [show 0 * 6 = 0 from rfl] at hx477_2)
                (try rw [Addr.add_zero'] at hx477_2)
                (try rw [show ((0 : Int)).toNat = 0 from rfl] at hx477_3)
                (try rw [show 0 * 6 = 0 from rfl] at hx477_3)
                (try rw [Addr.add_zero'] at hx477_3)
                (try rw [show ((0 : Int)).toNat = 0 from rfl] at hx477_4)
                (try rw [show 0 * 6 = 0 from rfl] at hx477_4)
                (try rw [Addr.add_zero'] at hx477_4)
                (try rw [show ((0 : Int)).toNat = 0 from rfl] at hx477_5)
                (try rw [show 0 * 6 = 0 from rfl] at hx477_5)
                (try rw [Addr.add_zero'] at hx477_5)
                replace hx477_0 := hc_ HB.out hx477_0
                replace hx477_1 := hc_ HB.out hx477_1
                replace hx477_2 := hc_ HB.out hx477_2
                replace hx477_3 := hc_ HB.out hx477_3
                replace hx477_4 := hc_ HB.out hx477_4
                replace hx477_5 := hc_ HB.out hx477_5
                have HR477_5 := Aside0.mk hi477_5
                have HC477_5 := Aside0.mk hl477_5
                clear hi477_5 hl477_5
                replace p477 := eq_true p477
                replace q477 := eq_true q477
                have p479 : 0 ≤ (1 : Int) := (by omega)
                have q479 : 1 < (l2.length : Int) := of_decide_eq_true (by first | (with_reducible assumption) | assumption)
                obtain ⟨ad479, A479_5, c479_5, e479, hx479_0, hx479_1, hx479_2, hx479_3, hx479_4, hx479_5, hl479_5, hi479_5⟩ := at_T28 HR2.out 1 p479 q479
                have hw479_5 := hx479_5
                (try rw [show ((1 : Int)).toNat = 1 from rfl] at hw479_5)
                (try rw [show 1 * 6 = 6 from rfl] at hw479_5)
                (try simp only [Nat.reduceMul, Nat.reduceEqDiff, Go.Addr.add, ↓reduceIte] at hw479_5)
                have hw479_4 := hx479_4
                (try rw [show ((1 : Int)).toNat = 1 from rfl] at hw479_4)
                (try rw [show 1 * 6 = 6 from rfl] at hw479_4)
                (try simp only [Nat.reduceMul, Nat.reduceEqDiff, Go.Addr.add, ↓reduceIte] at hw479_4)
                have hw479_3 := hx479_3
                (try rw [show ((1 : Int)).toNat = 1 from rfl] at hw479_3)
                (try rw [show 1 * 6 = 6 from rfl] at hw479_3)
                (try simp only [Nat.reduceMul, Nat.reduceEqDiff, Go.Addr.add, ↓reduceIte] at hw479_3)
                have hw479_2 := hx479_2
                (try rw [show ((1 : Int)).toNat = 1 from rfl] at hw479_2)
                (try rw [show 1 * 6 = 6 from rfl] at hw479_2)
                (try simp only [Nat.reduceMul, Nat.reduceEqDiff, Go.Addr.add, ↓reduceIte] at hw479_2)
                have hw479_1 := hx479_1
                (try rw [show ((1 : Int)).toNat = 1 from rfl] at hw479_1)
                (try rw [show 1 * 6 = 6 from rfl] at hw479_1)
                (try simp only [Nat.reduceMul, Nat.reduceEqDiff, Go.Addr.add, ↓reduceIte] at hw479_1)
                have hw479_0 := hx479_0
                (try rw [show ((1 : Int)).toNat = 1 from rfl] at hw479_0)
                (try rw [show 1 * 6 = 6 from rfl] at hw479_0)
                (try simp only [Nat.reduceMul, Nat.reduceEqDiff, Go.Addr.add, ↓reduceIte] at hw479_0)
                obtain rfl : ad477 = ad479 := (by injection e479)
                (try simp only [show (1 : Int).toNat = 1 from rfl, Nat.reduceMul, Nat.reduceEqDiff, Go.Addr.add, ↓reduceIte] at hx479_0)
                (try simp only [show (1 : Int).toNat = 1 from rfl, Nat.reduceMul, Nat.reduceEqDiff, Go.Addr.add, ↓reduceIte] at hx479_1)
                (try simp only [show (1 : Int).toNat = 1 from rfl, Nat.reduceMul, Nat.reduceEqDiff, Go.Addr.add, ↓reduceIte] at hx479_2)
                (try simp only [show (1 : Int).toNat = 1 from rfl, Nat.reduceMul, Nat.reduceEqDiff, Go.Addr.add, ↓reduceIte] at hx479_3)
                (try simp only [show (1 : Int).toNat = 1 from rfl, Nat.reduceMul, Nat.reduceEqDiff, Go.Addr.add, ↓reduceIte] at hx479_4)
                (try simp only [show (1 : Int).toNat = 1 from rfl, Nat.reduceMul, Nat.reduceEqDiff, Go.Addr.add, ↓reduceIte] at hx479_5)
                have qi479 : (1 < l2.length) = True := eq_true (by omega)
                (try rw [show ((1 : Int)).toNat = 1 from rfl] at hx479_0)
                (try rw [show 1 * 6 = 6 from rfl] at hx479_0)
                (try rw [show ((1 : Int)).toNat = 1 from rfl] at hx479_1)
                (try rw [show 1 * 6 = 6 from rfl] at hx479_1)
                (try rw [show ((1 : Int)).toNat = 1 from rfl] at hx479_2)
                (try rw [show 1 * 6 = 6 from rfl] at hx479_2)
                (try rw [show ((1 : Int)).toNat = 1 from rfl] at hx479_3)
                (try rw [show 1 * 6 = 6 from rfl] at hx479_3)
                (try rw [show ((1 : Int)).toNat = 1 from rfl] at hx479_4)
                (try rw [show 1 * 6 = 6 from rfl] at hx479_4)
                (try rw [show ((1 : Int)).toNat = 1 from rfl] at hx479_5)
                (try rw [show 1 * 6 = 6 from rfl] at hx479_5)
                replace hx479_0 := hc_ HB.out hx479_0
                replace hx479_1 := hc_ HB.out hx479_1
                replace hx479_2 := hc_ HB.out hx479_2
                replace hx479_3 := hc_ HB.out hx479_3
                replace hx479_4 := hc_ HB.out hx479_4
                replace hx479_5 := hc_ HB.out hx479_5
                have HR479_5 := Aside0.mk hi479_5
                have HC479_5 := Aside0.mk hl479_5
                clear hi479_5 hl479_5
                replace p479 := eq_true p479
                replace q479 := eq_true q479
                refine start_ (n := 11) (S := fun w' => w'.cell? ad477 = some (.int .i64 ((rd_T28 l2 0).f0)) ∧ w'.cell? ⟨ad477.block, ad477.off + 1, none⟩ = some (.bool ((rd_T28 l2 0).f1)) ∧ w'.cell? ⟨ad477.block, ad477.off + 2, none⟩ = some (.int .i64 ((rd_T28 l2 0).f2)) ∧ w'.cell? ⟨ad477.block, ad477.off + 3, none⟩ = some (.bool ((rd_T28 l2 0).f3)) ∧ w'.cell? ⟨ad477.block, ad477.off + 4, none⟩ = some (.string ((rd_T28 l2 0).f4)) ∧ w'.cell? ⟨ad477.block, ad477.off + 5, none⟩ = some (.slice A477_5 ((rd_T28 l2 0).f5).length c477_5) ∧ w'.cell? ⟨ad477.block, ad477.off + 6, none⟩ = some (.int .i64 ((rd_T28 l2 1).f0)) ∧ w'.cell? ⟨ad477.block, ad477.off + 6 + 1, none⟩ = some (.bool ((rd_T28 l2 1).f1)) ∧ w'.cell? ⟨ad477.block, ad477.off + 6 + 2, none⟩ = some (.int .i64 ((rd_T28 l2 1).f2)) ∧ w'.cell? ⟨ad477.block, ad477.off + 6 + 3, none⟩ = some (.bool ((rd_T28 l2 1).f3)) ∧ w'.cell? ⟨ad477.block, ad477.off + 6 + 4, none⟩ = some (.string ((rd_T28 l2 1).f4)) ∧ w'.cell? ⟨ad477.block, ad477.off + 6 + 5, none⟩ = some (.slice A479_5 ((rd_T28 l2 1).f5).length c479_5)) (ds := []) #[false, false, false, false, false, false, false, false, false, false, false] (by kernel_rfl) rfl rfl ⟨(hc_ HB.out hw477_0), (hc_ HB.out hw477_1), (hc_ HB.out hw477_2), (hc_ HB.out hw477_3), (hc_ HB.out hw477_4), (hc_ HB.out hw477_5), (hc_ HB.out hw479_0), (hc_ HB.out hw479_1), (hc_ HB.out hw479_2), (hc_ HB.out hw479_3), (hc_ HB.out hw479_4), (hc_ HB.out hw479_5)⟩ (fun hHeld => ?_); refine with_tabW espalierref14_Call.tab24 espalierref14_Call.bits24 (fun HT_ HW_ => ?_)
                generalize wc.drew = w102 at BK378 BK379 HB HR477_5 HR479_5 hx477_0 hx477_1 hx477_2 hx477_3 hx477_4 hx477_5 hx479_0 hx479_1 hx479_2 hx479_3 hx479_4 hx479_5 hHeld ⊢
                refine pu_ 0 (some 89) #[true, false, false, false, false, false, false, false, false, false, false] (any_of HT_.out (by kernel_rfl)) ?_
                refine pu_ 1 (some 90) #[true, true, false, false, false, false, false, false, false, false, false] (any_of HT_.out (by kernel_rfl)) ?_
                refine pu_ 4 (some 93) #[true, true, false, false, true, false, false, false, false, false, false] (any_of HT_.out (by kernel_rfl)) ?_
                refine pu_ 5 (some 94) #[true, true, false, false, true, true, false, false, false, false, false] (any_of HT_.out (by kernel_rfl)) ?_
                refine take_ (i := 2) (N := some 91) (v := ?_) (a' := ?_) #[true, true, true, false, true, true, false, false, false, false, false] rfl rfl (take_ofW HT_.out HW_.out (by kernel_rfl)) (fun _ _ _ h => h) (Or.inl ⟨by rfl, ?_⟩) hHeld ?_ ?_
                rotate_left
                ·rintro w' ⟨s0, s1, s2, s3, s4, s5, s6, s7, s8, s9, s10, s11⟩
                 go_simp
                 with_reducible rfl
                rotate_left
                ·simp only [Act.put, List.setIfInBounds_toArray, List.set_cons_zero, List.set_cons_succ, i64_w, i32_w]
                 rfl
                refine take_ (i := 6) (N := some 95) (v := ?_) (a' := ?_) #[true, true, true, false, true, true, true, false, false, false, false] rfl rfl (take_ofW HT_.out HW_.out (by kernel_rfl)) (fun _ _ _ h => h) (Or.inl ⟨by rfl, ?_⟩) hHeld ?_ ?_
                rotate_left
                ·rintro w' ⟨s0, s1, s2, s3, s4, s5, s6, s7, s8, s9, s10, s11⟩
                 go_simp
                 with_reducible rfl
                rotate_left
                ·simp only [Act.put, List.setIfInBounds_toArray, List.set_cons_zero, List.set_cons_succ, i64_w, i32_w]
                 rfl
                refine one_ (i := 3) (N := some 92) #[true, true, true, true, true, true, true, false, false, false, false] rfl rfl (one_of HT_.out (by kernel_rfl)) (by decide) (fun K hK => ?_)
                refine goes_ Tryz.func16 (by kernel_rfl) rfl #[.agg #[.int .i64 ((rd_T28 l2 0).f0), .bool ((rd_T28 l2 0).f1), .int .i64 ((rd_T28 l2 0).f2), .bool ((rd_T28 l2 0).f3), .string ((rd_T28 l2 0).f4), .slice A477_5 ((rd_T28 l2 0).f5).length c477_5]] (by rfl) rfl rfl rf_ ?_
                with_reducible refine (espalierref14_Text.calls kj3 ((rd_T28 l2 0).f0) ((rd_T28 l2 0).f1) ((rd_T28 l2 0).f2) ((rd_T28 l2 0).f3) ((rd_T28 l2 0).f4) _ _ ((rd_T28 l2 0).f5) t478 _ ?side1 ?side2 A97.out).mono ?_
                (case side1 => exact sc_ (Kd.C_below HR477_5.out HB.out))
                (case side2 => exact HC477_5.out)
                rintro e w103 ⟨rfl, hb⟩
                refine ⟨_, rfl, ?_⟩
                replace BK378 := Aside0.mk (blk_below (g := gb378) (o := .cells #[.int .i64 a1_0, .int .i64 a1_1, .string a1_2, .string a1_3, .slice A1_4 l1_4.length c1_4] 24 (0, 0)) (bk_ BK378.out) hb)
                replace BK379 := Aside0.mk (blk_below (g := gb379) (o := .cells #[.int .i64 0, .bool false, .int .i64 0, .bool false, .string (⟨#[]⟩ : ByteArray), .slice none 0 0] 28 (0, 0)) (bk_ BK379.out) hb)
                replace HB := Aside0.mk (below_step (hb2_ GE378.out GE379.out) hb)
                (try clear hb)
                (try clear hb2)
                (try clear hk)
                (try clear hi)
                refine hK.out _ _ ⟨(hc_ HB.out hw477_0), (hc_ HB.out hw477_1), (hc_ HB.out hw477_2), (hc_ HB.out hw477_3), (hc_ HB.out hw477_4), (hc_ HB.out hw477_5), (hc_ HB.out hw479_0), (hc_ HB.out hw479_1), (hc_ HB.out hw479_2), (hc_ HB.out hw479_3), (hc_ HB.out hw479_4), (hc_ HB.out hw479_5)⟩ (fun hHeld => ?_)
                clear hK K
                refine norm_ (a' := ?_) ?_ ?_
                rotate_left
                ·show Act.put _ (some 92) _ = _
                 simp only [Act.put, List.setIfInBounds_toArray, List.set_cons_zero, List.set_cons_succ, i64_w, i32_w]
                 rfl
                refine one_ (i := 7) (N := some 96) #[true, true, true, true, true, true, true, true, false, false, false] rfl rfl (one_of HT_.out (by kernel_rfl)) (by decide) (fun K hK => ?_)
                refine goes_ Tryz.func16 (by kernel_rfl) rfl #[.agg #[.int .i64 ((rd_T28 l2 1).f0), .bool ((rd_T28 l2 1).f1), .int .i64 ((rd_T28 l2 1).f2), .bool ((rd_T28 l2 1).f3), .string ((rd_T28 l2 1).f4), .slice A479_5 ((rd_T28 l2 1).f5).length c479_5]] (by rfl) rfl rfl rf_ ?_
                with_reducible refine (espalierref14_Text.calls kj3 ((rd_T28 l2 1).f0) ((rd_T28 l2 1).f1) ((rd_T28 l2 1).f2) ((rd_T28 l2 1).f3) ((rd_T28 l2 1).f4) _ _ ((rd_T28 l2 1).f5) t480 _ ?side1 ?side2 A99.out).mono ?_
                (case side1 => exact sc_ (Kd.C_below HR479_5.out HB.out))
                (case side2 => exact HC479_5.out)
                rintro e w104 ⟨rfl, hb⟩
                refine ⟨_, rfl, ?_⟩
                replace BK378 := Aside0.mk (blk_below (g := gb378) (o := .cells #[.int .i64 a1_0, .int .i64 a1_1, .string a1_2, .string a1_3, .slice A1_4 l1_4.length c1_4] 24 (0, 0)) (bk_ BK378.out) hb)
                replace BK379 := Aside0.mk (blk_below (g := gb379) (o := .cells #[.int .i64 0, .bool false, .int .i64 0, .bool false, .string (⟨#[]⟩ : ByteArray), .slice none 0 0] 28 (0, 0)) (bk_ BK379.out) hb)
                replace HB := Aside0.mk (below_step (hb2_ GE378.out GE379.out) hb)
                (try clear hb)
                (try clear hb2)
                (try clear hk)
                (try clear hi)
                refine hK.out _ _ ⟨(hc_ HB.out hw477_0), (hc_ HB.out hw477_1), (hc_ HB.out hw477_2), (hc_ HB.out hw477_3), (hc_ HB.out hw477_4), (hc_ HB.out hw477_5), (hc_ HB.out hw479_0), (hc_ HB.out hw479_1), (hc_ HB.out hw479_2), (hc_ HB.out hw479_3), (hc_ HB.out hw479_4), (hc_ HB.out hw479_5)⟩ (fun hHeld => ?_)
                clear hK K
                refine norm_ (a' := ?_) ?_ ?_
                rotate_left
                ·show Act.put _ (some 96) _ = _
                 simp only [Act.put, List.setIfInBounds_toArray, List.set_cons_zero, List.set_cons_succ, i64_w, i32_w]
                 rfl
                refine one_ (i := 8) (N := some 97) #[true, true, true, true, true, true, true, true, true, false, false] rfl rfl (one_of HT_.out (by kernel_rfl)) (by decide) (fun K hK => ?_)
                refine goes_ Tryz.func20 (by kernel_rfl) rfl #[.string t478, .string t480, .int .i64 0] (by rfl) rfl rfl rf_ ?_
                with_reducible refine (espalierref14_has.calls t478 t480 0 t481 _ A100.out).mono ?_
                rintro e w' ⟨rfl, ⟨nd, rfl⟩⟩
                refine ⟨_, rfl, ?_⟩
                refine hK.out _ _ ⟨(hc_ HB.out hw477_0), (hc_ HB.out hw477_1), (hc_ HB.out hw477_2), (hc_ HB.out hw477_3), (hc_ HB.out hw477_4), (hc_ HB.out hw477_5), (hc_ HB.out hw479_0), (hc_ HB.out hw479_1), (hc_ HB.out hw479_2), (hc_ HB.out hw479_3), (hc_ HB.out hw479_4), (hc_ HB.out hw479_5)⟩ (fun hHeld => ?_)
                clear hK K
                refine norm_ (a' := ?_) ?_ ?_
                rotate_left
                ·show Act.put _ (some 97) _ = _
                 simp only [Act.put, List.setIfInBounds_toArray, List.set_cons_zero, List.set_cons_succ, i64_w, i32_w]
                 rfl
                refine one_ (i := 9) (N := some 98) #[true, true, true, true, true, true, true, true, true, true, false] rfl rfl (one_of HT_.out (by kernel_rfl)) (by decide) (fun K hK => ?_)
                refine goes_ Tryz.func12 (by kernel_rfl) rfl #[.bool t481] (by rfl) rfl rfl rf_ ?_
                with_reducible refine (espalierref14_truth.calls t481 t482 t483 t484 t485 t486 t487 _ A101.out).mono ?_
                rintro e w105 ⟨v488, rfl, ho0, hb⟩
                refine ⟨_, rfl, ?_⟩
                have HO489 := Aside0.mk (Kd.R_lower ho0 (below_size (hb2_ GE378.out GE379.out)))
                replace BK378 := Aside0.mk (blk_below (g := gb378) (o := .cells #[.int .i64 a1_0, .int .i64 a1_1, .string a1_2, .string a1_3, .slice A1_4 l1_4.length c1_4] 24 (0, 0)) (bk_ BK378.out) hb)
                replace BK379 := Aside0.mk (blk_below (g := gb379) (o := .cells #[.int .i64 0, .bool false, .int .i64 0, .bool false, .string (⟨#[]⟩ : ByteArray), .slice none 0 0] 28 (0, 0)) (bk_ BK379.out) hb)
                replace HB := Aside0.mk (below_step (hb2_ GE378.out GE379.out) hb)
                (try clear hb)
                (try clear hb2)
                (try clear hk)
                (try clear hi)
                (try clear ho0)
                obtain ⟨Ao111, co111, eo111⟩ := Kd.R_slice HO489.out
                (first | subst eo111 | (injection eo111 with f1_ f2_ f3_; have f4_ := f1_.symm; have f5_ := f3_.symm; clear f1_ f2_ f3_; subst f4_; subst f5_))
                refine hK.out _ _ ⟨(hc_ HB.out hw477_0), (hc_ HB.out hw477_1), (hc_ HB.out hw477_2), (hc_ HB.out hw477_3), (hc_ HB.out hw477_4), (hc_ HB.out hw477_5), (hc_ HB.out hw479_0), (hc_ HB.out hw479_1), (hc_ HB.out hw479_2), (hc_ HB.out hw479_3), (hc_ HB.out hw479_4), (hc_ HB.out hw479_5)⟩ (fun hHeld => ?_)
                clear hK K
                refine norm_ (a' := ?_) ?_ ?_
                rotate_left
                ·show Act.put _ (some 98) _ = _
                 simp only [Act.put, List.setIfInBounds_toArray, List.set_cons_zero, List.set_cons_succ, i64_w, i32_w]
                 rfl
                refine one_ (i := 10) (N := none) #[true, true, true, true, true, true, true, true, true, true, true] rfl rfl (one_of HT_.out (by kernel_rfl)) (by decide) (fun K hK => ?_)
                have hs106 : w105.cell? ⟨gb379, 0, none⟩ = some (.int .i64 0) := (blk_cell BK379.out 0).trans rfl
                have hfs106 := blk_frozen BK379.out 0
                have hns106_0 := NB378_379.out
                have hms106_0 := NB379_378.out
                have hs107 : w105.cell? ⟨gb379, 1, none⟩ = some (.bool false) := (blk_cell BK379.out 1).trans rfl
                have hfs107 := blk_frozen BK379.out 1
                have hns107_0 := NB378_379.out
                have hms107_0 := NB379_378.out
                have hs108 : w105.cell? ⟨gb379, 2, none⟩ = some (.int .i64 0) := (blk_cell BK379.out 2).trans rfl
                have hfs108 := blk_frozen BK379.out 2
                have hns108_0 := NB378_379.out
                have hms108_0 := NB379_378.out
                have hs109 : w105.cell? ⟨gb379, 3, none⟩ = some (.bool false) := (blk_cell BK379.out 3).trans rfl
                have hfs109 := blk_frozen BK379.out 3
                have hns109_0 := NB378_379.out
                have hms109_0 := NB379_378.out
                have hs110 : w105.cell? ⟨gb379, 4, none⟩ = some (.string (⟨#[]⟩ : ByteArray)) := (blk_cell BK379.out 4).trans rfl
                have hfs110 := blk_frozen BK379.out 4
                have hns110_0 := NB378_379.out
                have hms110_0 := NB379_378.out
                have hs112 : w105.cell? ⟨gb379, 5, none⟩ = some (.slice none 0 0) := (blk_cell BK379.out 5).trans rfl
                have hfs112 := blk_frozen BK379.out 5
                have hns112_0 := NB378_379.out
                have hms112_0 := NB379_378.out
                refine skip_ (w1 := ?_) (by rfl) rfl ?_ ?_
                rotate_left
                ·go_simp
                 rfl
                refine hK.out _ _ ⟨((far_ hw477_0 GW379.out _).trans (((far_ hw477_0 GW379.out _).trans (((far_ hw477_0 GW379.out _).trans (((far_ hw477_0 GW379.out _).trans (((far_ hw477_0 GW379.out _).trans (((far_ hw477_0 GW379.out _).trans (hHeld.1)))))))))))), ((far_ hw477_1 GW379.out _).trans (((far_ hw477_1 GW379.out _).trans (((far_ hw477_1 GW379.out _).trans (((far_ hw477_1 GW379.out _).trans (((far_ hw477_1 GW379.out _).trans (((far_ hw477_1 GW379.out _).trans (hHeld.2.1)))))))))))), ((far_ hw477_2 GW379.out _).trans (((far_ hw477_2 GW379.out _).trans (((far_ hw477_2 GW379.out _).trans (((far_ hw477_2 GW379.out _).trans (((far_ hw477_2 GW379.out _).trans (((far_ hw477_2 GW379.out _).trans (hHeld.2.2.1)))))))))))), ((far_ hw477_3 GW379.out _).trans (((far_ hw477_3 GW379.out _).trans (((far_ hw477_3 GW379.out _).trans (((far_ hw477_3 GW379.out _).trans (((far_ hw477_3 GW379.out _).trans (((far_ hw477_3 GW379.out _).trans (hHeld.2.2.2.1)))))))))))), ((far_ hw477_4 GW379.out _).trans (((far_ hw477_4 GW379.out _).trans (((far_ hw477_4 GW379.out _).trans (((far_ hw477_4 GW379.out _).trans (((far_ hw477_4 GW379.out _).trans (((far_ hw477_4 GW379.out _).trans (hHeld.2.2.2.2.1)))))))))))), ((far_ hw477_5 GW379.out _).trans (((far_ hw477_5 GW379.out _).trans (((far_ hw477_5 GW379.out _).trans (((far_ hw477_5 GW379.out _).trans (((far_ hw477_5 GW379.out _).trans (((far_ hw477_5 GW379.out _).trans (hHeld.2.2.2.2.2.1)))))))))))), ((far_ hw479_0 GW379.out _).trans (((far_ hw479_0 GW379.out _).trans (((far_ hw479_0 GW379.out _).trans (((far_ hw479_0 GW379.out _).trans (((far_ hw479_0 GW379.out _).trans (((far_ hw479_0 GW379.out _).trans (hHeld.2.2.2.2.2.2.1)))))))))))), ((far_ hw479_1 GW379.out _).trans (((far_ hw479_1 GW379.out _).trans (((far_ hw479_1 GW379.out _).trans (((far_ hw479_1 GW379.out _).trans (((far_ hw479_1 GW379.out _).trans (((far_ hw479_1 GW379.out _).trans (hHeld.2.2.2.2.2.2.2.1)))))))))))), ((far_ hw479_2 GW379.out _).trans (((far_ hw479_2 GW379.out _).trans (((far_ hw479_2 GW379.out _).trans (((far_ hw479_2 GW379.out _).trans (((far_ hw479_2 GW379.out _).trans (((far_ hw479_2 GW379.out _).trans (hHeld.2.2.2.2.2.2.2.2.1)))))))))))), ((far_ hw479_3 GW379.out _).trans (((far_ hw479_3 GW379.out _).trans (((far_ hw479_3 GW379.out _).trans (((far_ hw479_3 GW379.out _).trans (((far_ hw479_3 GW379.out _).trans (((far_ hw479_3 GW379.out _).trans (hHeld.2.2.2.2.2.2.2.2.2.1)))))))))))), ((far_ hw479_4 GW379.out _).trans (((far_ hw479_4 GW379.out _).trans (((far_ hw479_4 GW379.out _).trans (((far_ hw479_4 GW379.out _).trans (((far_ hw479_4 GW379.out _).trans (((far_ hw479_4 GW379.out _).trans (hHeld.2.2.2.2.2.2.2.2.2.2.1)))))))))))), ((far_ hw479_5 GW379.out _).trans (((far_ hw479_5 GW379.out _).trans (((far_ hw479_5 GW379.out _).trans (((far_ hw479_5 GW379.out _).trans (((far_ hw479_5 GW379.out _).trans (((far_ hw479_5 GW379.out _).trans (hHeld.2.2.2.2.2.2.2.2.2.2.2))))))))))))⟩ (fun hHeld => ?_)
                clear hK K
                refine done_ (done_of HT_.out (by kernel_rfl)) ?_
                try go_wp2
                refine bodyPost_ret (results_cell_row rfl _ _ gb379 28 #[.int .i64 t482, .bool t483, .int .i64 t484, .bool t485, .string t486, .slice Ao111 t487.length co111] (0, 0) _ rfl (bp_ BK379.out) Tryz.underlying28 rfl (by kernel_rfl)) rfl ?_
                exact ⟨_, er_, rm_ (Kd.R_types HO489.out BK379.out (by decide)) (fun _ hk => hk.2), hb2_ GE378.out GE379.out⟩
               ·rw [if_neg c98] at H
                exact absurd H (by simp)
              ·rw [if_neg c96] at H
               exact absurd H (by simp)
             ·rw [if_neg c95] at H
              have c95b0 := beq_eq_false_iff_ne.mpr c95
              have c95b1 := bne_iff_ne.mpr c95
              by_cases c113 : 0 < (l2.length : Int)
              ·rw [if_pos c113] at H
               have c113b0 : decide (0 < (l2.length : Int)) = true := decide_eq_true c113
               have c113b1 : decide (0 < l2.length) = true := decide_eq_true (by omega)
               clear c113
               replace H := Option.bind_eq_some_iff.mp H
               obtain ⟨t491, A1140, H⟩ := H
               replace H : (if 1 < (l2.length : Int) then ((espalierref14_Text.f kj3 ((rd_T28 l2 1).f0) ((rd_T28 l2 1).f1) ((rd_T28 l2 1).f2) ((rd_T28 l2 1).f3) ((rd_T28 l2 1).f4) ((rd_T28 l2 1).f5)).bind fun t493 => (espalierref14_Call.l0 kj3 t491 t493 0)) else (none)) = some (r1, r2, r3, r4, r5, r6) := H
               have A114 := Aside0.mk A1140
               clear A1140
               by_cases c115 : 1 < (l2.length : Int)
               ·rw [if_pos c115] at H
                have c115b0 : decide (1 < (l2.length : Int)) = true := decide_eq_true c115
                have c115b1 : decide (1 < l2.length) = true := decide_eq_true (by omega)
                clear c115
                replace H := Option.bind_eq_some_iff.mp H
                obtain ⟨t493, A1160, H⟩ := H
                replace H : (espalierref14_Call.l0 kj3 t491 t493 0) = some (r1, r2, r3, r4, r5, r6) := H
                have A116 := Aside0.mk A1160
                clear A1160
                have H' := Aside0.mk H
                clear H
                try go_wp2
                replace BK378 := Aside0.mk (blk_drew BK378.out)
                replace BK379 := Aside0.mk (blk_drew BK379.out)
                replace HB := Aside0.mk (below_drew1 HB.out)
                have p490 : 0 ≤ (0 : Int) := (by omega)
                have q490 : 0 < (l2.length : Int) := of_decide_eq_true (by first | (with_reducible assumption) | assumption)
                obtain ⟨ad490, A490_5, c490_5, e490, hx490_0, hx490_1, hx490_2, hx490_3, hx490_4, hx490_5, hl490_5, hi490_5⟩ := at_T28 HR2.out 0 p490 q490
                have hw490_5 := hx490_5
                (try rw [show ((0 : Int)).toNat = 0 from rfl] at hw490_5)
                (try rw [show 0 * 6 = 0 from rfl] at hw490_5)
                (try rw [Addr.add_zero'] at hw490_5)
                have hw490_4 := hx490_4
                (try rw [show ((0 : Int)).toNat = 0 from rfl] at hw490_4)
                (try rw [show 0 * 6 = 0 from rfl] at hw490_4)
                (try rw [Addr.add_zero'] at hw490_4)
                have hw490_3 := hx490_3
                (try rw [show ((0 : Int)).toNat = 0 from rfl] at hw490_3)
                (try rw [show 0 * 6 = 0 from rfl] at hw490_3)
                (try rw [Addr.add_zero'] at hw490_3)
                have hw490_2 := hx490_2
                (try rw [show ((0 : Int)).toNat = 0 from rfl] at hw490_2)
                (try rw [show 0 * 6 = 0 from rfl] at hw490_2)
                (try rw [Addr.add_zero'] at hw490_2)
                have hw490_1 := hx490_1
                (try rw [show ((0 : Int)).toNat = 0 from rfl] at hw490_1)
                (try rw [show 0 * 6 = 0 from rfl] at hw490_1)
                (try rw [Addr.add_zero'] at hw490_1)
                have hw490_0 := hx490_0
                (try rw [show ((0 : Int)).toNat = 0 from rfl] at hw490_0)
                (try rw [show 0 * 6 = 0 from rfl] at hw490_0)
                (try rw [Addr.add_zero'] at hw490_0)
                cases e490
                have qi490 : (0 < l2.length) = True := eq_true (by omega)
                (try rw [show ((0 : Int)).toNat = 0 from rfl] at hx490_0)
                (try rw [show 0 * 6 = 0 from rfl] at hx490_0)
                (try rw [Addr.add_zero'] at hx490_0)
                (try rw [show ((0 : Int)).toNat = 0 from rfl] at hx490_1)
                (try rw [show 0 * 6 = 0 from rfl] at hx490_1)
                (try rw [Addr.add_zero'] at hx490_1)
                (try rw [show ((0 : Int)).toNat = 0 from rfl] at hx490_2)
                (try rw [show 0 * 6 = 0 from rfl] at hx490_2)
                (try rw [Addr.add_zero'] at hx490_2)
                (try rw [show ((0 : Int)).toNat = 0 from rfl] at hx490_3)
                (try rw [show 0 * 6 = 0 from rfl] at hx490_3)
                (try rw [Addr.add_zero'] at hx490_3)
                (try rw [show ((0 : Int)).toNat = 0 from rfl] at hx490_4)
                (try rw [show 0 * 6 = 0 from rfl] at hx490_4)
                (try rw [Addr.add_zero'] at hx490_4)
                (try rw [show ((0 : Int)).toNat = 0 from rfl] at hx490_5)
                (try rw [show 0 * 6 = 0 from rfl] at hx490_5)
                (try rw [Addr.add_zero'] at hx490_5)
                replace hx490_0 := hc_ HB.out hx490_0
                replace hx490_1 := hc_ HB.out hx490_1
                replace hx490_2 := hc_ HB.out hx490_2
                replace hx490_3 := hc_ HB.out hx490_3
                replace hx490_4 := hc_ HB.out hx490_4
                replace hx490_5 := hc_ HB.out hx490_5
                have HR490_5 := Aside0.mk hi490_5
                have HC490_5 := Aside0.mk hl490_5
                clear hi490_5 hl490_5
                replace p490 := eq_true p490
                replace q490 := eq_true q490
                have p492 : 0 ≤ (1 : Int) := (by omega)
                have q492 : 1 < (l2.length : Int) := of_decide_eq_true (by first | (with_reducible assumption) | assumption)
                obtain ⟨ad492, A492_5, c492_5, e492, hx492_0, hx492_1, hx492_2, hx492_3, hx492_4, hx492_5, hl492_5, hi492_5⟩ := at_T28 HR2.out 1 p492 q492
                have hw492_5 := hx492_5
                (try rw [show ((1 : Int)).toNat = 1 from rfl] at hw492_5)
                (try rw [show 1 * 6 = 6 from rfl] at hw492_5)
                (try simp only [Nat.reduceMul, Nat.reduceEqDiff, Go.Addr.add, ↓reduceIte] at hw492_5)
                have hw492_4 := hx492_4
                (try rw [show ((1 : Int)).toNat = 1 from rfl] at hw492_4)
                (try rw [show 1 * 6 = 6 from rfl] at hw492_4)
                (try simp only [Nat.reduceMul, Nat.reduceEqDiff, Go.Addr.add, ↓reduceIte] at hw492_4)
                have hw492_3 := hx492_3
                (try rw [show ((1 : Int)).toNat = 1 from rfl] at hw492_3)
                (try rw [show 1 * 6 = 6 from rfl] at hw492_3)
                (try simp only [Nat.reduceMul, Nat.reduceEqDiff, Go.Addr.add, ↓reduceIte] at hw492_3)
                have hw492_2 := hx492_2
                (try rw [show ((1 : Int)).toNat = 1 from rfl] at hw492_2)
                (try rw [show 1 * 6 = 6 from rfl] at hw492_2)
                (try simp only [Nat.reduceMul, Nat.reduceEqDiff, Go.Addr.add, ↓reduceIte] at hw492_2)
                have hw492_1 := hx492_1
                (try rw [show ((1 : Int)).toNat = 1 from rfl] at hw492_1)
                (try rw [show 1 * 6 = 6 from rfl] at hw492_1)
                (try simp only [Nat.reduceMul, Nat.reduceEqDiff, Go.Addr.add, ↓reduceIte] at hw492_1)
                have hw492_0 := hx492_0
                (try rw [show ((1 : Int)).toNat = 1 from rfl] at hw492_0)
                (try rw [show 1 * 6 = 6 from rfl] at hw492_0)
                (try simp only [Nat.reduceMul, Nat.reduceEqDiff, Go.Addr.add, ↓reduceIte] at hw492_0)
                obtain rfl : ad490 = ad492 := (by injection e492)
                (try simp only [show (1 : Int).toNat = 1 from rfl, Nat.reduceMul, Nat.reduceEqDiff, Go.Addr.add, ↓reduceIte] at hx492_0)
                (try simp only [show (1 : Int).toNat = 1 from rfl, Nat.reduceMul, Nat.reduceEqDiff, Go.Addr.add, ↓reduceIte] at hx492_1)
                (try simp only [show (1 : Int).toNat = 1 from rfl, Nat.reduceMul, Nat.reduceEqDiff, Go.Addr.add, ↓reduceIte] at hx492_2)
                (try simp only [show (1 : Int).toNat = 1 from rfl, Nat.reduceMul, Nat.reduceEqDiff, Go.Addr.add, ↓reduceIte] at hx492_3)
                (try simp only [show (1 : Int).toNat = 1 from rfl, Nat.reduceMul, Nat.reduceEqDiff, Go.Addr.add, ↓reduceIte] at hx492_4)
                (try simp only [show (1 : Int).toNat = 1 from rfl, Nat.reduceMul, Nat.reduceEqDiff, Go.Addr.add, ↓reduceIte] at hx492_5)
                have qi492 : (1 < l2.length) = True := eq_true (by omega)
                (try rw [show ((1 : Int)).toNat = 1 from rfl] at hx492_0)
                (try rw [show 1 * 6 = 6 from rfl] at hx492_0)
                (try rw [show ((1 : Int)).toNat = 1 from rfl] at hx492_1)
                (try rw [show 1 * 6 = 6 from rfl] at hx492_1)
                (try rw [show ((1 : Int)).toNat = 1 from rfl] at hx492_2)
                (try rw [show 1 * 6 = 6 from rfl] at hx492_2)
                (try rw [show ((1 : Int)).toNat = 1 from rfl] at hx492_3)
                (try rw [show 1 * 6 = 6 from rfl] at hx492_3)
                (try rw [show ((1 : Int)).toNat = 1 from rfl] at hx492_4)
                (try rw [show 1 * 6 = 6 from rfl] at hx492_4)
                (try rw [show ((1 : Int)).toNat = 1 from rfl] at hx492_5)
                (try rw [show 1 * 6 = 6 from rfl] at hx492_5)
                replace hx492_0 := hc_ HB.out hx492_0
                replace hx492_1 := hc_ HB.out hx492_1
                replace hx492_2 := hc_ HB.out hx492_2
                replace hx492_3 := hc_ HB.out hx492_3
                replace hx492_4 := hc_ HB.out hx492_4
                replace hx492_5 := hc_ HB.out hx492_5
                have HR492_5 := Aside0.mk hi492_5
                have HC492_5 := Aside0.mk hl492_5
                clear hi492_5 hl492_5
                replace p492 := eq_true p492
                replace q492 := eq_true q492
                refine start_ (n := 10) (S := fun w' => w'.cell? ad490 = some (.int .i64 ((rd_T28 l2 0).f0)) ∧ w'.cell? ⟨ad490.block, ad490.off + 1, none⟩ = some (.bool ((rd_T28 l2 0).f1)) ∧ w'.cell? ⟨ad490.block, ad490.off + 2, none⟩ = some (.int .i64 ((rd_T28 l2 0).f2)) ∧ w'.cell? ⟨ad490.block, ad490.off + 3, none⟩ = some (.bool ((rd_T28 l2 0).f3)) ∧ w'.cell? ⟨ad490.block, ad490.off + 4, none⟩ = some (.string ((rd_T28 l2 0).f4)) ∧ w'.cell? ⟨ad490.block, ad490.off + 5, none⟩ = some (.slice A490_5 ((rd_T28 l2 0).f5).length c490_5) ∧ w'.cell? ⟨ad490.block, ad490.off + 6, none⟩ = some (.int .i64 ((rd_T28 l2 1).f0)) ∧ w'.cell? ⟨ad490.block, ad490.off + 6 + 1, none⟩ = some (.bool ((rd_T28 l2 1).f1)) ∧ w'.cell? ⟨ad490.block, ad490.off + 6 + 2, none⟩ = some (.int .i64 ((rd_T28 l2 1).f2)) ∧ w'.cell? ⟨ad490.block, ad490.off + 6 + 3, none⟩ = some (.bool ((rd_T28 l2 1).f3)) ∧ w'.cell? ⟨ad490.block, ad490.off + 6 + 4, none⟩ = some (.string ((rd_T28 l2 1).f4)) ∧ w'.cell? ⟨ad490.block, ad490.off + 6 + 5, none⟩ = some (.slice A492_5 ((rd_T28 l2 1).f5).length c492_5)) (ds := []) #[false, false, false, false, false, false, false, false, false, false] (by kernel_rfl) rfl rfl ⟨(hc_ HB.out hw490_0), (hc_ HB.out hw490_1), (hc_ HB.out hw490_2), (hc_ HB.out hw490_3), (hc_ HB.out hw490_4), (hc_ HB.out hw490_5), (hc_ HB.out hw492_0), (hc_ HB.out hw492_1), (hc_ HB.out hw492_2), (hc_ HB.out hw492_3), (hc_ HB.out hw492_4), (hc_ HB.out hw492_5)⟩ (fun hHeld => ?_); refine with_tabW espalierref14_Call.tab25 espalierref14_Call.bits25 (fun HT_ HW_ => ?_)
                generalize wc.drew = w117 at BK378 BK379 HB HR490_5 HR492_5 hx490_0 hx490_1 hx490_2 hx490_3 hx490_4 hx490_5 hx492_0 hx492_1 hx492_2 hx492_3 hx492_4 hx492_5 hHeld ⊢
                refine pu_ 0 (some 99) #[true, false, false, false, false, false, false, false, false, false] (any_of HT_.out (by kernel_rfl)) ?_
                refine pu_ 1 (some 100) #[true, true, false, false, false, false, false, false, false, false] (any_of HT_.out (by kernel_rfl)) ?_
                refine pu_ 4 (some 103) #[true, true, false, false, true, false, false, false, false, false] (any_of HT_.out (by kernel_rfl)) ?_
                refine pu_ 5 (some 104) #[true, true, false, false, true, true, false, false, false, false] (any_of HT_.out (by kernel_rfl)) ?_
                refine take_ (i := 2) (N := some 101) (v := ?_) (a' := ?_) #[true, true, true, false, true, true, false, false, false, false] rfl rfl (take_ofW HT_.out HW_.out (by kernel_rfl)) (fun _ _ _ h => h) (Or.inl ⟨by rfl, ?_⟩) hHeld ?_ ?_
                rotate_left
                ·rintro w' ⟨s0, s1, s2, s3, s4, s5, s6, s7, s8, s9, s10, s11⟩
                 go_simp
                 with_reducible rfl
                rotate_left
                ·simp only [Act.put, List.setIfInBounds_toArray, List.set_cons_zero, List.set_cons_succ, i64_w, i32_w]
                 rfl
                refine take_ (i := 6) (N := some 105) (v := ?_) (a' := ?_) #[true, true, true, false, true, true, true, false, false, false] rfl rfl (take_ofW HT_.out HW_.out (by kernel_rfl)) (fun _ _ _ h => h) (Or.inl ⟨by rfl, ?_⟩) hHeld ?_ ?_
                rotate_left
                ·rintro w' ⟨s0, s1, s2, s3, s4, s5, s6, s7, s8, s9, s10, s11⟩
                 go_simp
                 with_reducible rfl
                rotate_left
                ·simp only [Act.put, List.setIfInBounds_toArray, List.set_cons_zero, List.set_cons_succ, i64_w, i32_w]
                 rfl
                refine one_ (i := 3) (N := some 102) #[true, true, true, true, true, true, true, false, false, false] rfl rfl (one_of HT_.out (by kernel_rfl)) (by decide) (fun K hK => ?_)
                refine goes_ Tryz.func16 (by kernel_rfl) rfl #[.agg #[.int .i64 ((rd_T28 l2 0).f0), .bool ((rd_T28 l2 0).f1), .int .i64 ((rd_T28 l2 0).f2), .bool ((rd_T28 l2 0).f3), .string ((rd_T28 l2 0).f4), .slice A490_5 ((rd_T28 l2 0).f5).length c490_5]] (by rfl) rfl rfl rf_ ?_
                with_reducible refine (espalierref14_Text.calls kj3 ((rd_T28 l2 0).f0) ((rd_T28 l2 0).f1) ((rd_T28 l2 0).f2) ((rd_T28 l2 0).f3) ((rd_T28 l2 0).f4) _ _ ((rd_T28 l2 0).f5) t491 _ ?side1 ?side2 A114.out).mono ?_
                (case side1 => exact sc_ (Kd.C_below HR490_5.out HB.out))
                (case side2 => exact HC490_5.out)
                rintro e w118 ⟨rfl, hb⟩
                refine ⟨_, rfl, ?_⟩
                replace BK378 := Aside0.mk (blk_below (g := gb378) (o := .cells #[.int .i64 a1_0, .int .i64 a1_1, .string a1_2, .string a1_3, .slice A1_4 l1_4.length c1_4] 24 (0, 0)) (bk_ BK378.out) hb)
                replace BK379 := Aside0.mk (blk_below (g := gb379) (o := .cells #[.int .i64 0, .bool false, .int .i64 0, .bool false, .string (⟨#[]⟩ : ByteArray), .slice none 0 0] 28 (0, 0)) (bk_ BK379.out) hb)
                replace HB := Aside0.mk (below_step (hb2_ GE378.out GE379.out) hb)
                (try clear hb)
                (try clear hb2)
                (try clear hk)
                (try clear hi)
                refine hK.out _ _ ⟨(hc_ HB.out hw490_0), (hc_ HB.out hw490_1), (hc_ HB.out hw490_2), (hc_ HB.out hw490_3), (hc_ HB.out hw490_4), (hc_ HB.out hw490_5), (hc_ HB.out hw492_0), (hc_ HB.out hw492_1), (hc_ HB.out hw492_2), (hc_ HB.out hw492_3), (hc_ HB.out hw492_4), (hc_ HB.out hw492_5)⟩ (fun hHeld => ?_)
                clear hK K
                refine norm_ (a' := ?_) ?_ ?_
                rotate_left
                ·show Act.put _ (some 102) _ = _
                 simp only [Act.put, List.setIfInBounds_toArray, List.set_cons_zero, List.set_cons_succ, i64_w, i32_w]
                 rfl
                refine one_ (i := 7) (N := some 106) #[true, true, true, true, true, true, true, true, false, false] rfl rfl (one_of HT_.out (by kernel_rfl)) (by decide) (fun K hK => ?_)
                refine goes_ Tryz.func16 (by kernel_rfl) rfl #[.agg #[.int .i64 ((rd_T28 l2 1).f0), .bool ((rd_T28 l2 1).f1), .int .i64 ((rd_T28 l2 1).f2), .bool ((rd_T28 l2 1).f3), .string ((rd_T28 l2 1).f4), .slice A492_5 ((rd_T28 l2 1).f5).length c492_5]] (by rfl) rfl rfl rf_ ?_
                with_reducible refine (espalierref14_Text.calls kj3 ((rd_T28 l2 1).f0) ((rd_T28 l2 1).f1) ((rd_T28 l2 1).f2) ((rd_T28 l2 1).f3) ((rd_T28 l2 1).f4) _ _ ((rd_T28 l2 1).f5) t493 _ ?side1 ?side2 A116.out).mono ?_
                (case side1 => exact sc_ (Kd.C_below HR492_5.out HB.out))
                (case side2 => exact HC492_5.out)
                rintro e w119 ⟨rfl, hb⟩
                refine ⟨_, rfl, ?_⟩
                replace BK378 := Aside0.mk (blk_below (g := gb378) (o := .cells #[.int .i64 a1_0, .int .i64 a1_1, .string a1_2, .string a1_3, .slice A1_4 l1_4.length c1_4] 24 (0, 0)) (bk_ BK378.out) hb)
                replace BK379 := Aside0.mk (blk_below (g := gb379) (o := .cells #[.int .i64 0, .bool false, .int .i64 0, .bool false, .string (⟨#[]⟩ : ByteArray), .slice none 0 0] 28 (0, 0)) (bk_ BK379.out) hb)
                replace HB := Aside0.mk (below_step (hb2_ GE378.out GE379.out) hb)
                (try clear hb)
                (try clear hb2)
                (try clear hk)
                (try clear hi)
                refine hK.out _ _ ⟨(hc_ HB.out hw490_0), (hc_ HB.out hw490_1), (hc_ HB.out hw490_2), (hc_ HB.out hw490_3), (hc_ HB.out hw490_4), (hc_ HB.out hw490_5), (hc_ HB.out hw492_0), (hc_ HB.out hw492_1), (hc_ HB.out hw492_2), (hc_ HB.out hw492_3), (hc_ HB.out hw492_4), (hc_ HB.out hw492_5)⟩ (fun hHeld => ?_)
                clear hK K
                refine norm_ (a' := ?_) ?_ ?_
                rotate_left
                ·show Act.put _ (some 106) _ = _
                 simp only [Act.put, List.setIfInBounds_toArray, List.set_cons_zero, List.set_cons_succ, i64_w, i32_w]
                 rfl
                refine pu_ 8 (some 7) #[true, true, true, true, true, true, true, true, true, false] (any_of HT_.out (by kernel_rfl)) ?_
                refine pu_ 9 (some 8) #[true, true, true, true, true, true, true, true, true, true] (any_of HT_.out (by kernel_rfl)) ?_
                refine done_ (done_of HT_.out (by kernel_rfl)) ?_
                try go_wp2
                go_loopg [9] kj3 (fun kq v9 w' => ∃ (x9_2 : Int) (x380000_2 : Int) (x380001_2 : Bool) (x380002_2 : Int) (x380003_2 : Bool) (x380004_2 : ByteArray), v9 = .int .i64 x9_2 ∧ Aside0 (espalierref14_Call.l0 kq t491 t493 x9_2 = some (r1, r2, r3, r4, r5, r6)) ∧ Aside0 (kq ≤ kj3) ∧ Aside0 (w'.heap[gb378]? = some (.cells #[.int .i64 a1_0, .int .i64 a1_1, .string a1_2, .string a1_3, (.slice A1_4 l1_4.length c1_4)] 24 (0, 0))) ∧ Aside0 (w'.heap[gb379]? = some (.cells #[.int .i64 x380000_2, .bool x380001_2, .int .i64 x380002_2, .bool x380003_2, .string x380004_2, (.slice none 0 0)] 28 (0, 0))) ∧ Aside0 (Below w.heap.size w w'))
                case atStart => exact ⟨(0), (0), (false), (0), (false), ((⟨#[]⟩ : ByteArray)), (by first | rfl | (simp; done) | (simp [*]; done)), H', ⟨Nat.le_refl _⟩, ⟨bk_ BK378.out⟩, ⟨bk_ BK379.out⟩, ⟨hb2_ GE378.out GE379.out⟩⟩
                case round =>
                 clear H'
                 try clear c1
                 try clear c2
                 try clear p2
                 try clear c4
                 try clear p4
                 try clear q4
                 try clear hx4
                 try clear qi4
                 try clear c9
                 try clear c11
                 try clear c12
                 try clear c16
                 try clear c20
                 try clear c47
                 try clear p47
                 try clear q47
                 try clear hx47
                 try clear qi47
                 try clear c49
                 try clear p49
                 try clear q49
                 try clear hx49
                 try clear qi49
                 try clear c95
                 try clear c95b0
                 try clear c95b1
                 try clear c96
                 try clear c98
                 try clear c113
                 try clear c113b0
                 try clear c113b1
                 try clear c115
                 try clear c115b0
                 try clear c115b1
                 try clear hx477_0
                 try clear hx477_1
                 try clear hx477_2
                 try clear hx477_3
                 try clear hx477_4
                 try clear hx477_5
                 try clear hx479_0
                 try clear hx479_1
                 try clear hx479_2
                 try clear hx479_3
                 try clear hx479_4
                 try clear hx479_5
                 try clear hx490_0
                 try clear hx490_1
                 try clear hx490_2
                 try clear hx490_3
                 try clear hx490_4
                 try clear hx490_5
                 try clear hx492_0
                 try clear hx492_1
                 try clear hx492_2
                 try clear hx492_3
                 try clear hx492_4
                 try clear hx492_5
                 try clear p477
                 try clear p479
                 try clear p490
                 try clear p492
                 try clear q477
                 try clear q479
                 try clear q490
                 try clear q492
                 obtain ⟨x9_2, x380000_2, x380001_2, x380002_2, x380003_2, x380004_2, rfl, HA, HK2, BK378, BK379, HB⟩ := hrel
                 cases gk with
                 | zero => exact absurd HA.out (by simp [espalierref14_Call.l0])
                 | succ k2 =>
                  have H := HA.out
                  clear HA
                  simp only [espalierref14_Call.l0] at H
                  by_cases c120 : x9_2 ≤ (t491.size : Int)
                  ·rw [if_pos c120] at H
                   have c120b0 : decide (x9_2 ≤ (t491.size : Int)) = true := decide_eq_true c120
                   clear c120
                   replace H := Option.bind_eq_some_iff.mp H
                   obtain ⟨t502, A1210, H⟩ := H
                   replace H : (if t502 = true then ((espalierref14_truth.f true).bind fun bt503 => (some (bt503.1, bt503.2.1, bt503.2.2.1, bt503.2.2.2.1, bt503.2.2.2.2.1, bt503.2.2.2.2.2))) else (espalierref14_Call.l0 k2 t491 t493 (wrap64 (x9_2 + 1)))) = some (r1, r2, r3, r4, r5, r6) := H
                   have A121 := Aside0.mk A1210
                   clear A1210
                   by_cases c122 : t502 = true
                   ·subst c122
                    rw [if_pos rfl] at H
                    replace H := Option.bind_eq_some_iff.mp H
                    obtain ⟨⟨t503, t504, t505, t506, t507, t508⟩, A1230, H⟩ := H
                    replace H : (some (t503, t504, t505, t506, t507, t508)) = some (r1, r2, r3, r4, r5, r6) := H
                    have A123 := Aside0.mk A1230
                    clear A1230
                    simp only [Option.some.injEq, Prod.mk.injEq] at H
                    obtain ⟨rfl, rfl, rfl, rfl, rfl, rfl⟩ := H
                    go_wp2_with (first | ((with_reducible refine gate_callee (f := 20) rfl ?_); refine goesL_ (some 116) rfl rfl Tryz.func20 (by kernel_rfl) rfl #[.string t491, .string t493, .int .i64 x9_2] rfl rf_ ?_; (with_reducible refine (espalierref14_has.calls t491 t493 x9_2 true _ A121.out).mono ?_); rintro e w' ⟨rfl, ⟨nd, rfl⟩⟩; refine ⟨_, rfl, ?_⟩; (try (rw [drewN_self wr]; generalize hq_ : World.drewN wr _ = wr; have n0_ : Aside0 (wr.heap[gb378]? = some (.cells #[.int .i64 a1_0, .int .i64 a1_1, .string a1_2, .string a1_3, .slice A1_4 l1_4.length c1_4] 24 (0, 0))) := ⟨by rw [← hq_]; exact (bk_ BK378.out)⟩; have n1_ : Aside0 (wr.heap[gb379]? = some (.cells #[.int .i64 x380000_2, .bool x380001_2, .int .i64 x380002_2, .bool x380003_2, .string x380004_2, .slice none 0 0] 28 (0, 0))) := ⟨by rw [← hq_]; exact (bk_ BK379.out)⟩; have n2_ : Aside0 (Below w.heap.size w wr) := ⟨by rw [← hq_]; exact (hb2_ GE378.out GE379.out)⟩; clear BK378 BK379 HB hq_; have BK378 := n0_; have BK379 := n1_; have HB := n2_; clear n0_ n1_ n2_))) | ((with_reducible refine gate_callee (f := 12) rfl ?_); refine goesL_ (some 117) rfl rfl Tryz.func12 (by kernel_rfl) rfl #[.bool true] rfl rf_ ?_; (with_reducible refine (espalierref14_truth.calls true t503 t504 t505 t506 t507 t508 _ A123.out).mono ?_); rintro e w124 ⟨v509, rfl, ho0, hb⟩; refine ⟨_, rfl, ?_⟩; have HO510 := Aside0.mk (Kd.R_lower ho0 (below_size (hb2_ GE378.out GE379.out))); replace BK378 := Aside0.mk (blk_below (g := gb378) (o := .cells #[.int .i64 a1_0, .int .i64 a1_1, .string a1_2, .string a1_3, .slice A1_4 l1_4.length c1_4] 24 (0, 0)) (bk_ BK378.out) hb); replace BK379 := Aside0.mk (blk_below (g := gb379) (o := .cells #[.int .i64 x380000_2, .bool x380001_2, .int .i64 x380002_2, .bool x380003_2, .string x380004_2, .slice none 0 0] 28 (0, 0)) (bk_ BK379.out) hb); replace HB := Aside0.mk (below_step (hb2_ GE378.out GE379.out) hb); (try clear hb); (try clear hb2); (try clear hk); (try clear hi); (try clear ho0); have hnb125 := NB379_378.out; have hnc125 := NB378_379.out; obtain ⟨hcz126_0, hcz126_1, hcz126_2, hcz126_3, hcz126_4, hcz126_5⟩ := ce6_ BK379.out; obtain ⟨hfz126_0, hfz126_1, hfz126_2, hfz126_3, hfz126_4, hfz126_5⟩ := fr6_ BK379.out; obtain ⟨Ao127, co127, eo127⟩ := Kd.R_slice HO510.out; subst eo127))
                    refine bodyPost_ret (results_cell_row rfl _ _ gb379 28 #[.int .i64 t503, .bool t504, .int .i64 t505, .bool t506, .string t507, .slice Ao127 t508.length co127] (0, 0) _ rfl (bp_ BK379.out) Tryz.underlying28 rfl (by kernel_rfl)) rfl ?_
                    exact ⟨_, er_, rm_ (Kd.R_types HO510.out BK379.out (by decide)) (fun _ hk => hk.2), hb2_ GE378.out GE379.out⟩
                   ·replace c122 := Bool.eq_false_iff.mpr c122
                    subst c122
                    rw [if_neg (show ¬ (false = true) by decide)] at H
                    have H' := Aside0.mk H
                    clear H
                    go_wp2_with (first | ((with_reducible refine gate_callee (f := 20) rfl ?_); refine goesL_ (some 116) rfl rfl Tryz.func20 (by kernel_rfl) rfl #[.string t491, .string t493, .int .i64 x9_2] rfl rf_ ?_; (with_reducible refine (espalierref14_has.calls t491 t493 x9_2 false _ A121.out).mono ?_); rintro e w' ⟨rfl, ⟨nd, rfl⟩⟩; refine ⟨_, rfl, ?_⟩))
                    go_roundg k2
                    case measure => have := HJ3.out; have := HK2.out; omega
                    case rel => exact ⟨(wrap64 (x9_2 + 1)), (x380000_2), (x380001_2), (x380002_2), (x380003_2), (x380004_2), (by first | rfl | (simp; done) | (simp [*]; done)), H', ⟨by have := HJ3.out; have := HK2.out; omega⟩, ⟨bk_ BK378.out⟩, ⟨bk_ BK379.out⟩, ⟨hb2_ GE378.out GE379.out⟩⟩
                  ·rw [if_neg c120] at H
                   have c120b0 : decide (x9_2 ≤ (t491.size : Int)) = false := decide_eq_false c120
                   clear c120
                   replace H := Option.bind_eq_some_iff.mp H
                   obtain ⟨⟨t494, t495, t496, t497, t498, t499⟩, A1280, H⟩ := H
                   replace H : (some (t494, t495, t496, t497, t498, t499)) = some (r1, r2, r3, r4, r5, r6) := H
                   have A128 := Aside0.mk A1280
                   clear A1280
                   simp only [Option.some.injEq, Prod.mk.injEq] at H
                   obtain ⟨rfl, rfl, rfl, rfl, rfl, rfl⟩ := H
                   go_wp2_with (first | ((with_reducible refine gate_callee (f := 12) rfl ?_); refine goesL_ (some 118) rfl rfl Tryz.func12 (by kernel_rfl) rfl #[.bool false] rfl rf_ ?_; (with_reducible refine (espalierref14_truth.calls false t494 t495 t496 t497 t498 t499 _ A128.out).mono ?_); rintro e w129 ⟨v500, rfl, ho0, hb⟩; refine ⟨_, rfl, ?_⟩; have HO501 := Aside0.mk (Kd.R_lower ho0 (below_size (hb2_ GE378.out GE379.out))); replace BK378 := Aside0.mk (blk_below (g := gb378) (o := .cells #[.int .i64 a1_0, .int .i64 a1_1, .string a1_2, .string a1_3, .slice A1_4 l1_4.length c1_4] 24 (0, 0)) (bk_ BK378.out) hb); replace BK379 := Aside0.mk (blk_below (g := gb379) (o := .cells #[.int .i64 x380000_2, .bool x380001_2, .int .i64 x380002_2, .bool x380003_2, .string x380004_2, .slice none 0 0] 28 (0, 0)) (bk_ BK379.out) hb); replace HB := Aside0.mk (below_step (hb2_ GE378.out GE379.out) hb); (try clear hb); (try clear hb2); (try clear hk); (try clear hi); (try clear ho0); have hnb130 := NB379_378.out; have hnc130 := NB378_379.out; obtain ⟨hcz131_0, hcz131_1, hcz131_2, hcz131_3, hcz131_4, hcz131_5⟩ := ce6_ BK379.out; obtain ⟨hfz131_0, hfz131_1, hfz131_2, hfz131_3, hfz131_4, hfz131_5⟩ := fr6_ BK379.out; obtain ⟨Ao132, co132, eo132⟩ := Kd.R_slice HO501.out; subst eo132))
                   refine bodyPost_ret (results_cell_row rfl _ _ gb379 28 #[.int .i64 t494, .bool t495, .int .i64 t496, .bool t497, .string t498, .slice Ao132 t499.length co132] (0, 0) _ rfl (bp_ BK379.out) Tryz.underlying28 rfl (by kernel_rfl)) rfl ?_
                   exact ⟨_, er_, rm_ (Kd.R_types HO501.out BK379.out (by decide)) (fun _ hk => hk.2), hb2_ GE378.out GE379.out⟩
               ·rw [if_neg c115] at H
                exact absurd H (by simp)
              ·rw [if_neg c113] at H
               exact absurd H (by simp)

end Go.Proofs.YtnkjchcaonaifaaGreatDoor.PA
