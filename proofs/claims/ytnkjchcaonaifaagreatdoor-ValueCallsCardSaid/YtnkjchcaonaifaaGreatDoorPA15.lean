-- Written by a program of this session (wip/tools/xprint.py: the kit's print, with given functions). Not trusted: Lean checks it.
-- squeezed
import Derived.Test.YtnkjchcaonaifaaGreatDoorPA0
import Derived.Test.YtnkjchcaonaifaaGreatDoorPA5
import Derived.Test.YtnkjchcaonaifaaGreatDoorPA6
import Derived.Test.YtnkjchcaonaifaaGreatDoorPA9
import Derived.Test.YtnkjchcaonaifaaGreatDoorPA14
import Derived.Test.YtnkjchcaonaifaaGreatDoorUOwn
namespace Go.Proofs.YtnkjchcaonaifaaGreatDoor.PA
open Go.RowKit Go.Proofs.YtnkjchcaonaifaaGreatDoorW.PrintWords Go.Proofs.YtnkjchcaonaifaaGreatDoorW.PrintLast Go.Proofs.YtnkjchcaonaifaaGreatDoorW.PrintMore
attribute [local go_sem] max2_int min2_int max_two min_two max_three min_three max_four min_four   -- for this text's walks alone
set_option linter.unusedVariables false
set_option linter.unusedSimpArgs false

/-! ### espalierlaw14_ValueCalls: function 3 -/
mutual
def espalierlaw14_ValueCalls.l0 : Nat → ByteArray → List (S28) → List (S28) → Int → Int → Int → ByteArray → ByteArray → List (S146) → Option (Bool)
 | 0, _, _, _, _, _, _, _, _, _ => none
 | k + 1, x0, x2, x7, x8, x512000, x512001, x512002, x512003, x512004 => if x8 < (x2.length : Int) then (if 0 ≤ x8 then ((espalierlaw14_own.f ((rd_T28 x2 x8).f0) ((rd_T28 x2 x8).f1) ((rd_T28 x2 x8).f2) ((rd_T28 x2 x8).f3) ((rd_T28 x2 x8).f4) ((rd_T28 x2 x8).f5)).bind fun bt513 => (if x7.length < 1954687338268 then (espalierlaw14_ValueCalls.l0 k x0 x2 (x7 ++ [(⟨bt513.1, bt513.2.1, bt513.2.2.1, bt513.2.2.2.1, bt513.2.2.2.2.1, bt513.2.2.2.2.2⟩ : S28)]) (wrap64 (x8 + 1)) x512000 x512001 x512002 x512003 x512004) else (none))) else (none)) else (if x7.length < 1954687338268 then ((some (x7 ++ [(⟨0, false, 0, false, (⟨#[98, 101, 104, 105, 110, 100]⟩ : ByteArray), ([] : List ByteArray)⟩ : S28)] : List (S28))).bind fun y524 => (if 0 ≤ (x2.length : Int) then (if (x2.length : Int) ≤ (y524.length : Int) then ((value_Call.f k x0 x512000 x512001 x512002 x512003 x512004 (y524.take ((x2.length : Int) : Int).toNat)).bind fun bt531 => ((espalierref14_Takes.f k x0).bind fun t541 => (if t541 < 0 then (espalierlaw14_ValueCalls.j1 k x0 x2 y524 bt531.2.2.2.2.2.2 true x512000 x512001 x512002 x512003 x512004 bt531.1 bt531.2.1 bt531.2.2.1 bt531.2.2.2.1 bt531.2.2.2.2.1 bt531.2.2.2.2.2.1) else (espalierlaw14_ValueCalls.j1 k x0 x2 y524 bt531.2.2.2.2.2.2 (t541 != (x2.length : Int)) x512000 x512001 x512002 x512003 x512004 bt531.1 bt531.2.1 bt531.2.2.1 bt531.2.2.2.1 bt531.2.2.2.2.1 bt531.2.2.2.2.2.1)))) else (none)) else (none))) else (none))
def espalierlaw14_ValueCalls.j1 : Nat → ByteArray → List (S28) → List (S28) → Int → Bool → Int → Int → ByteArray → ByteArray → List (S146) → Int → Bool → Int → Bool → ByteArray → List ByteArray → Option (Bool)
 | 0, _, _, _, _, _, _, _, _, _, _, _, _, _, _, _, _ => none
 | k + 1, x0, x2, x7, x10, x50, x512000, x512001, x512002, x512003, x512004, x541000, x541001, x541002, x541003, x541004, x541005 => if x50 = true then ((espalierref14_Same.f k x541000 x541001 x541002 x541003 x541004 x541005 0 false 0 false (⟨#[]⟩ : ByteArray) ([] : List ByteArray)).bind fun t542 => (if t542 = true then (some (x10 == 140)) else (some false))) else (espalierlaw14_ValueCalls.l1 k x0 x2 x7 x10 0 x512000 x512001 x512002 x512003 x512004 x541000 x541001 x541002 x541003 x541004 x541005)
def espalierlaw14_ValueCalls.l1 : Nat → ByteArray → List (S28) → List (S28) → Int → Int → Int → Int → ByteArray → ByteArray → List (S146) → Int → Bool → Int → Bool → ByteArray → List ByteArray → Option (Bool)
 | 0, _, _, _, _, _, _, _, _, _, _, _, _, _, _, _, _ => none
 | k + 1, x0, x2, x7, x10, x12, x512000, x512001, x512002, x512003, x512004, x541000, x541001, x541002, x541003, x541004, x541005 => if x12 < (x2.length : Int) then (if 0 ≤ x12 then (if x12 < (x7.length : Int) then ((espalierref14_Same.f k ((rd_T28 x7 x12).f0) ((rd_T28 x7 x12).f1) ((rd_T28 x7 x12).f2) ((rd_T28 x7 x12).f3) ((rd_T28 x7 x12).f4) ((rd_T28 x7 x12).f5) ((rd_T28 x2 x12).f0) ((rd_T28 x2 x12).f1) ((rd_T28 x2 x12).f2) ((rd_T28 x2 x12).f3) ((rd_T28 x2 x12).f4) ((rd_T28 x2 x12).f5)).bind fun t555 => (if t555 = true then ((espalierref14_Can.f k ((rd_T28 x2 x12).f0) ((rd_T28 x2 x12).f1) ((rd_T28 x2 x12).f2) ((rd_T28 x2 x12).f3) ((rd_T28 x2 x12).f4) ((rd_T28 x2 x12).f5)).bind fun t557 => (if t557 = true then (espalierlaw14_ValueCalls.l1 k x0 x2 x7 x10 (wrap64 (x12 + 1)) x512000 x512001 x512002 x512003 x512004 x541000 x541001 x541002 x541003 x541004 x541005) else ((espalierref14_Same.f k x541000 x541001 x541002 x541003 x541004 x541005 0 false 0 false (⟨#[]⟩ : ByteArray) ([] : List ByteArray)).bind fun t558 => (if t558 = true then (some (x10 == 141)) else (some false))))) else (some false))) else (none)) else (none)) else (if x10 = 0 then (if 0 ≤ (x2.length : Int) then (if (x2.length : Int) < (x7.length : Int) then (if ((rd_T28 x7 (x2.length : Int)).f4).toList = ([98, 101, 104, 105, 110, 100] : List UInt8) then ((espalierref14_Call.f k x0 x512000 x512001 x512002 x512003 x512004 x2).bind fun bt544 => ((espalierref14_Same.f k x541000 x541001 x541002 x541003 x541004 x541005 bt544.1 bt544.2.1 bt544.2.2.1 bt544.2.2.2.1 bt544.2.2.2.2.1 bt544.2.2.2.2.2).bind fun t552 => (some t552))) else (some false)) else (none)) else (none)) else (some false))
end
def espalierlaw14_ValueCalls.f (k : Nat) (a0 : ByteArray) (a1_0 : Int) (a1_1 : Int) (a1_2 : ByteArray) (a1_3 : ByteArray) (l1_4 : List (S146)) (l2 : List (S28)) : Option (Bool) := espalierlaw14_ValueCalls.l0 k a0 l2 ([] : List (S28)) 0 a1_0 a1_1 a1_2 a1_3 l1_4
theorem espalierlaw14_ValueCalls.mono_l : ∀ k, (∀ y0 y1 y2 y3 y4 y5 y6 y7 y8, LeO (espalierlaw14_ValueCalls.l0 k y0 y1 y2 y3 y4 y5 y6 y7 y8) (espalierlaw14_ValueCalls.l0 (k + 1) y0 y1 y2 y3 y4 y5 y6 y7 y8)) ∧ (∀ y0 y1 y2 y3 y4 y5 y6 y7 y8 y9 y10 y11 y12 y13 y14 y15, LeO (espalierlaw14_ValueCalls.j1 k y0 y1 y2 y3 y4 y5 y6 y7 y8 y9 y10 y11 y12 y13 y14 y15) (espalierlaw14_ValueCalls.j1 (k + 1) y0 y1 y2 y3 y4 y5 y6 y7 y8 y9 y10 y11 y12 y13 y14 y15)) ∧ (∀ y0 y1 y2 y3 y4 y5 y6 y7 y8 y9 y10 y11 y12 y13 y14 y15, LeO (espalierlaw14_ValueCalls.l1 k y0 y1 y2 y3 y4 y5 y6 y7 y8 y9 y10 y11 y12 y13 y14 y15) (espalierlaw14_ValueCalls.l1 (k + 1) y0 y1 y2 y3 y4 y5 y6 y7 y8 y9 y10 y11 y12 y13 y14 y15))
 | 0 => ⟨fun _ _ _ _ _ _ _ _ _ r h => by simp [espalierlaw14_ValueCalls.l0] at h, fun _ _ _ _ _ _ _ _ _ _ _ _ _ _ _ _ r h => by simp [espalierlaw14_ValueCalls.j1] at h, fun _ _ _ _ _ _ _ _ _ _ _ _ _ _ _ _ r h => by simp [espalierlaw14_ValueCalls.l1] at h⟩
 | k + 1 => by
  obtain ⟨ih0, ih1, ih2⟩ := espalierlaw14_ValueCalls.mono_l k
  refine ⟨?_, ?_, ?_⟩
  ·intro y0 y1 y2 y3 y4 y5 y6 y7 y8
   unfold espalierlaw14_ValueCalls.l0
   repeat' first
   | (with_reducible exact ih0 _ _ _ _ _ _ _ _ _)
   | (with_reducible exact ih1 _ _ _ _ _ _ _ _ _ _ _ _ _ _ _ _)
   | (with_reducible exact ih2 _ _ _ _ _ _ _ _ _ _ _ _ _ _ _ _)
   | (with_reducible exact espalierref14_Call.mono _ _ _ _ _ _ _ _)
   | (with_reducible exact espalierref14_Can.mono _ _ _ _ _ _ _)
   | (with_reducible exact espalierref14_Same.mono _ _ _ _ _ _ _ _ _ _ _ _ _)
   | (with_reducible exact espalierref14_Takes.mono _ _)
   | (with_reducible exact value_Call.mono _ _ _ _ _ _ _ _)
   | (with_reducible exact LeO.refl _)
   | (with_reducible exact LeO.none _)
   | (with_reducible refine LeO.ite ?_ ?_)
   | (with_reducible refine LeO.bind ?_ (fun _ => ?_))
   | exact ih0 _ _ _ _ _ _ _ _ _
   | exact ih1 _ _ _ _ _ _ _ _ _ _ _ _ _ _ _ _
   | exact ih2 _ _ _ _ _ _ _ _ _ _ _ _ _ _ _ _
   | exact espalierref14_Call.mono _ _ _ _ _ _ _ _
   | exact espalierref14_Can.mono _ _ _ _ _ _ _
   | exact espalierref14_Same.mono _ _ _ _ _ _ _ _ _ _ _ _ _
   | exact espalierref14_Takes.mono _ _
   | exact value_Call.mono _ _ _ _ _ _ _ _
   | exact LeO.none _
   | refine LeO.ite ?_ ?_
   | refine LeO.bind ?_ (fun _ => ?_)
  ·intro y0 y1 y2 y3 y4 y5 y6 y7 y8 y9 y10 y11 y12 y13 y14 y15
   unfold espalierlaw14_ValueCalls.j1
   repeat' first
   | (with_reducible exact ih0 _ _ _ _ _ _ _ _ _)
   | (with_reducible exact ih1 _ _ _ _ _ _ _ _ _ _ _ _ _ _ _ _)
   | (with_reducible exact ih2 _ _ _ _ _ _ _ _ _ _ _ _ _ _ _ _)
   | (with_reducible exact espalierref14_Call.mono _ _ _ _ _ _ _ _)
   | (with_reducible exact espalierref14_Can.mono _ _ _ _ _ _ _)
   | (with_reducible exact espalierref14_Same.mono _ _ _ _ _ _ _ _ _ _ _ _ _)
   | (with_reducible exact espalierref14_Takes.mono _ _)
   | (with_reducible exact value_Call.mono _ _ _ _ _ _ _ _)
   | (with_reducible exact LeO.refl _)
   | (with_reducible exact LeO.none _)
   | (with_reducible refine LeO.ite ?_ ?_)
   | (with_reducible refine LeO.bind ?_ (fun _ => ?_))
   | exact ih0 _ _ _ _ _ _ _ _ _
   | exact ih1 _ _ _ _ _ _ _ _ _ _ _ _ _ _ _ _
   | exact ih2 _ _ _ _ _ _ _ _ _ _ _ _ _ _ _ _
   | exact espalierref14_Call.mono _ _ _ _ _ _ _ _
   | exact espalierref14_Can.mono _ _ _ _ _ _ _
   | exact espalierref14_Same.mono _ _ _ _ _ _ _ _ _ _ _ _ _
   | exact espalierref14_Takes.mono _ _
   | exact value_Call.mono _ _ _ _ _ _ _ _
   | exact LeO.none _
   | refine LeO.ite ?_ ?_
   | refine LeO.bind ?_ (fun _ => ?_)
  ·intro y0 y1 y2 y3 y4 y5 y6 y7 y8 y9 y10 y11 y12 y13 y14 y15
   unfold espalierlaw14_ValueCalls.l1
   repeat' first
   | (with_reducible exact ih0 _ _ _ _ _ _ _ _ _)
   | (with_reducible exact ih1 _ _ _ _ _ _ _ _ _ _ _ _ _ _ _ _)
   | (with_reducible exact ih2 _ _ _ _ _ _ _ _ _ _ _ _ _ _ _ _)
   | (with_reducible exact espalierref14_Call.mono _ _ _ _ _ _ _ _)
   | (with_reducible exact espalierref14_Can.mono _ _ _ _ _ _ _)
   | (with_reducible exact espalierref14_Same.mono _ _ _ _ _ _ _ _ _ _ _ _ _)
   | (with_reducible exact espalierref14_Takes.mono _ _)
   | (with_reducible exact value_Call.mono _ _ _ _ _ _ _ _)
   | (with_reducible exact LeO.refl _)
   | (with_reducible exact LeO.none _)
   | (with_reducible refine LeO.ite ?_ ?_)
   | (with_reducible refine LeO.bind ?_ (fun _ => ?_))
   | exact ih0 _ _ _ _ _ _ _ _ _
   | exact ih1 _ _ _ _ _ _ _ _ _ _ _ _ _ _ _ _
   | exact ih2 _ _ _ _ _ _ _ _ _ _ _ _ _ _ _ _
   | exact espalierref14_Call.mono _ _ _ _ _ _ _ _
   | exact espalierref14_Can.mono _ _ _ _ _ _ _
   | exact espalierref14_Same.mono _ _ _ _ _ _ _ _ _ _ _ _ _
   | exact espalierref14_Takes.mono _ _
   | exact value_Call.mono _ _ _ _ _ _ _ _
   | exact LeO.none _
   | refine LeO.ite ?_ ?_
   | refine LeO.bind ?_ (fun _ => ?_)
theorem espalierlaw14_ValueCalls.mono : ∀ a0 a1 a2 a3 a4 a5 a6 k, LeO (espalierlaw14_ValueCalls.f k a0 a1 a2 a3 a4 a5 a6) (espalierlaw14_ValueCalls.f (k + 1) a0 a1 a2 a3 a4 a5 a6) := by
 intro a0 a1 a2 a3 a4 a5 a6 k
 obtain ⟨ih0, ih1, ih2⟩ := espalierlaw14_ValueCalls.mono_l k
 unfold espalierlaw14_ValueCalls.f
 repeat' first
   | (with_reducible exact ih0 _ _ _ _ _ _ _ _ _)
   | (with_reducible exact ih1 _ _ _ _ _ _ _ _ _ _ _ _ _ _ _ _)
   | (with_reducible exact ih2 _ _ _ _ _ _ _ _ _ _ _ _ _ _ _ _)
   | (with_reducible exact espalierref14_Call.mono _ _ _ _ _ _ _ _)
   | (with_reducible exact espalierref14_Can.mono _ _ _ _ _ _ _)
   | (with_reducible exact espalierref14_Same.mono _ _ _ _ _ _ _ _ _ _ _ _ _)
   | (with_reducible exact espalierref14_Takes.mono _ _)
   | (with_reducible exact value_Call.mono _ _ _ _ _ _ _ _)
   | (with_reducible exact LeO.refl _)
   | (with_reducible exact LeO.none _)
   | (with_reducible refine LeO.ite ?_ ?_)
   | (with_reducible refine LeO.bind ?_ (fun _ => ?_))
   | exact ih0 _ _ _ _ _ _ _ _ _
   | exact ih1 _ _ _ _ _ _ _ _ _ _ _ _ _ _ _ _
   | exact ih2 _ _ _ _ _ _ _ _ _ _ _ _ _ _ _ _
   | exact espalierref14_Call.mono _ _ _ _ _ _ _ _
   | exact espalierref14_Can.mono _ _ _ _ _ _ _
   | exact espalierref14_Same.mono _ _ _ _ _ _ _ _ _ _ _ _ _
   | exact espalierref14_Takes.mono _ _
   | exact value_Call.mono _ _ _ _ _ _ _ _
   | exact LeO.none _
   | refine LeO.ite ?_ ?_
   | refine LeO.bind ?_ (fun _ => ?_)
def espalierlaw14_ValueCalls.T7 : Bool × List (List Nat × List Nat) := (true, [([], []), ([], []), ([], []), ([], []), ([3], [3]), ([2, 4], [2, 4]), ([0, 1, 5], [0, 1, 5]), ([6], [6]), ([7], [7]), ([7], [7]), ([], []), ([10, 8, 6, 0, 1, 2, 3, 4, 5, 6, 7, 8, 10], [8, 10]), ([9, 11, 0, 1, 2, 3, 4, 5, 6, 7, 8, 9, 10, 11], [9])])
def espalierlaw14_ValueCalls.B7 : List Nat := [0, 0, 0, 0, 8, 28, 63, 127, 255, 255, 0, 1535, 4095]
theorem espalierlaw14_ValueCalls.tab7 : rtab .any (opsOf Tryz.f3 7) = espalierlaw14_ValueCalls.T7 := by kernel_rfl
theorem espalierlaw14_ValueCalls.bits7 : waitsOk espalierlaw14_ValueCalls.T7.2 espalierlaw14_ValueCalls.B7 = true := by kernel_rfl
def espalierlaw14_ValueCalls.T14 : Bool × List (List Nat × List Nat) := (true, [([], []), ([], []), ([0, 1], [0, 1]), ([2], [2]), ([], []), ([], []), ([4, 5], [4, 5]), ([6], [6]), ([3, 7], [3, 7]), ([8], [8])])
def espalierlaw14_ValueCalls.B14 : List Nat := [0, 0, 3, 7, 0, 0, 48, 112, 255, 511]
theorem espalierlaw14_ValueCalls.tab14 : rtab .any (opsOf Tryz.f3 14) = espalierlaw14_ValueCalls.T14 := by kernel_rfl
theorem espalierlaw14_ValueCalls.bits14 : waitsOk espalierlaw14_ValueCalls.T14.2 espalierlaw14_ValueCalls.B14 = true := by kernel_rfl
def espalierlaw14_ValueCalls.T18 : Bool × List (List Nat × List Nat) := (true, [([], []), ([0], [0]), ([1], [1]), ([2], [2]), ([2], [2]), ([4, 2], [2, 4]), ([3, 5, 2], [2, 3, 5]), ([6, 2], [2, 6]), ([7, 2], [2, 7]), ([8, 2], [2, 8]), ([2, 9], [2, 9]), ([10, 2], [10]), ([11], [11]), ([11], [11]), ([11], [11]), ([11], [11]), ([13, 14, 15, 11, 11], [11, 13, 14, 15]), ([12, 16, 16, 11], [11, 12, 16]), ([11, 17], [11, 17]), ([18, 17, 0, 1, 2, 3, 4, 5, 6, 7, 8, 9, 10, 11, 12, 13, 14, 15, 16, 17, 18], [18])])
def espalierlaw14_ValueCalls.B18 : List Nat := [0, 1, 3, 7, 7, 23, 63, 127, 255, 511, 1023, 2047, 4095, 4095, 4095, 4095, 61439, 131071, 262143, 524287]
theorem espalierlaw14_ValueCalls.tab18 : rtab .any (opsOf Tryz.f3 18) = espalierlaw14_ValueCalls.T18 := by kernel_rfl
theorem espalierlaw14_ValueCalls.bits18 : waitsOk espalierlaw14_ValueCalls.T18.2 espalierlaw14_ValueCalls.B18 = true := by kernel_rfl
set_option maxHeartbeats 8000000 in
set_option maxRecDepth 100000 in
theorem espalierlaw14_ValueCalls.calls (k : Nat) (a0 : ByteArray) (a1_0 : Int) (a1_1 : Int) (a1_2 : ByteArray) (a1_3 : ByteArray) (A1_4 : Option Addr) (c1_4 : Nat) (l1_4 : List (S146)) (A2 : Option Addr) (c2 : Nat) (l2 : List (S28)) (r : Bool) (w : World) (hr1_4 : Kd.C k146 w A1_4 l1_4.length l1_4) (hc1_4 : l1_4.length ≤ c1_4) (hr2 : Kd.C k28 w A2 l2.length l2) (hc2 : l2.length ≤ c2) (h : espalierlaw14_ValueCalls.f k a0 a1_0 a1_1 a1_2 a1_3 l1_4 l2 = some r) (hG : Glob w := by first | exact Glob.step HG.out (by repeat (first | (with_reducible first | exact HB.out | apply below_alloc | apply pw_below_drewN | apply below_drew1) | exact HB.out | (refine below_set ?_ (Aside0.out (by assumption))))) | exact HG.out | assumption) (hG3 : Glob3 w := by first | exact Glob3.step HG3.out (by repeat (first | (with_reducible first | exact HB.out | apply below_alloc | apply pw_below_drewN | apply below_drew1) | exact HB.out | (refine below_set ?_ (Aside0.out (by assumption))))) | exact HG3.out | assumption) :
  Calls Tryz.prog 3 #[.string a0, .agg #[.int .i64 a1_0, .int .i64 a1_1, .string a1_2, .string a1_3, .slice A1_4 l1_4.length c1_4], .slice A2 l2.length c2] w fun e w' => e = .returned (.bool r) ∧ Below w.heap.size w w' := by
 have HG := Aside0.mk hG
 clear hG
 have HG3 := Aside0.mk hG3
 clear hG3
 have hu24 := Tryz.underlying24
 have hu28 := Tryz.underlying28
 have HR1_4 := Aside0.mk hr1_4
 have HC1_4 := Aside0.mk hc1_4
 clear hr1_4 hc1_4
 have HR2 := Aside0.mk hr2
 have HC2 := Aside0.mk hc2
 clear hr2 hc2
 have HB := Aside0.mk (Below.refl w.heap.size w)
 have H : (espalierlaw14_ValueCalls.l0 k a0 l2 ([] : List (S28)) 0 a1_0 a1_1 a1_2 a1_3 l1_4) = some r := h
 clear h
 have H' := Aside0.mk H
 clear H
 go_enter Tryz.func3, Tryz.ntmps3
 go_wp2_with (first | ((with_reducible refine gate_dst (N := 4) rfl ?_); (try (refine gate_guard (by rfl) ?_; dsimp only)); refine box_event ?hg (N := 4) ?hd (cs := #[.int .i64 a1_0, .int .i64 a1_1, .string a1_2, .string a1_3, .slice A1_4 l1_4.length c1_4]) (t := 24) ?hr ?_; (case hd => rfl); (case hg => rfl); (case hr => first | (go_simp; done) | (go_simp; rfl)); intro gb511 hg w4 hbox hb; have n0_ := Aside0.mk (below_step hb_ hb); have n1_ := Aside0.mk (hbox); have n2_ := Aside0.mk ((by rw [hg]; exact (below_size hb_) : w.heap.size ≤ gb511)); have n3_ := Aside0.mk ((by rw [hg]; exact (below_size hb_) : w.heap.size ≤ gb511)); clear HB; have HB := n0_; have BK511 := n1_; have GW511 := n2_; have GE511 := n3_; clear n0_ n1_ n2_ n3_; clear hb hbox hg))
 go_loopg [7, 8] k (fun kq v7 v8 w' => ∃ (x7_1 : List (S28)) (x8_1 : Int), v8 = .int .i64 x8_1 ∧ Aside0 (espalierlaw14_ValueCalls.l0 kq a0 l2 x7_1 x8_1 a1_0 a1_1 a1_2 a1_3 l1_4 = some r) ∧ Aside0 (kq ≤ k) ∧ Aside0 (Kd.S k28 28 w' w.heap.size (fun _ => True) v7 x7_1) ∧ Aside0 (w'.heap[gb511]? = some (.cells #[.int .i64 a1_0, .int .i64 a1_1, .string a1_2, .string a1_3, (.slice A1_4 l1_4.length c1_4)] 24 (0, 0))) ∧ Aside0 (Below w.heap.size w w'))
 case atStart => exact ⟨(([] : List (S28))), (0), (by first | rfl | (simp; done) | (simp [*]; done)), H', ⟨Nat.le_refl _⟩, ⟨by first | exact Kd.S_nil _ _ _ _ _ | exact Kd.N_nil _ _ _ _ _ | exact Kd.V_nil _ _ _ _ _ | exact Kd.Q_nil _ _ _ _ _ | exact Kd.R_nil _ _ _ _ _⟩, ⟨bk_ BK511.out⟩, ⟨hb1_ GE511.out⟩⟩
 case round =>
  clear H'
  try clear c1
  try clear c2
  try clear p2
  try clear c3
  obtain ⟨x7_1, x8_1, rfl, HA, HK1, HO_7, BK511, HB⟩ := hrel
  cases gk with
  | zero => exact absurd HA.out (by simp [espalierlaw14_ValueCalls.l0])
  | succ k1 =>
   have H := HA.out
   clear HA
   simp only [espalierlaw14_ValueCalls.l0] at H
   by_cases c5 : x8_1 < (l2.length : Int)
   ·rw [if_pos c5] at H
    have c5b0 : decide (x8_1 < (l2.length : Int)) = true := decide_eq_true c5
    clear c5
    by_cases c6 : 0 ≤ x8_1
    ·rw [if_pos c6] at H
     have c6b0 : decide (0 ≤ x8_1) = true := decide_eq_true c6
     clear c6
     replace H := Option.bind_eq_some_iff.mp H
     obtain ⟨⟨t513, t514, t515, t516, t517, t518⟩, A70, H⟩ := H
     replace H : (if x7_1.length < 1954687338268 then (espalierlaw14_ValueCalls.l0 k1 a0 l2 (x7_1 ++ [(⟨t513, t514, t515, t516, t517, t518⟩ : S28)]) (wrap64 (x8_1 + 1)) a1_0 a1_1 a1_2 a1_3 l1_4) else (none)) = some r := H
     have A7 := Aside0.mk A70
     clear A70
     by_cases c8 : x7_1.length < 1954687338268
     ·rw [if_pos c8] at H
      have LMc8 := Aside0.mk c8
      clear c8
      obtain ⟨y521, hy521⟩ : ∃ y_ : List (S28), y_ = (x7_1 ++ [(⟨t513, t514, t515, t516, t517, t518⟩ : S28)]) := ⟨_, rfl⟩
      replace H : (espalierlaw14_ValueCalls.l0 k1 a0 l2 y521 (wrap64 (x8_1 + 1)) a1_0 a1_1 a1_2 a1_3 l1_4) = some r := by first | (rw [hy521]; with_reducible exact H) | (have H2_ := (Option.bind_some _ _).symm.trans H; rw [hy521]; with_reducible exact H2_) | (have H2_ := (Option.bind_some _ _).symm.trans H; with_reducible exact H2_) | with_reducible exact H | (rw [hy521]; exact H) | exact H
      have Ny521 := Aside0.mk hy521
      clear hy521
      have H' := Aside0.mk H
      clear H
      have p512 : 0 ≤ (x8_1 : Int) := of_decide_eq_true (by first | (with_reducible assumption) | assumption)
      have q512 : x8_1 < (l2.length : Int) := of_decide_eq_true (by first | (with_reducible assumption) | assumption)
      obtain ⟨ad512, A512_5, c512_5, e512, hx512_0, hx512_1, hx512_2, hx512_3, hx512_4, hx512_5, hl512_5, hi512_5⟩ := at_T28 HR2.out x8_1 p512 q512
      cases e512
      replace hx512_0 := hc_ HB.out hx512_0
      replace hx512_1 := hc_ HB.out hx512_1
      replace hx512_2 := hc_ HB.out hx512_2
      replace hx512_3 := hc_ HB.out hx512_3
      replace hx512_4 := hc_ HB.out hx512_4
      replace hx512_5 := hc_ HB.out hx512_5
      have HR512_5 := Aside0.mk hi512_5
      have HC512_5 := Aside0.mk hl512_5
      clear hi512_5 hl512_5
      replace p512 := eq_true p512
      replace q512 := eq_true q512
      go_wp2_with (first | ((with_reducible refine gate_callee (f := 4) rfl ?_); refine goesL_ (some 24) rfl rfl Tryz.func4 (by kernel_rfl) rfl #[.agg #[.int .i64 ((rd_T28 l2 x8_1).f0), .bool ((rd_T28 l2 x8_1).f1), .int .i64 ((rd_T28 l2 x8_1).f2), .bool ((rd_T28 l2 x8_1).f3), .string ((rd_T28 l2 x8_1).f4), .slice A512_5 ((rd_T28 l2 x8_1).f5).length c512_5]] rfl rf_ ?_; (with_reducible refine (espalierlaw14_own.calls ((rd_T28 l2 x8_1).f0) ((rd_T28 l2 x8_1).f1) ((rd_T28 l2 x8_1).f2) ((rd_T28 l2 x8_1).f3) ((rd_T28 l2 x8_1).f4) _ _ ((rd_T28 l2 x8_1).f5) t513 t514 t515 t516 t517 t518 _ ?side1 ?side2 A7.out).mono ?_); (case side1 => exact sc_ (Kd.C_below HR512_5.out HB.out)); (case side2 => exact HC512_5.out); rintro e w9 ⟨v519, rfl, ho0, hb⟩; refine ⟨_, rfl, ?_⟩; replace HO_7 := Aside0.mk (Kd.S_elder' (sa_ HO_7.out) (Kd.R_base ho0) hb); have HO520 := Aside0.mk (Kd.R_lower ho0 (below_size (hb1_ GE511.out))); replace BK511 := Aside0.mk (blk_below (g := gb511) (o := .cells #[.int .i64 a1_0, .int .i64 a1_1, .string a1_2, .string a1_3, .slice A1_4 l1_4.length c1_4] 24 (0, 0)) (bk_ BK511.out) hb); replace HB := Aside0.mk (below_step (hb1_ GE511.out) hb); (try clear hb); (try clear hb2); (try clear hk); (try clear hi); (try clear ho0); obtain ⟨Ao11, co11, eo11⟩ := Kd.R_slice HO520.out; subst eo11) | ((with_reducible refine gate_builtin (b := .append) (xs := #[.tmp 19, .tmp 25]) rfl ?_); (try (refine gate_guard (by rfl) ?_; dsimp only)); at_builtin; refine Kd.S_append k28 (w0 := w) w.heap.size rfl (.tmp 19) (.tmp 25) 25 28 (.agg #[(.int .i64 0), (.bool false), (.int .i64 0), (.bool false), (.string ⟨#[]⟩), (.slice none 0 0)]) 72 rfl Tryz.underlying25 info28 rfl (by decide) (by omega) u7 x7_1 (⟨t513, t514, t515, t516, t517, t518⟩ : S28) [.int .i64 t513, .bool t514, .int .i64 t515, .bool t516, .string t517, .slice Ao11 t518.length co11] (fun _ => True) (fun k_ => some k_ = (.slice Ao11 t518.length co11 : Value).ownBlock) rfl rfl ?aP (fun k_ hk_ => ((Kd.R_mono (ok' := fun k_ => ((fun _ => True)) k_ ∧ some k_ ≠ (u7 : Value).ownBlock) (Kd.R_apart' (HO520.out) (Kd.S_typed HO_7.out) (by decide)) (fun k_ hk => ⟨trivial, hk.2⟩))).1 k_ hk_.symm) ?aF ?aO ?aB ?aS ?aL ?_; (case aP => exact k28_mkM _ _ _ (⟨t513, t514, t515, t516, t517, t518⟩ : S28) (Kd.R_mono (Kd.R_tight rfl (Kd.R_mono (ok' := fun k_ => ((fun _ => True)) k_ ∧ some k_ ≠ (u7 : Value).ownBlock) (Kd.R_apart' (HO520.out) (Kd.S_typed HO_7.out) (by decide)) (fun k_ hk => ⟨trivial, hk.2⟩))) (fun _ h_ => h_))); (case aB => exact (hb1_ GE511.out)); (case aF => exact (fun _ _ => trivial)); (case aO => exact (by (with_reducible repeat (first | apply Kd.S_alloc | apply Kd.S_drewN | apply Kd.S_drew)); exact Kd.S_mono HO_7.out (fun k_ hk => ⟨trivial, fun e_ => hk.2 e_⟩))); (case aS => exact (below_size (hb1_ GE511.out))); (case aL => have := LMc8.out; omega); intro v522 w10 ho hb hg hat; rw [← Ny521.out] at ho; replace BK511 := Aside0.mk (blk_grown (g := gb511) (o := .cells #[.int .i64 a1_0, .int .i64 a1_1, .string a1_2, .string a1_3, .slice A1_4 l1_4.length c1_4] 24 (0, 0)) (bk_ BK511.out) hg (Kd.S_ne HO_7.out BK511.out (by decide))); replace HB := Aside0.mk (hb); have HO523 := Aside0.mk (ho); clear HO_7 HO520; clear ho hb hg hat))
      go_roundg k1
      case measure => have := HK1.out; omega
      case rel => exact ⟨(y521), (wrap64 (x8_1 + 1)), (by first | rfl | (simp; done) | (simp [*]; done)), H', ⟨by have := HK1.out; omega⟩, ⟨sa_ HO523.out⟩, ⟨bk_ BK511.out⟩, ⟨hb1_ GE511.out⟩⟩
     ·rw [if_neg c8] at H
      exact absurd H (by simp)
    ·rw [if_neg c6] at H
     exact absurd H (by simp)
   ·rw [if_neg c5] at H
    have c5b0 : decide (x8_1 < (l2.length : Int)) = false := decide_eq_false c5
    clear c5
    by_cases c12 : x7_1.length < 1954687338268
    ·rw [if_pos c12] at H
     have LMc12 := Aside0.mk c12
     clear c12
     obtain ⟨y524, hy524⟩ : ∃ y_ : List (S28), y_ = (x7_1 ++ [(⟨0, false, 0, false, (⟨#[98, 101, 104, 105, 110, 100]⟩ : ByteArray), ([] : List ByteArray)⟩ : S28)]) := ⟨_, rfl⟩
     replace H : (if 0 ≤ (l2.length : Int) then (if (l2.length : Int) ≤ (y524.length : Int) then ((value_Call.f k1 a0 a1_0 a1_1 a1_2 a1_3 l1_4 (y524.take ((l2.length : Int) : Int).toNat)).bind fun bt531 => ((espalierref14_Takes.f k1 a0).bind fun t541 => (if t541 < 0 then (espalierlaw14_ValueCalls.j1 k1 a0 l2 y524 bt531.2.2.2.2.2.2 true a1_0 a1_1 a1_2 a1_3 l1_4 bt531.1 bt531.2.1 bt531.2.2.1 bt531.2.2.2.1 bt531.2.2.2.2.1 bt531.2.2.2.2.2.1) else (espalierlaw14_ValueCalls.j1 k1 a0 l2 y524 bt531.2.2.2.2.2.2 (t541 != (l2.length : Int)) a1_0 a1_1 a1_2 a1_3 l1_4 bt531.1 bt531.2.1 bt531.2.2.1 bt531.2.2.2.1 bt531.2.2.2.2.1 bt531.2.2.2.2.2.1)))) else (none)) else (none)) = some r := by first | (rw [hy524]; with_reducible exact H) | (have H2_ := (Option.bind_some _ _).symm.trans H; rw [hy524]; with_reducible exact H2_) | (have H2_ := (Option.bind_some _ _).symm.trans H; with_reducible exact H2_) | with_reducible exact H | (rw [hy524]; exact H) | exact H
     have Ny524 := Aside0.mk hy524
     clear hy524
     by_cases c13 : 0 ≤ (l2.length : Int)
     ·rw [if_pos c13] at H
      have c13b0 := eq_true c13
      have c13b1 : decide (0 ≤ (l2.length : Int)) = true := decide_eq_true c13
      clear c13
      by_cases c14 : (l2.length : Int) ≤ (y524.length : Int)
      ·rw [if_pos c14] at H
       have c14b0 := eq_true c14
       have c14b1 : decide ((l2.length : Int) ≤ (y524.length : Int)) = true := decide_eq_true c14
       clear c14
       obtain ⟨y527, hy527⟩ : ∃ y_ : List (S28), y_ = (y524.take ((l2.length : Int) : Int).toNat) := ⟨_, rfl⟩
       replace H : ((value_Call.f k1 a0 a1_0 a1_1 a1_2 a1_3 l1_4 y527).bind fun bt531 => ((espalierref14_Takes.f k1 a0).bind fun t541 => (if t541 < 0 then (espalierlaw14_ValueCalls.j1 k1 a0 l2 y524 bt531.2.2.2.2.2.2 true a1_0 a1_1 a1_2 a1_3 l1_4 bt531.1 bt531.2.1 bt531.2.2.1 bt531.2.2.2.1 bt531.2.2.2.2.1 bt531.2.2.2.2.2.1) else (espalierlaw14_ValueCalls.j1 k1 a0 l2 y524 bt531.2.2.2.2.2.2 (t541 != (l2.length : Int)) a1_0 a1_1 a1_2 a1_3 l1_4 bt531.1 bt531.2.1 bt531.2.2.1 bt531.2.2.2.1 bt531.2.2.2.2.1 bt531.2.2.2.2.2.1)))) = some r := by first | (rw [hy527]; with_reducible exact H) | (have H2_ := (Option.bind_some _ _).symm.trans H; rw [hy527]; with_reducible exact H2_) | (have H2_ := (Option.bind_some _ _).symm.trans H; with_reducible exact H2_) | with_reducible exact H | (rw [hy527]; exact H) | exact H
       have Ny527 := Aside0.mk hy527
       clear hy527
       replace H := Option.bind_eq_some_iff.mp H
       obtain ⟨⟨t531, t532, t533, t534, t535, t536, t539⟩, A150, H⟩ := H
       replace H : ((espalierref14_Takes.f k1 a0).bind fun t541 => (if t541 < 0 then (espalierlaw14_ValueCalls.j1 k1 a0 l2 y524 t539 true a1_0 a1_1 a1_2 a1_3 l1_4 t531 t532 t533 t534 t535 t536) else (espalierlaw14_ValueCalls.j1 k1 a0 l2 y524 t539 (t541 != (l2.length : Int)) a1_0 a1_1 a1_2 a1_3 l1_4 t531 t532 t533 t534 t535 t536))) = some r := H
       have A15 := Aside0.mk A150
       clear A150
       replace H := Option.bind_eq_some_iff.mp H
       obtain ⟨t541, A160, H⟩ := H
       replace H : (if t541 < 0 then (espalierlaw14_ValueCalls.j1 k1 a0 l2 y524 t539 true a1_0 a1_1 a1_2 a1_3 l1_4 t531 t532 t533 t534 t535 t536) else (espalierlaw14_ValueCalls.j1 k1 a0 l2 y524 t539 (t541 != (l2.length : Int)) a1_0 a1_1 a1_2 a1_3 l1_4 t531 t532 t533 t534 t535 t536)) = some r := H
       have A16 := Aside0.mk A160
       clear A160
       have HC17 := Aside0.mk H
       clear H
       try go_wp2_with (first | ((with_reducible refine gate_builtin (b := .append) (xs := #[.tmp 27, .tmp 29]) rfl ?_); (try (refine gate_guard (by rfl) ?_; dsimp only)); at_builtin; refine Kd.S_append k28 (w0 := w) w.heap.size rfl (.tmp 27) (.tmp 29) 25 28 (.agg #[(.int .i64 0), (.bool false), (.int .i64 0), (.bool false), (.string ⟨#[]⟩), (.slice none 0 0)]) 72 rfl Tryz.underlying25 info28 rfl (by decide) (by omega) u7 x7_1 (⟨0, false, 0, false, (⟨#[98, 101, 104, 105, 110, 100]⟩ : ByteArray), ([] : List ByteArray)⟩ : S28) [.int .i64 0, .bool false, .int .i64 0, .bool false, .string (⟨#[98, 101, 104, 105, 110, 100]⟩ : ByteArray), .slice none 0 0] (fun _ => True) (fun _ => False) rfl rfl ?aP (fun k_ hk_ => hk_.elim) ?aF ?aO ?aB ?aS ?aL ?_; (case aP => exact k28_mkM _ _ _ (⟨0, false, 0, false, (⟨#[98, 101, 104, 105, 110, 100]⟩ : ByteArray), ([] : List ByteArray)⟩ : S28) (Kd.R_nil _ _ _ _ _)); (case aB => exact (hb1_ GE511.out)); (case aF => exact (fun _ _ => trivial)); (case aO => exact (by (with_reducible repeat (first | apply Kd.S_alloc | apply Kd.S_drewN | apply Kd.S_drew)); exact Kd.S_mono HO_7.out (fun k_ hk => ⟨trivial, fun e_ => e_⟩))); (case aS => exact (below_size (hb1_ GE511.out))); (case aL => have := LMc12.out; omega); intro v525 w18 ho hb hg hat; rw [← Ny524.out] at ho; replace BK511 := Aside0.mk (blk_grown (g := gb511) (o := .cells #[.int .i64 a1_0, .int .i64 a1_1, .string a1_2, .string a1_3, .slice A1_4 l1_4.length c1_4] 24 (0, 0)) (bk_ BK511.out) hg (Kd.S_ne HO_7.out BK511.out (by decide))); replace HB := Aside0.mk (hb); have HO526 := Aside0.mk (ho); clear HO_7; clear ho hb hg hat))
       replace HO526 := Aside0.mk (Kd.S_drew HO526.out)
       replace BK511 := Aside0.mk (blk_drew BK511.out)
       replace HB := Aside0.mk (below_drew1 HB.out)
       obtain ⟨Ao21, co21, eo21⟩ := Kd.S_slice HO526.out
       (first | subst eo21 | (injection eo21 with f1_ f2_ f3_; have f4_ := f1_.symm; have f5_ := f3_.symm; clear f1_ f2_ f3_; subst f4_; subst f5_))
       have q20 : ((l2.length : Int) : Int) ≤ ((y524.length : Int) : Int) := of_decide_eq_true (by first | (with_reducible assumption) | assumption)
       obtain ⟨i020, hi020, _, hsz20, _⟩ := info_parts info28
       have hroom20 : y524.length ≤ co21 := (Kd.S_reads' HO526.out).2.1
       have hC20 : Kd.C k28 _ Ao21 y524.length y524 := (Kd.S_reads' HO526.out).2.2
       have hcut20 := cut_to (P := Tryz.prog) 25 28 .i64 Tryz.underlying25 hi020 Ao21 y524.length co21 (l2.length : Int) (of_decide_eq_true (by first | (with_reducible assumption) | assumption)) q20 hroom20
       have hr20 := Kd.C_take (m := ((l2.length : Int) : Int).toNat) hC20 (by omega)
       have hy20 : y527.length = ((l2.length : Int) : Int).toNat := (by rw [Ny527.out, List.length_take]; omega)
       rw [← Ny527.out] at hr20
       rw [← hy20] at hcut20
       have HR530 := Aside0.mk hr20
       have HC530 := Aside0.mk (show y527.length ≤ co21 from by omega)
       clear hr20 hC20 hroom20 hi020 hsz20
       have KY20 := Aside0.mk hy20
       clear hy20
       have KL20 := Aside0.mk (show ((l2.length : Int) : Int).toNat ≤ y524.length from by omega)
       replace q20 := eq_true q20
       refine start_ (n := 13) (S := fun w' => w'.cell? ⟨gb511, 0, none⟩ = some (.int .i64 a1_0) ∧ w'.cell? ⟨gb511, 1, none⟩ = some (.int .i64 a1_1) ∧ w'.cell? ⟨gb511, 2, none⟩ = some (.string a1_2) ∧ w'.cell? ⟨gb511, 3, none⟩ = some (.string a1_3) ∧ w'.cell? ⟨gb511, 4, none⟩ = some (.slice A1_4 l1_4.length c1_4)) (ds := []) #[false, false, false, false, false, false, false, false, false, false, false, false, false] (by kernel_rfl) rfl rfl ⟨(blk_cell BK511.out 0).trans rfl, (blk_cell BK511.out 1).trans rfl, (blk_cell BK511.out 2).trans rfl, (blk_cell BK511.out 3).trans rfl, (blk_cell BK511.out 4).trans rfl⟩ (fun hHeld => ?_); refine with_tabW espalierlaw14_ValueCalls.tab7 espalierlaw14_ValueCalls.bits7 (fun HT_ HW_ => ?_)
       generalize w18.drew = w19 at HO526 BK511 HB HR530 hHeld ⊢
       refine pu_ 0 (some 32) #[true, false, false, false, false, false, false, false, false, false, false, false, false] (any_of HT_.out (by kernel_rfl)) ?_
       refine pu_ 2 (some 34) #[true, false, true, false, false, false, false, false, false, false, false, false, false] (any_of HT_.out (by kernel_rfl)) ?_
       refine pu_ 3 (some 35) #[true, false, true, true, false, false, false, false, false, false, false, false, false] (any_of HT_.out (by kernel_rfl)) ?_
       refine pu_ 4 (some 36) #[true, false, true, true, true, false, false, false, false, false, false, false, false] (any_of HT_.out (by kernel_rfl)) ?_
       refine pu_ 5 (some 37) #[true, false, true, true, true, true, false, false, false, false, false, false, false] (any_of HT_.out (by kernel_rfl)) ?_
       refine take_ (i := 1) (N := some 33) (v := ?_) (a' := ?_) #[true, true, true, true, true, true, false, false, false, false, false, false, false] rfl rfl (take_ofW HT_.out HW_.out (by kernel_rfl)) (fun _ _ _ h => h) (Or.inl ⟨by rfl, ?_⟩) hHeld ?_ ?_
       rotate_left
       ·rintro w' ⟨s0, s1, s2, s3, s4⟩
        go_simp
        with_reducible rfl
       rotate_left
       ·simp only [Act.put, List.setIfInBounds_toArray, List.set_cons_zero, List.set_cons_succ, i64_w, i32_w]
        rfl
       refine join_ (σ := Value × Nat) 2 #[true, true, true, true, true, true, true, true, true, true, true, false, false] (fun s_ => [(38, .tuple #[.agg #[.int .i64 t531, .bool t532, .int .i64 t533, .bool t534, .string t535, s_.1], .int .i64 t539]), (9, .pointer (some ⟨s_.2, 0, none⟩)), (31, .tuple #[.agg #[.int .i64 t531, .bool t532, .int .i64 t533, .bool t534, .string t535, s_.1], .int .i64 t539]), (39, .agg #[.int .i64 t531, .bool t532, .int .i64 t533, .bool t534, .string t535, s_.1]), (40, .int .i64 t539)]) (fun s_ w' => (w'.cell? ⟨gb511, 0, none⟩ = some (.int .i64 a1_0) ∧ w'.cell? ⟨gb511, 1, none⟩ = some (.int .i64 a1_1) ∧ w'.cell? ⟨gb511, 2, none⟩ = some (.string a1_2) ∧ w'.cell? ⟨gb511, 3, none⟩ = some (.string a1_3) ∧ w'.cell? ⟨gb511, 4, none⟩ = some (.slice A1_4 l1_4.length c1_4)) ∧ (Kd.S k28 28 w' w.heap.size (fun k_ => some k_ ≠ (s_.1 : Value).ownBlock ∧ k_ ≠ s_.2) (.slice Ao21 y524.length co21) y524) ∧ (Kd.R Kd.string 9 w' w.heap.size (fun _ => True) s_.1 t536) ∧ (w'.heap[gb511]? = some (.cells #[.int .i64 a1_0, .int .i64 a1_1, .string a1_2, .string a1_3, .slice A1_4 l1_4.length c1_4] 24 (0, 0))) ∧ (w'.heap[s_.2]? = some (.cells #[.int .i64 0, .bool false, .int .i64 0, .bool false, .string (⟨#[]⟩ : ByteArray), .slice none 0 0] 28 (0, 0))) ∧ (w.heap.size ≤ s_.2) ∧ (w.heap.size ≤ s_.2) ∧ (gb511 ≠ s_.2) ∧ (s_.2 ≠ gb511) ∧ (Below w.heap.size w w')) ?_ ?_
       rotate_left
       ·intro hCont
        refine two_ (i := 6) (j := 10) (Ni := some 38) (Nj := some 9) #[true, true, true, true, true, true, true, false, false, false, false, false, false] #[true, true, true, true, true, true, false, false, false, false, true, false, false] rfl rfl rfl rfl (two_of HT_.out (by kernel_rfl)) (by decide) (by decide) (fun K hK => ?_) (fun K hK => ?_)
        ·skip
         refine goes_ Tryz.func5 (by kernel_rfl) rfl #[.string a0, .agg #[.int .i64 a1_0, .int .i64 a1_1, .string a1_2, .string a1_3, .slice A1_4 l1_4.length c1_4], .slice Ao21 y527.length co21] (by rfl) rfl rfl rf_ ?_
         with_reducible refine (value_Call.calls k1 a0 a1_0 a1_1 a1_2 a1_3 _ _ l1_4 _ _ y527 t531 t532 t533 t534 t535 t536 t539 _ ?side1 ?side2 ?side3 ?side4 A15.out).mono ?_
         (case side1 => exact sc_ (Kd.C_below HR1_4.out HB.out))
         (case side2 => exact HC1_4.out)
         (case side3 => repeat (first | exact (by repeat (first | (with_reducible exact HR530.out) | (with_reducible refine Kd.C_alloc ?_ _) | (with_reducible refine Kd.C_drewN ?_ _) | (with_reducible refine Kd.C_drew ?_) | exact HR530.out)) | (with_reducible refine Kd.C_alloc ?_ _) | (with_reducible refine Kd.C_drewN ?_ _) | (with_reducible refine Kd.C_drew ?_)))
         (case side4 => exact HC530.out)
         rintro e w22 ⟨v537, rfl, ho0, hb⟩
         refine ⟨_, rfl, ?_⟩
         replace HO526 := Aside0.mk (Kd.S_elder' (sa_ HO526.out) (Kd.R_base ho0) hb)
         have HO538 := Aside0.mk (Kd.R_lower ho0 (below_size (hb1_ GE511.out)))
         replace BK511 := Aside0.mk (blk_below (g := gb511) (o := .cells #[.int .i64 a1_0, .int .i64 a1_1, .string a1_2, .string a1_3, .slice A1_4 l1_4.length c1_4] 24 (0, 0)) (bk_ BK511.out) hb)
         replace HR530 := Aside0.mk (Kd.C_below (by repeat (first | (with_reducible exact HR530.out) | (with_reducible refine Kd.C_alloc ?_ _) | (with_reducible refine Kd.C_drewN ?_ _) | (with_reducible refine Kd.C_drew ?_) | exact HR530.out)) hb)
         replace HB := Aside0.mk (below_step (hb1_ GE511.out) hb)
         (try clear hb)
         (try clear hb2)
         (try clear hk)
         (try clear hi)
         (try clear ho0)
         refine hK.out _ _ ⟨(blk_cell BK511.out 0).trans rfl, (blk_cell BK511.out 1).trans rfl, (blk_cell BK511.out 2).trans rfl, (blk_cell BK511.out 3).trans rfl, (blk_cell BK511.out 4).trans rfl⟩ (fun hHeld => ?_)
         clear hK K
         refine norm_ (a' := ?_) ?_ ?_
         rotate_left
         ·show Act.put _ (some 38) _ = _
          simp only [Act.put, List.setIfInBounds_toArray, List.set_cons_zero, List.set_cons_succ, i64_w, i32_w]
          rfl
         refine pu_ 7 (some 31) #[true, true, true, true, true, true, true, true, false, false, false, false, false] (any_of HT_.out (by kernel_rfl)) ?_
         refine pu_ 8 (some 39) #[true, true, true, true, true, true, true, true, true, false, false, false, false] (any_of HT_.out (by kernel_rfl)) ?_
         refine pu_ 9 (some 40) #[true, true, true, true, true, true, true, true, true, true, false, false, false] (any_of HT_.out (by kernel_rfl)) ?_
         refine one_ (i := 10) (N := some 9) #[true, true, true, true, true, true, true, true, true, true, true, false, false] rfl rfl (one_of HT_.out (by kernel_rfl)) (by decide) (fun K hK => ?_)
         refine box_step ?hg (N := 9) ?hd (cs := #[.int .i64 0, .bool false, .int .i64 0, .bool false, .string (⟨#[]⟩ : ByteArray), .slice none 0 0]) (t := 28) ?hr ?_; (case hd => rfl); (case hg => rfl); (case hr => first | (go_simp; done) | (go_simp; rfl))
         intro gb540 hg w23 hbox hb
         have n0_ := Aside0.mk (Kd.S_below (Kd.S_elderB (sa_ HO526.out) gb540 (Nat.le_of_eq hg.symm)) hb)
         have n1_ := Aside0.mk (Kd.R_below (ra_ HO538.out) hb)
         have n2_ := Aside0.mk (blk_below (g := gb511) (o := .cells #[.int .i64 a1_0, .int .i64 a1_1, .string a1_2, .string a1_3, .slice A1_4 l1_4.length c1_4] 24 (0, 0)) (bk_ BK511.out) hb)
         have n3_ := Aside0.mk (Kd.C_below (by repeat (first | (with_reducible exact HR530.out) | (with_reducible refine Kd.C_alloc ?_ _) | (with_reducible refine Kd.C_drewN ?_ _) | (with_reducible refine Kd.C_drew ?_) | exact HR530.out)) hb)
         have n4_ := Aside0.mk (below_step (hb1_ GE511.out) hb)
         have n5_ := Aside0.mk (hbox)
         have n6_ := Aside0.mk ((by rw [hg]; exact (below_size (hb1_ GE511.out)) : w.heap.size ≤ gb540))
         have n7_ := Aside0.mk ((by rw [hg]; exact (below_size (hb1_ GE511.out)) : w.heap.size ≤ gb540))
         have n8_ := Aside0.mk ((by rw [hg]; exact Nat.ne_of_lt (blk_lt (g := gb511) (o := .cells #[.int .i64 a1_0, .int .i64 a1_1, .string a1_2, .string a1_3, .slice A1_4 l1_4.length c1_4] 24 (0, 0)) (bk_ BK511.out)) : gb511 ≠ gb540))
         have n9_ := Aside0.mk ((by rw [hg]; exact Nat.ne_of_gt (blk_lt (g := gb511) (o := .cells #[.int .i64 a1_0, .int .i64 a1_1, .string a1_2, .string a1_3, .slice A1_4 l1_4.length c1_4] 24 (0, 0)) (bk_ BK511.out)) : gb540 ≠ gb511))
         clear HO526
         clear HO538
         clear BK511
         clear HR530
         clear HB
         have HO526 := n0_
         have HO538 := n1_
         have BK511 := n2_
         have HR530 := n3_
         have HB := n4_
         have BK540 := n5_
         have GW540 := n6_
         have GE540 := n7_
         have NB511_540 := n8_
         have NB540_511 := n9_
         clear n0_ n1_ n2_ n3_ n4_ n5_ n6_ n7_ n8_ n9_
         clear hb hbox hg
         refine hK.out _ _ ⟨(blk_cell BK511.out 0).trans rfl, (blk_cell BK511.out 1).trans rfl, (blk_cell BK511.out 2).trans rfl, (blk_cell BK511.out 3).trans rfl, (blk_cell BK511.out 4).trans rfl⟩ (fun hHeld => ?_)
         clear hK K
         refine norm_ (a' := ?_) ?_ ?_
         rotate_left
         ·show Act.put _ (some 9) _ = _
          simp only [Act.put, List.setIfInBounds_toArray, List.set_cons_zero, List.set_cons_succ, i64_w, i32_w]
          rfl
         exact norm_ (by simp only [putAll, Act.put, List.setIfInBounds_toArray, List.set_cons_zero, List.set_cons_succ]) (hCont (v537, gb540) _ ⟨hHeld, (by (with_reducible repeat (first | apply Kd.S_alloc | apply Kd.S_drewN | apply Kd.S_drew)); exact Kd.S_mono HO526.out (fun _ hk => ⟨hk.1.2, hk.2⟩)), (ra_ HO538.out), (bk_ BK511.out), (bk_ BK540.out), GW540.out, GE540.out, NB511_540.out, NB540_511.out, (hb2_ GE511.out GE540.out)⟩)
        ·skip
         refine box_step ?hg (N := 9) ?hd (cs := #[.int .i64 0, .bool false, .int .i64 0, .bool false, .string (⟨#[]⟩ : ByteArray), .slice none 0 0]) (t := 28) ?hr ?_; (case hd => rfl); (case hg => rfl); (case hr => first | (go_simp; done) | (go_simp; rfl))
         intro gb540 hg w22 hbox hb
         have n0_ := Aside0.mk (Kd.S_below (Kd.S_elderB (sa_ HO526.out) gb540 (Nat.le_of_eq hg.symm)) hb)
         have n1_ := Aside0.mk (blk_below (g := gb511) (o := .cells #[.int .i64 a1_0, .int .i64 a1_1, .string a1_2, .string a1_3, .slice A1_4 l1_4.length c1_4] 24 (0, 0)) (bk_ BK511.out) hb)
         have n2_ := Aside0.mk (Kd.C_below (by repeat (first | (with_reducible exact HR530.out) | (with_reducible refine Kd.C_alloc ?_ _) | (with_reducible refine Kd.C_drewN ?_ _) | (with_reducible refine Kd.C_drew ?_) | exact HR530.out)) hb)
         have n3_ := Aside0.mk (below_step (hb1_ GE511.out) hb)
         have n4_ := Aside0.mk (hbox)
         have n5_ := Aside0.mk ((by rw [hg]; exact (below_size (hb1_ GE511.out)) : w.heap.size ≤ gb540))
         have n6_ := Aside0.mk ((by rw [hg]; exact (below_size (hb1_ GE511.out)) : w.heap.size ≤ gb540))
         have n7_ := Aside0.mk ((by rw [hg]; exact Nat.ne_of_lt (blk_lt (g := gb511) (o := .cells #[.int .i64 a1_0, .int .i64 a1_1, .string a1_2, .string a1_3, .slice A1_4 l1_4.length c1_4] 24 (0, 0)) (bk_ BK511.out)) : gb511 ≠ gb540))
         have n8_ := Aside0.mk ((by rw [hg]; exact Nat.ne_of_gt (blk_lt (g := gb511) (o := .cells #[.int .i64 a1_0, .int .i64 a1_1, .string a1_2, .string a1_3, .slice A1_4 l1_4.length c1_4] 24 (0, 0)) (bk_ BK511.out)) : gb540 ≠ gb511))
         clear HO526
         clear BK511
         clear HR530
         clear HB
         have HO526 := n0_
         have BK511 := n1_
         have HR530 := n2_
         have HB := n3_
         have BK540 := n4_
         have GW540 := n5_
         have GE540 := n6_
         have NB511_540 := n7_
         have NB540_511 := n8_
         clear n0_ n1_ n2_ n3_ n4_ n5_ n6_ n7_ n8_
         clear hb hbox hg
         refine hK.out _ _ ⟨(blk_cell BK511.out 0).trans rfl, (blk_cell BK511.out 1).trans rfl, (blk_cell BK511.out 2).trans rfl, (blk_cell BK511.out 3).trans rfl, (blk_cell BK511.out 4).trans rfl⟩ (fun hHeld => ?_)
         clear hK K
         refine norm_ (a' := ?_) ?_ ?_
         rotate_left
         ·show Act.put _ (some 9) _ = _
          simp only [Act.put, List.setIfInBounds_toArray, List.set_cons_zero, List.set_cons_succ, i64_w, i32_w]
          rfl
         refine one_ (i := 6) (N := some 38) #[true, true, true, true, true, true, true, false, false, false, true, false, false] rfl rfl (one_of HT_.out (by kernel_rfl)) (by decide) (fun K hK => ?_)
         refine goes_ Tryz.func5 (by kernel_rfl) rfl #[.string a0, .agg #[.int .i64 a1_0, .int .i64 a1_1, .string a1_2, .string a1_3, .slice A1_4 l1_4.length c1_4], .slice Ao21 y527.length co21] (by rfl) rfl rfl rf_ ?_
         with_reducible refine (value_Call.calls k1 a0 a1_0 a1_1 a1_2 a1_3 _ _ l1_4 _ _ y527 t531 t532 t533 t534 t535 t536 t539 _ ?side1 ?side2 ?side3 ?side4 A15.out).mono ?_
         (case side1 => exact sc_ (Kd.C_below HR1_4.out HB.out))
         (case side2 => exact HC1_4.out)
         (case side3 => repeat (first | exact (by repeat (first | (with_reducible exact HR530.out) | (with_reducible refine Kd.C_alloc ?_ _) | (with_reducible refine Kd.C_drewN ?_ _) | (with_reducible refine Kd.C_drew ?_) | exact HR530.out)) | (with_reducible refine Kd.C_alloc ?_ _) | (with_reducible refine Kd.C_drewN ?_ _) | (with_reducible refine Kd.C_drew ?_)))
         (case side4 => exact HC530.out)
         rintro e w23 ⟨v537, rfl, ho0, hb⟩
         refine ⟨_, rfl, ?_⟩
         replace HO526 := Aside0.mk (Kd.S_elder' (sa_ HO526.out) (Kd.R_base ho0) hb)
         have HO538 := Aside0.mk (Kd.R_lower ho0 (below_size (hb2_ GE511.out GE540.out)))
         replace BK511 := Aside0.mk (blk_below (g := gb511) (o := .cells #[.int .i64 a1_0, .int .i64 a1_1, .string a1_2, .string a1_3, .slice A1_4 l1_4.length c1_4] 24 (0, 0)) (bk_ BK511.out) hb)
         replace HR530 := Aside0.mk (Kd.C_below (by repeat (first | (with_reducible exact HR530.out) | (with_reducible refine Kd.C_alloc ?_ _) | (with_reducible refine Kd.C_drewN ?_ _) | (with_reducible refine Kd.C_drew ?_) | exact HR530.out)) hb)
         replace BK540 := Aside0.mk (blk_below (g := gb540) (o := .cells #[.int .i64 0, .bool false, .int .i64 0, .bool false, .string (⟨#[]⟩ : ByteArray), .slice none 0 0] 28 (0, 0)) (bk_ BK540.out) hb)
         replace HB := Aside0.mk (below_step (hb2_ GE511.out GE540.out) hb)
         (try clear hb)
         (try clear hb2)
         (try clear hk)
         (try clear hi)
         (try clear ho0)
         refine hK.out _ _ ⟨(blk_cell BK511.out 0).trans rfl, (blk_cell BK511.out 1).trans rfl, (blk_cell BK511.out 2).trans rfl, (blk_cell BK511.out 3).trans rfl, (blk_cell BK511.out 4).trans rfl⟩ (fun hHeld => ?_)
         clear hK K
         refine norm_ (a' := ?_) ?_ ?_
         rotate_left
         ·show Act.put _ (some 38) _ = _
          simp only [Act.put, List.setIfInBounds_toArray, List.set_cons_zero, List.set_cons_succ, i64_w, i32_w]
          rfl
         refine pu_ 7 (some 31) #[true, true, true, true, true, true, true, true, false, false, true, false, false] (any_of HT_.out (by kernel_rfl)) ?_
         refine pu_ 8 (some 39) #[true, true, true, true, true, true, true, true, true, false, true, false, false] (any_of HT_.out (by kernel_rfl)) ?_
         refine pu_ 9 (some 40) #[true, true, true, true, true, true, true, true, true, true, true, false, false] (any_of HT_.out (by kernel_rfl)) ?_
         exact norm_ (by simp only [putAll, Act.put, List.setIfInBounds_toArray, List.set_cons_zero, List.set_cons_succ]) (hCont (v537, gb540) _ ⟨hHeld, (by (with_reducible repeat (first | apply Kd.S_alloc | apply Kd.S_drewN | apply Kd.S_drew)); exact Kd.S_mono HO526.out (fun _ hk => ⟨hk.2, hk.1.2⟩)), (ra_ HO538.out), (bk_ BK511.out), (bk_ BK540.out), GW540.out, GE540.out, NB511_540.out, NB540_511.out, (hb2_ GE511.out GE540.out)⟩)
       rintro ⟨v537, gb540⟩ w24 ⟨hS_, h0_, h1_, h2_, h3_, h4_, h5_, h6_, h7_, h8_⟩
       have n0_ : Aside0 (Kd.S k28 28 w24 w.heap.size (fun k_ => some k_ ≠ (v537 : Value).ownBlock ∧ k_ ≠ gb540) (.slice Ao21 y524.length co21) y524) := ⟨h0_⟩
       have n1_ : Aside0 (Kd.R Kd.string 9 w24 w.heap.size (fun _ => True) v537 t536) := ⟨h1_⟩
       have n2_ : Aside0 (w24.heap[gb511]? = some (.cells #[.int .i64 a1_0, .int .i64 a1_1, .string a1_2, .string a1_3, .slice A1_4 l1_4.length c1_4] 24 (0, 0))) := ⟨h2_⟩
       have n3_ : Aside0 (w24.heap[gb540]? = some (.cells #[.int .i64 0, .bool false, .int .i64 0, .bool false, .string (⟨#[]⟩ : ByteArray), .slice none 0 0] 28 (0, 0))) := ⟨h3_⟩
       have n4_ : Aside0 (w.heap.size ≤ gb540) := ⟨h4_⟩
       have n5_ : Aside0 (w.heap.size ≤ gb540) := ⟨h5_⟩
       have n6_ : Aside0 (gb511 ≠ gb540) := ⟨h6_⟩
       have n7_ : Aside0 (gb540 ≠ gb511) := ⟨h7_⟩
       have n8_ : Aside0 (Below w.heap.size w w24) := ⟨h8_⟩
       clear HO526
       clear BK511
       clear HB
       clear h0_ h1_ h2_ h3_ h4_ h5_ h6_ h7_ h8_
       have HO526 := n0_
       have HO538 := n1_
       have BK511 := n2_
       have BK540 := n3_
       have GW540 := n4_
       have GE540 := n5_
       have NB511_540 := n6_
       have NB540_511 := n7_
       have HB := n8_
       clear n0_ n1_ n2_ n3_ n4_ n5_ n6_ n7_ n8_
       have hHeld : w24.cell? ⟨gb511, 0, none⟩ = some (.int .i64 a1_0) ∧ w24.cell? ⟨gb511, 1, none⟩ = some (.int .i64 a1_1) ∧ w24.cell? ⟨gb511, 2, none⟩ = some (.string a1_2) ∧ w24.cell? ⟨gb511, 3, none⟩ = some (.string a1_3) ∧ w24.cell? ⟨gb511, 4, none⟩ = some (.slice A1_4 l1_4.length c1_4) := hS_
       obtain ⟨Ao30, co30, eo30⟩ := Kd.R_slice HO538.out
       (first | subst eo30 | (injection eo30 with f1_ f2_ f3_; have f4_ := f1_.symm; have f5_ := f3_.symm; clear f1_ f2_ f3_; subst f4_; subst f5_))
       refine norm_ (a' := ?_) ?_ ?_
       rotate_left
       ·simp only [putAll, Act.put, List.setIfInBounds_toArray, List.set_cons_zero, List.set_cons_succ]
        rfl
       refine one_ (i := 11) (N := none) #[true, true, true, true, true, true, true, true, true, true, true, true, false] rfl rfl (one_of HT_.out (by kernel_rfl)) (by decide) (fun K hK => ?_)
       have hs25 : w24.cell? ⟨gb540, 0, none⟩ = some (.int .i64 0) := (blk_cell BK540.out 0).trans rfl
       have hfs25 := blk_frozen BK540.out 0
       have hns25_0 := NB511_540.out
       have hms25_0 := NB540_511.out
       have hs26 : w24.cell? ⟨gb540, 1, none⟩ = some (.bool false) := (blk_cell BK540.out 1).trans rfl
       have hfs26 := blk_frozen BK540.out 1
       have hns26_0 := NB511_540.out
       have hms26_0 := NB540_511.out
       have hs27 : w24.cell? ⟨gb540, 2, none⟩ = some (.int .i64 0) := (blk_cell BK540.out 2).trans rfl
       have hfs27 := blk_frozen BK540.out 2
       have hns27_0 := NB511_540.out
       have hms27_0 := NB540_511.out
       have hs28 : w24.cell? ⟨gb540, 3, none⟩ = some (.bool false) := (blk_cell BK540.out 3).trans rfl
       have hfs28 := blk_frozen BK540.out 3
       have hns28_0 := NB511_540.out
       have hms28_0 := NB540_511.out
       have hs29 : w24.cell? ⟨gb540, 4, none⟩ = some (.string (⟨#[]⟩ : ByteArray)) := (blk_cell BK540.out 4).trans rfl
       have hfs29 := blk_frozen BK540.out 4
       have hns29_0 := NB511_540.out
       have hms29_0 := NB540_511.out
       have hs31 : w24.cell? ⟨gb540, 5, none⟩ = some (.slice none 0 0) := (blk_cell BK540.out 5).trans rfl
       have hfs31 := blk_frozen BK540.out 5
       have hns31_0 := NB511_540.out
       have hms31_0 := NB540_511.out
       refine skip_ (w1 := ?_) (by rfl) rfl ?_ ?_
       rotate_left
       ·go_simp
        rfl
       refine hK.out _ _ ⟨((cell_far (p := ⟨gb540, _, none⟩) NB511_540.out _).trans (((cell_far (p := ⟨gb540, _, none⟩) NB511_540.out _).trans (((cell_far (p := ⟨gb540, _, none⟩) NB511_540.out _).trans (((cell_far (p := ⟨gb540, _, none⟩) NB511_540.out _).trans (((cell_far (p := ⟨gb540, _, none⟩) NB511_540.out _).trans (((cell_far (p := ⟨gb540, _, none⟩) NB511_540.out _).trans (hHeld.1)))))))))))), ((cell_far (p := ⟨gb540, _, none⟩) NB511_540.out _).trans (((cell_far (p := ⟨gb540, _, none⟩) NB511_540.out _).trans (((cell_far (p := ⟨gb540, _, none⟩) NB511_540.out _).trans (((cell_far (p := ⟨gb540, _, none⟩) NB511_540.out _).trans (((cell_far (p := ⟨gb540, _, none⟩) NB511_540.out _).trans (((cell_far (p := ⟨gb540, _, none⟩) NB511_540.out _).trans (hHeld.2.1)))))))))))), ((cell_far (p := ⟨gb540, _, none⟩) NB511_540.out _).trans (((cell_far (p := ⟨gb540, _, none⟩) NB511_540.out _).trans (((cell_far (p := ⟨gb540, _, none⟩) NB511_540.out _).trans (((cell_far (p := ⟨gb540, _, none⟩) NB511_540.out _).trans (((cell_far (p := ⟨gb540, _, none⟩) NB511_540.out _).trans (((cell_far (p := ⟨gb540, _, none⟩) NB511_540.out _).trans (hHeld.2.2.1)))))))))))), ((cell_far (p := ⟨gb540, _, none⟩) NB511_540.out _).trans (((cell_far (p := ⟨gb540, _, none⟩) NB511_540.out _).trans (((cell_far (p := ⟨gb540, _, none⟩) NB511_540.out _).trans (((cell_far (p := ⟨gb540, _, none⟩) NB511_540.out _).trans (((cell_far (p := ⟨gb540, _, none⟩) NB511_540.out _).trans (((cell_far (p := ⟨gb540, _, none⟩) NB511_540.out _).trans (hHeld.2.2.2.1)))))))))))), ((cell_far (p := ⟨gb540, _, none⟩) NB511_540.out _).trans (((cell_far (p := ⟨gb540, _, none⟩) NB511_540.out _).trans (((cell_far (p := ⟨gb540, _, none⟩) NB511_540.out _).trans (((cell_far (p := ⟨gb540, _, none⟩) NB511_540.out _).trans (((cell_far (p := ⟨gb540, _, none⟩) NB511_540.out _).trans (((cell_far (p := ⟨gb540, _, none⟩) NB511_540.out _).trans (hHeld.2.2.2.2))))))))))))⟩ (fun hHeld => ?_)
       clear hK K
       refine pu_ 12 (some 10) #[true, true, true, true, true, true, true, true, true, true, true, true, true] (any_of HT_.out (by kernel_rfl)) ?_
       refine done_ (done_of HT_.out (by kernel_rfl)) ?_
       go_upto_region 9 with (first | ((with_reducible refine gate_callee (f := 6) rfl ?_); refine goesL_ (some 42) rfl rfl Tryz.func6 (by kernel_rfl) rfl #[.string a0] rfl rf_ ?_; (with_reducible refine (espalierref14_Takes.calls k1 a0 t541 _ A16.out).mono ?_); rintro e w' ⟨rfl, ⟨nd, rfl⟩⟩; refine ⟨_, rfl, ?_⟩))
       (try simp only [Act.put, List.setIfInBounds_toArray, List.set_cons_zero, List.set_cons_succ])
       go_cut [50] (fun v50 wc => ∃ (kq : Nat) (x50_16 : Bool), v50 = .bool x50_16 ∧ Aside0 (espalierlaw14_ValueCalls.j1 kq a0 l2 y524 t539 x50_16 a1_0 a1_1 a1_2 a1_3 l1_4 t531 t532 t533 t534 t535 t536 = some r) ∧ Aside0 (kq ≤ k1) ∧ Aside0 (Kd.S k28 28 wc w.heap.size (fun k_ => some k_ ≠ ((.slice Ao30 t536.length co30) : Value).ownBlock ∧ k_ ≠ gb540) (.slice Ao21 y524.length co21) y524) ∧ Aside0 (Kd.R Kd.string 9 wc w.heap.size (fun _ => True) (.slice Ao30 t536.length co30) t536) ∧ Aside0 (wc.heap[gb511]? = some (.cells #[.int .i64 a1_0, .int .i64 a1_1, .string a1_2, .string a1_3, (.slice A1_4 l1_4.length c1_4)] 24 (0, 0))) ∧ Aside0 (wc.heap[gb540]? = some (.cells #[.int .i64 t531, .bool t532, .int .i64 t533, .bool t534, .string t535, (.slice Ao30 t536.length co30)] 28 (0, 0))) ∧ Aside0 (Below w.heap.size w wc))
       case first =>
        have H := HC17.out
        clear HC17
        by_cases c32 : t541 < 0
        ·rw [if_pos c32] at H
         have c32b0 : decide (t541 < 0) = true := decide_eq_true c32
         clear c32
         (first | rw [c32b0] | (simp only [i64_w, i32_w]; rw [c32b0]) | skip)
         have H' := Aside0.mk H
         clear H
         go_wp2
         go_meet
         case rel => exact ⟨_, (true), (by first | rfl | (simp; done) | (simp [*]; done)), H', ⟨by have := HK1.out; first | omega | exact Nat.le_refl _⟩, ⟨by (with_reducible repeat (first | apply Kd.S_alloc | apply Kd.S_drewN | apply Kd.S_drew)); exact Kd.S_mono (Kd.S_far (p := ⟨gb540, 5, none⟩) (Kd.S_far (p := ⟨gb540, 4, none⟩) (Kd.S_far (p := ⟨gb540, 3, none⟩) (Kd.S_far (p := ⟨gb540, 2, none⟩) (Kd.S_far (p := ⟨gb540, 1, none⟩) (Kd.S_far (p := ⟨gb540, 0, none⟩) (Kd.S_mono HO526.out (fun k_ hk => (⟨hk, hk.2⟩ : _ ∧ k_ ≠ gb540))) (fun _ hk => hk.2) (.int .i64 t531)) (fun _ hk => hk.2) (.bool t532)) (fun _ hk => hk.2) (.int .i64 t533)) (fun _ hk => hk.2) (.bool t534)) (fun _ hk => hk.2) (.string t535)) (fun _ hk => hk.2) (.slice Ao30 t536.length co30)) (fun _ hk => ⟨hk.1.1, hk.1.2⟩)⟩, ⟨rm_ (Kd.R_types HO538.out BK540.out (by decide)) (fun _ hk => hk.2)⟩, ⟨by (with_reducible repeat (first | refine blk_drewN ?_ _ | refine blk_drew ?_ | refine blk_alloc ?_ _)); refine blk_far ?_ NB511_540.out _; (with_reducible repeat (first | refine blk_drewN ?_ _ | refine blk_drew ?_ | refine blk_alloc ?_ _)); refine blk_far ?_ NB511_540.out _; (with_reducible repeat (first | refine blk_drewN ?_ _ | refine blk_drew ?_ | refine blk_alloc ?_ _)); refine blk_far ?_ NB511_540.out _; (with_reducible repeat (first | refine blk_drewN ?_ _ | refine blk_drew ?_ | refine blk_alloc ?_ _)); refine blk_far ?_ NB511_540.out _; (with_reducible repeat (first | refine blk_drewN ?_ _ | refine blk_drew ?_ | refine blk_alloc ?_ _)); refine blk_far ?_ NB511_540.out _; (with_reducible repeat (first | refine blk_drewN ?_ _ | refine blk_drew ?_ | refine blk_alloc ?_ _)); refine blk_far ?_ NB511_540.out _; (with_reducible repeat (first | refine blk_drewN ?_ _ | refine blk_drew ?_ | refine blk_alloc ?_ _)); exact BK511.out⟩, ⟨by (with_reducible repeat (first | refine blk_drewN ?_ _ | refine blk_drew ?_ | refine blk_alloc ?_ _)); refine blk_put (cs := #[.int .i64 t531, .bool t532, .int .i64 t533, .bool t534, .string t535, .slice none 0 0]) ?_ 5 _ rfl; (with_reducible repeat (first | refine blk_drewN ?_ _ | refine blk_drew ?_ | refine blk_alloc ?_ _)); refine blk_put (cs := #[.int .i64 t531, .bool t532, .int .i64 t533, .bool t534, .string (⟨#[]⟩ : ByteArray), .slice none 0 0]) ?_ 4 _ rfl; (with_reducible repeat (first | refine blk_drewN ?_ _ | refine blk_drew ?_ | refine blk_alloc ?_ _)); refine blk_put (cs := #[.int .i64 t531, .bool t532, .int .i64 t533, .bool false, .string (⟨#[]⟩ : ByteArray), .slice none 0 0]) ?_ 3 _ rfl; (with_reducible repeat (first | refine blk_drewN ?_ _ | refine blk_drew ?_ | refine blk_alloc ?_ _)); refine blk_put (cs := #[.int .i64 t531, .bool t532, .int .i64 0, .bool false, .string (⟨#[]⟩ : ByteArray), .slice none 0 0]) ?_ 2 _ rfl; (with_reducible repeat (first | refine blk_drewN ?_ _ | refine blk_drew ?_ | refine blk_alloc ?_ _)); refine blk_put (cs := #[.int .i64 t531, .bool false, .int .i64 0, .bool false, .string (⟨#[]⟩ : ByteArray), .slice none 0 0]) ?_ 1 _ rfl; (with_reducible repeat (first | refine blk_drewN ?_ _ | refine blk_drew ?_ | refine blk_alloc ?_ _)); refine blk_put (cs := #[.int .i64 0, .bool false, .int .i64 0, .bool false, .string (⟨#[]⟩ : ByteArray), .slice none 0 0]) ?_ 0 _ rfl; (with_reducible repeat (first | refine blk_drewN ?_ _ | refine blk_drew ?_ | refine blk_alloc ?_ _)); exact BK540.out⟩, ⟨hb2_ GE511.out GE540.out⟩⟩
        ·rw [if_neg c32] at H
         have c32b0 : decide (t541 < 0) = false := decide_eq_false c32
         clear c32
         (first | rw [c32b0] | (simp only [i64_w, i32_w]; rw [c32b0]) | skip)
         have H' := Aside0.mk H
         clear H
         go_wp2
         go_meet
         case rel => exact ⟨_, ((t541 != (l2.length : Int))), (by first | rfl | (simp; done) | (simp [*]; done)), H', ⟨by have := HK1.out; first | omega | exact Nat.le_refl _⟩, ⟨by (with_reducible repeat (first | apply Kd.S_alloc | apply Kd.S_drewN | apply Kd.S_drew)); exact Kd.S_mono (Kd.S_far (p := ⟨gb540, 5, none⟩) (Kd.S_far (p := ⟨gb540, 4, none⟩) (Kd.S_far (p := ⟨gb540, 3, none⟩) (Kd.S_far (p := ⟨gb540, 2, none⟩) (Kd.S_far (p := ⟨gb540, 1, none⟩) (Kd.S_far (p := ⟨gb540, 0, none⟩) (Kd.S_mono HO526.out (fun k_ hk => (⟨hk, hk.2⟩ : _ ∧ k_ ≠ gb540))) (fun _ hk => hk.2) (.int .i64 t531)) (fun _ hk => hk.2) (.bool t532)) (fun _ hk => hk.2) (.int .i64 t533)) (fun _ hk => hk.2) (.bool t534)) (fun _ hk => hk.2) (.string t535)) (fun _ hk => hk.2) (.slice Ao30 t536.length co30)) (fun _ hk => ⟨hk.1.1, hk.1.2⟩)⟩, ⟨rm_ (Kd.R_types HO538.out BK540.out (by decide)) (fun _ hk => hk.2)⟩, ⟨by (with_reducible repeat (first | refine blk_drewN ?_ _ | refine blk_drew ?_ | refine blk_alloc ?_ _)); refine blk_far ?_ NB511_540.out _; (with_reducible repeat (first | refine blk_drewN ?_ _ | refine blk_drew ?_ | refine blk_alloc ?_ _)); refine blk_far ?_ NB511_540.out _; (with_reducible repeat (first | refine blk_drewN ?_ _ | refine blk_drew ?_ | refine blk_alloc ?_ _)); refine blk_far ?_ NB511_540.out _; (with_reducible repeat (first | refine blk_drewN ?_ _ | refine blk_drew ?_ | refine blk_alloc ?_ _)); refine blk_far ?_ NB511_540.out _; (with_reducible repeat (first | refine blk_drewN ?_ _ | refine blk_drew ?_ | refine blk_alloc ?_ _)); refine blk_far ?_ NB511_540.out _; (with_reducible repeat (first | refine blk_drewN ?_ _ | refine blk_drew ?_ | refine blk_alloc ?_ _)); refine blk_far ?_ NB511_540.out _; (with_reducible repeat (first | refine blk_drewN ?_ _ | refine blk_drew ?_ | refine blk_alloc ?_ _)); exact BK511.out⟩, ⟨by (with_reducible repeat (first | refine blk_drewN ?_ _ | refine blk_drew ?_ | refine blk_alloc ?_ _)); refine blk_put (cs := #[.int .i64 t531, .bool t532, .int .i64 t533, .bool t534, .string t535, .slice none 0 0]) ?_ 5 _ rfl; (with_reducible repeat (first | refine blk_drewN ?_ _ | refine blk_drew ?_ | refine blk_alloc ?_ _)); refine blk_put (cs := #[.int .i64 t531, .bool t532, .int .i64 t533, .bool t534, .string (⟨#[]⟩ : ByteArray), .slice none 0 0]) ?_ 4 _ rfl; (with_reducible repeat (first | refine blk_drewN ?_ _ | refine blk_drew ?_ | refine blk_alloc ?_ _)); refine blk_put (cs := #[.int .i64 t531, .bool t532, .int .i64 t533, .bool false, .string (⟨#[]⟩ : ByteArray), .slice none 0 0]) ?_ 3 _ rfl; (with_reducible repeat (first | refine blk_drewN ?_ _ | refine blk_drew ?_ | refine blk_alloc ?_ _)); refine blk_put (cs := #[.int .i64 t531, .bool t532, .int .i64 0, .bool false, .string (⟨#[]⟩ : ByteArray), .slice none 0 0]) ?_ 2 _ rfl; (with_reducible repeat (first | refine blk_drewN ?_ _ | refine blk_drew ?_ | refine blk_alloc ?_ _)); refine blk_put (cs := #[.int .i64 t531, .bool false, .int .i64 0, .bool false, .string (⟨#[]⟩ : ByteArray), .slice none 0 0]) ?_ 1 _ rfl; (with_reducible repeat (first | refine blk_drewN ?_ _ | refine blk_drew ?_ | refine blk_alloc ?_ _)); refine blk_put (cs := #[.int .i64 0, .bool false, .int .i64 0, .bool false, .string (⟨#[]⟩ : ByteArray), .slice none 0 0]) ?_ 0 _ rfl; (with_reducible repeat (first | refine blk_drewN ?_ _ | refine blk_drew ?_ | refine blk_alloc ?_ _)); exact BK540.out⟩, ⟨hb2_ GE511.out GE540.out⟩⟩
       case rest =>
        clear HC17
        try clear c1
        try clear c2
        try clear p2
        try clear q2
        try clear c3
        try clear c4
        try clear c5
        try clear c5b0
        try clear p5
        try clear q5
        try clear hx5
        try clear c6
        try clear c6b0
        try clear p6
        try clear c8
        try clear c12
        try clear c13
        try clear c13b0
        try clear c13b1
        try clear c14
        try clear c14b0
        try clear c14b1
        try clear q20
        try clear c32
        try clear c32b0
        try clear hx512_0
        try clear hx512_1
        try clear hx512_2
        try clear hx512_3
        try clear hx512_4
        try clear hx512_5
        try clear p2
        try clear p512
        try clear q20
        try clear q512
        obtain ⟨kq, x50_16, rfl, HA, HJ16, HO_7, HO_541005, BK511, BK540, HB⟩ := hcut
        cases kq with
        | zero => exact absurd HA.out (by simp [espalierlaw14_ValueCalls.j1])
        | succ kj16 =>
         have H := HA.out
         clear HA
         simp only [espalierlaw14_ValueCalls.j1] at H
         by_cases c33 : x50_16 = true
         ·subst c33
          rw [if_pos rfl] at H
          replace H := Option.bind_eq_some_iff.mp H
          obtain ⟨t542, A340, H⟩ := H
          replace H : (if t542 = true then (some (t539 == 140)) else (some false)) = some r := H
          have A34 := Aside0.mk A340
          clear A340
          by_cases c35 : t542 = true
          ·subst c35
           rw [if_pos rfl] at H
           obtain rfl := Option.some.inj H
           have hnb36 := NB540_511.out
           have hnc36 := NB511_540.out
           obtain ⟨hcz37_0, hcz37_1, hcz37_2, hcz37_3, hcz37_4, hcz37_5⟩ := ce6_ BK540.out
           obtain ⟨hfz37_0, hfz37_1, hfz37_2, hfz37_3, hfz37_4, hfz37_5⟩ := fr6_ BK540.out
           go_wp2_with (first | ((with_reducible refine gate_callee (f := 7) rfl ?_); refine goesL_ (some 53) rfl rfl Tryz.func7 (by kernel_rfl) rfl #[.agg #[.int .i64 t531, .bool t532, .int .i64 t533, .bool t534, .string t535, .slice Ao30 t536.length co30], .agg #[.int .i64 0, .bool false, .int .i64 0, .bool false, .string (⟨#[]⟩ : ByteArray), .slice none 0 0]] rfl rf_ ?_; (refine (espalierref14_Same.calls kj16 t531 t532 t533 t534 t535 _ _ t536 0 false 0 false (⟨#[]⟩ : ByteArray) _ _ ([] : List ByteArray) true _ ?side1 ?side2 ?side3 ?side4 A34.out).mono ?_); (case side1 => repeat (first | exact (Kd.R_reads' HO_541005.out).2.2 | (with_reducible refine Kd.C_alloc ?_ _) | (with_reducible refine Kd.C_drewN ?_ _) | (with_reducible refine Kd.C_drew ?_))); (case side2 => exact (Kd.R_reads' HO_541005.out).2.1); (case side3 => exact Kd.C_nil _ _); (case side4 => exact Nat.le_refl _); rintro e w38 ⟨rfl, hb⟩; refine ⟨_, rfl, ?_⟩; replace HO_7 := Aside0.mk (Kd.S_below (sa_ HO_7.out) hb); replace HO_541005 := Aside0.mk (Kd.R_below (ra_ HO_541005.out) hb); replace BK511 := Aside0.mk (blk_below (g := gb511) (o := .cells #[.int .i64 a1_0, .int .i64 a1_1, .string a1_2, .string a1_3, .slice A1_4 l1_4.length c1_4] 24 (0, 0)) (bk_ BK511.out) hb); replace BK540 := Aside0.mk (blk_below (g := gb540) (o := .cells #[.int .i64 t531, .bool t532, .int .i64 t533, .bool t534, .string t535, .slice Ao30 t536.length co30] 28 (0, 0)) (bk_ BK540.out) hb); replace HB := Aside0.mk (below_step (hb2_ GE511.out GE540.out) hb); (try clear hb); (try clear hb2); (try clear hk); (try clear hi)))
           go_ret
           exact ⟨er_, hb2_ GE511.out GE540.out⟩
          ·replace c35 := Bool.eq_false_iff.mpr c35
           subst c35
           rw [if_neg (show ¬ (false = true) by decide)] at H
           obtain rfl := Option.some.inj H
           have hnb39 := NB540_511.out
           have hnc39 := NB511_540.out
           obtain ⟨hcz40_0, hcz40_1, hcz40_2, hcz40_3, hcz40_4, hcz40_5⟩ := ce6_ BK540.out
           obtain ⟨hfz40_0, hfz40_1, hfz40_2, hfz40_3, hfz40_4, hfz40_5⟩ := fr6_ BK540.out
           go_wp2_with (first | ((with_reducible refine gate_callee (f := 7) rfl ?_); refine goesL_ (some 53) rfl rfl Tryz.func7 (by kernel_rfl) rfl #[.agg #[.int .i64 t531, .bool t532, .int .i64 t533, .bool t534, .string t535, .slice Ao30 t536.length co30], .agg #[.int .i64 0, .bool false, .int .i64 0, .bool false, .string (⟨#[]⟩ : ByteArray), .slice none 0 0]] rfl rf_ ?_; (refine (espalierref14_Same.calls kj16 t531 t532 t533 t534 t535 _ _ t536 0 false 0 false (⟨#[]⟩ : ByteArray) _ _ ([] : List ByteArray) false _ ?side1 ?side2 ?side3 ?side4 A34.out).mono ?_); (case side1 => repeat (first | exact (Kd.R_reads' HO_541005.out).2.2 | (with_reducible refine Kd.C_alloc ?_ _) | (with_reducible refine Kd.C_drewN ?_ _) | (with_reducible refine Kd.C_drew ?_))); (case side2 => exact (Kd.R_reads' HO_541005.out).2.1); (case side3 => exact Kd.C_nil _ _); (case side4 => exact Nat.le_refl _); rintro e w41 ⟨rfl, hb⟩; refine ⟨_, rfl, ?_⟩; replace HO_7 := Aside0.mk (Kd.S_below (sa_ HO_7.out) hb); replace HO_541005 := Aside0.mk (Kd.R_below (ra_ HO_541005.out) hb); replace BK511 := Aside0.mk (blk_below (g := gb511) (o := .cells #[.int .i64 a1_0, .int .i64 a1_1, .string a1_2, .string a1_3, .slice A1_4 l1_4.length c1_4] 24 (0, 0)) (bk_ BK511.out) hb); replace BK540 := Aside0.mk (blk_below (g := gb540) (o := .cells #[.int .i64 t531, .bool t532, .int .i64 t533, .bool t534, .string t535, .slice Ao30 t536.length co30] 28 (0, 0)) (bk_ BK540.out) hb); replace HB := Aside0.mk (below_step (hb2_ GE511.out GE540.out) hb); (try clear hb); (try clear hb2); (try clear hk); (try clear hi)))
           go_ret
           exact ⟨er_, hb2_ GE511.out GE540.out⟩
         ·replace c33 := Bool.eq_false_iff.mpr c33
          subst c33
          rw [if_neg (show ¬ (false = true) by decide)] at H
          have H' := Aside0.mk H
          clear H
          go_wp2
          go_loopg [12] kj16 (fun kq v12 w' => ∃ (x12_3 : Int), v12 = .int .i64 x12_3 ∧ Aside0 (espalierlaw14_ValueCalls.l1 kq a0 l2 y524 t539 x12_3 a1_0 a1_1 a1_2 a1_3 l1_4 t531 t532 t533 t534 t535 t536 = some r) ∧ Aside0 (kq ≤ kj16) ∧ Aside0 (Kd.S k28 28 w' w.heap.size (fun k_ => some k_ ≠ ((.slice Ao30 t536.length co30) : Value).ownBlock ∧ k_ ≠ gb540) (.slice Ao21 y524.length co21) y524) ∧ Aside0 (Kd.R Kd.string 9 w' w.heap.size (fun _ => True) (.slice Ao30 t536.length co30) t536) ∧ Aside0 (w'.heap[gb511]? = some (.cells #[.int .i64 a1_0, .int .i64 a1_1, .string a1_2, .string a1_3, (.slice A1_4 l1_4.length c1_4)] 24 (0, 0))) ∧ Aside0 (w'.heap[gb540]? = some (.cells #[.int .i64 t531, .bool t532, .int .i64 t533, .bool t534, .string t535, (.slice Ao30 t536.length co30)] 28 (0, 0))) ∧ Aside0 (Below w.heap.size w w'))
          case atStart => exact ⟨(0), (by first | rfl | (simp; done) | (simp [*]; done)), H', ⟨Nat.le_refl _⟩, ⟨sa_ HO_7.out⟩, ⟨ra_ HO_541005.out⟩, ⟨bk_ BK511.out⟩, ⟨bk_ BK540.out⟩, ⟨hb2_ GE511.out GE540.out⟩⟩
          case round =>
           clear H'
           try clear c1
           try clear c2
           try clear p2
           try clear q2
           try clear c3
           try clear c4
           try clear c5
           try clear c5b0
           try clear p5
           try clear q5
           try clear hx5
           try clear c6
           try clear c6b0
           try clear p6
           try clear c7
           try clear c8
           try clear c12
           try clear c13
           try clear c13b0
           try clear c13b1
           try clear c14
           try clear c14b0
           try clear c14b1
           try clear q20
           try clear c32
           try clear c32b0
           try clear c33
           try clear c35
           try clear c36
           try clear c39
           try clear hcz37_0
           try clear hcz37_1
           try clear hcz37_2
           try clear hcz37_3
           try clear hcz37_4
           try clear hcz37_5
           try clear hcz40_0
           try clear hcz40_1
           try clear hcz40_2
           try clear hcz40_3
           try clear hcz40_4
           try clear hcz40_5
           try clear hfz37_0
           try clear hfz37_1
           try clear hfz37_2
           try clear hfz37_3
           try clear hfz37_4
           try clear hfz37_5
           try clear hfz40_0
           try clear hfz40_1
           try clear hfz40_2
           try clear hfz40_3
           try clear hfz40_4
           try clear hfz40_5
           try clear hx512_0
           try clear hx512_1
           try clear hx512_2
           try clear hx512_3
           try clear hx512_4
           try clear hx512_5
           try clear p2
           try clear p5
           try clear p512
           try clear p6
           try clear q2
           try clear q20
           try clear q5
           try clear q512
           obtain ⟨x12_3, rfl, HA, HK3, HO_7, HO_541005, BK511, BK540, HB⟩ := hrel
           cases gk with
           | zero => exact absurd HA.out (by simp [espalierlaw14_ValueCalls.l1])
           | succ k3 =>
            have H := HA.out
            clear HA
            simp only [espalierlaw14_ValueCalls.l1] at H
            by_cases c42 : x12_3 < (l2.length : Int)
            ·rw [if_pos c42] at H
             have c42b0 : decide (x12_3 < (l2.length : Int)) = true := decide_eq_true c42
             clear c42
             by_cases c43 : 0 ≤ x12_3
             ·rw [if_pos c43] at H
              have c43b0 : decide (0 ≤ x12_3) = true := decide_eq_true c43
              clear c43
              by_cases c44 : x12_3 < (y524.length : Int)
              ·rw [if_pos c44] at H
               have c44b0 : decide (x12_3 < (y524.length : Int)) = true := decide_eq_true c44
               clear c44
               replace H := Option.bind_eq_some_iff.mp H
               obtain ⟨t555, A450, H⟩ := H
               replace H : (if t555 = true then ((espalierref14_Can.f k3 ((rd_T28 l2 x12_3).f0) ((rd_T28 l2 x12_3).f1) ((rd_T28 l2 x12_3).f2) ((rd_T28 l2 x12_3).f3) ((rd_T28 l2 x12_3).f4) ((rd_T28 l2 x12_3).f5)).bind fun t557 => (if t557 = true then (espalierlaw14_ValueCalls.l1 k3 a0 l2 y524 t539 (wrap64 (x12_3 + 1)) a1_0 a1_1 a1_2 a1_3 l1_4 t531 t532 t533 t534 t535 t536) else ((espalierref14_Same.f k3 t531 t532 t533 t534 t535 t536 0 false 0 false (⟨#[]⟩ : ByteArray) ([] : List ByteArray)).bind fun t558 => (if t558 = true then (some (t539 == 141)) else (some false))))) else (some false)) = some r := H
               have A45 := Aside0.mk A450
               clear A450
               by_cases c46 : t555 = true
               ·subst c46
                rw [if_pos rfl] at H
                replace H := Option.bind_eq_some_iff.mp H
                obtain ⟨t557, A470, H⟩ := H
                replace H : (if t557 = true then (espalierlaw14_ValueCalls.l1 k3 a0 l2 y524 t539 (wrap64 (x12_3 + 1)) a1_0 a1_1 a1_2 a1_3 l1_4 t531 t532 t533 t534 t535 t536) else ((espalierref14_Same.f k3 t531 t532 t533 t534 t535 t536 0 false 0 false (⟨#[]⟩ : ByteArray) ([] : List ByteArray)).bind fun t558 => (if t558 = true then (some (t539 == 141)) else (some false)))) = some r := H
                have A47 := Aside0.mk A470
                clear A470
                by_cases c48 : t557 = true
                ·subst c48
                 rw [if_pos rfl] at H
                 have H' := Aside0.mk H
                 clear H
                 try go_wp2
                 replace HO_7 := Aside0.mk (Kd.S_drew HO_7.out)
                 replace HO_541005 := Aside0.mk (Kd.R_drew HO_541005.out)
                 replace BK511 := Aside0.mk (blk_drew BK511.out)
                 replace BK540 := Aside0.mk (blk_drew BK540.out)
                 replace HB := Aside0.mk (below_drew1 HB.out)
                 have p553 : 0 ≤ (x12_3 : Int) := of_decide_eq_true (by first | (with_reducible assumption) | assumption)
                 have q553 : x12_3 < (y524.length : Int) := of_decide_eq_true (by first | (with_reducible assumption) | assumption)
                 obtain ⟨ad553, A553_5, c553_5, e553, hx553_0, hx553_1, hx553_2, hx553_3, hx553_4, hx553_5, hl553_5, hi553_5⟩ := at_T28 (Kd.S_reads' HO_7.out).2.2 x12_3 p553 q553
                 cases e553
                 obtain ⟨ce553, hce553, hMe553, hcc553⟩ := Kd.S_get HO_7.out z28 x12_3 p553 (by first | exact q553 | exact of_decide_eq_true (by first | (with_reducible assumption) | assumption) | (have e_ := (Kd.S_reads' HO_7.out).1; omega))
                 obtain ⟨ve553_5, rfl, ge553_5⟩ := k28_openM hMe553
                 have hv553_5 := hcc553 5 _ rfl
                 rw [add_field _ _ 5 (by omega)] at hv553_5
                 replace hv553_5 := Option.some.inj (hv553_5.symm.trans hx553_5)
                 rw [hv553_5] at ge553_5
                 have HL553_5 := Aside0.mk (show Kd.R Kd.string 9 _ _ _ _ ((rd_T28 y524 x12_3).f5) from ge553_5)
                 clear hv553_5 ge553_5
                 clear hcc553 hce553
                 have HR553_5 := Aside0.mk hi553_5
                 have HC553_5 := Aside0.mk hl553_5
                 clear hi553_5 hl553_5
                 replace p553 := eq_true p553
                 replace q553 := eq_true q553
                 have p554 : 0 ≤ (x12_3 : Int) := of_decide_eq_true (by first | (with_reducible assumption) | assumption)
                 have q554 : x12_3 < (l2.length : Int) := of_decide_eq_true (by first | (with_reducible assumption) | assumption)
                 obtain ⟨ad554, A554_5, c554_5, e554, hx554_0, hx554_1, hx554_2, hx554_3, hx554_4, hx554_5, hl554_5, hi554_5⟩ := at_T28 HR2.out x12_3 p554 q554
                 have hw554_5 := hx554_5
                 have hw554_4 := hx554_4
                 have hw554_3 := hx554_3
                 have hw554_2 := hx554_2
                 have hw554_1 := hx554_1
                 have hw554_0 := hx554_0
                 cases e554
                 replace hx554_0 := hc_ HB.out hx554_0
                 replace hx554_1 := hc_ HB.out hx554_1
                 replace hx554_2 := hc_ HB.out hx554_2
                 replace hx554_3 := hc_ HB.out hx554_3
                 replace hx554_4 := hc_ HB.out hx554_4
                 replace hx554_5 := hc_ HB.out hx554_5
                 have HR554_5 := Aside0.mk hi554_5
                 have HC554_5 := Aside0.mk hl554_5
                 clear hi554_5 hl554_5
                 replace p554 := eq_true p554
                 replace q554 := eq_true q554
                 refine start_ (n := 10) (S := fun w' => w'.cell? (ad553.add ((x12_3).toNat * 6)) = some (.int .i64 ((rd_T28 y524 x12_3).f0)) ∧ w'.cell? ⟨(ad553.add ((x12_3).toNat * 6)).block, (ad553.add ((x12_3).toNat * 6)).off + 1, none⟩ = some (.bool ((rd_T28 y524 x12_3).f1)) ∧ w'.cell? ⟨(ad553.add ((x12_3).toNat * 6)).block, (ad553.add ((x12_3).toNat * 6)).off + 2, none⟩ = some (.int .i64 ((rd_T28 y524 x12_3).f2)) ∧ w'.cell? ⟨(ad553.add ((x12_3).toNat * 6)).block, (ad553.add ((x12_3).toNat * 6)).off + 3, none⟩ = some (.bool ((rd_T28 y524 x12_3).f3)) ∧ w'.cell? ⟨(ad553.add ((x12_3).toNat * 6)).block, (ad553.add ((x12_3).toNat * 6)).off + 4, none⟩ = some (.string ((rd_T28 y524 x12_3).f4)) ∧ w'.cell? ⟨(ad553.add ((x12_3).toNat * 6)).block, (ad553.add ((x12_3).toNat * 6)).off + 5, none⟩ = some (.slice A553_5 ((rd_T28 y524 x12_3).f5).length c553_5) ∧ w'.cell? (ad554.add ((x12_3).toNat * 6)) = some (.int .i64 ((rd_T28 l2 x12_3).f0)) ∧ w'.cell? ⟨(ad554.add ((x12_3).toNat * 6)).block, (ad554.add ((x12_3).toNat * 6)).off + 1, none⟩ = some (.bool ((rd_T28 l2 x12_3).f1)) ∧ w'.cell? ⟨(ad554.add ((x12_3).toNat * 6)).block, (ad554.add ((x12_3).toNat * 6)).off + 2, none⟩ = some (.int .i64 ((rd_T28 l2 x12_3).f2)) ∧ w'.cell? ⟨(ad554.add ((x12_3).toNat * 6)).block, (ad554.add ((x12_3).toNat * 6)).off + 3, none⟩ = some (.bool ((rd_T28 l2 x12_3).f3)) ∧ w'.cell? ⟨(ad554.add ((x12_3).toNat * 6)).block, (ad554.add ((x12_3).toNat * 6)).off + 4, none⟩ = some (.string ((rd_T28 l2 x12_3).f4)) ∧ w'.cell? ⟨(ad554.add ((x12_3).toNat * 6)).block, (ad554.add ((x12_3).toNat * 6)).off + 5, none⟩ = some (.slice A554_5 ((rd_T28 l2 x12_3).f5).length c554_5)) (ds := []) #[false, false, false, false, false, false, false, false, false, false] (by kernel_rfl) rfl rfl ⟨hx553_0, hx553_1, hx553_2, hx553_3, hx553_4, hx553_5, (hc_ HB.out hw554_0), (hc_ HB.out hw554_1), (hc_ HB.out hw554_2), (hc_ HB.out hw554_3), (hc_ HB.out hw554_4), (hc_ HB.out hw554_5)⟩ (fun hHeld => ?_); refine with_tabW espalierlaw14_ValueCalls.tab14 espalierlaw14_ValueCalls.bits14 (fun HT_ HW_ => ?_)
                 generalize wr.drew = w49 at HO_7 HO_541005 BK511 BK540 HB HL553_5 HR553_5 HR554_5 hx553_0 hx553_1 hx553_2 hx553_3 hx553_4 hx553_5 hx554_0 hx554_1 hx554_2 hx554_3 hx554_4 hx554_5 hHeld ⊢
                 refine pu_ 0 (some 64) #[true, false, false, false, false, false, false, false, false, false] (any_of HT_.out (by kernel_rfl)) ?_
                 refine pu_ 1 (some 65) #[true, true, false, false, false, false, false, false, false, false] (any_of HT_.out (by kernel_rfl)) ?_
                 refine pu_ 2 (some 66) #[true, true, true, false, false, false, false, false, false, false] (any_of HT_.out (by kernel_rfl)) ?_
                 refine pu_ 4 (some 68) #[true, true, true, false, true, false, false, false, false, false] (any_of HT_.out (by kernel_rfl)) ?_
                 refine pu_ 5 (some 69) #[true, true, true, false, true, true, false, false, false, false] (any_of HT_.out (by kernel_rfl)) ?_
                 refine pu_ 6 (some 70) #[true, true, true, false, true, true, true, false, false, false] (any_of HT_.out (by kernel_rfl)) ?_
                 refine take_ (i := 3) (N := some 67) (v := ?_) (a' := ?_) #[true, true, true, true, true, true, true, false, false, false] rfl rfl (take_ofW HT_.out HW_.out (by kernel_rfl)) (fun _ _ _ h => h) (Or.inl ⟨by rfl, ?_⟩) hHeld ?_ ?_
                 rotate_left
                 ·rintro w' ⟨s0, s1, s2, s3, s4, s5, s6, s7, s8, s9, s10, s11⟩
                  go_simp
                  with_reducible rfl
                 rotate_left
                 ·simp only [Act.put, List.setIfInBounds_toArray, List.set_cons_zero, List.set_cons_succ, i64_w, i32_w]
                  rfl
                 refine take_ (i := 7) (N := some 71) (v := ?_) (a' := ?_) #[true, true, true, true, true, true, true, true, false, false] rfl rfl (take_ofW HT_.out HW_.out (by kernel_rfl)) (fun _ _ _ h => h) (Or.inl ⟨by rfl, ?_⟩) hHeld ?_ ?_
                 rotate_left
                 ·rintro w' ⟨s0, s1, s2, s3, s4, s5, s6, s7, s8, s9, s10, s11⟩
                  go_simp
                  with_reducible rfl
                 rotate_left
                 ·simp only [Act.put, List.setIfInBounds_toArray, List.set_cons_zero, List.set_cons_succ, i64_w, i32_w]
                  rfl
                 refine one_ (i := 8) (N := some 72) #[true, true, true, true, true, true, true, true, true, false] rfl rfl (one_of HT_.out (by kernel_rfl)) (by decide) (fun K hK => ?_)
                 refine goes_ Tryz.func7 (by kernel_rfl) rfl #[.agg #[.int .i64 ((rd_T28 y524 x12_3).f0), .bool ((rd_T28 y524 x12_3).f1), .int .i64 ((rd_T28 y524 x12_3).f2), .bool ((rd_T28 y524 x12_3).f3), .string ((rd_T28 y524 x12_3).f4), .slice A553_5 ((rd_T28 y524 x12_3).f5).length c553_5], .agg #[.int .i64 ((rd_T28 l2 x12_3).f0), .bool ((rd_T28 l2 x12_3).f1), .int .i64 ((rd_T28 l2 x12_3).f2), .bool ((rd_T28 l2 x12_3).f3), .string ((rd_T28 l2 x12_3).f4), .slice A554_5 ((rd_T28 l2 x12_3).f5).length c554_5]] (by rfl) rfl rfl rf_ ?_
                 with_reducible refine (espalierref14_Same.calls k3 ((rd_T28 y524 x12_3).f0) ((rd_T28 y524 x12_3).f1) ((rd_T28 y524 x12_3).f2) ((rd_T28 y524 x12_3).f3) ((rd_T28 y524 x12_3).f4) _ _ ((rd_T28 y524 x12_3).f5) ((rd_T28 l2 x12_3).f0) ((rd_T28 l2 x12_3).f1) ((rd_T28 l2 x12_3).f2) ((rd_T28 l2 x12_3).f3) ((rd_T28 l2 x12_3).f4) _ _ ((rd_T28 l2 x12_3).f5) true _ ?side1 ?side2 ?side3 ?side4 A45.out).mono ?_
                 (case side1 => repeat (first | exact (by repeat (first | (with_reducible exact HR553_5.out) | (with_reducible refine Kd.C_alloc ?_ _) | (with_reducible refine Kd.C_drewN ?_ _) | (with_reducible refine Kd.C_drew ?_) | exact HR553_5.out)) | (with_reducible refine Kd.C_alloc ?_ _) | (with_reducible refine Kd.C_drewN ?_ _) | (with_reducible refine Kd.C_drew ?_)))
                 (case side2 => exact HC553_5.out)
                 (case side3 => exact sc_ (Kd.C_below HR554_5.out HB.out))
                 (case side4 => exact HC554_5.out)
                 rintro e w50 ⟨rfl, hb⟩
                 have HS0_ := (hb.cell (World.block_lt_of_cell? _ _ (hHeld.1))).trans (hHeld.1)
                 have HS1_ := (hb.cell (World.block_lt_of_cell? _ _ (hHeld.2.1))).trans (hHeld.2.1)
                 have HS2_ := (hb.cell (World.block_lt_of_cell? _ _ (hHeld.2.2.1))).trans (hHeld.2.2.1)
                 have HS3_ := (hb.cell (World.block_lt_of_cell? _ _ (hHeld.2.2.2.1))).trans (hHeld.2.2.2.1)
                 have HS4_ := (hb.cell (World.block_lt_of_cell? _ _ (hHeld.2.2.2.2.1))).trans (hHeld.2.2.2.2.1)
                 have HS5_ := (hb.cell (World.block_lt_of_cell? _ _ (hHeld.2.2.2.2.2.1))).trans (hHeld.2.2.2.2.2.1)
                 refine ⟨_, rfl, ?_⟩
                 have n0_ := Aside0.mk (Kd.S_below (sa_ HO_7.out) hb)
                 have n1_ := Aside0.mk (Kd.R_below (ra_ HO_541005.out) hb)
                 have n2_ := Aside0.mk (Kd.R_below (by (with_reducible repeat (first | apply Kd.R_alloc | apply Kd.R_drewN | apply Kd.R_drew)); exact HL553_5.out) hb)
                 have n3_ := Aside0.mk (blk_below (g := gb511) (o := .cells #[.int .i64 a1_0, .int .i64 a1_1, .string a1_2, .string a1_3, .slice A1_4 l1_4.length c1_4] 24 (0, 0)) (bk_ BK511.out) hb)
                 have n4_ := Aside0.mk (blk_below (g := gb540) (o := .cells #[.int .i64 t531, .bool t532, .int .i64 t533, .bool t534, .string t535, .slice Ao30 t536.length co30] 28 (0, 0)) (bk_ BK540.out) hb)
                 have n5_ := Aside0.mk (Kd.C_below (by repeat (first | (with_reducible exact HR553_5.out) | (with_reducible refine Kd.C_alloc ?_ _) | (with_reducible refine Kd.C_drewN ?_ _) | (with_reducible refine Kd.C_drew ?_) | exact HR553_5.out)) hb)
                 have n6_ := Aside0.mk (below_step (hb2_ GE511.out GE540.out) hb)
                 clear HO_7
                 clear HO_541005
                 clear HL553_5
                 clear BK511
                 clear BK540
                 clear HR553_5
                 clear HB
                 have HO_7 := n0_
                 have HO_541005 := n1_
                 have HL553_5 := n2_
                 have BK511 := n3_
                 have BK540 := n4_
                 have HR553_5 := n5_
                 have HB := n6_
                 clear n0_ n1_ n2_ n3_ n4_ n5_ n6_
                 (try clear hb)
                 (try clear hb2)
                 (try clear hk)
                 (try clear hi)
                 refine hK.out _ _ ⟨HS0_, HS1_, HS2_, HS3_, HS4_, HS5_, (hc_ HB.out hw554_0), (hc_ HB.out hw554_1), (hc_ HB.out hw554_2), (hc_ HB.out hw554_3), (hc_ HB.out hw554_4), (hc_ HB.out hw554_5)⟩ (fun hHeld => ?_)
                 clear hK K
                 refine norm_ (a' := ?_) ?_ ?_
                 rotate_left
                 ·show Act.put _ (some 72) _ = _
                  simp only [Act.put, List.setIfInBounds_toArray, List.set_cons_zero, List.set_cons_succ, i64_w, i32_w]
                  rfl
                 refine pu_ 9 (some 73) #[true, true, true, true, true, true, true, true, true, true] (any_of HT_.out (by kernel_rfl)) ?_
                 refine done_ (done_of HT_.out (by kernel_rfl)) ?_
                 have p556 : 0 ≤ (x12_3 : Int) := of_decide_eq_true (by first | (with_reducible assumption) | assumption)
                 have q556 : x12_3 < (l2.length : Int) := of_decide_eq_true (by first | (with_reducible assumption) | assumption)
                 obtain ⟨ad556, A556_5, c556_5, e556, hx556_0, hx556_1, hx556_2, hx556_3, hx556_4, hx556_5, hl556_5, hi556_5⟩ := at_T28 HR2.out x12_3 p556 q556
                 obtain rfl : ad554 = ad556 := (by injection e556)
                 obtain ⟨rfl, rfl⟩ : A556_5 = A554_5 ∧ c556_5 = c554_5 := by have e_ := Option.some.inj (hx556_5.symm.trans hw554_5); injection e_ with e1 e2 e3; exact ⟨e1, e3⟩
                 replace hx556_0 := hc_ HB.out hx556_0
                 replace hx556_1 := hc_ HB.out hx556_1
                 replace hx556_2 := hc_ HB.out hx556_2
                 replace hx556_3 := hc_ HB.out hx556_3
                 replace hx556_4 := hc_ HB.out hx556_4
                 replace hx556_5 := hc_ HB.out hx556_5
                 have HR556_5 := Aside0.mk hi556_5
                 have HC556_5 := Aside0.mk hl556_5
                 clear hi556_5 hl556_5
                 replace p556 := eq_true p556
                 replace q556 := eq_true q556
                 try go_wp2_with (first | ((with_reducible refine gate_callee (f := 8) rfl ?_); refine goesL_ (some 78) rfl rfl Tryz.func8 (by kernel_rfl) rfl #[.agg #[.int .i64 ((rd_T28 l2 x12_3).f0), .bool ((rd_T28 l2 x12_3).f1), .int .i64 ((rd_T28 l2 x12_3).f2), .bool ((rd_T28 l2 x12_3).f3), .string ((rd_T28 l2 x12_3).f4), .slice A556_5 ((rd_T28 l2 x12_3).f5).length c556_5]] rfl rf_ ?_; (with_reducible refine (espalierref14_Can.calls k3 ((rd_T28 l2 x12_3).f0) ((rd_T28 l2 x12_3).f1) ((rd_T28 l2 x12_3).f2) ((rd_T28 l2 x12_3).f3) ((rd_T28 l2 x12_3).f4) _ _ ((rd_T28 l2 x12_3).f5) true _ ?side1 ?side2 A47.out).mono ?_); (case side1 => exact sc_ (Kd.C_below HR556_5.out HB.out)); (case side2 => exact HC556_5.out); rintro e w51 ⟨rfl, hb⟩; refine ⟨_, rfl, ?_⟩; have n0_ := Aside0.mk (Kd.S_below (sa_ HO_7.out) hb); have n1_ := Aside0.mk (Kd.R_below (ra_ HO_541005.out) hb); have n2_ := Aside0.mk (Kd.R_below (by (with_reducible repeat (first | apply Kd.R_alloc | apply Kd.R_drewN | apply Kd.R_drew)); exact HL553_5.out) hb); have n3_ := Aside0.mk (blk_below (g := gb511) (o := .cells #[.int .i64 a1_0, .int .i64 a1_1, .string a1_2, .string a1_3, .slice A1_4 l1_4.length c1_4] 24 (0, 0)) (bk_ BK511.out) hb); have n4_ := Aside0.mk (blk_below (g := gb540) (o := .cells #[.int .i64 t531, .bool t532, .int .i64 t533, .bool t534, .string t535, .slice Ao30 t536.length co30] 28 (0, 0)) (bk_ BK540.out) hb); have n5_ := Aside0.mk (Kd.C_below (by repeat (first | (with_reducible exact HR553_5.out) | (with_reducible refine Kd.C_alloc ?_ _) | (with_reducible refine Kd.C_drewN ?_ _) | (with_reducible refine Kd.C_drew ?_) | exact HR553_5.out)) hb); have n6_ := Aside0.mk (below_step (hb2_ GE511.out GE540.out) hb); clear HO_7; clear HO_541005; clear HL553_5; clear BK511; clear BK540; clear HR553_5; clear HB; have HO_7 := n0_; have HO_541005 := n1_; have HL553_5 := n2_; have BK511 := n3_; have BK540 := n4_; have HR553_5 := n5_; have HB := n6_; clear n0_ n1_ n2_ n3_ n4_ n5_ n6_; (try clear hb); (try clear hb2); (try clear hk); (try clear hi)))
                 go_roundg k3
                 case measure => have := HK1.out; have := HJ16.out; have := HK3.out; omega
                 case rel => exact ⟨(wrap64 (x12_3 + 1)), (by first | rfl | (simp; done) | (simp [*]; done)), H', ⟨by have := HK1.out; have := HJ16.out; have := HK3.out; omega⟩, ⟨sa_ HO_7.out⟩, ⟨ra_ HO_541005.out⟩, ⟨bk_ BK511.out⟩, ⟨bk_ BK540.out⟩, ⟨hb2_ GE511.out GE540.out⟩⟩
                ·replace c48 := Bool.eq_false_iff.mpr c48
                 subst c48
                 rw [if_neg (show ¬ (false = true) by decide)] at H
                 replace H := Option.bind_eq_some_iff.mp H
                 obtain ⟨t558, A520, H⟩ := H
                 replace H : (if t558 = true then (some (t539 == 141)) else (some false)) = some r := H
                 have A52 := Aside0.mk A520
                 clear A520
                 by_cases c53 : t558 = true
                 ·subst c53
                  rw [if_pos rfl] at H
                  obtain rfl := Option.some.inj H
                  try go_wp2
                  replace HO_7 := Aside0.mk (Kd.S_drew HO_7.out)
                  replace HO_541005 := Aside0.mk (Kd.R_drew HO_541005.out)
                  replace BK511 := Aside0.mk (blk_drew BK511.out)
                  replace BK540 := Aside0.mk (blk_drew BK540.out)
                  replace HB := Aside0.mk (below_drew1 HB.out)
                  have p553 : 0 ≤ (x12_3 : Int) := of_decide_eq_true (by first | (with_reducible assumption) | assumption)
                  have q553 : x12_3 < (y524.length : Int) := of_decide_eq_true (by first | (with_reducible assumption) | assumption)
                  obtain ⟨ad553, A553_5, c553_5, e553, hx553_0, hx553_1, hx553_2, hx553_3, hx553_4, hx553_5, hl553_5, hi553_5⟩ := at_T28 (Kd.S_reads' HO_7.out).2.2 x12_3 p553 q553
                  cases e553
                  obtain ⟨ce553, hce553, hMe553, hcc553⟩ := Kd.S_get HO_7.out z28 x12_3 p553 (by first | exact q553 | exact of_decide_eq_true (by first | (with_reducible assumption) | assumption) | (have e_ := (Kd.S_reads' HO_7.out).1; omega))
                  obtain ⟨ve553_5, rfl, ge553_5⟩ := k28_openM hMe553
                  have hv553_5 := hcc553 5 _ rfl
                  rw [add_field _ _ 5 (by omega)] at hv553_5
                  replace hv553_5 := Option.some.inj (hv553_5.symm.trans hx553_5)
                  rw [hv553_5] at ge553_5
                  have HL553_5 := Aside0.mk (show Kd.R Kd.string 9 _ _ _ _ ((rd_T28 y524 x12_3).f5) from ge553_5)
                  clear hv553_5 ge553_5
                  clear hcc553 hce553
                  have HR553_5 := Aside0.mk hi553_5
                  have HC553_5 := Aside0.mk hl553_5
                  clear hi553_5 hl553_5
                  replace p553 := eq_true p553
                  replace q553 := eq_true q553
                  have p554 : 0 ≤ (x12_3 : Int) := of_decide_eq_true (by first | (with_reducible assumption) | assumption)
                  have q554 : x12_3 < (l2.length : Int) := of_decide_eq_true (by first | (with_reducible assumption) | assumption)
                  obtain ⟨ad554, A554_5, c554_5, e554, hx554_0, hx554_1, hx554_2, hx554_3, hx554_4, hx554_5, hl554_5, hi554_5⟩ := at_T28 HR2.out x12_3 p554 q554
                  have hw554_5 := hx554_5
                  have hw554_4 := hx554_4
                  have hw554_3 := hx554_3
                  have hw554_2 := hx554_2
                  have hw554_1 := hx554_1
                  have hw554_0 := hx554_0
                  cases e554
                  replace hx554_0 := hc_ HB.out hx554_0
                  replace hx554_1 := hc_ HB.out hx554_1
                  replace hx554_2 := hc_ HB.out hx554_2
                  replace hx554_3 := hc_ HB.out hx554_3
                  replace hx554_4 := hc_ HB.out hx554_4
                  replace hx554_5 := hc_ HB.out hx554_5
                  have HR554_5 := Aside0.mk hi554_5
                  have HC554_5 := Aside0.mk hl554_5
                  clear hi554_5 hl554_5
                  replace p554 := eq_true p554
                  replace q554 := eq_true q554
                  refine start_ (n := 10) (S := fun w' => w'.cell? (ad553.add ((x12_3).toNat * 6)) = some (.int .i64 ((rd_T28 y524 x12_3).f0)) ∧ w'.cell? ⟨(ad553.add ((x12_3).toNat * 6)).block, (ad553.add ((x12_3).toNat * 6)).off + 1, none⟩ = some (.bool ((rd_T28 y524 x12_3).f1)) ∧ w'.cell? ⟨(ad553.add ((x12_3).toNat * 6)).block, (ad553.add ((x12_3).toNat * 6)).off + 2, none⟩ = some (.int .i64 ((rd_T28 y524 x12_3).f2)) ∧ w'.cell? ⟨(ad553.add ((x12_3).toNat * 6)).block, (ad553.add ((x12_3).toNat * 6)).off + 3, none⟩ = some (.bool ((rd_T28 y524 x12_3).f3)) ∧ w'.cell? ⟨(ad553.add ((x12_3).toNat * 6)).block, (ad553.add ((x12_3).toNat * 6)).off + 4, none⟩ = some (.string ((rd_T28 y524 x12_3).f4)) ∧ w'.cell? ⟨(ad553.add ((x12_3).toNat * 6)).block, (ad553.add ((x12_3).toNat * 6)).off + 5, none⟩ = some (.slice A553_5 ((rd_T28 y524 x12_3).f5).length c553_5) ∧ w'.cell? (ad554.add ((x12_3).toNat * 6)) = some (.int .i64 ((rd_T28 l2 x12_3).f0)) ∧ w'.cell? ⟨(ad554.add ((x12_3).toNat * 6)).block, (ad554.add ((x12_3).toNat * 6)).off + 1, none⟩ = some (.bool ((rd_T28 l2 x12_3).f1)) ∧ w'.cell? ⟨(ad554.add ((x12_3).toNat * 6)).block, (ad554.add ((x12_3).toNat * 6)).off + 2, none⟩ = some (.int .i64 ((rd_T28 l2 x12_3).f2)) ∧ w'.cell? ⟨(ad554.add ((x12_3).toNat * 6)).block, (ad554.add ((x12_3).toNat * 6)).off + 3, none⟩ = some (.bool ((rd_T28 l2 x12_3).f3)) ∧ w'.cell? ⟨(ad554.add ((x12_3).toNat * 6)).block, (ad554.add ((x12_3).toNat * 6)).off + 4, none⟩ = some (.string ((rd_T28 l2 x12_3).f4)) ∧ w'.cell? ⟨(ad554.add ((x12_3).toNat * 6)).block, (ad554.add ((x12_3).toNat * 6)).off + 5, none⟩ = some (.slice A554_5 ((rd_T28 l2 x12_3).f5).length c554_5)) (ds := []) #[false, false, false, false, false, false, false, false, false, false] (by kernel_rfl) rfl rfl ⟨hx553_0, hx553_1, hx553_2, hx553_3, hx553_4, hx553_5, (hc_ HB.out hw554_0), (hc_ HB.out hw554_1), (hc_ HB.out hw554_2), (hc_ HB.out hw554_3), (hc_ HB.out hw554_4), (hc_ HB.out hw554_5)⟩ (fun hHeld => ?_); refine with_tabW espalierlaw14_ValueCalls.tab14 espalierlaw14_ValueCalls.bits14 (fun HT_ HW_ => ?_)
                  generalize wr.drew = w54 at HO_7 HO_541005 BK511 BK540 HB HL553_5 HR553_5 HR554_5 hx553_0 hx553_1 hx553_2 hx553_3 hx553_4 hx553_5 hx554_0 hx554_1 hx554_2 hx554_3 hx554_4 hx554_5 hHeld ⊢
                  refine pu_ 0 (some 64) #[true, false, false, false, false, false, false, false, false, false] (any_of HT_.out (by kernel_rfl)) ?_
                  refine pu_ 1 (some 65) #[true, true, false, false, false, false, false, false, false, false] (any_of HT_.out (by kernel_rfl)) ?_
                  refine pu_ 2 (some 66) #[true, true, true, false, false, false, false, false, false, false] (any_of HT_.out (by kernel_rfl)) ?_
                  refine pu_ 4 (some 68) #[true, true, true, false, true, false, false, false, false, false] (any_of HT_.out (by kernel_rfl)) ?_
                  refine pu_ 5 (some 69) #[true, true, true, false, true, true, false, false, false, false] (any_of HT_.out (by kernel_rfl)) ?_
                  refine pu_ 6 (some 70) #[true, true, true, false, true, true, true, false, false, false] (any_of HT_.out (by kernel_rfl)) ?_
                  refine take_ (i := 3) (N := some 67) (v := ?_) (a' := ?_) #[true, true, true, true, true, true, true, false, false, false] rfl rfl (take_ofW HT_.out HW_.out (by kernel_rfl)) (fun _ _ _ h => h) (Or.inl ⟨by rfl, ?_⟩) hHeld ?_ ?_
                  rotate_left
                  ·rintro w' ⟨s0, s1, s2, s3, s4, s5, s6, s7, s8, s9, s10, s11⟩
                   go_simp
                   with_reducible rfl
                  rotate_left
                  ·simp only [Act.put, List.setIfInBounds_toArray, List.set_cons_zero, List.set_cons_succ, i64_w, i32_w]
                   rfl
                  refine take_ (i := 7) (N := some 71) (v := ?_) (a' := ?_) #[true, true, true, true, true, true, true, true, false, false] rfl rfl (take_ofW HT_.out HW_.out (by kernel_rfl)) (fun _ _ _ h => h) (Or.inl ⟨by rfl, ?_⟩) hHeld ?_ ?_
                  rotate_left
                  ·rintro w' ⟨s0, s1, s2, s3, s4, s5, s6, s7, s8, s9, s10, s11⟩
                   go_simp
                   with_reducible rfl
                  rotate_left
                  ·simp only [Act.put, List.setIfInBounds_toArray, List.set_cons_zero, List.set_cons_succ, i64_w, i32_w]
                   rfl
                  refine one_ (i := 8) (N := some 72) #[true, true, true, true, true, true, true, true, true, false] rfl rfl (one_of HT_.out (by kernel_rfl)) (by decide) (fun K hK => ?_)
                  refine goes_ Tryz.func7 (by kernel_rfl) rfl #[.agg #[.int .i64 ((rd_T28 y524 x12_3).f0), .bool ((rd_T28 y524 x12_3).f1), .int .i64 ((rd_T28 y524 x12_3).f2), .bool ((rd_T28 y524 x12_3).f3), .string ((rd_T28 y524 x12_3).f4), .slice A553_5 ((rd_T28 y524 x12_3).f5).length c553_5], .agg #[.int .i64 ((rd_T28 l2 x12_3).f0), .bool ((rd_T28 l2 x12_3).f1), .int .i64 ((rd_T28 l2 x12_3).f2), .bool ((rd_T28 l2 x12_3).f3), .string ((rd_T28 l2 x12_3).f4), .slice A554_5 ((rd_T28 l2 x12_3).f5).length c554_5]] (by rfl) rfl rfl rf_ ?_
                  with_reducible refine (espalierref14_Same.calls k3 ((rd_T28 y524 x12_3).f0) ((rd_T28 y524 x12_3).f1) ((rd_T28 y524 x12_3).f2) ((rd_T28 y524 x12_3).f3) ((rd_T28 y524 x12_3).f4) _ _ ((rd_T28 y524 x12_3).f5) ((rd_T28 l2 x12_3).f0) ((rd_T28 l2 x12_3).f1) ((rd_T28 l2 x12_3).f2) ((rd_T28 l2 x12_3).f3) ((rd_T28 l2 x12_3).f4) _ _ ((rd_T28 l2 x12_3).f5) true _ ?side1 ?side2 ?side3 ?side4 A45.out).mono ?_
                  (case side1 => repeat (first | exact (by repeat (first | (with_reducible exact HR553_5.out) | (with_reducible refine Kd.C_alloc ?_ _) | (with_reducible refine Kd.C_drewN ?_ _) | (with_reducible refine Kd.C_drew ?_) | exact HR553_5.out)) | (with_reducible refine Kd.C_alloc ?_ _) | (with_reducible refine Kd.C_drewN ?_ _) | (with_reducible refine Kd.C_drew ?_)))
                  (case side2 => exact HC553_5.out)
                  (case side3 => exact sc_ (Kd.C_below HR554_5.out HB.out))
                  (case side4 => exact HC554_5.out)
                  rintro e w55 ⟨rfl, hb⟩
                  have HS0_ := (hb.cell (World.block_lt_of_cell? _ _ (hHeld.1))).trans (hHeld.1)
                  have HS1_ := (hb.cell (World.block_lt_of_cell? _ _ (hHeld.2.1))).trans (hHeld.2.1)
                  have HS2_ := (hb.cell (World.block_lt_of_cell? _ _ (hHeld.2.2.1))).trans (hHeld.2.2.1)
                  have HS3_ := (hb.cell (World.block_lt_of_cell? _ _ (hHeld.2.2.2.1))).trans (hHeld.2.2.2.1)
                  have HS4_ := (hb.cell (World.block_lt_of_cell? _ _ (hHeld.2.2.2.2.1))).trans (hHeld.2.2.2.2.1)
                  have HS5_ := (hb.cell (World.block_lt_of_cell? _ _ (hHeld.2.2.2.2.2.1))).trans (hHeld.2.2.2.2.2.1)
                  refine ⟨_, rfl, ?_⟩
                  have n0_ := Aside0.mk (Kd.S_below (sa_ HO_7.out) hb)
                  have n1_ := Aside0.mk (Kd.R_below (ra_ HO_541005.out) hb)
                  have n2_ := Aside0.mk (Kd.R_below (by (with_reducible repeat (first | apply Kd.R_alloc | apply Kd.R_drewN | apply Kd.R_drew)); exact HL553_5.out) hb)
                  have n3_ := Aside0.mk (blk_below (g := gb511) (o := .cells #[.int .i64 a1_0, .int .i64 a1_1, .string a1_2, .string a1_3, .slice A1_4 l1_4.length c1_4] 24 (0, 0)) (bk_ BK511.out) hb)
                  have n4_ := Aside0.mk (blk_below (g := gb540) (o := .cells #[.int .i64 t531, .bool t532, .int .i64 t533, .bool t534, .string t535, .slice Ao30 t536.length co30] 28 (0, 0)) (bk_ BK540.out) hb)
                  have n5_ := Aside0.mk (Kd.C_below (by repeat (first | (with_reducible exact HR553_5.out) | (with_reducible refine Kd.C_alloc ?_ _) | (with_reducible refine Kd.C_drewN ?_ _) | (with_reducible refine Kd.C_drew ?_) | exact HR553_5.out)) hb)
                  have n6_ := Aside0.mk (below_step (hb2_ GE511.out GE540.out) hb)
                  clear HO_7
                  clear HO_541005
                  clear HL553_5
                  clear BK511
                  clear BK540
                  clear HR553_5
                  clear HB
                  have HO_7 := n0_
                  have HO_541005 := n1_
                  have HL553_5 := n2_
                  have BK511 := n3_
                  have BK540 := n4_
                  have HR553_5 := n5_
                  have HB := n6_
                  clear n0_ n1_ n2_ n3_ n4_ n5_ n6_
                  (try clear hb)
                  (try clear hb2)
                  (try clear hk)
                  (try clear hi)
                  refine hK.out _ _ ⟨HS0_, HS1_, HS2_, HS3_, HS4_, HS5_, (hc_ HB.out hw554_0), (hc_ HB.out hw554_1), (hc_ HB.out hw554_2), (hc_ HB.out hw554_3), (hc_ HB.out hw554_4), (hc_ HB.out hw554_5)⟩ (fun hHeld => ?_)
                  clear hK K
                  refine norm_ (a' := ?_) ?_ ?_
                  rotate_left
                  ·show Act.put _ (some 72) _ = _
                   simp only [Act.put, List.setIfInBounds_toArray, List.set_cons_zero, List.set_cons_succ, i64_w, i32_w]
                   rfl
                  refine pu_ 9 (some 73) #[true, true, true, true, true, true, true, true, true, true] (any_of HT_.out (by kernel_rfl)) ?_
                  refine done_ (done_of HT_.out (by kernel_rfl)) ?_
                  have p556 : 0 ≤ (x12_3 : Int) := of_decide_eq_true (by first | (with_reducible assumption) | assumption)
                  have q556 : x12_3 < (l2.length : Int) := of_decide_eq_true (by first | (with_reducible assumption) | assumption)
                  obtain ⟨ad556, A556_5, c556_5, e556, hx556_0, hx556_1, hx556_2, hx556_3, hx556_4, hx556_5, hl556_5, hi556_5⟩ := at_T28 HR2.out x12_3 p556 q556
                  obtain rfl : ad554 = ad556 := (by injection e556)
                  obtain ⟨rfl, rfl⟩ : A556_5 = A554_5 ∧ c556_5 = c554_5 := by have e_ := Option.some.inj (hx556_5.symm.trans hw554_5); injection e_ with e1 e2 e3; exact ⟨e1, e3⟩
                  replace hx556_0 := hc_ HB.out hx556_0
                  replace hx556_1 := hc_ HB.out hx556_1
                  replace hx556_2 := hc_ HB.out hx556_2
                  replace hx556_3 := hc_ HB.out hx556_3
                  replace hx556_4 := hc_ HB.out hx556_4
                  replace hx556_5 := hc_ HB.out hx556_5
                  have HR556_5 := Aside0.mk hi556_5
                  have HC556_5 := Aside0.mk hl556_5
                  clear hi556_5 hl556_5
                  replace p556 := eq_true p556
                  replace q556 := eq_true q556
                  try go_wp2_with (first | ((with_reducible refine gate_callee (f := 8) rfl ?_); refine goesL_ (some 78) rfl rfl Tryz.func8 (by kernel_rfl) rfl #[.agg #[.int .i64 ((rd_T28 l2 x12_3).f0), .bool ((rd_T28 l2 x12_3).f1), .int .i64 ((rd_T28 l2 x12_3).f2), .bool ((rd_T28 l2 x12_3).f3), .string ((rd_T28 l2 x12_3).f4), .slice A556_5 ((rd_T28 l2 x12_3).f5).length c556_5]] rfl rf_ ?_; (with_reducible refine (espalierref14_Can.calls k3 ((rd_T28 l2 x12_3).f0) ((rd_T28 l2 x12_3).f1) ((rd_T28 l2 x12_3).f2) ((rd_T28 l2 x12_3).f3) ((rd_T28 l2 x12_3).f4) _ _ ((rd_T28 l2 x12_3).f5) false _ ?side1 ?side2 A47.out).mono ?_); (case side1 => exact sc_ (Kd.C_below HR556_5.out HB.out)); (case side2 => exact HC556_5.out); rintro e w56 ⟨rfl, hb⟩; refine ⟨_, rfl, ?_⟩; have n0_ := Aside0.mk (Kd.S_below (sa_ HO_7.out) hb); have n1_ := Aside0.mk (Kd.R_below (ra_ HO_541005.out) hb); have n2_ := Aside0.mk (Kd.R_below (by (with_reducible repeat (first | apply Kd.R_alloc | apply Kd.R_drewN | apply Kd.R_drew)); exact HL553_5.out) hb); have n3_ := Aside0.mk (blk_below (g := gb511) (o := .cells #[.int .i64 a1_0, .int .i64 a1_1, .string a1_2, .string a1_3, .slice A1_4 l1_4.length c1_4] 24 (0, 0)) (bk_ BK511.out) hb); have n4_ := Aside0.mk (blk_below (g := gb540) (o := .cells #[.int .i64 t531, .bool t532, .int .i64 t533, .bool t534, .string t535, .slice Ao30 t536.length co30] 28 (0, 0)) (bk_ BK540.out) hb); have n5_ := Aside0.mk (Kd.C_below (by repeat (first | (with_reducible exact HR553_5.out) | (with_reducible refine Kd.C_alloc ?_ _) | (with_reducible refine Kd.C_drewN ?_ _) | (with_reducible refine Kd.C_drew ?_) | exact HR553_5.out)) hb); have n6_ := Aside0.mk (below_step (hb2_ GE511.out GE540.out) hb); clear HO_7; clear HO_541005; clear HL553_5; clear BK511; clear BK540; clear HR553_5; clear HB; have HO_7 := n0_; have HO_541005 := n1_; have HL553_5 := n2_; have BK511 := n3_; have BK540 := n4_; have HR553_5 := n5_; have HB := n6_; clear n0_ n1_ n2_ n3_ n4_ n5_ n6_; (try clear hb); (try clear hb2); (try clear hk); (try clear hi); have hnb57 := NB540_511.out; have hnc57 := NB511_540.out; obtain ⟨hcz58_0, hcz58_1, hcz58_2, hcz58_3, hcz58_4, hcz58_5⟩ := ce6_ BK540.out; obtain ⟨hfz58_0, hfz58_1, hfz58_2, hfz58_3, hfz58_4, hfz58_5⟩ := fr6_ BK540.out) | ((with_reducible refine gate_callee (f := 7) rfl ?_); refine goesL_ (some 82) rfl rfl Tryz.func7 (by kernel_rfl) rfl #[.agg #[.int .i64 t531, .bool t532, .int .i64 t533, .bool t534, .string t535, .slice Ao30 t536.length co30], .agg #[.int .i64 0, .bool false, .int .i64 0, .bool false, .string (⟨#[]⟩ : ByteArray), .slice none 0 0]] rfl rf_ ?_; (refine (espalierref14_Same.calls k3 t531 t532 t533 t534 t535 _ _ t536 0 false 0 false (⟨#[]⟩ : ByteArray) _ _ ([] : List ByteArray) true _ ?side1 ?side2 ?side3 ?side4 A52.out).mono ?_); (case side1 => repeat (first | exact (Kd.R_reads' HO_541005.out).2.2 | (with_reducible refine Kd.C_alloc ?_ _) | (with_reducible refine Kd.C_drewN ?_ _) | (with_reducible refine Kd.C_drew ?_))); (case side2 => exact (Kd.R_reads' HO_541005.out).2.1); (case side3 => exact Kd.C_nil _ _); (case side4 => exact Nat.le_refl _); rintro e w59 ⟨rfl, hb⟩; refine ⟨_, rfl, ?_⟩; have n0_ := Aside0.mk (Kd.S_below (sa_ HO_7.out) hb); have n1_ := Aside0.mk (Kd.R_below (ra_ HO_541005.out) hb); have n2_ := Aside0.mk (Kd.R_below (by (with_reducible repeat (first | apply Kd.R_alloc | apply Kd.R_drewN | apply Kd.R_drew)); exact HL553_5.out) hb); have n3_ := Aside0.mk (blk_below (g := gb511) (o := .cells #[.int .i64 a1_0, .int .i64 a1_1, .string a1_2, .string a1_3, .slice A1_4 l1_4.length c1_4] 24 (0, 0)) (bk_ BK511.out) hb); have n4_ := Aside0.mk (blk_below (g := gb540) (o := .cells #[.int .i64 t531, .bool t532, .int .i64 t533, .bool t534, .string t535, .slice Ao30 t536.length co30] 28 (0, 0)) (bk_ BK540.out) hb); have n5_ := Aside0.mk (Kd.C_below (by repeat (first | (with_reducible exact HR553_5.out) | (with_reducible refine Kd.C_alloc ?_ _) | (with_reducible refine Kd.C_drewN ?_ _) | (with_reducible refine Kd.C_drew ?_) | exact HR553_5.out)) hb); have n6_ := Aside0.mk (below_step (hb2_ GE511.out GE540.out) hb); clear HO_7; clear HO_541005; clear HL553_5; clear BK511; clear BK540; clear HR553_5; clear HB; have HO_7 := n0_; have HO_541005 := n1_; have HL553_5 := n2_; have BK511 := n3_; have BK540 := n4_; have HR553_5 := n5_; have HB := n6_; clear n0_ n1_ n2_ n3_ n4_ n5_ n6_; (try clear hb); (try clear hb2); (try clear hk); (try clear hi)))
                  go_ret
                  exact ⟨er_, hb2_ GE511.out GE540.out⟩
                 ·replace c53 := Bool.eq_false_iff.mpr c53
                  subst c53
                  rw [if_neg (show ¬ (false = true) by decide)] at H
                  obtain rfl := Option.some.inj H
                  try go_wp2
                  replace HO_7 := Aside0.mk (Kd.S_drew HO_7.out)
                  replace HO_541005 := Aside0.mk (Kd.R_drew HO_541005.out)
                  replace BK511 := Aside0.mk (blk_drew BK511.out)
                  replace BK540 := Aside0.mk (blk_drew BK540.out)
                  replace HB := Aside0.mk (below_drew1 HB.out)
                  have p553 : 0 ≤ (x12_3 : Int) := of_decide_eq_true (by first | (with_reducible assumption) | assumption)
                  have q553 : x12_3 < (y524.length : Int) := of_decide_eq_true (by first | (with_reducible assumption) | assumption)
                  obtain ⟨ad553, A553_5, c553_5, e553, hx553_0, hx553_1, hx553_2, hx553_3, hx553_4, hx553_5, hl553_5, hi553_5⟩ := at_T28 (Kd.S_reads' HO_7.out).2.2 x12_3 p553 q553
                  cases e553
                  obtain ⟨ce553, hce553, hMe553, hcc553⟩ := Kd.S_get HO_7.out z28 x12_3 p553 (by first | exact q553 | exact of_decide_eq_true (by first | (with_reducible assumption) | assumption) | (have e_ := (Kd.S_reads' HO_7.out).1; omega))
                  obtain ⟨ve553_5, rfl, ge553_5⟩ := k28_openM hMe553
                  have hv553_5 := hcc553 5 _ rfl
                  rw [add_field _ _ 5 (by omega)] at hv553_5
                  replace hv553_5 := Option.some.inj (hv553_5.symm.trans hx553_5)
                  rw [hv553_5] at ge553_5
                  have HL553_5 := Aside0.mk (show Kd.R Kd.string 9 _ _ _ _ ((rd_T28 y524 x12_3).f5) from ge553_5)
                  clear hv553_5 ge553_5
                  clear hcc553 hce553
                  have HR553_5 := Aside0.mk hi553_5
                  have HC553_5 := Aside0.mk hl553_5
                  clear hi553_5 hl553_5
                  replace p553 := eq_true p553
                  replace q553 := eq_true q553
                  have p554 : 0 ≤ (x12_3 : Int) := of_decide_eq_true (by first | (with_reducible assumption) | assumption)
                  have q554 : x12_3 < (l2.length : Int) := of_decide_eq_true (by first | (with_reducible assumption) | assumption)
                  obtain ⟨ad554, A554_5, c554_5, e554, hx554_0, hx554_1, hx554_2, hx554_3, hx554_4, hx554_5, hl554_5, hi554_5⟩ := at_T28 HR2.out x12_3 p554 q554
                  have hw554_5 := hx554_5
                  have hw554_4 := hx554_4
                  have hw554_3 := hx554_3
                  have hw554_2 := hx554_2
                  have hw554_1 := hx554_1
                  have hw554_0 := hx554_0
                  cases e554
                  replace hx554_0 := hc_ HB.out hx554_0
                  replace hx554_1 := hc_ HB.out hx554_1
                  replace hx554_2 := hc_ HB.out hx554_2
                  replace hx554_3 := hc_ HB.out hx554_3
                  replace hx554_4 := hc_ HB.out hx554_4
                  replace hx554_5 := hc_ HB.out hx554_5
                  have HR554_5 := Aside0.mk hi554_5
                  have HC554_5 := Aside0.mk hl554_5
                  clear hi554_5 hl554_5
                  replace p554 := eq_true p554
                  replace q554 := eq_true q554
                  refine start_ (n := 10) (S := fun w' => w'.cell? (ad553.add ((x12_3).toNat * 6)) = some (.int .i64 ((rd_T28 y524 x12_3).f0)) ∧ w'.cell? ⟨(ad553.add ((x12_3).toNat * 6)).block, (ad553.add ((x12_3).toNat * 6)).off + 1, none⟩ = some (.bool ((rd_T28 y524 x12_3).f1)) ∧ w'.cell? ⟨(ad553.add ((x12_3).toNat * 6)).block, (ad553.add ((x12_3).toNat * 6)).off + 2, none⟩ = some (.int .i64 ((rd_T28 y524 x12_3).f2)) ∧ w'.cell? ⟨(ad553.add ((x12_3).toNat * 6)).block, (ad553.add ((x12_3).toNat * 6)).off + 3, none⟩ = some (.bool ((rd_T28 y524 x12_3).f3)) ∧ w'.cell? ⟨(ad553.add ((x12_3).toNat * 6)).block, (ad553.add ((x12_3).toNat * 6)).off + 4, none⟩ = some (.string ((rd_T28 y524 x12_3).f4)) ∧ w'.cell? ⟨(ad553.add ((x12_3).toNat * 6)).block, (ad553.add ((x12_3).toNat * 6)).off + 5, none⟩ = some (.slice A553_5 ((rd_T28 y524 x12_3).f5).length c553_5) ∧ w'.cell? (ad554.add ((x12_3).toNat * 6)) = some (.int .i64 ((rd_T28 l2 x12_3).f0)) ∧ w'.cell? ⟨(ad554.add ((x12_3).toNat * 6)).block, (ad554.add ((x12_3).toNat * 6)).off + 1, none⟩ = some (.bool ((rd_T28 l2 x12_3).f1)) ∧ w'.cell? ⟨(ad554.add ((x12_3).toNat * 6)).block, (ad554.add ((x12_3).toNat * 6)).off + 2, none⟩ = some (.int .i64 ((rd_T28 l2 x12_3).f2)) ∧ w'.cell? ⟨(ad554.add ((x12_3).toNat * 6)).block, (ad554.add ((x12_3).toNat * 6)).off + 3, none⟩ = some (.bool ((rd_T28 l2 x12_3).f3)) ∧ w'.cell? ⟨(ad554.add ((x12_3).toNat * 6)).block, (ad554.add ((x12_3).toNat * 6)).off + 4, none⟩ = some (.string ((rd_T28 l2 x12_3).f4)) ∧ w'.cell? ⟨(ad554.add ((x12_3).toNat * 6)).block, (ad554.add ((x12_3).toNat * 6)).off + 5, none⟩ = some (.slice A554_5 ((rd_T28 l2 x12_3).f5).length c554_5)) (ds := []) #[false, false, false, false, false, false, false, false, false, false] (by kernel_rfl) rfl rfl ⟨hx553_0, hx553_1, hx553_2, hx553_3, hx553_4, hx553_5, (hc_ HB.out hw554_0), (hc_ HB.out hw554_1), (hc_ HB.out hw554_2), (hc_ HB.out hw554_3), (hc_ HB.out hw554_4), (hc_ HB.out hw554_5)⟩ (fun hHeld => ?_); refine with_tabW espalierlaw14_ValueCalls.tab14 espalierlaw14_ValueCalls.bits14 (fun HT_ HW_ => ?_)
                  generalize wr.drew = w60 at HO_7 HO_541005 BK511 BK540 HB HL553_5 HR553_5 HR554_5 hx553_0 hx553_1 hx553_2 hx553_3 hx553_4 hx553_5 hx554_0 hx554_1 hx554_2 hx554_3 hx554_4 hx554_5 hHeld ⊢
                  refine pu_ 0 (some 64) #[true, false, false, false, false, false, false, false, false, false] (any_of HT_.out (by kernel_rfl)) ?_
                  refine pu_ 1 (some 65) #[true, true, false, false, false, false, false, false, false, false] (any_of HT_.out (by kernel_rfl)) ?_
                  refine pu_ 2 (some 66) #[true, true, true, false, false, false, false, false, false, false] (any_of HT_.out (by kernel_rfl)) ?_
                  refine pu_ 4 (some 68) #[true, true, true, false, true, false, false, false, false, false] (any_of HT_.out (by kernel_rfl)) ?_
                  refine pu_ 5 (some 69) #[true, true, true, false, true, true, false, false, false, false] (any_of HT_.out (by kernel_rfl)) ?_
                  refine pu_ 6 (some 70) #[true, true, true, false, true, true, true, false, false, false] (any_of HT_.out (by kernel_rfl)) ?_
                  refine take_ (i := 3) (N := some 67) (v := ?_) (a' := ?_) #[true, true, true, true, true, true, true, false, false, false] rfl rfl (take_ofW HT_.out HW_.out (by kernel_rfl)) (fun _ _ _ h => h) (Or.inl ⟨by rfl, ?_⟩) hHeld ?_ ?_
                  rotate_left
                  ·rintro w' ⟨s0, s1, s2, s3, s4, s5, s6, s7, s8, s9, s10, s11⟩
                   go_simp
                   with_reducible rfl
                  rotate_left
                  ·simp only [Act.put, List.setIfInBounds_toArray, List.set_cons_zero, List.set_cons_succ, i64_w, i32_w]
                   rfl
                  refine take_ (i := 7) (N := some 71) (v := ?_) (a' := ?_) #[true, true, true, true, true, true, true, true, false, false] rfl rfl (take_ofW HT_.out HW_.out (by kernel_rfl)) (fun _ _ _ h => h) (Or.inl ⟨by rfl, ?_⟩) hHeld ?_ ?_
                  rotate_left
                  ·rintro w' ⟨s0, s1, s2, s3, s4, s5, s6, s7, s8, s9, s10, s11⟩
                   go_simp
                   with_reducible rfl
                  rotate_left
                  ·simp only [Act.put, List.setIfInBounds_toArray, List.set_cons_zero, List.set_cons_succ, i64_w, i32_w]
                   rfl
                  refine one_ (i := 8) (N := some 72) #[true, true, true, true, true, true, true, true, true, false] rfl rfl (one_of HT_.out (by kernel_rfl)) (by decide) (fun K hK => ?_)
                  refine goes_ Tryz.func7 (by kernel_rfl) rfl #[.agg #[.int .i64 ((rd_T28 y524 x12_3).f0), .bool ((rd_T28 y524 x12_3).f1), .int .i64 ((rd_T28 y524 x12_3).f2), .bool ((rd_T28 y524 x12_3).f3), .string ((rd_T28 y524 x12_3).f4), .slice A553_5 ((rd_T28 y524 x12_3).f5).length c553_5], .agg #[.int .i64 ((rd_T28 l2 x12_3).f0), .bool ((rd_T28 l2 x12_3).f1), .int .i64 ((rd_T28 l2 x12_3).f2), .bool ((rd_T28 l2 x12_3).f3), .string ((rd_T28 l2 x12_3).f4), .slice A554_5 ((rd_T28 l2 x12_3).f5).length c554_5]] (by rfl) rfl rfl rf_ ?_
                  with_reducible refine (espalierref14_Same.calls k3 ((rd_T28 y524 x12_3).f0) ((rd_T28 y524 x12_3).f1) ((rd_T28 y524 x12_3).f2) ((rd_T28 y524 x12_3).f3) ((rd_T28 y524 x12_3).f4) _ _ ((rd_T28 y524 x12_3).f5) ((rd_T28 l2 x12_3).f0) ((rd_T28 l2 x12_3).f1) ((rd_T28 l2 x12_3).f2) ((rd_T28 l2 x12_3).f3) ((rd_T28 l2 x12_3).f4) _ _ ((rd_T28 l2 x12_3).f5) true _ ?side1 ?side2 ?side3 ?side4 A45.out).mono ?_
                  (case side1 => repeat (first | exact (by repeat (first | (with_reducible exact HR553_5.out) | (with_reducible refine Kd.C_alloc ?_ _) | (with_reducible refine Kd.C_drewN ?_ _) | (with_reducible refine Kd.C_drew ?_) | exact HR553_5.out)) | (with_reducible refine Kd.C_alloc ?_ _) | (with_reducible refine Kd.C_drewN ?_ _) | (with_reducible refine Kd.C_drew ?_)))
                  (case side2 => exact HC553_5.out)
                  (case side3 => exact sc_ (Kd.C_below HR554_5.out HB.out))
                  (case side4 => exact HC554_5.out)
                  rintro e w61 ⟨rfl, hb⟩
                  have HS0_ := (hb.cell (World.block_lt_of_cell? _ _ (hHeld.1))).trans (hHeld.1)
                  have HS1_ := (hb.cell (World.block_lt_of_cell? _ _ (hHeld.2.1))).trans (hHeld.2.1)
                  have HS2_ := (hb.cell (World.block_lt_of_cell? _ _ (hHeld.2.2.1))).trans (hHeld.2.2.1)
                  have HS3_ := (hb.cell (World.block_lt_of_cell? _ _ (hHeld.2.2.2.1))).trans (hHeld.2.2.2.1)
                  have HS4_ := (hb.cell (World.block_lt_of_cell? _ _ (hHeld.2.2.2.2.1))).trans (hHeld.2.2.2.2.1)
                  have HS5_ := (hb.cell (World.block_lt_of_cell? _ _ (hHeld.2.2.2.2.2.1))).trans (hHeld.2.2.2.2.2.1)
                  refine ⟨_, rfl, ?_⟩
                  have n0_ := Aside0.mk (Kd.S_below (sa_ HO_7.out) hb)
                  have n1_ := Aside0.mk (Kd.R_below (ra_ HO_541005.out) hb)
                  have n2_ := Aside0.mk (Kd.R_below (by (with_reducible repeat (first | apply Kd.R_alloc | apply Kd.R_drewN | apply Kd.R_drew)); exact HL553_5.out) hb)
                  have n3_ := Aside0.mk (blk_below (g := gb511) (o := .cells #[.int .i64 a1_0, .int .i64 a1_1, .string a1_2, .string a1_3, .slice A1_4 l1_4.length c1_4] 24 (0, 0)) (bk_ BK511.out) hb)
                  have n4_ := Aside0.mk (blk_below (g := gb540) (o := .cells #[.int .i64 t531, .bool t532, .int .i64 t533, .bool t534, .string t535, .slice Ao30 t536.length co30] 28 (0, 0)) (bk_ BK540.out) hb)
                  have n5_ := Aside0.mk (Kd.C_below (by repeat (first | (with_reducible exact HR553_5.out) | (with_reducible refine Kd.C_alloc ?_ _) | (with_reducible refine Kd.C_drewN ?_ _) | (with_reducible refine Kd.C_drew ?_) | exact HR553_5.out)) hb)
                  have n6_ := Aside0.mk (below_step (hb2_ GE511.out GE540.out) hb)
                  clear HO_7
                  clear HO_541005
                  clear HL553_5
                  clear BK511
                  clear BK540
                  clear HR553_5
                  clear HB
                  have HO_7 := n0_
                  have HO_541005 := n1_
                  have HL553_5 := n2_
                  have BK511 := n3_
                  have BK540 := n4_
                  have HR553_5 := n5_
                  have HB := n6_
                  clear n0_ n1_ n2_ n3_ n4_ n5_ n6_
                  (try clear hb)
                  (try clear hb2)
                  (try clear hk)
                  (try clear hi)
                  refine hK.out _ _ ⟨HS0_, HS1_, HS2_, HS3_, HS4_, HS5_, (hc_ HB.out hw554_0), (hc_ HB.out hw554_1), (hc_ HB.out hw554_2), (hc_ HB.out hw554_3), (hc_ HB.out hw554_4), (hc_ HB.out hw554_5)⟩ (fun hHeld => ?_)
                  clear hK K
                  refine norm_ (a' := ?_) ?_ ?_
                  rotate_left
                  ·show Act.put _ (some 72) _ = _
                   simp only [Act.put, List.setIfInBounds_toArray, List.set_cons_zero, List.set_cons_succ, i64_w, i32_w]
                   rfl
                  refine pu_ 9 (some 73) #[true, true, true, true, true, true, true, true, true, true] (any_of HT_.out (by kernel_rfl)) ?_
                  refine done_ (done_of HT_.out (by kernel_rfl)) ?_
                  have p556 : 0 ≤ (x12_3 : Int) := of_decide_eq_true (by first | (with_reducible assumption) | assumption)
                  have q556 : x12_3 < (l2.length : Int) := of_decide_eq_true (by first | (with_reducible assumption) | assumption)
                  obtain ⟨ad556, A556_5, c556_5, e556, hx556_0, hx556_1, hx556_2, hx556_3, hx556_4, hx556_5, hl556_5, hi556_5⟩ := at_T28 HR2.out x12_3 p556 q556
                  obtain rfl : ad554 = ad556 := (by injection e556)
                  obtain ⟨rfl, rfl⟩ : A556_5 = A554_5 ∧ c556_5 = c554_5 := by have e_ := Option.some.inj (hx556_5.symm.trans hw554_5); injection e_ with e1 e2 e3; exact ⟨e1, e3⟩
                  replace hx556_0 := hc_ HB.out hx556_0
                  replace hx556_1 := hc_ HB.out hx556_1
                  replace hx556_2 := hc_ HB.out hx556_2
                  replace hx556_3 := hc_ HB.out hx556_3
                  replace hx556_4 := hc_ HB.out hx556_4
                  replace hx556_5 := hc_ HB.out hx556_5
                  have HR556_5 := Aside0.mk hi556_5
                  have HC556_5 := Aside0.mk hl556_5
                  clear hi556_5 hl556_5
                  replace p556 := eq_true p556
                  replace q556 := eq_true q556
                  try go_wp2_with (first | ((with_reducible refine gate_callee (f := 8) rfl ?_); refine goesL_ (some 78) rfl rfl Tryz.func8 (by kernel_rfl) rfl #[.agg #[.int .i64 ((rd_T28 l2 x12_3).f0), .bool ((rd_T28 l2 x12_3).f1), .int .i64 ((rd_T28 l2 x12_3).f2), .bool ((rd_T28 l2 x12_3).f3), .string ((rd_T28 l2 x12_3).f4), .slice A556_5 ((rd_T28 l2 x12_3).f5).length c556_5]] rfl rf_ ?_; (with_reducible refine (espalierref14_Can.calls k3 ((rd_T28 l2 x12_3).f0) ((rd_T28 l2 x12_3).f1) ((rd_T28 l2 x12_3).f2) ((rd_T28 l2 x12_3).f3) ((rd_T28 l2 x12_3).f4) _ _ ((rd_T28 l2 x12_3).f5) false _ ?side1 ?side2 A47.out).mono ?_); (case side1 => exact sc_ (Kd.C_below HR556_5.out HB.out)); (case side2 => exact HC556_5.out); rintro e w62 ⟨rfl, hb⟩; refine ⟨_, rfl, ?_⟩; have n0_ := Aside0.mk (Kd.S_below (sa_ HO_7.out) hb); have n1_ := Aside0.mk (Kd.R_below (ra_ HO_541005.out) hb); have n2_ := Aside0.mk (Kd.R_below (by (with_reducible repeat (first | apply Kd.R_alloc | apply Kd.R_drewN | apply Kd.R_drew)); exact HL553_5.out) hb); have n3_ := Aside0.mk (blk_below (g := gb511) (o := .cells #[.int .i64 a1_0, .int .i64 a1_1, .string a1_2, .string a1_3, .slice A1_4 l1_4.length c1_4] 24 (0, 0)) (bk_ BK511.out) hb); have n4_ := Aside0.mk (blk_below (g := gb540) (o := .cells #[.int .i64 t531, .bool t532, .int .i64 t533, .bool t534, .string t535, .slice Ao30 t536.length co30] 28 (0, 0)) (bk_ BK540.out) hb); have n5_ := Aside0.mk (Kd.C_below (by repeat (first | (with_reducible exact HR553_5.out) | (with_reducible refine Kd.C_alloc ?_ _) | (with_reducible refine Kd.C_drewN ?_ _) | (with_reducible refine Kd.C_drew ?_) | exact HR553_5.out)) hb); have n6_ := Aside0.mk (below_step (hb2_ GE511.out GE540.out) hb); clear HO_7; clear HO_541005; clear HL553_5; clear BK511; clear BK540; clear HR553_5; clear HB; have HO_7 := n0_; have HO_541005 := n1_; have HL553_5 := n2_; have BK511 := n3_; have BK540 := n4_; have HR553_5 := n5_; have HB := n6_; clear n0_ n1_ n2_ n3_ n4_ n5_ n6_; (try clear hb); (try clear hb2); (try clear hk); (try clear hi); have hnb63 := NB540_511.out; have hnc63 := NB511_540.out; obtain ⟨hcz64_0, hcz64_1, hcz64_2, hcz64_3, hcz64_4, hcz64_5⟩ := ce6_ BK540.out; obtain ⟨hfz64_0, hfz64_1, hfz64_2, hfz64_3, hfz64_4, hfz64_5⟩ := fr6_ BK540.out) | ((with_reducible refine gate_callee (f := 7) rfl ?_); refine goesL_ (some 82) rfl rfl Tryz.func7 (by kernel_rfl) rfl #[.agg #[.int .i64 t531, .bool t532, .int .i64 t533, .bool t534, .string t535, .slice Ao30 t536.length co30], .agg #[.int .i64 0, .bool false, .int .i64 0, .bool false, .string (⟨#[]⟩ : ByteArray), .slice none 0 0]] rfl rf_ ?_; (refine (espalierref14_Same.calls k3 t531 t532 t533 t534 t535 _ _ t536 0 false 0 false (⟨#[]⟩ : ByteArray) _ _ ([] : List ByteArray) false _ ?side1 ?side2 ?side3 ?side4 A52.out).mono ?_); (case side1 => repeat (first | exact (Kd.R_reads' HO_541005.out).2.2 | (with_reducible refine Kd.C_alloc ?_ _) | (with_reducible refine Kd.C_drewN ?_ _) | (with_reducible refine Kd.C_drew ?_))); (case side2 => exact (Kd.R_reads' HO_541005.out).2.1); (case side3 => exact Kd.C_nil _ _); (case side4 => exact Nat.le_refl _); rintro e w65 ⟨rfl, hb⟩; refine ⟨_, rfl, ?_⟩; have n0_ := Aside0.mk (Kd.S_below (sa_ HO_7.out) hb); have n1_ := Aside0.mk (Kd.R_below (ra_ HO_541005.out) hb); have n2_ := Aside0.mk (Kd.R_below (by (with_reducible repeat (first | apply Kd.R_alloc | apply Kd.R_drewN | apply Kd.R_drew)); exact HL553_5.out) hb); have n3_ := Aside0.mk (blk_below (g := gb511) (o := .cells #[.int .i64 a1_0, .int .i64 a1_1, .string a1_2, .string a1_3, .slice A1_4 l1_4.length c1_4] 24 (0, 0)) (bk_ BK511.out) hb); have n4_ := Aside0.mk (blk_below (g := gb540) (o := .cells #[.int .i64 t531, .bool t532, .int .i64 t533, .bool t534, .string t535, .slice Ao30 t536.length co30] 28 (0, 0)) (bk_ BK540.out) hb); have n5_ := Aside0.mk (Kd.C_below (by repeat (first | (with_reducible exact HR553_5.out) | (with_reducible refine Kd.C_alloc ?_ _) | (with_reducible refine Kd.C_drewN ?_ _) | (with_reducible refine Kd.C_drew ?_) | exact HR553_5.out)) hb); have n6_ := Aside0.mk (below_step (hb2_ GE511.out GE540.out) hb); clear HO_7; clear HO_541005; clear HL553_5; clear BK511; clear BK540; clear HR553_5; clear HB; have HO_7 := n0_; have HO_541005 := n1_; have HL553_5 := n2_; have BK511 := n3_; have BK540 := n4_; have HR553_5 := n5_; have HB := n6_; clear n0_ n1_ n2_ n3_ n4_ n5_ n6_; (try clear hb); (try clear hb2); (try clear hk); (try clear hi)))
                  go_ret
                  exact ⟨er_, hb2_ GE511.out GE540.out⟩
               ·replace c46 := Bool.eq_false_iff.mpr c46
                subst c46
                rw [if_neg (show ¬ (false = true) by decide)] at H
                obtain rfl := Option.some.inj H
                try go_wp2
                replace HO_7 := Aside0.mk (Kd.S_drew HO_7.out)
                replace HO_541005 := Aside0.mk (Kd.R_drew HO_541005.out)
                replace BK511 := Aside0.mk (blk_drew BK511.out)
                replace BK540 := Aside0.mk (blk_drew BK540.out)
                replace HB := Aside0.mk (below_drew1 HB.out)
                have p553 : 0 ≤ (x12_3 : Int) := of_decide_eq_true (by first | (with_reducible assumption) | assumption)
                have q553 : x12_3 < (y524.length : Int) := of_decide_eq_true (by first | (with_reducible assumption) | assumption)
                obtain ⟨ad553, A553_5, c553_5, e553, hx553_0, hx553_1, hx553_2, hx553_3, hx553_4, hx553_5, hl553_5, hi553_5⟩ := at_T28 (Kd.S_reads' HO_7.out).2.2 x12_3 p553 q553
                cases e553
                obtain ⟨ce553, hce553, hMe553, hcc553⟩ := Kd.S_get HO_7.out z28 x12_3 p553 (by first | exact q553 | exact of_decide_eq_true (by first | (with_reducible assumption) | assumption) | (have e_ := (Kd.S_reads' HO_7.out).1; omega))
                obtain ⟨ve553_5, rfl, ge553_5⟩ := k28_openM hMe553
                have hv553_5 := hcc553 5 _ rfl
                rw [add_field _ _ 5 (by omega)] at hv553_5
                replace hv553_5 := Option.some.inj (hv553_5.symm.trans hx553_5)
                rw [hv553_5] at ge553_5
                have HL553_5 := Aside0.mk (show Kd.R Kd.string 9 _ _ _ _ ((rd_T28 y524 x12_3).f5) from ge553_5)
                clear hv553_5 ge553_5
                clear hcc553 hce553
                have HR553_5 := Aside0.mk hi553_5
                have HC553_5 := Aside0.mk hl553_5
                clear hi553_5 hl553_5
                replace p553 := eq_true p553
                replace q553 := eq_true q553
                have p554 : 0 ≤ (x12_3 : Int) := of_decide_eq_true (by first | (with_reducible assumption) | assumption)
                have q554 : x12_3 < (l2.length : Int) := of_decide_eq_true (by first | (with_reducible assumption) | assumption)
                obtain ⟨ad554, A554_5, c554_5, e554, hx554_0, hx554_1, hx554_2, hx554_3, hx554_4, hx554_5, hl554_5, hi554_5⟩ := at_T28 HR2.out x12_3 p554 q554
                have hw554_5 := hx554_5
                have hw554_4 := hx554_4
                have hw554_3 := hx554_3
                have hw554_2 := hx554_2
                have hw554_1 := hx554_1
                have hw554_0 := hx554_0
                cases e554
                replace hx554_0 := hc_ HB.out hx554_0
                replace hx554_1 := hc_ HB.out hx554_1
                replace hx554_2 := hc_ HB.out hx554_2
                replace hx554_3 := hc_ HB.out hx554_3
                replace hx554_4 := hc_ HB.out hx554_4
                replace hx554_5 := hc_ HB.out hx554_5
                have HR554_5 := Aside0.mk hi554_5
                have HC554_5 := Aside0.mk hl554_5
                clear hi554_5 hl554_5
                replace p554 := eq_true p554
                replace q554 := eq_true q554
                refine start_ (n := 10) (S := fun w' => w'.cell? (ad553.add ((x12_3).toNat * 6)) = some (.int .i64 ((rd_T28 y524 x12_3).f0)) ∧ w'.cell? ⟨(ad553.add ((x12_3).toNat * 6)).block, (ad553.add ((x12_3).toNat * 6)).off + 1, none⟩ = some (.bool ((rd_T28 y524 x12_3).f1)) ∧ w'.cell? ⟨(ad553.add ((x12_3).toNat * 6)).block, (ad553.add ((x12_3).toNat * 6)).off + 2, none⟩ = some (.int .i64 ((rd_T28 y524 x12_3).f2)) ∧ w'.cell? ⟨(ad553.add ((x12_3).toNat * 6)).block, (ad553.add ((x12_3).toNat * 6)).off + 3, none⟩ = some (.bool ((rd_T28 y524 x12_3).f3)) ∧ w'.cell? ⟨(ad553.add ((x12_3).toNat * 6)).block, (ad553.add ((x12_3).toNat * 6)).off + 4, none⟩ = some (.string ((rd_T28 y524 x12_3).f4)) ∧ w'.cell? ⟨(ad553.add ((x12_3).toNat * 6)).block, (ad553.add ((x12_3).toNat * 6)).off + 5, none⟩ = some (.slice A553_5 ((rd_T28 y524 x12_3).f5).length c553_5) ∧ w'.cell? (ad554.add ((x12_3).toNat * 6)) = some (.int .i64 ((rd_T28 l2 x12_3).f0)) ∧ w'.cell? ⟨(ad554.add ((x12_3).toNat * 6)).block, (ad554.add ((x12_3).toNat * 6)).off + 1, none⟩ = some (.bool ((rd_T28 l2 x12_3).f1)) ∧ w'.cell? ⟨(ad554.add ((x12_3).toNat * 6)).block, (ad554.add ((x12_3).toNat * 6)).off + 2, none⟩ = some (.int .i64 ((rd_T28 l2 x12_3).f2)) ∧ w'.cell? ⟨(ad554.add ((x12_3).toNat * 6)).block, (ad554.add ((x12_3).toNat * 6)).off + 3, none⟩ = some (.bool ((rd_T28 l2 x12_3).f3)) ∧ w'.cell? ⟨(ad554.add ((x12_3).toNat * 6)).block, (ad554.add ((x12_3).toNat * 6)).off + 4, none⟩ = some (.string ((rd_T28 l2 x12_3).f4)) ∧ w'.cell? ⟨(ad554.add ((x12_3).toNat * 6)).block, (ad554.add ((x12_3).toNat * 6)).off + 5, none⟩ = some (.slice A554_5 ((rd_T28 l2 x12_3).f5).length c554_5)) (ds := []) #[false, false, false, false, false, false, false, false, false, false] (by kernel_rfl) rfl rfl ⟨hx553_0, hx553_1, hx553_2, hx553_3, hx553_4, hx553_5, (hc_ HB.out hw554_0), (hc_ HB.out hw554_1), (hc_ HB.out hw554_2), (hc_ HB.out hw554_3), (hc_ HB.out hw554_4), (hc_ HB.out hw554_5)⟩ (fun hHeld => ?_); refine with_tabW espalierlaw14_ValueCalls.tab14 espalierlaw14_ValueCalls.bits14 (fun HT_ HW_ => ?_)
                generalize wr.drew = w66 at HO_7 HO_541005 BK511 BK540 HB HL553_5 HR553_5 HR554_5 hx553_0 hx553_1 hx553_2 hx553_3 hx553_4 hx553_5 hx554_0 hx554_1 hx554_2 hx554_3 hx554_4 hx554_5 hHeld ⊢
                refine pu_ 0 (some 64) #[true, false, false, false, false, false, false, false, false, false] (any_of HT_.out (by kernel_rfl)) ?_
                refine pu_ 1 (some 65) #[true, true, false, false, false, false, false, false, false, false] (any_of HT_.out (by kernel_rfl)) ?_
                refine pu_ 2 (some 66) #[true, true, true, false, false, false, false, false, false, false] (any_of HT_.out (by kernel_rfl)) ?_
                refine pu_ 4 (some 68) #[true, true, true, false, true, false, false, false, false, false] (any_of HT_.out (by kernel_rfl)) ?_
                refine pu_ 5 (some 69) #[true, true, true, false, true, true, false, false, false, false] (any_of HT_.out (by kernel_rfl)) ?_
                refine pu_ 6 (some 70) #[true, true, true, false, true, true, true, false, false, false] (any_of HT_.out (by kernel_rfl)) ?_
                refine take_ (i := 3) (N := some 67) (v := ?_) (a' := ?_) #[true, true, true, true, true, true, true, false, false, false] rfl rfl (take_ofW HT_.out HW_.out (by kernel_rfl)) (fun _ _ _ h => h) (Or.inl ⟨by rfl, ?_⟩) hHeld ?_ ?_
                rotate_left
                ·rintro w' ⟨s0, s1, s2, s3, s4, s5, s6, s7, s8, s9, s10, s11⟩
                 go_simp
                 with_reducible rfl
                rotate_left
                ·simp only [Act.put, List.setIfInBounds_toArray, List.set_cons_zero, List.set_cons_succ, i64_w, i32_w]
                 rfl
                refine take_ (i := 7) (N := some 71) (v := ?_) (a' := ?_) #[true, true, true, true, true, true, true, true, false, false] rfl rfl (take_ofW HT_.out HW_.out (by kernel_rfl)) (fun _ _ _ h => h) (Or.inl ⟨by rfl, ?_⟩) hHeld ?_ ?_
                rotate_left
                ·rintro w' ⟨s0, s1, s2, s3, s4, s5, s6, s7, s8, s9, s10, s11⟩
                 go_simp
                 with_reducible rfl
                rotate_left
                ·simp only [Act.put, List.setIfInBounds_toArray, List.set_cons_zero, List.set_cons_succ, i64_w, i32_w]
                 rfl
                refine one_ (i := 8) (N := some 72) #[true, true, true, true, true, true, true, true, true, false] rfl rfl (one_of HT_.out (by kernel_rfl)) (by decide) (fun K hK => ?_)
                refine goes_ Tryz.func7 (by kernel_rfl) rfl #[.agg #[.int .i64 ((rd_T28 y524 x12_3).f0), .bool ((rd_T28 y524 x12_3).f1), .int .i64 ((rd_T28 y524 x12_3).f2), .bool ((rd_T28 y524 x12_3).f3), .string ((rd_T28 y524 x12_3).f4), .slice A553_5 ((rd_T28 y524 x12_3).f5).length c553_5], .agg #[.int .i64 ((rd_T28 l2 x12_3).f0), .bool ((rd_T28 l2 x12_3).f1), .int .i64 ((rd_T28 l2 x12_3).f2), .bool ((rd_T28 l2 x12_3).f3), .string ((rd_T28 l2 x12_3).f4), .slice A554_5 ((rd_T28 l2 x12_3).f5).length c554_5]] (by rfl) rfl rfl rf_ ?_
                with_reducible refine (espalierref14_Same.calls k3 ((rd_T28 y524 x12_3).f0) ((rd_T28 y524 x12_3).f1) ((rd_T28 y524 x12_3).f2) ((rd_T28 y524 x12_3).f3) ((rd_T28 y524 x12_3).f4) _ _ ((rd_T28 y524 x12_3).f5) ((rd_T28 l2 x12_3).f0) ((rd_T28 l2 x12_3).f1) ((rd_T28 l2 x12_3).f2) ((rd_T28 l2 x12_3).f3) ((rd_T28 l2 x12_3).f4) _ _ ((rd_T28 l2 x12_3).f5) false _ ?side1 ?side2 ?side3 ?side4 A45.out).mono ?_
                (case side1 => repeat (first | exact (by repeat (first | (with_reducible exact HR553_5.out) | (with_reducible refine Kd.C_alloc ?_ _) | (with_reducible refine Kd.C_drewN ?_ _) | (with_reducible refine Kd.C_drew ?_) | exact HR553_5.out)) | (with_reducible refine Kd.C_alloc ?_ _) | (with_reducible refine Kd.C_drewN ?_ _) | (with_reducible refine Kd.C_drew ?_)))
                (case side2 => exact HC553_5.out)
                (case side3 => exact sc_ (Kd.C_below HR554_5.out HB.out))
                (case side4 => exact HC554_5.out)
                rintro e w67 ⟨rfl, hb⟩
                have HS0_ := (hb.cell (World.block_lt_of_cell? _ _ (hHeld.1))).trans (hHeld.1)
                have HS1_ := (hb.cell (World.block_lt_of_cell? _ _ (hHeld.2.1))).trans (hHeld.2.1)
                have HS2_ := (hb.cell (World.block_lt_of_cell? _ _ (hHeld.2.2.1))).trans (hHeld.2.2.1)
                have HS3_ := (hb.cell (World.block_lt_of_cell? _ _ (hHeld.2.2.2.1))).trans (hHeld.2.2.2.1)
                have HS4_ := (hb.cell (World.block_lt_of_cell? _ _ (hHeld.2.2.2.2.1))).trans (hHeld.2.2.2.2.1)
                have HS5_ := (hb.cell (World.block_lt_of_cell? _ _ (hHeld.2.2.2.2.2.1))).trans (hHeld.2.2.2.2.2.1)
                refine ⟨_, rfl, ?_⟩
                have n0_ := Aside0.mk (Kd.S_below (sa_ HO_7.out) hb)
                have n1_ := Aside0.mk (Kd.R_below (ra_ HO_541005.out) hb)
                have n2_ := Aside0.mk (Kd.R_below (by (with_reducible repeat (first | apply Kd.R_alloc | apply Kd.R_drewN | apply Kd.R_drew)); exact HL553_5.out) hb)
                have n3_ := Aside0.mk (blk_below (g := gb511) (o := .cells #[.int .i64 a1_0, .int .i64 a1_1, .string a1_2, .string a1_3, .slice A1_4 l1_4.length c1_4] 24 (0, 0)) (bk_ BK511.out) hb)
                have n4_ := Aside0.mk (blk_below (g := gb540) (o := .cells #[.int .i64 t531, .bool t532, .int .i64 t533, .bool t534, .string t535, .slice Ao30 t536.length co30] 28 (0, 0)) (bk_ BK540.out) hb)
                have n5_ := Aside0.mk (Kd.C_below (by repeat (first | (with_reducible exact HR553_5.out) | (with_reducible refine Kd.C_alloc ?_ _) | (with_reducible refine Kd.C_drewN ?_ _) | (with_reducible refine Kd.C_drew ?_) | exact HR553_5.out)) hb)
                have n6_ := Aside0.mk (below_step (hb2_ GE511.out GE540.out) hb)
                clear HO_7
                clear HO_541005
                clear HL553_5
                clear BK511
                clear BK540
                clear HR553_5
                clear HB
                have HO_7 := n0_
                have HO_541005 := n1_
                have HL553_5 := n2_
                have BK511 := n3_
                have BK540 := n4_
                have HR553_5 := n5_
                have HB := n6_
                clear n0_ n1_ n2_ n3_ n4_ n5_ n6_
                (try clear hb)
                (try clear hb2)
                (try clear hk)
                (try clear hi)
                refine hK.out _ _ ⟨HS0_, HS1_, HS2_, HS3_, HS4_, HS5_, (hc_ HB.out hw554_0), (hc_ HB.out hw554_1), (hc_ HB.out hw554_2), (hc_ HB.out hw554_3), (hc_ HB.out hw554_4), (hc_ HB.out hw554_5)⟩ (fun hHeld => ?_)
                clear hK K
                refine norm_ (a' := ?_) ?_ ?_
                rotate_left
                ·show Act.put _ (some 72) _ = _
                 simp only [Act.put, List.setIfInBounds_toArray, List.set_cons_zero, List.set_cons_succ, i64_w, i32_w]
                 rfl
                refine pu_ 9 (some 73) #[true, true, true, true, true, true, true, true, true, true] (any_of HT_.out (by kernel_rfl)) ?_
                refine done_ (done_of HT_.out (by kernel_rfl)) ?_
                try go_wp2
                go_ret
                exact ⟨er_, hb2_ GE511.out GE540.out⟩
              ·rw [if_neg c44] at H
               exact absurd H (by simp)
             ·rw [if_neg c43] at H
              exact absurd H (by simp)
            ·rw [if_neg c42] at H
             have c42b0 : decide (x12_3 < (l2.length : Int)) = false := decide_eq_false c42
             clear c42
             by_cases c68 : t539 = 0
             ·rw [if_pos c68] at H
              have c68b0 := beq_iff_eq.mpr c68
              have c68b1 := bne_eq_false_iff_eq.mpr c68
              clear c68
              by_cases c69 : 0 ≤ (l2.length : Int)
              ·rw [if_pos c69] at H
               have c69b0 : decide (0 ≤ (l2.length : Int)) = true := decide_eq_true c69
               have c69b1 : decide (0 ≤ l2.length) = true := decide_eq_true (by omega)
               clear c69
               by_cases c70 : (l2.length : Int) < (y524.length : Int)
               ·rw [if_pos c70] at H
                have c70b0 : decide ((l2.length : Int) < (y524.length : Int)) = true := decide_eq_true c70
                have c70b1 : decide (l2.length < y524.length) = true := decide_eq_true (Int.ofNat_lt.mp c70)
                clear c70
                by_cases c71 : ((rd_T28 y524 (l2.length : Int)).f4).toList = ([98, 101, 104, 105, 110, 100] : List UInt8)
                ·rw [if_pos c71] at H
                 have c71b0 := beq_iff_eq.mpr c71
                 have c71b1 := bne_eq_false_iff_eq.mpr c71
                 clear c71
                 replace H := Option.bind_eq_some_iff.mp H
                 obtain ⟨⟨t544, t545, t546, t547, t548, t549⟩, A720, H⟩ := H
                 replace H : ((espalierref14_Same.f k3 t531 t532 t533 t534 t535 t536 t544 t545 t546 t547 t548 t549).bind fun t552 => (some t552)) = some r := H
                 have A72 := Aside0.mk A720
                 clear A720
                 replace H := Option.bind_eq_some_iff.mp H
                 obtain ⟨t552, A730, H⟩ := H
                 replace H : (some t552) = some r := H
                 have A73 := Aside0.mk A730
                 clear A730
                 obtain rfl := Option.some.inj H
                 try go_wp2
                 replace HO_7 := Aside0.mk (Kd.S_drew HO_7.out)
                 replace HO_541005 := Aside0.mk (Kd.R_drew HO_541005.out)
                 replace BK511 := Aside0.mk (blk_drew BK511.out)
                 replace BK540 := Aside0.mk (blk_drew BK540.out)
                 replace HB := Aside0.mk (below_drew1 HB.out)
                 have p543 : 0 ≤ ((l2.length : Int) : Int) := of_decide_eq_true (by first | (with_reducible assumption) | assumption)
                 have q543 : (l2.length : Int) < (y524.length : Int) := of_decide_eq_true (by first | (with_reducible assumption) | assumption)
                 obtain ⟨ad543, A543_5, c543_5, e543, hx543_0, hx543_1, hx543_2, hx543_3, hx543_4, hx543_5, hl543_5, hi543_5⟩ := at_T28 (Kd.S_reads' HO_7.out).2.2 (l2.length : Int) p543 q543
                 cases e543
                 obtain ⟨ce543, hce543, hMe543, hcc543⟩ := Kd.S_get HO_7.out z28 (l2.length : Int) p543 (by first | exact q543 | exact of_decide_eq_true (by first | (with_reducible assumption) | assumption) | (have e_ := (Kd.S_reads' HO_7.out).1; omega))
                 obtain ⟨ve543_5, rfl, ge543_5⟩ := k28_openM hMe543
                 have hv543_5 := hcc543 5 _ rfl
                 rw [add_field _ _ 5 (by omega)] at hv543_5
                 replace hv543_5 := Option.some.inj (hv543_5.symm.trans hx543_5)
                 rw [hv543_5] at ge543_5
                 have HL543_5 := Aside0.mk (show Kd.R Kd.string 9 _ _ _ _ ((rd_T28 y524 (l2.length : Int)).f5) from ge543_5)
                 clear hv543_5 ge543_5
                 clear hcc543 hce543
                 have HR543_5 := Aside0.mk hi543_5
                 have HC543_5 := Aside0.mk hl543_5
                 clear hi543_5 hl543_5
                 (try simp only [Go.IntWalk.toNatUp] at hx543_0)
                 (try simp only [Go.IntWalk.toNatUp] at hx543_1)
                 (try simp only [Go.IntWalk.toNatUp] at hx543_2)
                 (try simp only [Go.IntWalk.toNatUp] at hx543_3)
                 (try simp only [Go.IntWalk.toNatUp] at hx543_4)
                 (try simp only [Go.IntWalk.toNatUp] at hx543_5)
                 replace p543 := eq_true p543
                 replace q543 := eq_true q543
                 refine start_ (n := 20) (S := fun w' => w'.cell? ⟨gb540, 0, none⟩ = some (.int .i64 t531) ∧ w'.cell? ⟨gb540, 1, none⟩ = some (.bool t532) ∧ w'.cell? ⟨gb540, 2, none⟩ = some (.int .i64 t533) ∧ w'.cell? ⟨gb540, 3, none⟩ = some (.bool t534) ∧ w'.cell? ⟨gb540, 4, none⟩ = some (.string t535) ∧ w'.cell? ⟨gb540, 5, none⟩ = some (.slice Ao30 t536.length co30) ∧ w'.cell? ⟨gb511, 0, none⟩ = some (.int .i64 a1_0) ∧ w'.cell? ⟨gb511, 1, none⟩ = some (.int .i64 a1_1) ∧ w'.cell? ⟨gb511, 2, none⟩ = some (.string a1_2) ∧ w'.cell? ⟨gb511, 3, none⟩ = some (.string a1_3) ∧ w'.cell? ⟨gb511, 4, none⟩ = some (.slice A1_4 l1_4.length c1_4) ∧ w'.cell? (ad543.add (l2.length * 6)) = some (.int .i64 ((rd_T28 y524 (l2.length : Int)).f0)) ∧ w'.cell? ⟨(ad543.add (l2.length * 6)).block, (ad543.add (l2.length * 6)).off + 1, none⟩ = some (.bool ((rd_T28 y524 (l2.length : Int)).f1)) ∧ w'.cell? ⟨(ad543.add (l2.length * 6)).block, (ad543.add (l2.length * 6)).off + 2, none⟩ = some (.int .i64 ((rd_T28 y524 (l2.length : Int)).f2)) ∧ w'.cell? ⟨(ad543.add (l2.length * 6)).block, (ad543.add (l2.length * 6)).off + 3, none⟩ = some (.bool ((rd_T28 y524 (l2.length : Int)).f3)) ∧ w'.cell? ⟨(ad543.add (l2.length * 6)).block, (ad543.add (l2.length * 6)).off + 4, none⟩ = some (.string ((rd_T28 y524 (l2.length : Int)).f4)) ∧ w'.cell? ⟨(ad543.add (l2.length * 6)).block, (ad543.add (l2.length * 6)).off + 5, none⟩ = some (.slice A543_5 ((rd_T28 y524 (l2.length : Int)).f5).length c543_5)) (ds := []) #[false, false, false, false, false, false, false, false, false, false, false, false, false, false, false, false, false, false, false, false] (by kernel_rfl) rfl rfl ⟨(blk_cell BK540.out 0).trans rfl, (blk_cell BK540.out 1).trans rfl, (blk_cell BK540.out 2).trans rfl, (blk_cell BK540.out 3).trans rfl, (blk_cell BK540.out 4).trans rfl, (blk_cell BK540.out 5).trans rfl, (blk_cell BK511.out 0).trans rfl, (blk_cell BK511.out 1).trans rfl, (blk_cell BK511.out 2).trans rfl, (blk_cell BK511.out 3).trans rfl, (blk_cell BK511.out 4).trans rfl, hx543_0, hx543_1, hx543_2, hx543_3, hx543_4, hx543_5⟩ (fun hHeld => ?_); refine with_tabW espalierlaw14_ValueCalls.tab18 espalierlaw14_ValueCalls.bits18 (fun HT_ HW_ => ?_)
                 generalize wr.drew = w74 at HO_7 HO_541005 BK511 BK540 HB HL543_5 HR543_5 hx543_0 hx543_1 hx543_2 hx543_3 hx543_4 hx543_5 hHeld ⊢
                 refine pu_ 0 (some 87) #[true, false, false, false, false, false, false, false, false, false, false, false, false, false, false, false, false, false, false, false] (any_of HT_.out (by kernel_rfl)) ?_
                 refine pu_ 1 (some 88) #[true, true, false, false, false, false, false, false, false, false, false, false, false, false, false, false, false, false, false, false] (any_of HT_.out (by kernel_rfl)) ?_
                 refine pu_ 2 (some 89) #[true, true, true, false, false, false, false, false, false, false, false, false, false, false, false, false, false, false, false, false] (any_of HT_.out (by kernel_rfl)) ?_
                 refine pu_ 3 (some 90) #[true, true, true, true, false, false, false, false, false, false, false, false, false, false, false, false, false, false, false, false] (any_of HT_.out (by kernel_rfl)) ?_
                 refine pu_ 4 (some 91) #[true, true, true, true, true, false, false, false, false, false, false, false, false, false, false, false, false, false, false, false] (any_of HT_.out (by kernel_rfl)) ?_
                 refine pu_ 5 (some 92) #[true, true, true, true, true, true, false, false, false, false, false, false, false, false, false, false, false, false, false, false] (any_of HT_.out (by kernel_rfl)) ?_
                 refine pu_ 6 (some 93) #[true, true, true, true, true, true, true, false, false, false, false, false, false, false, false, false, false, false, false, false] (any_of HT_.out (by kernel_rfl)) ?_
                 refine pu_ 7 (some 94) #[true, true, true, true, true, true, true, true, false, false, false, false, false, false, false, false, false, false, false, false] (any_of HT_.out (by kernel_rfl)) ?_
                 refine take_ (i := 8) (N := some 95) (v := ?_) (a' := ?_) #[true, true, true, true, true, true, true, true, true, false, false, false, false, false, false, false, false, false, false, false] rfl rfl (take_ofW HT_.out HW_.out (by kernel_rfl)) (fun _ _ _ h => h) (Or.inl ⟨by rfl, ?_⟩) hHeld ?_ ?_
                 rotate_left
                 ·rintro w' ⟨s0, s1, s2, s3, s4, s5, s6, s7, s8, s9, s10, s11, s12, s13, s14, s15, s16⟩
                  go_simp
                  with_reducible rfl
                 rotate_left
                 ·simp only [Act.put, List.setIfInBounds_toArray, List.set_cons_zero, List.set_cons_succ, i64_w, i32_w]
                  rfl
                 refine pu_ 9 (some 96) #[true, true, true, true, true, true, true, true, true, true, false, false, false, false, false, false, false, false, false, false] (any_of HT_.out (by kernel_rfl)) ?_
                 refine pu_ 10 (some 97) #[true, true, true, true, true, true, true, true, true, true, true, false, false, false, false, false, false, false, false, false] (any_of HT_.out (by kernel_rfl)) ?_
                 refine pu_ 11 (some 98) #[true, true, true, true, true, true, true, true, true, true, true, true, false, false, false, false, false, false, false, false] (any_of HT_.out (by kernel_rfl)) ?_
                 refine pu_ 13 (some 100) #[true, true, true, true, true, true, true, true, true, true, true, true, false, true, false, false, false, false, false, false] (any_of HT_.out (by kernel_rfl)) ?_
                 refine pu_ 15 (some 102) #[true, true, true, true, true, true, true, true, true, true, true, true, false, true, false, true, false, false, false, false] (any_of HT_.out (by kernel_rfl)) ?_
                 refine take_ (i := 12) (N := some 99) (v := ?_) (a' := ?_) #[true, true, true, true, true, true, true, true, true, true, true, true, true, true, false, true, false, false, false, false] rfl rfl (take_ofW HT_.out HW_.out (by kernel_rfl)) (fun _ _ _ h => h) (Or.inl ⟨by rfl, ?_⟩) hHeld ?_ ?_
                 rotate_left
                 ·rintro w' ⟨s0, s1, s2, s3, s4, s5, s6, s7, s8, s9, s10, s11, s12, s13, s14, s15, s16⟩
                  go_simp
                  with_reducible rfl
                 rotate_left
                 ·simp only [Act.put, List.setIfInBounds_toArray, List.set_cons_zero, List.set_cons_succ, i64_w, i32_w]
                  rfl
                 refine take_ (i := 14) (N := some 101) (v := ?_) (a' := ?_) #[true, true, true, true, true, true, true, true, true, true, true, true, true, true, true, true, false, false, false, false] rfl rfl (take_ofW HT_.out HW_.out (by kernel_rfl)) (fun _ _ _ h => h) (Or.inl ⟨by rfl, ?_⟩) hHeld ?_ ?_
                 rotate_left
                 ·rintro w' ⟨s0, s1, s2, s3, s4, s5, s6, s7, s8, s9, s10, s11, s12, s13, s14, s15, s16⟩
                  go_simp
                  with_reducible rfl
                 rotate_left
                 ·simp only [Act.put, List.setIfInBounds_toArray, List.set_cons_zero, List.set_cons_succ, i64_w, i32_w]
                  rfl
                 refine one_ (i := 16) (N := some 103) #[true, true, true, true, true, true, true, true, true, true, true, true, true, true, true, true, true, false, false, false] rfl rfl (one_of HT_.out (by kernel_rfl)) (by decide) (fun K hK => ?_)
                 refine goes_ Tryz.func9 (by kernel_rfl) rfl #[.string a0, .agg #[.int .i64 a1_0, .int .i64 a1_1, .string a1_2, .string a1_3, .slice A1_4 l1_4.length c1_4], .slice A2 l2.length c2] (by rfl) rfl rfl rf_ ?_
                 with_reducible refine (espalierref14_Call.calls k3 a0 a1_0 a1_1 a1_2 a1_3 _ _ l1_4 _ _ l2 t544 t545 t546 t547 t548 t549 _ ?side1 ?side2 ?side3 ?side4 A72.out).mono ?_
                 (case side1 => exact sc_ (Kd.C_below HR1_4.out HB.out))
                 (case side2 => exact HC1_4.out)
                 (case side3 => exact sc_ (Kd.C_below HR2.out HB.out))
                 (case side4 => exact HC2.out)
                 rintro e w75 ⟨v550, rfl, ho0, hb⟩
                 have HS11_ := (hb.cell (World.block_lt_of_cell? _ _ (hHeld.2.2.2.2.2.2.2.2.2.2.2.1))).trans (hHeld.2.2.2.2.2.2.2.2.2.2.2.1)
                 have HS12_ := (hb.cell (World.block_lt_of_cell? _ _ (hHeld.2.2.2.2.2.2.2.2.2.2.2.2.1))).trans (hHeld.2.2.2.2.2.2.2.2.2.2.2.2.1)
                 have HS13_ := (hb.cell (World.block_lt_of_cell? _ _ (hHeld.2.2.2.2.2.2.2.2.2.2.2.2.2.1))).trans (hHeld.2.2.2.2.2.2.2.2.2.2.2.2.2.1)
                 have HS14_ := (hb.cell (World.block_lt_of_cell? _ _ (hHeld.2.2.2.2.2.2.2.2.2.2.2.2.2.2.1))).trans (hHeld.2.2.2.2.2.2.2.2.2.2.2.2.2.2.1)
                 have HS15_ := (hb.cell (World.block_lt_of_cell? _ _ (hHeld.2.2.2.2.2.2.2.2.2.2.2.2.2.2.2.1))).trans (hHeld.2.2.2.2.2.2.2.2.2.2.2.2.2.2.2.1)
                 have HS16_ := (hb.cell (World.block_lt_of_cell? _ _ (hHeld.2.2.2.2.2.2.2.2.2.2.2.2.2.2.2.2))).trans (hHeld.2.2.2.2.2.2.2.2.2.2.2.2.2.2.2.2)
                 refine ⟨_, rfl, ?_⟩
                 have n0_ := Aside0.mk (Kd.S_elder' (sa_ HO_7.out) (Kd.R_base ho0) hb)
                 have n1_ := Aside0.mk (Kd.R_elder' (ra_ HO_541005.out) (Kd.R_base ho0) hb)
                 have n2_ := Aside0.mk (Kd.R_elder' (by (with_reducible repeat (first | apply Kd.R_alloc | apply Kd.R_drewN | apply Kd.R_drew)); exact HL543_5.out) (Kd.R_base ho0) hb)
                 have n3_ := Aside0.mk (Kd.R_lower (Kd.R_new' (Kd.R_new' ho0 (Kd.R_lt (ra_ HO_541005.out))) (Kd.R_lt (by (with_reducible repeat (first | apply Kd.R_alloc | apply Kd.R_drewN | apply Kd.R_drew)); exact HL543_5.out))) (below_size (hb2_ GE511.out GE540.out)))
                 have n4_ := Aside0.mk (blk_below (g := gb511) (o := .cells #[.int .i64 a1_0, .int .i64 a1_1, .string a1_2, .string a1_3, .slice A1_4 l1_4.length c1_4] 24 (0, 0)) (bk_ BK511.out) hb)
                 have n5_ := Aside0.mk (blk_below (g := gb540) (o := .cells #[.int .i64 t531, .bool t532, .int .i64 t533, .bool t534, .string t535, .slice Ao30 t536.length co30] 28 (0, 0)) (bk_ BK540.out) hb)
                 have n6_ := Aside0.mk (Kd.C_below (by repeat (first | (with_reducible exact HR543_5.out) | (with_reducible refine Kd.C_alloc ?_ _) | (with_reducible refine Kd.C_drewN ?_ _) | (with_reducible refine Kd.C_drew ?_) | exact HR543_5.out)) hb)
                 have n7_ := Aside0.mk (below_step (hb2_ GE511.out GE540.out) hb)
                 clear HO_7
                 clear HO_541005
                 clear HL543_5
                 clear BK511
                 clear BK540
                 clear HR543_5
                 clear HB
                 have HO_7 := n0_
                 have HO_541005 := n1_
                 have HL543_5 := n2_
                 have HO551 := n3_
                 have BK511 := n4_
                 have BK540 := n5_
                 have HR543_5 := n6_
                 have HB := n7_
                 clear n0_ n1_ n2_ n3_ n4_ n5_ n6_ n7_
                 (try clear hb)
                 (try clear hb2)
                 (try clear hk)
                 (try clear hi)
                 (try clear ho0)
                 obtain ⟨Ao76, co76, eo76⟩ := Kd.R_slice HO551.out
                 (first | subst eo76 | (injection eo76 with f1_ f2_ f3_; have f4_ := f1_.symm; have f5_ := f3_.symm; clear f1_ f2_ f3_; subst f4_; subst f5_))
                 refine hK.out _ _ ⟨(blk_cell BK540.out 0).trans rfl, (blk_cell BK540.out 1).trans rfl, (blk_cell BK540.out 2).trans rfl, (blk_cell BK540.out 3).trans rfl, (blk_cell BK540.out 4).trans rfl, (blk_cell BK540.out 5).trans rfl, (blk_cell BK511.out 0).trans rfl, (blk_cell BK511.out 1).trans rfl, (blk_cell BK511.out 2).trans rfl, (blk_cell BK511.out 3).trans rfl, (blk_cell BK511.out 4).trans rfl, HS11_, HS12_, HS13_, HS14_, HS15_, HS16_⟩ (fun hHeld => ?_)
                 clear hK K
                 refine norm_ (a' := ?_) ?_ ?_
                 rotate_left
                 ·show Act.put _ (some 103) _ = _
                  simp only [Act.put, List.setIfInBounds_toArray, List.set_cons_zero, List.set_cons_succ, i64_w, i32_w]
                  rfl
                 refine one_ (i := 17) (N := some 104) #[true, true, true, true, true, true, true, true, true, true, true, true, true, true, true, true, true, true, false, false] rfl rfl (one_of HT_.out (by kernel_rfl)) (by decide) (fun K hK => ?_)
                 refine goes_ Tryz.func7 (by kernel_rfl) rfl #[.agg #[.int .i64 t531, .bool t532, .int .i64 t533, .bool t534, .string t535, .slice Ao30 t536.length co30], .agg #[.int .i64 t544, .bool t545, .int .i64 t546, .bool t547, .string t548, .slice Ao76 t549.length co76]] (by rfl) rfl rfl rf_ ?_
                 with_reducible refine (espalierref14_Same.calls k3 t531 t532 t533 t534 t535 _ _ t536 t544 t545 t546 t547 t548 _ _ t549 t552 _ ?side1 ?side2 ?side3 ?side4 A73.out).mono ?_
                 (case side1 => repeat (first | exact (Kd.R_reads' HO_541005.out).2.2 | (with_reducible refine Kd.C_alloc ?_ _) | (with_reducible refine Kd.C_drewN ?_ _) | (with_reducible refine Kd.C_drew ?_)))
                 (case side2 => exact (Kd.R_reads' HO_541005.out).2.1)
                 (case side3 => repeat (first | exact (Kd.R_reads' HO551.out).2.2 | (with_reducible refine Kd.C_alloc ?_ _) | (with_reducible refine Kd.C_drewN ?_ _) | (with_reducible refine Kd.C_drew ?_)))
                 (case side4 => exact (Kd.R_reads' HO551.out).2.1)
                 rintro e w77 ⟨rfl, hb⟩
                 have HS11_ := (hb.cell (World.block_lt_of_cell? _ _ (hHeld.2.2.2.2.2.2.2.2.2.2.2.1))).trans (hHeld.2.2.2.2.2.2.2.2.2.2.2.1)
                 have HS12_ := (hb.cell (World.block_lt_of_cell? _ _ (hHeld.2.2.2.2.2.2.2.2.2.2.2.2.1))).trans (hHeld.2.2.2.2.2.2.2.2.2.2.2.2.1)
                 have HS13_ := (hb.cell (World.block_lt_of_cell? _ _ (hHeld.2.2.2.2.2.2.2.2.2.2.2.2.2.1))).trans (hHeld.2.2.2.2.2.2.2.2.2.2.2.2.2.1)
                 have HS14_ := (hb.cell (World.block_lt_of_cell? _ _ (hHeld.2.2.2.2.2.2.2.2.2.2.2.2.2.2.1))).trans (hHeld.2.2.2.2.2.2.2.2.2.2.2.2.2.2.1)
                 have HS15_ := (hb.cell (World.block_lt_of_cell? _ _ (hHeld.2.2.2.2.2.2.2.2.2.2.2.2.2.2.2.1))).trans (hHeld.2.2.2.2.2.2.2.2.2.2.2.2.2.2.2.1)
                 have HS16_ := (hb.cell (World.block_lt_of_cell? _ _ (hHeld.2.2.2.2.2.2.2.2.2.2.2.2.2.2.2.2))).trans (hHeld.2.2.2.2.2.2.2.2.2.2.2.2.2.2.2.2)
                 refine ⟨_, rfl, ?_⟩
                 have n0_ := Aside0.mk (Kd.S_below (sa_ HO_7.out) hb)
                 have n1_ := Aside0.mk (Kd.R_below (ra_ HO_541005.out) hb)
                 have n2_ := Aside0.mk (Kd.R_below (by (with_reducible repeat (first | apply Kd.R_alloc | apply Kd.R_drewN | apply Kd.R_drew)); exact HL543_5.out) hb)
                 have n3_ := Aside0.mk (Kd.R_below (ra_ HO551.out) hb)
                 have n4_ := Aside0.mk (blk_below (g := gb511) (o := .cells #[.int .i64 a1_0, .int .i64 a1_1, .string a1_2, .string a1_3, .slice A1_4 l1_4.length c1_4] 24 (0, 0)) (bk_ BK511.out) hb)
                 have n5_ := Aside0.mk (blk_below (g := gb540) (o := .cells #[.int .i64 t531, .bool t532, .int .i64 t533, .bool t534, .string t535, .slice Ao30 t536.length co30] 28 (0, 0)) (bk_ BK540.out) hb)
                 have n6_ := Aside0.mk (Kd.C_below (by repeat (first | (with_reducible exact HR543_5.out) | (with_reducible refine Kd.C_alloc ?_ _) | (with_reducible refine Kd.C_drewN ?_ _) | (with_reducible refine Kd.C_drew ?_) | exact HR543_5.out)) hb)
                 have n7_ := Aside0.mk (below_step (hb2_ GE511.out GE540.out) hb)
                 clear HO_7
                 clear HO_541005
                 clear HL543_5
                 clear HO551
                 clear BK511
                 clear BK540
                 clear HR543_5
                 clear HB
                 have HO_7 := n0_
                 have HO_541005 := n1_
                 have HL543_5 := n2_
                 have HO551 := n3_
                 have BK511 := n4_
                 have BK540 := n5_
                 have HR543_5 := n6_
                 have HB := n7_
                 clear n0_ n1_ n2_ n3_ n4_ n5_ n6_ n7_
                 (try clear hb)
                 (try clear hb2)
                 (try clear hk)
                 (try clear hi)
                 refine hK.out _ _ ⟨(blk_cell BK540.out 0).trans rfl, (blk_cell BK540.out 1).trans rfl, (blk_cell BK540.out 2).trans rfl, (blk_cell BK540.out 3).trans rfl, (blk_cell BK540.out 4).trans rfl, (blk_cell BK540.out 5).trans rfl, (blk_cell BK511.out 0).trans rfl, (blk_cell BK511.out 1).trans rfl, (blk_cell BK511.out 2).trans rfl, (blk_cell BK511.out 3).trans rfl, (blk_cell BK511.out 4).trans rfl, HS11_, HS12_, HS13_, HS14_, HS15_, HS16_⟩ (fun hHeld => ?_)
                 clear hK K
                 refine norm_ (a' := ?_) ?_ ?_
                 rotate_left
                 ·show Act.put _ (some 104) _ = _
                  simp only [Act.put, List.setIfInBounds_toArray, List.set_cons_zero, List.set_cons_succ, i64_w, i32_w]
                  rfl
                 refine pu_ 18 (some 105) #[true, true, true, true, true, true, true, true, true, true, true, true, true, true, true, true, true, true, true, false] (any_of HT_.out (by kernel_rfl)) ?_
                 refine pu_ 19 (some 6) #[true, true, true, true, true, true, true, true, true, true, true, true, true, true, true, true, true, true, true, true] (any_of HT_.out (by kernel_rfl)) ?_
                 refine done_ (done_of HT_.out (by kernel_rfl)) ?_
                 try go_wp2
                 go_ret
                 exact ⟨er_, hb2_ GE511.out GE540.out⟩
                ·rw [if_neg c71] at H
                 have c71b0 := beq_eq_false_iff_ne.mpr c71
                 have c71b1 := bne_iff_ne.mpr c71
                 obtain rfl := Option.some.inj H
                 try go_wp2
                 replace HO_7 := Aside0.mk (Kd.S_drew HO_7.out)
                 replace HO_541005 := Aside0.mk (Kd.R_drew HO_541005.out)
                 replace BK511 := Aside0.mk (blk_drew BK511.out)
                 replace BK540 := Aside0.mk (blk_drew BK540.out)
                 replace HB := Aside0.mk (below_drew1 HB.out)
                 have p543 : 0 ≤ ((l2.length : Int) : Int) := of_decide_eq_true (by first | (with_reducible assumption) | assumption)
                 have q543 : (l2.length : Int) < (y524.length : Int) := of_decide_eq_true (by first | (with_reducible assumption) | assumption)
                 obtain ⟨ad543, A543_5, c543_5, e543, hx543_0, hx543_1, hx543_2, hx543_3, hx543_4, hx543_5, hl543_5, hi543_5⟩ := at_T28 (Kd.S_reads' HO_7.out).2.2 (l2.length : Int) p543 q543
                 cases e543
                 obtain ⟨ce543, hce543, hMe543, hcc543⟩ := Kd.S_get HO_7.out z28 (l2.length : Int) p543 (by first | exact q543 | exact of_decide_eq_true (by first | (with_reducible assumption) | assumption) | (have e_ := (Kd.S_reads' HO_7.out).1; omega))
                 obtain ⟨ve543_5, rfl, ge543_5⟩ := k28_openM hMe543
                 have hv543_5 := hcc543 5 _ rfl
                 rw [add_field _ _ 5 (by omega)] at hv543_5
                 replace hv543_5 := Option.some.inj (hv543_5.symm.trans hx543_5)
                 rw [hv543_5] at ge543_5
                 have HL543_5 := Aside0.mk (show Kd.R Kd.string 9 _ _ _ _ ((rd_T28 y524 (l2.length : Int)).f5) from ge543_5)
                 clear hv543_5 ge543_5
                 clear hcc543 hce543
                 have HR543_5 := Aside0.mk hi543_5
                 have HC543_5 := Aside0.mk hl543_5
                 clear hi543_5 hl543_5
                 (try simp only [Go.IntWalk.toNatUp] at hx543_0)
                 (try simp only [Go.IntWalk.toNatUp] at hx543_1)
                 (try simp only [Go.IntWalk.toNatUp] at hx543_2)
                 (try simp only [Go.IntWalk.toNatUp] at hx543_3)
                 (try simp only [Go.IntWalk.toNatUp] at hx543_4)
                 (try simp only [Go.IntWalk.toNatUp] at hx543_5)
                 replace p543 := eq_true p543
                 replace q543 := eq_true q543
                 refine start_ (n := 20) (S := fun w' => w'.cell? (ad543.add (l2.length * 6)) = some (.int .i64 ((rd_T28 y524 (l2.length : Int)).f0)) ∧ w'.cell? ⟨(ad543.add (l2.length * 6)).block, (ad543.add (l2.length * 6)).off + 1, none⟩ = some (.bool ((rd_T28 y524 (l2.length : Int)).f1)) ∧ w'.cell? ⟨(ad543.add (l2.length * 6)).block, (ad543.add (l2.length * 6)).off + 2, none⟩ = some (.int .i64 ((rd_T28 y524 (l2.length : Int)).f2)) ∧ w'.cell? ⟨(ad543.add (l2.length * 6)).block, (ad543.add (l2.length * 6)).off + 3, none⟩ = some (.bool ((rd_T28 y524 (l2.length : Int)).f3)) ∧ w'.cell? ⟨(ad543.add (l2.length * 6)).block, (ad543.add (l2.length * 6)).off + 4, none⟩ = some (.string ((rd_T28 y524 (l2.length : Int)).f4)) ∧ w'.cell? ⟨(ad543.add (l2.length * 6)).block, (ad543.add (l2.length * 6)).off + 5, none⟩ = some (.slice A543_5 ((rd_T28 y524 (l2.length : Int)).f5).length c543_5)) (ds := []) #[false, false, false, false, false, false, false, false, false, false, false, false, false, false, false, false, false, false, false, false] (by kernel_rfl) rfl rfl ⟨hx543_0, hx543_1, hx543_2, hx543_3, hx543_4, hx543_5⟩ (fun hHeld => ?_); refine with_tabW espalierlaw14_ValueCalls.tab18 espalierlaw14_ValueCalls.bits18 (fun HT_ HW_ => ?_)
                 generalize wr.drew = w78 at HO_7 HO_541005 BK511 BK540 HB HL543_5 HR543_5 hx543_0 hx543_1 hx543_2 hx543_3 hx543_4 hx543_5 hHeld ⊢
                 refine pu_ 0 (some 87) #[true, false, false, false, false, false, false, false, false, false, false, false, false, false, false, false, false, false, false, false] (any_of HT_.out (by kernel_rfl)) ?_
                 refine pu_ 1 (some 88) #[true, true, false, false, false, false, false, false, false, false, false, false, false, false, false, false, false, false, false, false] (any_of HT_.out (by kernel_rfl)) ?_
                 refine pu_ 2 (some 89) #[true, true, true, false, false, false, false, false, false, false, false, false, false, false, false, false, false, false, false, false] (any_of HT_.out (by kernel_rfl)) ?_
                 refine pu_ 3 (some 90) #[true, true, true, true, false, false, false, false, false, false, false, false, false, false, false, false, false, false, false, false] (any_of HT_.out (by kernel_rfl)) ?_
                 refine pu_ 4 (some 91) #[true, true, true, true, true, false, false, false, false, false, false, false, false, false, false, false, false, false, false, false] (any_of HT_.out (by kernel_rfl)) ?_
                 refine pu_ 5 (some 92) #[true, true, true, true, true, true, false, false, false, false, false, false, false, false, false, false, false, false, false, false] (any_of HT_.out (by kernel_rfl)) ?_
                 refine pu_ 6 (some 93) #[true, true, true, true, true, true, true, false, false, false, false, false, false, false, false, false, false, false, false, false] (any_of HT_.out (by kernel_rfl)) ?_
                 refine pu_ 7 (some 94) #[true, true, true, true, true, true, true, true, false, false, false, false, false, false, false, false, false, false, false, false] (any_of HT_.out (by kernel_rfl)) ?_
                 refine take_ (i := 8) (N := some 95) (v := ?_) (a' := ?_) #[true, true, true, true, true, true, true, true, true, false, false, false, false, false, false, false, false, false, false, false] rfl rfl (take_ofW HT_.out HW_.out (by kernel_rfl)) (fun _ _ _ h => h) (Or.inl ⟨by rfl, ?_⟩) hHeld ?_ ?_
                 rotate_left
                 ·rintro w' ⟨s0, s1, s2, s3, s4, s5⟩
                  go_simp
                  with_reducible rfl
                 rotate_left
                 ·simp only [Act.put, List.setIfInBounds_toArray, List.set_cons_zero, List.set_cons_succ, i64_w, i32_w]
                  rfl
                 refine pu_ 9 (some 96) #[true, true, true, true, true, true, true, true, true, true, false, false, false, false, false, false, false, false, false, false] (any_of HT_.out (by kernel_rfl)) ?_
                 refine pu_ 10 (some 97) #[true, true, true, true, true, true, true, true, true, true, true, false, false, false, false, false, false, false, false, false] (any_of HT_.out (by kernel_rfl)) ?_
                 refine pu_ 11 (some 98) #[true, true, true, true, true, true, true, true, true, true, true, true, false, false, false, false, false, false, false, false] (any_of HT_.out (by kernel_rfl)) ?_
                 refine pure_ (i := 12) (N := some 99) (v := undef) (a' := ?_) #[true, true, true, true, true, true, true, true, true, true, true, true, true, false, false, false, false, false, false, false] rfl rfl (any_of HT_.out (by kernel_rfl)) (fun _ _ _ h => h) (Or.inr ⟨by rfl, rfl⟩) ?_ ?_
                 rotate_left
                 ·simp only [Act.put, List.setIfInBounds_toArray, List.set_cons_zero, List.set_cons_succ, i64_w, i32_w]
                  rfl
                 refine pure_ (i := 13) (N := some 100) (v := undef) (a' := ?_) #[true, true, true, true, true, true, true, true, true, true, true, true, true, true, false, false, false, false, false, false] rfl rfl (any_of HT_.out (by kernel_rfl)) (fun _ _ _ h => h) (Or.inr ⟨by rfl, rfl⟩) ?_ ?_
                 rotate_left
                 ·simp only [Act.put, List.setIfInBounds_toArray, List.set_cons_zero, List.set_cons_succ, i64_w, i32_w]
                  rfl
                 refine pure_ (i := 14) (N := some 101) (v := undef) (a' := ?_) #[true, true, true, true, true, true, true, true, true, true, true, true, true, true, true, false, false, false, false, false] rfl rfl (any_of HT_.out (by kernel_rfl)) (fun _ _ _ h => h) (Or.inr ⟨by rfl, rfl⟩) ?_ ?_
                 rotate_left
                 ·simp only [Act.put, List.setIfInBounds_toArray, List.set_cons_zero, List.set_cons_succ, i64_w, i32_w]
                  rfl
                 refine pure_ (i := 15) (N := some 102) (v := undef) (a' := ?_) #[true, true, true, true, true, true, true, true, true, true, true, true, true, true, true, true, false, false, false, false] rfl rfl (any_of HT_.out (by kernel_rfl)) (fun _ _ _ h => h) (Or.inr ⟨by rfl, rfl⟩) ?_ ?_
                 rotate_left
                 ·simp only [Act.put, List.setIfInBounds_toArray, List.set_cons_zero, List.set_cons_succ, i64_w, i32_w]
                  rfl
                 refine pure_ (i := 16) (N := some 103) (v := undef) (a' := ?_) #[true, true, true, true, true, true, true, true, true, true, true, true, true, true, true, true, true, false, false, false] rfl rfl (any_of HT_.out (by kernel_rfl)) (fun _ _ _ h => h) (Or.inr ⟨by rfl, rfl⟩) ?_ ?_
                 rotate_left
                 ·simp only [Act.put, List.setIfInBounds_toArray, List.set_cons_zero, List.set_cons_succ, i64_w, i32_w]
                  rfl
                 refine pure_ (i := 17) (N := some 104) (v := undef) (a' := ?_) #[true, true, true, true, true, true, true, true, true, true, true, true, true, true, true, true, true, true, false, false] rfl rfl (any_of HT_.out (by kernel_rfl)) (fun _ _ _ h => h) (Or.inr ⟨by rfl, rfl⟩) ?_ ?_
                 rotate_left
                 ·simp only [Act.put, List.setIfInBounds_toArray, List.set_cons_zero, List.set_cons_succ, i64_w, i32_w]
                  rfl
                 refine pu_ 18 (some 105) #[true, true, true, true, true, true, true, true, true, true, true, true, true, true, true, true, true, true, true, false] (any_of HT_.out (by kernel_rfl)) ?_
                 refine pu_ 19 (some 6) #[true, true, true, true, true, true, true, true, true, true, true, true, true, true, true, true, true, true, true, true] (any_of HT_.out (by kernel_rfl)) ?_
                 refine done_ (done_of HT_.out (by kernel_rfl)) ?_
                 try go_wp2
                 go_ret
                 exact ⟨er_, hb2_ GE511.out GE540.out⟩
               ·rw [if_neg c70] at H
                exact absurd H (by simp)
              ·rw [if_neg c69] at H
               exact absurd H (by simp)
             ·rw [if_neg c68] at H
              have c68b0 := beq_eq_false_iff_ne.mpr c68
              have c68b1 := bne_iff_ne.mpr c68
              obtain rfl := Option.some.inj H
              try go_wp2
              replace HO_7 := Aside0.mk (Kd.S_drew HO_7.out)
              replace HO_541005 := Aside0.mk (Kd.R_drew HO_541005.out)
              replace BK511 := Aside0.mk (blk_drew BK511.out)
              replace BK540 := Aside0.mk (blk_drew BK540.out)
              replace HB := Aside0.mk (below_drew1 HB.out)
              refine start_ (n := 20) (S := fun w' => True) (ds := []) #[false, false, false, false, false, false, false, false, false, false, false, false, false, false, false, false, false, false, false, false] (by kernel_rfl) rfl rfl trivial (fun hHeld => ?_); refine with_tabW espalierlaw14_ValueCalls.tab18 espalierlaw14_ValueCalls.bits18 (fun HT_ HW_ => ?_)
              generalize wr.drew = w79 at HO_7 HO_541005 BK511 BK540 HB hHeld ⊢
              refine pu_ 0 (some 87) #[true, false, false, false, false, false, false, false, false, false, false, false, false, false, false, false, false, false, false, false] (any_of HT_.out (by kernel_rfl)) ?_
              refine pu_ 1 (some 88) #[true, true, false, false, false, false, false, false, false, false, false, false, false, false, false, false, false, false, false, false] (any_of HT_.out (by kernel_rfl)) ?_
              refine pu_ 2 (some 89) #[true, true, true, false, false, false, false, false, false, false, false, false, false, false, false, false, false, false, false, false] (any_of HT_.out (by kernel_rfl)) ?_
              refine pure_ (i := 3) (N := some 90) (v := undef) (a' := ?_) #[true, true, true, true, false, false, false, false, false, false, false, false, false, false, false, false, false, false, false, false] rfl rfl (any_of HT_.out (by kernel_rfl)) (fun _ _ _ h => h) (Or.inr ⟨by rfl, rfl⟩) ?_ ?_
              rotate_left
              ·simp only [Act.put, List.setIfInBounds_toArray, List.set_cons_zero, List.set_cons_succ, i64_w, i32_w]
               rfl
              refine pure_ (i := 4) (N := some 91) (v := undef) (a' := ?_) #[true, true, true, true, true, false, false, false, false, false, false, false, false, false, false, false, false, false, false, false] rfl rfl (any_of HT_.out (by kernel_rfl)) (fun _ _ _ h => h) (Or.inr ⟨by rfl, rfl⟩) ?_ ?_
              rotate_left
              ·simp only [Act.put, List.setIfInBounds_toArray, List.set_cons_zero, List.set_cons_succ, i64_w, i32_w]
               rfl
              refine pure_ (i := 5) (N := some 92) (v := undef) (a' := ?_) #[true, true, true, true, true, true, false, false, false, false, false, false, false, false, false, false, false, false, false, false] rfl rfl (any_of HT_.out (by kernel_rfl)) (fun _ _ _ h => h) (Or.inr ⟨by rfl, rfl⟩) ?_ ?_
              rotate_left
              ·simp only [Act.put, List.setIfInBounds_toArray, List.set_cons_zero, List.set_cons_succ, i64_w, i32_w]
               rfl
              refine pure_ (i := 6) (N := some 93) (v := undef) (a' := ?_) #[true, true, true, true, true, true, true, false, false, false, false, false, false, false, false, false, false, false, false, false] rfl rfl (any_of HT_.out (by kernel_rfl)) (fun _ _ _ h => h) (Or.inr ⟨by rfl, rfl⟩) ?_ ?_
              rotate_left
              ·simp only [Act.put, List.setIfInBounds_toArray, List.set_cons_zero, List.set_cons_succ, i64_w, i32_w]
               rfl
              refine pure_ (i := 7) (N := some 94) (v := undef) (a' := ?_) #[true, true, true, true, true, true, true, true, false, false, false, false, false, false, false, false, false, false, false, false] rfl rfl (any_of HT_.out (by kernel_rfl)) (fun _ _ _ h => h) (Or.inr ⟨by rfl, rfl⟩) ?_ ?_
              rotate_left
              ·simp only [Act.put, List.setIfInBounds_toArray, List.set_cons_zero, List.set_cons_succ, i64_w, i32_w]
               rfl
              refine pure_ (i := 8) (N := some 95) (v := undef) (a' := ?_) #[true, true, true, true, true, true, true, true, true, false, false, false, false, false, false, false, false, false, false, false] rfl rfl (any_of HT_.out (by kernel_rfl)) (fun _ _ _ h => h) (Or.inr ⟨by rfl, rfl⟩) ?_ ?_
              rotate_left
              ·simp only [Act.put, List.setIfInBounds_toArray, List.set_cons_zero, List.set_cons_succ, i64_w, i32_w]
               rfl
              refine pure_ (i := 9) (N := some 96) (v := undef) (a' := ?_) #[true, true, true, true, true, true, true, true, true, true, false, false, false, false, false, false, false, false, false, false] rfl rfl (any_of HT_.out (by kernel_rfl)) (fun _ _ _ h => h) (Or.inr ⟨by rfl, rfl⟩) ?_ ?_
              rotate_left
              ·simp only [Act.put, List.setIfInBounds_toArray, List.set_cons_zero, List.set_cons_succ, i64_w, i32_w]
               rfl
              refine pu_ 10 (some 97) #[true, true, true, true, true, true, true, true, true, true, true, false, false, false, false, false, false, false, false, false] (any_of HT_.out (by kernel_rfl)) ?_
              refine pu_ 11 (some 98) #[true, true, true, true, true, true, true, true, true, true, true, true, false, false, false, false, false, false, false, false] (any_of HT_.out (by kernel_rfl)) ?_
              refine pure_ (i := 12) (N := some 99) (v := undef) (a' := ?_) #[true, true, true, true, true, true, true, true, true, true, true, true, true, false, false, false, false, false, false, false] rfl rfl (any_of HT_.out (by kernel_rfl)) (fun _ _ _ h => h) (Or.inr ⟨by rfl, rfl⟩) ?_ ?_
              rotate_left
              ·simp only [Act.put, List.setIfInBounds_toArray, List.set_cons_zero, List.set_cons_succ, i64_w, i32_w]
               rfl
              refine pure_ (i := 13) (N := some 100) (v := undef) (a' := ?_) #[true, true, true, true, true, true, true, true, true, true, true, true, true, true, false, false, false, false, false, false] rfl rfl (any_of HT_.out (by kernel_rfl)) (fun _ _ _ h => h) (Or.inr ⟨by rfl, rfl⟩) ?_ ?_
              rotate_left
              ·simp only [Act.put, List.setIfInBounds_toArray, List.set_cons_zero, List.set_cons_succ, i64_w, i32_w]
               rfl
              refine pure_ (i := 14) (N := some 101) (v := undef) (a' := ?_) #[true, true, true, true, true, true, true, true, true, true, true, true, true, true, true, false, false, false, false, false] rfl rfl (any_of HT_.out (by kernel_rfl)) (fun _ _ _ h => h) (Or.inr ⟨by rfl, rfl⟩) ?_ ?_
              rotate_left
              ·simp only [Act.put, List.setIfInBounds_toArray, List.set_cons_zero, List.set_cons_succ, i64_w, i32_w]
               rfl
              refine pure_ (i := 15) (N := some 102) (v := undef) (a' := ?_) #[true, true, true, true, true, true, true, true, true, true, true, true, true, true, true, true, false, false, false, false] rfl rfl (any_of HT_.out (by kernel_rfl)) (fun _ _ _ h => h) (Or.inr ⟨by rfl, rfl⟩) ?_ ?_
              rotate_left
              ·simp only [Act.put, List.setIfInBounds_toArray, List.set_cons_zero, List.set_cons_succ, i64_w, i32_w]
               rfl
              refine pure_ (i := 16) (N := some 103) (v := undef) (a' := ?_) #[true, true, true, true, true, true, true, true, true, true, true, true, true, true, true, true, true, false, false, false] rfl rfl (any_of HT_.out (by kernel_rfl)) (fun _ _ _ h => h) (Or.inr ⟨by rfl, rfl⟩) ?_ ?_
              rotate_left
              ·simp only [Act.put, List.setIfInBounds_toArray, List.set_cons_zero, List.set_cons_succ, i64_w, i32_w]
               rfl
              refine pure_ (i := 17) (N := some 104) (v := undef) (a' := ?_) #[true, true, true, true, true, true, true, true, true, true, true, true, true, true, true, true, true, true, false, false] rfl rfl (any_of HT_.out (by kernel_rfl)) (fun _ _ _ h => h) (Or.inr ⟨by rfl, rfl⟩) ?_ ?_
              rotate_left
              ·simp only [Act.put, List.setIfInBounds_toArray, List.set_cons_zero, List.set_cons_succ, i64_w, i32_w]
               rfl
              refine pu_ 18 (some 105) #[true, true, true, true, true, true, true, true, true, true, true, true, true, true, true, true, true, true, true, false] (any_of HT_.out (by kernel_rfl)) ?_
              refine pu_ 19 (some 6) #[true, true, true, true, true, true, true, true, true, true, true, true, true, true, true, true, true, true, true, true] (any_of HT_.out (by kernel_rfl)) ?_
              refine done_ (done_of HT_.out (by kernel_rfl)) ?_
              try go_wp2
              go_ret
              exact ⟨er_, hb2_ GE511.out GE540.out⟩
      ·rw [if_neg c14] at H
       exact absurd H (by simp)
     ·rw [if_neg c13] at H
      exact absurd H (by simp)
    ·rw [if_neg c12] at H
     exact absurd H (by simp)

end Go.Proofs.YtnkjchcaonaifaaGreatDoor.PA
