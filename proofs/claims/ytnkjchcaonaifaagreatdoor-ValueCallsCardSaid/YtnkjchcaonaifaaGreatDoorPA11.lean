-- Written by a program of this session (wip/tools/xprint.py: the kit's print, with given functions). Not trusted: Lean checks it.
-- squeezed
import Derived.Test.YtnkjchcaonaifaaGreatDoorPA0
import Derived.Test.YtnkjchcaonaifaaGreatDoorPA10
namespace Go.Proofs.YtnkjchcaonaifaaGreatDoor.PA
open Go.RowKit Go.Proofs.YtnkjchcaonaifaaGreatDoorW.PrintWords Go.Proofs.YtnkjchcaonaifaaGreatDoorW.PrintLast Go.Proofs.YtnkjchcaonaifaaGreatDoorW.PrintMore
attribute [local go_sem] max2_int min2_int max_two min_two max_three min_three max_four min_four   -- for this text's walks alone
set_option linter.unusedVariables false
set_option linter.unusedSimpArgs false

/-! ### espalierref14_read: function 36 -/
mutual
def espalierref14_read.j1 : Nat → ByteArray → Int → Int → Option (Bool × Int)
 | 0, _, _, _ => none
 | k + 1, x0, x3, x4 => espalierref14_read.l1 k x0 x3 x4
def espalierref14_read.j3 : Nat → ByteArray → Int → Int → Option (Bool × Int)
 | 0, _, _, _ => none
 | k + 1, x0, x3, x4 => if x3 < x4 then (if 0 ≤ x3 then (if x3 < (x0.size : Int) then (espalierref14_read.j4 k x0 x3 x4 ((bt x0 x3) == 45)) else (none)) else (none)) else (espalierref14_read.j4 k x0 x3 x4 false)
def espalierref14_read.j4 : Nat → ByteArray → Int → Int → Bool → Option (Bool × Int)
 | 0, _, _, _, _ => none
 | k + 1, x0, x3, x4, x5 => if x5 = true then (espalierref14_read.j5 k x0 (wrap64 (x3 + 1)) x4 x5) else (espalierref14_read.j5 k x0 x3 x4 x5)
def espalierref14_read.j5 : Nat → ByteArray → Int → Int → Bool → Option (Bool × Int)
 | 0, _, _, _, _ => none
 | k + 1, x0, x3, x4, x5 => if x3 = x4 then (some (false, 0)) else (espalierref14_read.l2 k x0 x4 x5 0 x3)
def espalierref14_read.l2 : Nat → ByteArray → Int → Bool → Int → Int → Option (Bool × Int)
 | 0, _, _, _, _, _ => none
 | k + 1, x0, x4, x5, x6, x7 => if x7 < x4 then (if 0 ≤ x7 then (if x7 < (x0.size : Int) then (if (bt x0 x7) < 48 then (espalierref14_read.j7 k x0 x4 x5 x6 x7 true) else (espalierref14_read.j7 k x0 x4 x5 x6 x7 (decide ((bt x0 x7) > 57)))) else (none)) else (none)) else (if x5 = true then (if x6 = 9223372036854775808 then (some (true, (-9223372036854775808))) else (some (true, wrap64 (-(wrap64 (x6)))))) else (some (decide (x6 < 9223372036854775808), wrap64 (Int.tmod x6 9223372036854775808))))
def espalierref14_read.j7 : Nat → ByteArray → Int → Bool → Int → Int → Bool → Option (Bool × Int)
 | 0, _, _, _, _, _, _ => none
 | k + 1, x0, x4, x5, x6, x7, x65 => if x65 = true then (some (false, 0)) else (if 0 ≤ x7 then (if x7 < (x0.size : Int) then (if x6 > ((9223372036854775808 - (((bt x0 x7) - 48) % 256)) / 10) then (some (false, 0)) else (espalierref14_read.l2 k x0 x4 x5 (IntKind.u64.wrap ((IntKind.u64.wrap (10 * x6)) + (((bt x0 x7) - 48) % 256))) (wrap64 (x7 + 1)))) else (none)) else (none))
def espalierref14_read.l1 : Nat → ByteArray → Int → Int → Option (Bool × Int)
 | 0, _, _, _ => none
 | k + 1, x0, x3, x4 => if x3 < x4 then (if 0 ≤ (wrap64 (x4 - 1)) then (if (wrap64 (x4 - 1)) < (x0.size : Int) then ((espalierref02_White.f (bt x0 (wrap64 (x4 - 1)))).bind fun t354 => (if t354 = true then (espalierref14_read.l1 k x0 x3 (wrap64 (x4 - 1))) else (espalierref14_read.j3 k x0 x3 x4))) else (none)) else (none)) else (espalierref14_read.j3 k x0 x3 x4)
def espalierref14_read.l0 : Nat → ByteArray → Int → Int → Option (Bool × Int)
 | 0, _, _, _ => none
 | k + 1, x0, x3, x4 => if x3 < x4 then (if 0 ≤ x3 then (if x3 < (x0.size : Int) then ((espalierref02_White.f (bt x0 x3)).bind fun t353 => (if t353 = true then (espalierref14_read.l0 k x0 (wrap64 (x3 + 1)) x4) else (espalierref14_read.j1 k x0 x3 x4))) else (none)) else (none)) else (espalierref14_read.j1 k x0 x3 x4)
end
def espalierref14_read.f (k : Nat) (a0 : ByteArray) : Option (Bool × Int) := espalierref14_read.l0 k a0 0 (a0.size : Int)
theorem espalierref14_read.mono_l : ∀ k, (∀ y0 y1 y2, LeO (espalierref14_read.j1 k y0 y1 y2) (espalierref14_read.j1 (k + 1) y0 y1 y2)) ∧ (∀ y0 y1 y2, LeO (espalierref14_read.j3 k y0 y1 y2) (espalierref14_read.j3 (k + 1) y0 y1 y2)) ∧ (∀ y0 y1 y2 y3, LeO (espalierref14_read.j4 k y0 y1 y2 y3) (espalierref14_read.j4 (k + 1) y0 y1 y2 y3)) ∧ (∀ y0 y1 y2 y3, LeO (espalierref14_read.j5 k y0 y1 y2 y3) (espalierref14_read.j5 (k + 1) y0 y1 y2 y3)) ∧ (∀ y0 y1 y2 y3 y4, LeO (espalierref14_read.l2 k y0 y1 y2 y3 y4) (espalierref14_read.l2 (k + 1) y0 y1 y2 y3 y4)) ∧ (∀ y0 y1 y2 y3 y4 y5, LeO (espalierref14_read.j7 k y0 y1 y2 y3 y4 y5) (espalierref14_read.j7 (k + 1) y0 y1 y2 y3 y4 y5)) ∧ (∀ y0 y1 y2, LeO (espalierref14_read.l1 k y0 y1 y2) (espalierref14_read.l1 (k + 1) y0 y1 y2)) ∧ (∀ y0 y1 y2, LeO (espalierref14_read.l0 k y0 y1 y2) (espalierref14_read.l0 (k + 1) y0 y1 y2))
 | 0 => ⟨fun _ _ _ r h => by simp [espalierref14_read.j1] at h, fun _ _ _ r h => by simp [espalierref14_read.j3] at h, fun _ _ _ _ r h => by simp [espalierref14_read.j4] at h, fun _ _ _ _ r h => by simp [espalierref14_read.j5] at h, fun _ _ _ _ _ r h => by simp [espalierref14_read.l2] at h, fun _ _ _ _ _ _ r h => by simp [espalierref14_read.j7] at h, fun _ _ _ r h => by simp [espalierref14_read.l1] at h, fun _ _ _ r h => by simp [espalierref14_read.l0] at h⟩
 | k + 1 => by
  obtain ⟨ih0, ih1, ih2, ih3, ih4, ih5, ih6, ih7⟩ := espalierref14_read.mono_l k
  refine ⟨?_, ?_, ?_, ?_, ?_, ?_, ?_, ?_⟩
  ·intro y0 y1 y2
   unfold espalierref14_read.j1
   repeat' first
   | (with_reducible exact ih0 _ _ _)
   | (with_reducible exact ih1 _ _ _)
   | (with_reducible exact ih2 _ _ _ _)
   | (with_reducible exact ih3 _ _ _ _)
   | (with_reducible exact ih4 _ _ _ _ _)
   | (with_reducible exact ih5 _ _ _ _ _ _)
   | (with_reducible exact ih6 _ _ _)
   | (with_reducible exact ih7 _ _ _)
   | (with_reducible exact LeO.refl _)
   | (with_reducible exact LeO.none _)
   | (with_reducible refine LeO.ite ?_ ?_)
   | (with_reducible refine LeO.bind ?_ (fun _ => ?_))
   | exact ih0 _ _ _
   | exact ih1 _ _ _
   | exact ih2 _ _ _ _
   | exact ih3 _ _ _ _
   | exact ih4 _ _ _ _ _
   | exact ih5 _ _ _ _ _ _
   | exact ih6 _ _ _
   | exact ih7 _ _ _
   | exact LeO.none _
   | refine LeO.ite ?_ ?_
   | refine LeO.bind ?_ (fun _ => ?_)
  ·intro y0 y1 y2
   unfold espalierref14_read.j3
   repeat' first
   | (with_reducible exact ih0 _ _ _)
   | (with_reducible exact ih1 _ _ _)
   | (with_reducible exact ih2 _ _ _ _)
   | (with_reducible exact ih3 _ _ _ _)
   | (with_reducible exact ih4 _ _ _ _ _)
   | (with_reducible exact ih5 _ _ _ _ _ _)
   | (with_reducible exact ih6 _ _ _)
   | (with_reducible exact ih7 _ _ _)
   | (with_reducible exact LeO.refl _)
   | (with_reducible exact LeO.none _)
   | (with_reducible refine LeO.ite ?_ ?_)
   | (with_reducible refine LeO.bind ?_ (fun _ => ?_))
   | exact ih0 _ _ _
   | exact ih1 _ _ _
   | exact ih2 _ _ _ _
   | exact ih3 _ _ _ _
   | exact ih4 _ _ _ _ _
   | exact ih5 _ _ _ _ _ _
   | exact ih6 _ _ _
   | exact ih7 _ _ _
   | exact LeO.none _
   | refine LeO.ite ?_ ?_
   | refine LeO.bind ?_ (fun _ => ?_)
  ·intro y0 y1 y2 y3
   unfold espalierref14_read.j4
   repeat' first
   | (with_reducible exact ih0 _ _ _)
   | (with_reducible exact ih1 _ _ _)
   | (with_reducible exact ih2 _ _ _ _)
   | (with_reducible exact ih3 _ _ _ _)
   | (with_reducible exact ih4 _ _ _ _ _)
   | (with_reducible exact ih5 _ _ _ _ _ _)
   | (with_reducible exact ih6 _ _ _)
   | (with_reducible exact ih7 _ _ _)
   | (with_reducible exact LeO.refl _)
   | (with_reducible exact LeO.none _)
   | (with_reducible refine LeO.ite ?_ ?_)
   | (with_reducible refine LeO.bind ?_ (fun _ => ?_))
   | exact ih0 _ _ _
   | exact ih1 _ _ _
   | exact ih2 _ _ _ _
   | exact ih3 _ _ _ _
   | exact ih4 _ _ _ _ _
   | exact ih5 _ _ _ _ _ _
   | exact ih6 _ _ _
   | exact ih7 _ _ _
   | exact LeO.none _
   | refine LeO.ite ?_ ?_
   | refine LeO.bind ?_ (fun _ => ?_)
  ·intro y0 y1 y2 y3
   unfold espalierref14_read.j5
   repeat' first
   | (with_reducible exact ih0 _ _ _)
   | (with_reducible exact ih1 _ _ _)
   | (with_reducible exact ih2 _ _ _ _)
   | (with_reducible exact ih3 _ _ _ _)
   | (with_reducible exact ih4 _ _ _ _ _)
   | (with_reducible exact ih5 _ _ _ _ _ _)
   | (with_reducible exact ih6 _ _ _)
   | (with_reducible exact ih7 _ _ _)
   | (with_reducible exact LeO.refl _)
   | (with_reducible exact LeO.none _)
   | (with_reducible refine LeO.ite ?_ ?_)
   | (with_reducible refine LeO.bind ?_ (fun _ => ?_))
   | exact ih0 _ _ _
   | exact ih1 _ _ _
   | exact ih2 _ _ _ _
   | exact ih3 _ _ _ _
   | exact ih4 _ _ _ _ _
   | exact ih5 _ _ _ _ _ _
   | exact ih6 _ _ _
   | exact ih7 _ _ _
   | exact LeO.none _
   | refine LeO.ite ?_ ?_
   | refine LeO.bind ?_ (fun _ => ?_)
  ·intro y0 y1 y2 y3 y4
   unfold espalierref14_read.l2
   repeat' first
   | (with_reducible exact ih0 _ _ _)
   | (with_reducible exact ih1 _ _ _)
   | (with_reducible exact ih2 _ _ _ _)
   | (with_reducible exact ih3 _ _ _ _)
   | (with_reducible exact ih4 _ _ _ _ _)
   | (with_reducible exact ih5 _ _ _ _ _ _)
   | (with_reducible exact ih6 _ _ _)
   | (with_reducible exact ih7 _ _ _)
   | (with_reducible exact LeO.refl _)
   | (with_reducible exact LeO.none _)
   | (with_reducible refine LeO.ite ?_ ?_)
   | (with_reducible refine LeO.bind ?_ (fun _ => ?_))
   | exact ih0 _ _ _
   | exact ih1 _ _ _
   | exact ih2 _ _ _ _
   | exact ih3 _ _ _ _
   | exact ih4 _ _ _ _ _
   | exact ih5 _ _ _ _ _ _
   | exact ih6 _ _ _
   | exact ih7 _ _ _
   | exact LeO.none _
   | refine LeO.ite ?_ ?_
   | refine LeO.bind ?_ (fun _ => ?_)
  ·intro y0 y1 y2 y3 y4 y5
   unfold espalierref14_read.j7
   repeat' first
   | (with_reducible exact ih0 _ _ _)
   | (with_reducible exact ih1 _ _ _)
   | (with_reducible exact ih2 _ _ _ _)
   | (with_reducible exact ih3 _ _ _ _)
   | (with_reducible exact ih4 _ _ _ _ _)
   | (with_reducible exact ih5 _ _ _ _ _ _)
   | (with_reducible exact ih6 _ _ _)
   | (with_reducible exact ih7 _ _ _)
   | (with_reducible exact LeO.refl _)
   | (with_reducible exact LeO.none _)
   | (with_reducible refine LeO.ite ?_ ?_)
   | (with_reducible refine LeO.bind ?_ (fun _ => ?_))
   | exact ih0 _ _ _
   | exact ih1 _ _ _
   | exact ih2 _ _ _ _
   | exact ih3 _ _ _ _
   | exact ih4 _ _ _ _ _
   | exact ih5 _ _ _ _ _ _
   | exact ih6 _ _ _
   | exact ih7 _ _ _
   | exact LeO.none _
   | refine LeO.ite ?_ ?_
   | refine LeO.bind ?_ (fun _ => ?_)
  ·intro y0 y1 y2
   unfold espalierref14_read.l1
   repeat' first
   | (with_reducible exact ih0 _ _ _)
   | (with_reducible exact ih1 _ _ _)
   | (with_reducible exact ih2 _ _ _ _)
   | (with_reducible exact ih3 _ _ _ _)
   | (with_reducible exact ih4 _ _ _ _ _)
   | (with_reducible exact ih5 _ _ _ _ _ _)
   | (with_reducible exact ih6 _ _ _)
   | (with_reducible exact ih7 _ _ _)
   | (with_reducible exact LeO.refl _)
   | (with_reducible exact LeO.none _)
   | (with_reducible refine LeO.ite ?_ ?_)
   | (with_reducible refine LeO.bind ?_ (fun _ => ?_))
   | exact ih0 _ _ _
   | exact ih1 _ _ _
   | exact ih2 _ _ _ _
   | exact ih3 _ _ _ _
   | exact ih4 _ _ _ _ _
   | exact ih5 _ _ _ _ _ _
   | exact ih6 _ _ _
   | exact ih7 _ _ _
   | exact LeO.none _
   | refine LeO.ite ?_ ?_
   | refine LeO.bind ?_ (fun _ => ?_)
  ·intro y0 y1 y2
   unfold espalierref14_read.l0
   repeat' first
   | (with_reducible exact ih0 _ _ _)
   | (with_reducible exact ih1 _ _ _)
   | (with_reducible exact ih2 _ _ _ _)
   | (with_reducible exact ih3 _ _ _ _)
   | (with_reducible exact ih4 _ _ _ _ _)
   | (with_reducible exact ih5 _ _ _ _ _ _)
   | (with_reducible exact ih6 _ _ _)
   | (with_reducible exact ih7 _ _ _)
   | (with_reducible exact LeO.refl _)
   | (with_reducible exact LeO.none _)
   | (with_reducible refine LeO.ite ?_ ?_)
   | (with_reducible refine LeO.bind ?_ (fun _ => ?_))
   | exact ih0 _ _ _
   | exact ih1 _ _ _
   | exact ih2 _ _ _ _
   | exact ih3 _ _ _ _
   | exact ih4 _ _ _ _ _
   | exact ih5 _ _ _ _ _ _
   | exact ih6 _ _ _
   | exact ih7 _ _ _
   | exact LeO.none _
   | refine LeO.ite ?_ ?_
   | refine LeO.bind ?_ (fun _ => ?_)
theorem espalierref14_read.mono : ∀ a0 k, LeO (espalierref14_read.f k a0) (espalierref14_read.f (k + 1) a0) := by
 intro a0 k
 obtain ⟨ih0, ih1, ih2, ih3, ih4, ih5, ih6, ih7⟩ := espalierref14_read.mono_l k
 unfold espalierref14_read.f
 repeat' first
   | (with_reducible exact ih0 _ _ _)
   | (with_reducible exact ih1 _ _ _)
   | (with_reducible exact ih2 _ _ _ _)
   | (with_reducible exact ih3 _ _ _ _)
   | (with_reducible exact ih4 _ _ _ _ _)
   | (with_reducible exact ih5 _ _ _ _ _ _)
   | (with_reducible exact ih6 _ _ _)
   | (with_reducible exact ih7 _ _ _)
   | (with_reducible exact LeO.refl _)
   | (with_reducible exact LeO.none _)
   | (with_reducible refine LeO.ite ?_ ?_)
   | (with_reducible refine LeO.bind ?_ (fun _ => ?_))
   | exact ih0 _ _ _
   | exact ih1 _ _ _
   | exact ih2 _ _ _ _
   | exact ih3 _ _ _ _
   | exact ih4 _ _ _ _ _
   | exact ih5 _ _ _ _ _ _
   | exact ih6 _ _ _
   | exact ih7 _ _ _
   | exact LeO.none _
   | refine LeO.ite ?_ ?_
   | refine LeO.bind ?_ (fun _ => ?_)
set_option maxHeartbeats 8000000 in
set_option maxRecDepth 100000 in
theorem espalierref14_read.calls (k : Nat) (a0 : ByteArray) (r1 : Bool) (r2 : Int) (w : World) (h : espalierref14_read.f k a0 = some (r1, r2)) :
  Calls Tryz.prog 36 #[.string a0] w fun e w' => e = .returned (.agg #[.bool r1, .int .i64 r2]) ∧ Below w.heap.size w w' := by
 have hu42 := Tryz.underlying42
 have HB := Aside0.mk (Below.refl w.heap.size w)
 have H : (espalierref14_read.l0 k a0 0 (a0.size : Int)) = some (r1, r2) := h
 clear h
 have HC2 := Aside0.mk H
 clear H
 go_enter Tryz.func36, Tryz.ntmps36
 go_upto_block 0 with (first | ((with_reducible refine gate_dst (N := 2) rfl ?_); refine box_event ?hg (N := 2) ?hd (cs := #[.bool false, .int .i64 0]) (t := 42) ?hr ?_; (case hd => rfl); (case hg => rfl); (case hr => first | (go_simp; done) | (go_simp; rfl)); intro gb352 hg w3 hbox hb; have n0_ := Aside0.mk (below_step hb_ hb); have n1_ := Aside0.mk (hbox); have n2_ := Aside0.mk ((by rw [hg]; exact (below_size hb_) : w.heap.size ≤ gb352)); have n3_ := Aside0.mk ((by rw [hg]; exact (below_size hb_) : w.heap.size ≤ gb352)); clear HB; have HB := n0_; have BK352 := n1_; have GW352 := n2_; have GE352 := n3_; clear n0_ n1_ n2_ n3_; clear hb hbox hg))
 (try simp only [Act.put, List.setIfInBounds_toArray, List.set_cons_zero, List.set_cons_succ])
 go_cut [3] (fun v3 wc => ∃ (kq : Nat) (x3_1 : Int), v3 = .int .i64 x3_1 ∧ Aside0 (espalierref14_read.j1 kq a0 x3_1 (a0.size : Int) = some (r1, r2)) ∧ Aside0 (kq ≤ k) ∧ Aside0 (wc.heap[gb352]? = some (.cells #[.bool false, .int .i64 0] 42 (0, 0))) ∧ Aside0 (Below w.heap.size w wc))
 case first =>
  have H := HC2.out
  clear HC2
  have H' := Aside0.mk H
  clear H
  go_wp2
  go_loopg [3] k (fun kq v3 w' => ∃ (x3_1 : Int), v3 = .int .i64 x3_1 ∧ Aside0 (espalierref14_read.l0 kq a0 x3_1 (a0.size : Int) = some (r1, r2)) ∧ Aside0 (kq ≤ k) ∧ Aside0 (w'.heap[gb352]? = some (.cells #[.bool false, .int .i64 0] 42 (0, 0))) ∧ Aside0 (Below w.heap.size w w'))
  case atStart => exact ⟨(0), (by first | rfl | (simp; done) | (simp [*]; done)), H', ⟨Nat.le_refl _⟩, ⟨bk_ BK352.out⟩, ⟨hb1_ GE352.out⟩⟩
  case round =>
   clear H'
   try clear p2
   try clear c3
   obtain ⟨x3_1, rfl, HA, HK1, BK352, HB⟩ := hrel
   cases gk with
   | zero => exact absurd HA.out (by simp [espalierref14_read.l0])
   | succ k1 =>
    have H := HA.out
    clear HA
    simp only [espalierref14_read.l0] at H
    by_cases c4 : x3_1 < (a0.size : Int)
    ·rw [if_pos c4] at H
     have c4b0 : decide (x3_1 < (a0.size : Int)) = true := decide_eq_true c4
     clear c4
     (first | rw [c4b0] | (simp only [i64_w, i32_w]; rw [c4b0]) | skip)
     by_cases c5 : 0 ≤ x3_1
     ·rw [if_pos c5] at H
      have c5b0 : decide (0 ≤ x3_1) = true := decide_eq_true c5
      clear c5
      by_cases c6 : x3_1 < (a0.size : Int)
      ·rw [if_pos c6] at H
       have c6b0 : decide (x3_1 < (a0.size : Int)) = true := decide_eq_true c6
       clear c6
       replace H := Option.bind_eq_some_iff.mp H
       obtain ⟨t353, A80, H⟩ := H
       replace H : (if t353 = true then (espalierref14_read.l0 k1 a0 (wrap64 (x3_1 + 1)) (a0.size : Int)) else (espalierref14_read.j1 k1 a0 x3_1 (a0.size : Int))) = some (r1, r2) := H
       have A8 := Aside0.mk A80
       clear A80
       by_cases c9 : t353 = true
       ·subst c9
        rw [if_pos rfl] at H
        have H' := Aside0.mk H
        clear H
        have p7 : 0 ≤ (x3_1 : Int) := of_decide_eq_true (by first | (with_reducible assumption) | assumption)
        have q7 : x3_1 < (a0.size : Int) := of_decide_eq_true (by first | (with_reducible assumption) | assumption)
        have hx7 := bt_at a0 x3_1
        replace p7 := eq_true p7
        replace q7 := eq_true q7
        go_wp2_with (first | (go_at_call 50; (with_reducible refine (espalierref02_White.calls (bt a0 x3_1) true _ A8.out).mono ?_); rintro e w' ⟨rfl, ⟨nd, rfl⟩⟩))
        go_roundg k1
        case measure => have := HK1.out; omega
        case rel => exact ⟨(wrap64 (x3_1 + 1)), (by first | rfl | (simp; done) | (simp [*]; done)), H', ⟨by have := HK1.out; omega⟩, ⟨bk_ BK352.out⟩, ⟨hb1_ GE352.out⟩⟩
       ·replace c9 := Bool.eq_false_iff.mpr c9
        subst c9
        rw [if_neg (show ¬ (false = true) by decide)] at H
        have H' := Aside0.mk H
        clear H
        have p7 : 0 ≤ (x3_1 : Int) := of_decide_eq_true (by first | (with_reducible assumption) | assumption)
        have q7 : x3_1 < (a0.size : Int) := of_decide_eq_true (by first | (with_reducible assumption) | assumption)
        have hx7 := bt_at a0 x3_1
        replace p7 := eq_true p7
        replace q7 := eq_true q7
        go_wp2_with (first | (go_at_call 50; (with_reducible refine (espalierref02_White.calls (bt a0 x3_1) false _ A8.out).mono ?_); rintro e w' ⟨rfl, ⟨nd, rfl⟩⟩))
        go_meet
        case rel => exact ⟨_, (x3_1), (by first | rfl | (simp; done) | (simp [*]; done)), H', ⟨by have := HK1.out; first | omega | exact Nat.le_refl _⟩, ⟨bk_ BK352.out⟩, ⟨hb1_ GE352.out⟩⟩
      ·rw [if_neg c6] at H
       exact absurd H (by simp)
     ·rw [if_neg c5] at H
      exact absurd H (by simp)
    ·rw [if_neg c4] at H
     have c4b0 : decide (x3_1 < (a0.size : Int)) = false := decide_eq_false c4
     clear c4
     (first | rw [c4b0] | (simp only [i64_w, i32_w]; rw [c4b0]) | skip)
     have H' := Aside0.mk H
     clear H
     go_wp2
     go_meet
     case rel => exact ⟨_, (x3_1), (by first | rfl | (simp; done) | (simp [*]; done)), H', ⟨by have := HK1.out; first | omega | exact Nat.le_refl _⟩, ⟨bk_ BK352.out⟩, ⟨hb1_ GE352.out⟩⟩
 case rest =>
  clear HC2
  try clear p2
  try clear c3
  try clear c4
  try clear c4b0
  try clear c5
  try clear c5b0
  try clear c6
  try clear c6b0
  try clear p6
  try clear p7
  try clear q7
  try clear hx7
  try clear c9
  try clear p2
  try clear p7
  try clear q7
  obtain ⟨kq, x3_1, rfl, HA, HJ1, BK352, HB⟩ := hcut
  cases kq with
  | zero => exact absurd HA.out (by simp [espalierref14_read.j1])
  | succ kj1 =>
   have H := HA.out
   clear HA
   simp only [espalierref14_read.j1] at H
   have HC10 := Aside0.mk H
   clear H
   go_upto_block 2 with (fail)
   go_cut [4] (fun v4 wc => ∃ (kq : Nat) (x4_9 : Int), v4 = .int .i64 x4_9 ∧ Aside0 (espalierref14_read.j3 kq a0 x3_1 x4_9 = some (r1, r2)) ∧ Aside0 (kq ≤ kj1) ∧ Aside0 (wc.heap[gb352]? = some (.cells #[.bool false, .int .i64 0] 42 (0, 0))) ∧ Aside0 (Below w.heap.size w wc))
   case first =>
    have H := HC10.out
    clear HC10
    have H' := Aside0.mk H
    clear H
    go_wp2
    go_loopg [4] kj1 (fun kq v4 w' => ∃ (x4_2 : Int), v4 = .int .i64 x4_2 ∧ Aside0 (espalierref14_read.l1 kq a0 x3_1 x4_2 = some (r1, r2)) ∧ Aside0 (kq ≤ kj1) ∧ Aside0 (w'.heap[gb352]? = some (.cells #[.bool false, .int .i64 0] 42 (0, 0))) ∧ Aside0 (Below w.heap.size w w'))
    case atStart => exact ⟨((a0.size : Int)), (by first | rfl | (simp; done) | (simp [*]; done)), H', ⟨Nat.le_refl _⟩, ⟨bk_ BK352.out⟩, ⟨hb1_ GE352.out⟩⟩
    case round =>
     clear H'
     try clear p2
     try clear c3
     try clear c4
     try clear c4b0
     try clear c5
     try clear c5b0
     try clear c6
     try clear c6b0
     try clear p6
     try clear p7
     try clear q7
     try clear hx7
     try clear c9
     try clear p2
     try clear p6
     try clear p7
     try clear q7
     obtain ⟨x4_2, rfl, HA, HK2, BK352, HB⟩ := hrel
     cases gk with
     | zero => exact absurd HA.out (by simp [espalierref14_read.l1])
     | succ k2 =>
      have H := HA.out
      clear HA
      simp only [espalierref14_read.l1] at H
      by_cases c11 : x3_1 < x4_2
      ·rw [if_pos c11] at H
       have c11b0 : decide (x3_1 < x4_2) = true := decide_eq_true c11
       clear c11
       (first | rw [c11b0] | (simp only [i64_w, i32_w]; rw [c11b0]) | skip)
       obtain ⟨ji12, hji12⟩ : ∃ j_ : Int, (wrap64 (x4_2 - 1)) = j_ := ⟨_, rfl⟩
       replace H : (if 0 ≤ (ji12) then (if (ji12) < (a0.size : Int) then ((espalierref02_White.f (bt a0 (ji12))).bind fun t354 => (if t354 = true then (espalierref14_read.l1 k2 a0 x3_1 ji12) else (espalierref14_read.j3 k2 a0 x3_1 x4_2))) else (none)) else (none)) = some (r1, r2) := by first | (rw [hji12] at H; exact H) | (simp only [hji12] at H ⊢; exact H)
       have hji12w : (IntKind.i64.wrap (x4_2 - 1)) = ji12 := (i64_w _).trans hji12
       by_cases c13 : 0 ≤ (ji12)
       ·rw [if_pos c13] at H
        have c13b0 : decide (0 ≤ (ji12)) = true := decide_eq_true c13
        clear c13
        by_cases c14 : (ji12) < (a0.size : Int)
        ·rw [if_pos c14] at H
         have c14b0 : decide ((ji12) < (a0.size : Int)) = true := decide_eq_true c14
         clear c14
         replace H := Option.bind_eq_some_iff.mp H
         obtain ⟨t354, A160, H⟩ := H
         replace H : (if t354 = true then (espalierref14_read.l1 k2 a0 x3_1 ji12) else (espalierref14_read.j3 k2 a0 x3_1 x4_2)) = some (r1, r2) := H
         have A16 := Aside0.mk A160
         clear A160
         by_cases c17 : t354 = true
         ·subst c17
          rw [if_pos rfl] at H
          have H' := Aside0.mk H
          clear H
          have p15 : 0 ≤ ((ji12) : Int) := of_decide_eq_true (by first | (with_reducible assumption) | assumption)
          have q15 : (ji12) < (a0.size : Int) := of_decide_eq_true (by first | (with_reducible assumption) | assumption)
          have hx15 := bt_at a0 (ji12)
          replace p15 := eq_true p15
          replace q15 := eq_true q15
          go_wp2_with (first | (go_at_call 50; (with_reducible refine (espalierref02_White.calls (bt a0 (ji12)) true _ A16.out).mono ?_); rintro e w' ⟨rfl, ⟨nd, rfl⟩⟩))
          go_roundg k2
          case measure => have := HJ1.out; have := HK2.out; omega
          case rel => exact ⟨(ji12), (by first | rfl | (simp; done) | (simp only [← hji12] <;> (first | rfl | simp)) | (simp [*]; done)), H', ⟨by have := HJ1.out; have := HK2.out; omega⟩, ⟨bk_ BK352.out⟩, ⟨hb1_ GE352.out⟩⟩
         ·replace c17 := Bool.eq_false_iff.mpr c17
          subst c17
          rw [if_neg (show ¬ (false = true) by decide)] at H
          have H' := Aside0.mk H
          clear H
          have p15 : 0 ≤ ((ji12) : Int) := of_decide_eq_true (by first | (with_reducible assumption) | assumption)
          have q15 : (ji12) < (a0.size : Int) := of_decide_eq_true (by first | (with_reducible assumption) | assumption)
          have hx15 := bt_at a0 (ji12)
          replace p15 := eq_true p15
          replace q15 := eq_true q15
          go_wp2_with (first | (go_at_call 50; (with_reducible refine (espalierref02_White.calls (bt a0 (ji12)) false _ A16.out).mono ?_); rintro e w' ⟨rfl, ⟨nd, rfl⟩⟩))
          go_meet
          case rel => exact ⟨_, (x4_2), (by first | rfl | (simp; done) | (simp [*]; done)), H', ⟨by have := HJ1.out; have := HK2.out; first | omega | exact Nat.le_refl _⟩, ⟨bk_ BK352.out⟩, ⟨hb1_ GE352.out⟩⟩
        ·rw [if_neg c14] at H
         exact absurd H (by simp)
       ·rw [if_neg c13] at H
        exact absurd H (by simp)
      ·rw [if_neg c11] at H
       have c11b0 : decide (x3_1 < x4_2) = false := decide_eq_false c11
       clear c11
       (first | rw [c11b0] | (simp only [i64_w, i32_w]; rw [c11b0]) | skip)
       have H' := Aside0.mk H
       clear H
       go_wp2
       go_meet
       case rel => exact ⟨_, (x4_2), (by first | rfl | (simp; done) | (simp [*]; done)), H', ⟨by have := HJ1.out; have := HK2.out; first | omega | exact Nat.le_refl _⟩, ⟨bk_ BK352.out⟩, ⟨hb1_ GE352.out⟩⟩
   case rest =>
    clear HC10
    try clear c1
    try clear p1
    try clear q1
    try clear hx1
    try clear p2
    try clear c3
    try clear c4
    try clear c4b0
    try clear c5
    try clear c5b0
    try clear c6
    try clear c6b0
    try clear p6
    try clear p7
    try clear q7
    try clear hx7
    try clear c9
    try clear c11
    try clear c11b0
    try clear c13
    try clear c13b0
    try clear c14
    try clear c14b0
    try clear p15
    try clear q15
    try clear hx15
    try clear c17
    try clear p15
    try clear p2
    try clear p6
    try clear p7
    try clear q15
    try clear q7
    obtain ⟨kq, x4_9, rfl, HA, HJ9, BK352, HB⟩ := hcut
    cases kq with
    | zero => exact absurd HA.out (by simp [espalierref14_read.j3])
    | succ kj9 =>
     have H := HA.out
     clear HA
     simp only [espalierref14_read.j3] at H
     have HC18 := Aside0.mk H
     clear H
     go_upto_region 6 with (fail)
     go_cut [5] (fun v5 wc => ∃ (kq : Nat) (x5_17 : Bool), v5 = .bool x5_17 ∧ Aside0 (espalierref14_read.j4 kq a0 x3_1 x4_9 x5_17 = some (r1, r2)) ∧ Aside0 (kq ≤ kj9) ∧ Aside0 (wc.heap[gb352]? = some (.cells #[.bool false, .int .i64 0] 42 (0, 0))) ∧ Aside0 (Below w.heap.size w wc))
     case first =>
      have H := HC18.out
      clear HC18
      by_cases c19 : x3_1 < x4_9
      ·rw [if_pos c19] at H
       have c19b0 : decide (x3_1 < x4_9) = true := decide_eq_true c19
       clear c19
       (first | rw [c19b0] | (simp only [i64_w, i32_w]; rw [c19b0]) | skip)
       by_cases c20 : 0 ≤ x3_1
       ·rw [if_pos c20] at H
        have c20b0 : decide (0 ≤ x3_1) = true := decide_eq_true c20
        clear c20
        by_cases c21 : x3_1 < (a0.size : Int)
        ·rw [if_pos c21] at H
         have c21b0 : decide (x3_1 < (a0.size : Int)) = true := decide_eq_true c21
         clear c21
         have H' := Aside0.mk H
         clear H
         have p22 : 0 ≤ (x3_1 : Int) := of_decide_eq_true (by first | (with_reducible assumption) | assumption)
         have q22 : x3_1 < (a0.size : Int) := of_decide_eq_true (by first | (with_reducible assumption) | assumption)
         have hx22 := bt_at a0 x3_1
         replace p22 := eq_true p22
         replace q22 := eq_true q22
         go_wp2
         go_meet
         case rel => exact ⟨_, (((bt a0 x3_1) == 45)), (by first | rfl | (simp; done) | (simp [*]; done)), H', ⟨by have := HJ1.out; have := HJ9.out; first | omega | exact Nat.le_refl _⟩, ⟨bk_ BK352.out⟩, ⟨hb1_ GE352.out⟩⟩
        ·rw [if_neg c21] at H
         exact absurd H (by simp)
       ·rw [if_neg c20] at H
        exact absurd H (by simp)
      ·rw [if_neg c19] at H
       have c19b0 : decide (x3_1 < x4_9) = false := decide_eq_false c19
       clear c19
       (first | rw [c19b0] | (simp only [i64_w, i32_w]; rw [c19b0]) | skip)
       have H' := Aside0.mk H
       clear H
       go_wp2
       go_meet
       case rel => exact ⟨_, (false), (by first | rfl | (simp; done) | (simp [*]; done)), H', ⟨by have := HJ1.out; have := HJ9.out; first | omega | exact Nat.le_refl _⟩, ⟨bk_ BK352.out⟩, ⟨hb1_ GE352.out⟩⟩
     case rest =>
      clear HC18
      try clear c1
      try clear p1
      try clear q1
      try clear hx1
      try clear c2
      try clear p2
      try clear q2
      try clear hx2
      try clear c3
      try clear c4
      try clear c4b0
      try clear c5
      try clear c5b0
      try clear c6
      try clear c6b0
      try clear p6
      try clear p7
      try clear q7
      try clear hx7
      try clear c9
      try clear c11
      try clear c11b0
      try clear c13
      try clear c13b0
      try clear c14
      try clear c14b0
      try clear p15
      try clear q15
      try clear hx15
      try clear c17
      try clear c19
      try clear c19b0
      try clear c20
      try clear c20b0
      try clear c21
      try clear c21b0
      try clear p22
      try clear q22
      try clear hx22
      try clear p1
      try clear p15
      try clear p2
      try clear p22
      try clear p6
      try clear p7
      try clear q1
      try clear q15
      try clear q22
      try clear q7
      obtain ⟨kq, x5_17, rfl, HA, HJ17, BK352, HB⟩ := hcut
      cases kq with
      | zero => exact absurd HA.out (by simp [espalierref14_read.j4])
      | succ kj17 =>
       have H := HA.out
       clear HA
       simp only [espalierref14_read.j4] at H
       have HC23 := Aside0.mk H
       clear H
       go_upto_if 43 with (fail)
       go_cut [3] (fun v3 wc => ∃ (kq : Nat) (x3_22 : Int), v3 = .int .i64 x3_22 ∧ Aside0 (espalierref14_read.j5 kq a0 x3_22 x4_9 x5_17 = some (r1, r2)) ∧ Aside0 (kq ≤ kj17) ∧ Aside0 (wc.heap[gb352]? = some (.cells #[.bool false, .int .i64 0] 42 (0, 0))) ∧ Aside0 (Below w.heap.size w wc))
       case first =>
        have H := HC23.out
        clear HC23
        by_cases c24 : x5_17 = true
        ·subst c24
         rw [if_pos rfl] at H
         have H' := Aside0.mk H
         clear H
         go_wp2
         go_meet
         case rel => exact ⟨_, (wrap64 (x3_1 + 1)), (by first | rfl | (simp; done) | (simp [*]; done)), H', ⟨by have := HJ1.out; have := HJ9.out; have := HJ17.out; first | omega | exact Nat.le_refl _⟩, ⟨bk_ BK352.out⟩, ⟨hb1_ GE352.out⟩⟩
        ·replace c24 := Bool.eq_false_iff.mpr c24
         subst c24
         rw [if_neg (show ¬ (false = true) by decide)] at H
         have H' := Aside0.mk H
         clear H
         go_wp2
         go_meet
         case rel => exact ⟨_, (x3_1), (by first | rfl | (simp; done) | (simp [*]; done)), H', ⟨by have := HJ1.out; have := HJ9.out; have := HJ17.out; first | omega | exact Nat.le_refl _⟩, ⟨bk_ BK352.out⟩, ⟨hb1_ GE352.out⟩⟩
       case rest =>
        clear HC23
        try clear c1
        try clear p1
        try clear q1
        try clear hx1
        try clear c2
        try clear p2
        try clear q2
        try clear hx2
        try clear c3
        try clear c4
        try clear c4b0
        try clear c5
        try clear c5b0
        try clear c6
        try clear c6b0
        try clear p6
        try clear p7
        try clear q7
        try clear hx7
        try clear c9
        try clear c11
        try clear c11b0
        try clear c13
        try clear c13b0
        try clear c14
        try clear c14b0
        try clear p15
        try clear q15
        try clear hx15
        try clear c17
        try clear c19
        try clear c19b0
        try clear c20
        try clear c20b0
        try clear c21
        try clear c21b0
        try clear p22
        try clear q22
        try clear hx22
        try clear c24
        try clear p1
        try clear p15
        try clear p2
        try clear p22
        try clear p6
        try clear p7
        try clear q1
        try clear q15
        try clear q2
        try clear q22
        try clear q7
        obtain ⟨kq, x3_22, rfl, HA, HJ22, BK352, HB⟩ := hcut
        cases kq with
        | zero => exact absurd HA.out (by simp [espalierref14_read.j5])
        | succ kj22 =>
         have H := HA.out
         clear HA
         simp only [espalierref14_read.j5] at H
         by_cases c25 : x3_22 = x4_9
         ·rw [if_pos c25] at H
          have c25b0 := beq_iff_eq.mpr c25
          have c25b1 := bne_eq_false_iff_eq.mpr c25
          clear c25
          simp only [Option.some.injEq, Prod.mk.injEq] at H
          obtain ⟨rfl, rfl⟩ := H
          have hcz26_0 : wc.cell? ⟨gb352, 0, none⟩ = some (.bool false) := (blk_cell BK352.out 0).trans rfl
          have hcz26_1 : wc.cell? ⟨gb352, 1, none⟩ = some (.int .i64 0) := (blk_cell BK352.out 1).trans rfl
          have hfz26_0 := blk_frozen BK352.out 0
          have hfz26_1 := blk_frozen BK352.out 1
          go_wp2
          refine bodyPost_ret (results_cell_row rfl _ _ gb352 42 #[.bool false, .int .i64 0] (0, 0) _ rfl (bp_ BK352.out) Tryz.underlying42 rfl (by kernel_rfl)) rfl ?_
          exact ⟨er_, hb1_ GE352.out⟩
         ·rw [if_neg c25] at H
          have c25b0 := beq_eq_false_iff_ne.mpr c25
          have c25b1 := bne_iff_ne.mpr c25
          have H' := Aside0.mk H
          clear H
          go_wp2
          go_loopg [6, 7] kj22 (fun kq v6 v7 w' => ∃ (x6_5 : Int) (x7_5 : Int) (x353000_5 : Bool) (x353001_5 : Int), v6 = .int .u64 x6_5 ∧ v7 = .int .i64 x7_5 ∧ Aside0 (espalierref14_read.l2 kq a0 x4_9 x5_17 x6_5 x7_5 = some (r1, r2)) ∧ Aside0 (kq ≤ kj22) ∧ Aside0 (w'.heap[gb352]? = some (.cells #[.bool x353000_5, .int .i64 x353001_5] 42 (0, 0))) ∧ Aside0 (Below w.heap.size w w'))
          case atStart => exact ⟨(0), (x3_22), (false), (0), (by first | rfl | (simp; done) | (simp [*]; done)), (by first | rfl | (simp; done) | (simp [*]; done)), H', ⟨Nat.le_refl _⟩, ⟨bk_ BK352.out⟩, ⟨hb1_ GE352.out⟩⟩
          case round =>
           clear H'
           try clear c1
           try clear p1
           try clear q1
           try clear hx1
           try clear c2
           try clear p2
           try clear q2
           try clear hx2
           try clear c3
           try clear c4
           try clear c4b0
           try clear c5
           try clear c5b0
           try clear c6
           try clear c6b0
           try clear p6
           try clear p7
           try clear q7
           try clear hx7
           try clear c9
           try clear c11
           try clear c11b0
           try clear c13
           try clear c13b0
           try clear c14
           try clear c14b0
           try clear p15
           try clear q15
           try clear hx15
           try clear c17
           try clear c19
           try clear c19b0
           try clear c20
           try clear c20b0
           try clear c21
           try clear c21b0
           try clear p22
           try clear q22
           try clear hx22
           try clear c24
           try clear c25
           try clear c25b0
           try clear c25b1
           try clear hcz26_0
           try clear hcz26_1
           try clear hfz26_0
           try clear hfz26_1
           try clear p1
           try clear p15
           try clear p2
           try clear p22
           try clear p6
           try clear p7
           try clear q1
           try clear q15
           try clear q2
           try clear q22
           try clear q7
           obtain ⟨x6_5, x7_5, x353000_5, x353001_5, rfl, rfl, HA, HK5, BK352, HB⟩ := hrel
           cases gk with
           | zero => exact absurd HA.out (by simp [espalierref14_read.l2])
           | succ k5 =>
            have H := HA.out
            clear HA
            simp only [espalierref14_read.l2] at H
            by_cases c27 : x7_5 < x4_9
            ·rw [if_pos c27] at H
             have c27b0 : decide (x7_5 < x4_9) = true := decide_eq_true c27
             clear c27
             have HC28 := Aside0.mk H
             clear H
             go_upto_region 15 with (fail)
             go_cut [65] (fun v65 wc => ∃ (kq : Nat) (x65_27 : Bool), v65 = .bool x65_27 ∧ Aside0 (espalierref14_read.j7 kq a0 x4_9 x5_17 x6_5 x7_5 x65_27 = some (r1, r2)) ∧ Aside0 (kq ≤ k5) ∧ Aside0 (wc.heap[gb352]? = some (.cells #[.bool x353000_5, .int .i64 x353001_5] 42 (0, 0))) ∧ Aside0 (Below w.heap.size w wc))
             case first =>
              have H := HC28.out
              clear HC28
              by_cases c29 : 0 ≤ x7_5
              ·rw [if_pos c29] at H
               have c29b0 : decide (0 ≤ x7_5) = true := decide_eq_true c29
               clear c29
               (first | rw [c29b0] | (simp only [i64_w, i32_w]; rw [c29b0]) | skip)
               by_cases c30 : x7_5 < (a0.size : Int)
               ·rw [if_pos c30] at H
                have c30b0 : decide (x7_5 < (a0.size : Int)) = true := decide_eq_true c30
                clear c30
                by_cases c32 : (bt a0 x7_5) < 48
                ·rw [if_pos c32] at H
                 have c32b0 : decide ((bt a0 x7_5) < 48) = true := decide_eq_true c32
                 clear c32
                 have H' := Aside0.mk H
                 clear H
                 have p31 : 0 ≤ (x7_5 : Int) := of_decide_eq_true (by first | (with_reducible assumption) | assumption)
                 have q31 : x7_5 < (a0.size : Int) := of_decide_eq_true (by first | (with_reducible assumption) | assumption)
                 have hx31 := bt_at a0 x7_5
                 replace p31 := eq_true p31
                 replace q31 := eq_true q31
                 go_wp2
                 go_meet
                 case rel => exact ⟨_, (true), (by first | rfl | (simp; done) | (simp [*]; done)), H', ⟨by have := HJ1.out; have := HJ9.out; have := HJ17.out; have := HJ22.out; have := HK5.out; first | omega | exact Nat.le_refl _⟩, ⟨bk_ BK352.out⟩, ⟨hb1_ GE352.out⟩⟩
                ·rw [if_neg c32] at H
                 have c32b0 : decide ((bt a0 x7_5) < 48) = false := decide_eq_false c32
                 clear c32
                 have H' := Aside0.mk H
                 clear H
                 have p31 : 0 ≤ (x7_5 : Int) := of_decide_eq_true (by first | (with_reducible assumption) | assumption)
                 have q31 : x7_5 < (a0.size : Int) := of_decide_eq_true (by first | (with_reducible assumption) | assumption)
                 have hx31 := bt_at a0 x7_5
                 replace p31 := eq_true p31
                 replace q31 := eq_true q31
                 have p33 : 0 ≤ (x7_5 : Int) := of_decide_eq_true (by first | (with_reducible assumption) | assumption)
                 have q33 : x7_5 < (a0.size : Int) := of_decide_eq_true (by first | (with_reducible assumption) | assumption)
                 have hx33 := bt_at a0 x7_5
                 replace p33 := eq_true p33
                 replace q33 := eq_true q33
                 go_wp2
                 go_meet
                 case rel => exact ⟨_, (decide ((bt a0 x7_5) > 57)), (by first | rfl | (simp; done) | (simp [*]; done)), H', ⟨by have := HJ1.out; have := HJ9.out; have := HJ17.out; have := HJ22.out; have := HK5.out; first | omega | exact Nat.le_refl _⟩, ⟨bk_ BK352.out⟩, ⟨hb1_ GE352.out⟩⟩
               ·rw [if_neg c30] at H
                exact absurd H (by simp)
              ·rw [if_neg c29] at H
               exact absurd H (by simp)
             case rest =>
              clear HC28
              try clear c1
              try clear p1
              try clear q1
              try clear hx1
              try clear c2
              try clear p2
              try clear q2
              try clear hx2
              try clear c3
              try clear p3
              try clear q3
              try clear hx3
              try clear c4
              try clear c4b0
              try clear c5
              try clear c5b0
              try clear c6
              try clear c6b0
              try clear p6
              try clear p7
              try clear q7
              try clear hx7
              try clear c9
              try clear c11
              try clear c11b0
              try clear c13
              try clear c13b0
              try clear c14
              try clear c14b0
              try clear p15
              try clear q15
              try clear hx15
              try clear c17
              try clear c19
              try clear c19b0
              try clear c20
              try clear c20b0
              try clear c21
              try clear c21b0
              try clear p22
              try clear q22
              try clear hx22
              try clear c24
              try clear c25
              try clear c25b0
              try clear c25b1
              try clear c27
              try clear c27b0
              try clear c29
              try clear c29b0
              try clear c30
              try clear c30b0
              try clear p31
              try clear q31
              try clear hx31
              try clear c32
              try clear c32b0
              try clear p33
              try clear q33
              try clear hx33
              try clear hcz26_0
              try clear hcz26_1
              try clear hfz26_0
              try clear hfz26_1
              try clear p1
              try clear p15
              try clear p2
              try clear p22
              try clear p31
              try clear p33
              try clear p6
              try clear p7
              try clear q1
              try clear q15
              try clear q2
              try clear q22
              try clear q31
              try clear q33
              try clear q7
              obtain ⟨kq, x65_27, rfl, HA, HJ27, BK352, HB⟩ := hcut
              cases kq with
              | zero => exact absurd HA.out (by simp [espalierref14_read.j7])
              | succ kj27 =>
               have H := HA.out
               clear HA
               simp only [espalierref14_read.j7] at H
               by_cases c34 : x65_27 = true
               ·subst c34
                rw [if_pos rfl] at H
                simp only [Option.some.injEq, Prod.mk.injEq] at H
                obtain ⟨rfl, rfl⟩ := H
                have hcz35_0 : wc.cell? ⟨gb352, 0, none⟩ = some (.bool x353000_5) := (blk_cell BK352.out 0).trans rfl
                have hcz35_1 : wc.cell? ⟨gb352, 1, none⟩ = some (.int .i64 x353001_5) := (blk_cell BK352.out 1).trans rfl
                have hfz35_0 := blk_frozen BK352.out 0
                have hfz35_1 := blk_frozen BK352.out 1
                go_wp2
                refine bodyPost_ret (results_cell_row rfl _ _ gb352 42 #[.bool false, .int .i64 0] (0, 0) _ rfl (bp_ BK352.out) Tryz.underlying42 rfl (by kernel_rfl)) rfl ?_
                exact ⟨er_, hb1_ GE352.out⟩
               ·replace c34 := Bool.eq_false_iff.mpr c34
                subst c34
                rw [if_neg (show ¬ (false = true) by decide)] at H
                by_cases c36 : 0 ≤ x7_5
                ·rw [if_pos c36] at H
                 have c36b0 : decide (0 ≤ x7_5) = true := decide_eq_true c36
                 clear c36
                 by_cases c37 : x7_5 < (a0.size : Int)
                 ·rw [if_pos c37] at H
                  have c37b0 : decide (x7_5 < (a0.size : Int)) = true := decide_eq_true c37
                  clear c37
                  by_cases c39 : x6_5 > ((9223372036854775808 - (((bt a0 x7_5) - 48) % 256)) / 10)
                  ·rw [if_pos c39] at H
                   have c39b0 : decide (((9223372036854775808 - (((bt a0 x7_5) - 48) % 256)) / 10) < x6_5) = true := decide_eq_true c39
                   clear c39
                   simp only [Option.some.injEq, Prod.mk.injEq] at H
                   obtain ⟨rfl, rfl⟩ := H
                   have p38 : 0 ≤ (x7_5 : Int) := of_decide_eq_true (by first | (with_reducible assumption) | assumption)
                   have q38 : x7_5 < (a0.size : Int) := of_decide_eq_true (by first | (with_reducible assumption) | assumption)
                   have hx38 := bt_at a0 x7_5
                   replace p38 := eq_true p38
                   replace q38 := eq_true q38
                   have hcz40_0 : wc.cell? ⟨gb352, 0, none⟩ = some (.bool x353000_5) := (blk_cell BK352.out 0).trans rfl
                   have hcz40_1 : wc.cell? ⟨gb352, 1, none⟩ = some (.int .i64 x353001_5) := (blk_cell BK352.out 1).trans rfl
                   have hfz40_0 := blk_frozen BK352.out 0
                   have hfz40_1 := blk_frozen BK352.out 1
                   go_wp2
                   refine bodyPost_ret (results_cell_row rfl _ _ gb352 42 #[.bool false, .int .i64 0] (0, 0) _ rfl (bp_ BK352.out) Tryz.underlying42 rfl (by kernel_rfl)) rfl ?_
                   exact ⟨er_, hb1_ GE352.out⟩
                  ·rw [if_neg c39] at H
                   have c39b0 : decide (((9223372036854775808 - (((bt a0 x7_5) - 48) % 256)) / 10) < x6_5) = false := decide_eq_false c39
                   clear c39
                   have H' := Aside0.mk H
                   clear H
                   have p38 : 0 ≤ (x7_5 : Int) := of_decide_eq_true (by first | (with_reducible assumption) | assumption)
                   have q38 : x7_5 < (a0.size : Int) := of_decide_eq_true (by first | (with_reducible assumption) | assumption)
                   have hx38 := bt_at a0 x7_5
                   replace p38 := eq_true p38
                   replace q38 := eq_true q38
                   go_wp2
                   go_roundg kj27
                   case measure => have := HJ1.out; have := HJ9.out; have := HJ17.out; have := HJ22.out; have := HK5.out; have := HJ27.out; omega
                   case rel => exact ⟨(IntKind.u64.wrap ((IntKind.u64.wrap (10 * x6_5)) + (((bt a0 x7_5) - 48) % 256))), (wrap64 (x7_5 + 1)), (x353000_5), (x353001_5), (by first | rfl | (simp; done) | (simp [*]; done)), (by first | rfl | (simp; done) | (simp [*]; done)), H', ⟨by have := HJ1.out; have := HJ9.out; have := HJ17.out; have := HJ22.out; have := HK5.out; have := HJ27.out; omega⟩, ⟨bk_ BK352.out⟩, ⟨hb1_ GE352.out⟩⟩
                 ·rw [if_neg c37] at H
                  exact absurd H (by simp)
                ·rw [if_neg c36] at H
                 exact absurd H (by simp)
            ·rw [if_neg c27] at H
             have c27b0 : decide (x7_5 < x4_9) = false := decide_eq_false c27
             clear c27
             by_cases c41 : x5_17 = true
             ·subst c41
              rw [if_pos rfl] at H
              by_cases c42 : x6_5 = 9223372036854775808
              ·rw [if_pos c42] at H
               have c42b0 := beq_iff_eq.mpr c42
               have c42b1 := bne_eq_false_iff_eq.mpr c42
               clear c42
               simp only [Option.some.injEq, Prod.mk.injEq] at H
               obtain ⟨rfl, rfl⟩ := H
               have hcz43_0 : wr.cell? ⟨gb352, 0, none⟩ = some (.bool x353000_5) := (blk_cell BK352.out 0).trans rfl
               have hcz43_1 : wr.cell? ⟨gb352, 1, none⟩ = some (.int .i64 x353001_5) := (blk_cell BK352.out 1).trans rfl
               have hfz43_0 := blk_frozen BK352.out 0
               have hfz43_1 := blk_frozen BK352.out 1
               go_wp2
               refine bodyPost_ret (results_cell_row rfl _ _ gb352 42 #[.bool true, .int .i64 (-9223372036854775808)] (0, 0) _ rfl (bp_ BK352.out) Tryz.underlying42 rfl (by kernel_rfl)) rfl ?_
               exact ⟨er_, hb1_ GE352.out⟩
              ·rw [if_neg c42] at H
               have c42b0 := beq_eq_false_iff_ne.mpr c42
               have c42b1 := bne_iff_ne.mpr c42
               simp only [Option.some.injEq, Prod.mk.injEq] at H
               obtain ⟨rfl, rfl⟩ := H
               have hcz44_0 : wr.cell? ⟨gb352, 0, none⟩ = some (.bool x353000_5) := (blk_cell BK352.out 0).trans rfl
               have hcz44_1 : wr.cell? ⟨gb352, 1, none⟩ = some (.int .i64 x353001_5) := (blk_cell BK352.out 1).trans rfl
               have hfz44_0 := blk_frozen BK352.out 0
               have hfz44_1 := blk_frozen BK352.out 1
               go_wp2
               refine bodyPost_ret (results_cell_row rfl _ _ gb352 42 #[.bool true, .int .i64 (wrap64 (-(wrap64 (x6_5))))] (0, 0) _ rfl (bp_ BK352.out) Tryz.underlying42 rfl (by kernel_rfl)) rfl ?_
               exact ⟨er_, hb1_ GE352.out⟩
             ·replace c41 := Bool.eq_false_iff.mpr c41
              subst c41
              rw [if_neg (show ¬ (false = true) by decide)] at H
              simp only [Option.some.injEq, Prod.mk.injEq] at H
              obtain ⟨rfl, rfl⟩ := H
              have hcz45_0 : wr.cell? ⟨gb352, 0, none⟩ = some (.bool x353000_5) := (blk_cell BK352.out 0).trans rfl
              have hcz45_1 : wr.cell? ⟨gb352, 1, none⟩ = some (.int .i64 x353001_5) := (blk_cell BK352.out 1).trans rfl
              have hfz45_0 := blk_frozen BK352.out 0
              have hfz45_1 := blk_frozen BK352.out 1
              go_wp2
              refine bodyPost_ret (results_cell_row rfl _ _ gb352 42 #[.bool (decide (x6_5 < 9223372036854775808)), .int .i64 (wrap64 (Int.tmod x6_5 9223372036854775808))] (0, 0) _ rfl (bp_ BK352.out) Tryz.underlying42 rfl (by kernel_rfl)) rfl ?_
              exact ⟨er_, hb1_ GE352.out⟩

end Go.Proofs.YtnkjchcaonaifaaGreatDoor.PA
