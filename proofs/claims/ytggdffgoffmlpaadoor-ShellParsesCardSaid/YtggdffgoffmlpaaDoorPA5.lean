-- Written by a program of this session (wip/tools/xprint.py: the kit's print, with given functions). Not trusted: Lean checks it.
import Derived.Test.YtggdffgoffmlpaaDoorPA0
import Derived.Test.YtggdffgoffmlpaaDoorPA1
import Derived.Test.YtggdffgoffmlpaaDoorPA2
import Derived.Test.YtggdffgoffmlpaaDoorPA4
import Derived.Test.YtggdffgoffmlpaaDoorUShellLib
import Derived.Test.YtggdffgoffmlpaaDoorUStrings
namespace Go.Proofs.YtggdffgoffmlpaaDoor.PA
open Go.RowKit Go.Proofs.YtggdffgoffmlpaaDoorW.PrintWords Go.Proofs.YtggdffgoffmlpaaDoorW.PrintLast Go.Proofs.YtggdffgoffmlpaaDoorW.PrintMore
attribute [local go_sem] max2_int min2_int max_two min_two max_three min_three max_four min_four   -- for this text's walks alone
set_option linter.unusedVariables false
set_option linter.unusedSimpArgs false

/-! ### shell_parsed: function 12 -/
mutual
def shell_parsed.j0 : Nat → ByteArray → ByteArray → Bool → Option (Int × ByteArray × List ByteArray × Bool)
 | 0, _, _, _ => none
 | k + 1, x4, x5, x22 => if x22 = true then (some (0, (⟨#[]⟩ : ByteArray), ([] : List ByteArray), true)) else ((shell_shape.f k x4).bind fun bt145 => (if bt145.2 = true then (shell_parsed.l0 k x5 bt145.1 (bt145.1.size : Int) 0 0 x4 ([] : List ByteArray)) else (some (0, (⟨#[]⟩ : ByteArray), ([] : List ByteArray), false))))
def shell_parsed.l0 : Nat → ByteArray → ByteArray → Int → Int → Int → ByteArray → List ByteArray → Option (Int × ByteArray × List ByteArray × Bool)
 | 0, _, _, _, _, _, _, _ => none
 | k + 1, x5, x6, x35, x36, x148000, x148001, x148002 => if x36 < x35 then (if 0 ≤ x36 then (if x36 < (x6.size : Int) then (if (bt x6 x36) = 86 then (shell_parsed.j2 k x5 x6 x36 x35 x36 (bt x6 x36) ((bt x6 x36) == 86) x148000 x148001 x148002) else (shell_parsed.j2 k x5 x6 x36 x35 x36 (bt x6 x36) ((bt x6 x36) == 63) x148000 x148001 x148002)) else (none)) else (none)) else ((strings_Trim.f x5 (⟨#[32]⟩ : ByteArray)).bind fun t148 => (some (x148000, x148001, x148002, (t148.toList == ([] : List UInt8)))))
def shell_parsed.j2 : Nat → ByteArray → ByteArray → Int → Int → Int → Int → Bool → Int → ByteArray → List ByteArray → Option (Int × ByteArray × List ByteArray × Bool)
 | 0, _, _, _, _, _, _, _, _, _, _ => none
 | k + 1, x5, x6, x9, x35, x36, x41, x42, x148000, x148001, x148002 => if x42 = true then ((strings_Trim.f x5 (⟨#[32]⟩ : ByteArray)).bind fun t149 => (if t149.toList = ([] : List UInt8) then (if 0 ≤ x9 then (if x9 < (x6.size : Int) then (some (x148000, x148001, x148002, ((bt x6 x9) == 63))) else (none)) else (none)) else (if x148002.length < 8796093022208 then (some (x148000, x148001, (x148002 ++ [t149]), true)) else (none)))) else (if x41 = 87 then ((strings_FieldsFunc.f x5).bind fun t153 => (some (x148000, x148001, t153, decide ((t153.length : Int) > 0)))) else ((shell_word.f x5).bind fun bt156 => (if 0 ≤ x9 then (if x9 < (x6.size : Int) then ((shell_fits.f k (bt x6 x9) bt156.1).bind fun t158 => (if t158 = true then (if x148002.length < 8796093022208 then (shell_parsed.l0 k bt156.2 x6 x35 (wrap64 (x36 + 1)) x148000 x148001 (x148002 ++ [bt156.1])) else (none)) else (some (0, (⟨#[]⟩ : ByteArray), ([] : List ByteArray), false)))) else (none)) else (none))))
end
def shell_parsed.f (k : Nat) (a0 : ByteArray) : Option (Int × ByteArray × List ByteArray × Bool) := (shell_word.f a0).bind fun bt143 => (if bt143.1.toList = ([] : List UInt8) then (shell_parsed.j0 k bt143.1 bt143.2 true) else (if 0 < (bt143.1.size : Int) then (shell_parsed.j0 k bt143.1 bt143.2 ((bt bt143.1 0) == 35)) else (none)))
theorem shell_parsed.mono_l : ∀ k, (∀ y0 y1 y2, LeO (shell_parsed.j0 k y0 y1 y2) (shell_parsed.j0 (k + 1) y0 y1 y2)) ∧ (∀ y0 y1 y2 y3 y4 y5 y6, LeO (shell_parsed.l0 k y0 y1 y2 y3 y4 y5 y6) (shell_parsed.l0 (k + 1) y0 y1 y2 y3 y4 y5 y6)) ∧ (∀ y0 y1 y2 y3 y4 y5 y6 y7 y8 y9, LeO (shell_parsed.j2 k y0 y1 y2 y3 y4 y5 y6 y7 y8 y9) (shell_parsed.j2 (k + 1) y0 y1 y2 y3 y4 y5 y6 y7 y8 y9))
 | 0 => ⟨fun _ _ _ r h => by simp [shell_parsed.j0] at h, fun _ _ _ _ _ _ _ r h => by simp [shell_parsed.l0] at h, fun _ _ _ _ _ _ _ _ _ _ r h => by simp [shell_parsed.j2] at h⟩
 | k + 1 => by
  obtain ⟨ih0, ih1, ih2⟩ := shell_parsed.mono_l k
  refine ⟨?_, ?_, ?_⟩
  ·intro y0 y1 y2
   unfold shell_parsed.j0
   repeat' first
   | (with_reducible exact ih0 _ _ _)
   | (with_reducible exact ih1 _ _ _ _ _ _ _)
   | (with_reducible exact ih2 _ _ _ _ _ _ _ _ _ _)
   | (with_reducible exact shell_fits.mono _ _ _)
   | (with_reducible exact shell_shape.mono _ _)
   | (with_reducible exact LeO.refl _)
   | (with_reducible exact LeO.none _)
   | (with_reducible refine LeO.ite ?_ ?_)
   | (with_reducible refine LeO.bind ?_ (fun _ => ?_))
   | exact ih0 _ _ _
   | exact ih1 _ _ _ _ _ _ _
   | exact ih2 _ _ _ _ _ _ _ _ _ _
   | exact shell_fits.mono _ _ _
   | exact shell_shape.mono _ _
   | exact LeO.none _
   | refine LeO.ite ?_ ?_
   | refine LeO.bind ?_ (fun _ => ?_)
  ·intro y0 y1 y2 y3 y4 y5 y6
   unfold shell_parsed.l0
   repeat' first
   | (with_reducible exact ih0 _ _ _)
   | (with_reducible exact ih1 _ _ _ _ _ _ _)
   | (with_reducible exact ih2 _ _ _ _ _ _ _ _ _ _)
   | (with_reducible exact shell_fits.mono _ _ _)
   | (with_reducible exact shell_shape.mono _ _)
   | (with_reducible exact LeO.refl _)
   | (with_reducible exact LeO.none _)
   | (with_reducible refine LeO.ite ?_ ?_)
   | (with_reducible refine LeO.bind ?_ (fun _ => ?_))
   | exact ih0 _ _ _
   | exact ih1 _ _ _ _ _ _ _
   | exact ih2 _ _ _ _ _ _ _ _ _ _
   | exact shell_fits.mono _ _ _
   | exact shell_shape.mono _ _
   | exact LeO.none _
   | refine LeO.ite ?_ ?_
   | refine LeO.bind ?_ (fun _ => ?_)
  ·intro y0 y1 y2 y3 y4 y5 y6 y7 y8 y9
   unfold shell_parsed.j2
   repeat' first
   | (with_reducible exact ih0 _ _ _)
   | (with_reducible exact ih1 _ _ _ _ _ _ _)
   | (with_reducible exact ih2 _ _ _ _ _ _ _ _ _ _)
   | (with_reducible exact shell_fits.mono _ _ _)
   | (with_reducible exact shell_shape.mono _ _)
   | (with_reducible exact LeO.refl _)
   | (with_reducible exact LeO.none _)
   | (with_reducible refine LeO.ite ?_ ?_)
   | (with_reducible refine LeO.bind ?_ (fun _ => ?_))
   | exact ih0 _ _ _
   | exact ih1 _ _ _ _ _ _ _
   | exact ih2 _ _ _ _ _ _ _ _ _ _
   | exact shell_fits.mono _ _ _
   | exact shell_shape.mono _ _
   | exact LeO.none _
   | refine LeO.ite ?_ ?_
   | refine LeO.bind ?_ (fun _ => ?_)
theorem shell_parsed.mono : ∀ a0 k, LeO (shell_parsed.f k a0) (shell_parsed.f (k + 1) a0) := by
 intro a0 k
 obtain ⟨ih0, ih1, ih2⟩ := shell_parsed.mono_l k
 unfold shell_parsed.f
 repeat' first
   | (with_reducible exact ih0 _ _ _)
   | (with_reducible exact ih1 _ _ _ _ _ _ _)
   | (with_reducible exact ih2 _ _ _ _ _ _ _ _ _ _)
   | (with_reducible exact shell_fits.mono _ _ _)
   | (with_reducible exact shell_shape.mono _ _)
   | (with_reducible exact LeO.refl _)
   | (with_reducible exact LeO.none _)
   | (with_reducible refine LeO.ite ?_ ?_)
   | (with_reducible refine LeO.bind ?_ (fun _ => ?_))
   | exact ih0 _ _ _
   | exact ih1 _ _ _ _ _ _ _
   | exact ih2 _ _ _ _ _ _ _ _ _ _
   | exact shell_fits.mono _ _ _
   | exact shell_shape.mono _ _
   | exact LeO.none _
   | refine LeO.ite ?_ ?_
   | refine LeO.bind ?_ (fun _ => ?_)
def shell_parsed.T17 : Bool × List (List Nat × List Nat) := (true, [([], []), ([], []), ([1], [1]), ([2], [2]), ([3], [3]), ([3], [3]), ([4, 5, 3], [3, 4, 5]), ([6, 3], [3, 6]), ([3, 7], [3, 7]), ([0, 3, 0], [0]), ([8, 9, 0, 1, 2, 3, 4, 5, 6, 7, 8, 9], [8])])
def shell_parsed.B17 : List Nat := [0, 0, 2, 6, 14, 14, 62, 126, 254, 15, 1023]
theorem shell_parsed.tab17 : rtab .any (opsOf Tryd.f12 17) = shell_parsed.T17 := by kernel_rfl
theorem shell_parsed.bits17 : waitsOk shell_parsed.T17.2 shell_parsed.B17 = true := by kernel_rfl
set_option maxHeartbeats 8000000 in
set_option maxRecDepth 100000 in
theorem shell_parsed.calls (k : Nat) (a0 : ByteArray) (r1 : Int) (r2 : ByteArray) (r3 : List ByteArray) (r4 : Bool) (w : World) (h : shell_parsed.f k a0 = some (r1, r2, r3, r4)) (hG3 : Glob3 w := by first | exact Glob3.step HG3.out (by repeat (first | (with_reducible first | exact HB.out | apply below_alloc | apply pw_below_drewN | apply below_drew1) | exact HB.out | (refine below_set ?_ (Aside0.out (by assumption))))) | exact HG3.out | assumption) :
  Calls Tryd.prog 12 #[.string a0] w fun e w' => ∃ v2_ : Value, e = .returned (.tuple #[.agg #[.int .i64 r1, .string r2, v2_], .bool r4]) ∧ Kd.R Kd.string 9 w' w.heap.size (fun _ => True) v2_ r3 ∧ Below w.heap.size w w' := by
 have HG3 := Aside0.mk hG3
 clear hG3
 have hu28 := Tryd.underlying28
 have HB := Aside0.mk (Below.refl w.heap.size w)
 have H : ((shell_word.f a0).bind fun bt143 => (if bt143.1.toList = ([] : List UInt8) then (shell_parsed.j0 k bt143.1 bt143.2 true) else (if 0 < (bt143.1.size : Int) then (shell_parsed.j0 k bt143.1 bt143.2 ((bt bt143.1 0) == 35)) else (none)))) = some (r1, r2, r3, r4) := h
 clear h
 replace H := Option.bind_eq_some_iff.mp H
 obtain ⟨⟨t143, t144⟩, A20, H⟩ := H
 replace H : (if t143.toList = ([] : List UInt8) then (shell_parsed.j0 k t143 t144 true) else (if 0 < (t143.size : Int) then (shell_parsed.j0 k t143 t144 ((bt t143 0) == 35)) else (none))) = some (r1, r2, r3, r4) := H
 have A2 := Aside0.mk A20
 clear A20
 have HC3 := Aside0.mk H
 clear H
 go_enter Tryd.func12, Tryd.ntmps12
 go_upto_region 2 with (first | ((with_reducible refine gate_dst (N := 2) rfl ?_); refine box_event ?hg (N := 2) ?hd (cs := #[.int .i64 0, .string (⟨#[]⟩ : ByteArray), .slice none 0 0]) (t := 28) ?hr ?_; (case hd => rfl); (case hg => rfl); (case hr => first | (go_simp; done) | (go_simp; rfl)); intro gb142 hg w4 hbox hb; have n0_ := Aside0.mk (below_step hb_ hb); have n1_ := Aside0.mk (hbox); have n2_ := Aside0.mk ((by rw [hg]; exact (below_size hb_) : w.heap.size ≤ gb142)); have n3_ := Aside0.mk ((by rw [hg]; exact (below_size hb_) : w.heap.size ≤ gb142)); clear HB; have HB := n0_; have BK142 := n1_; have GW142 := n2_; have GE142 := n3_; clear n0_ n1_ n2_ n3_; clear hb hbox hg) | ((with_reducible refine gate_callee (f := 16) rfl ?_); refine goesL_ (some 13) rfl rfl Tryd.func16 (by kernel_rfl) rfl #[.string a0] rfl rf_ ?_; (with_reducible refine (shell_word.calls a0 t143 t144 _ A2.out).mono ?_); rintro e w5 ⟨rfl, hb⟩; refine ⟨_, rfl, ?_⟩; have n0_ := Aside0.mk (blk_below (g := gb142) (o := .cells #[.int .i64 0, .string (⟨#[]⟩ : ByteArray), .slice none 0 0] 28 (0, 0)) (bk_ BK142.out) hb); have n1_ := Aside0.mk (below_step (hb1_ GE142.out) hb); clear BK142; clear HB; have BK142 := n0_; have HB := n1_; clear n0_ n1_; (try clear hb); (try clear hb2); (try clear hk); (try clear hi)))
 (try simp only [Act.put, List.setIfInBounds_toArray, List.set_cons_zero, List.set_cons_succ])
 go_cut [22] (fun v22 wc => ∃ (kq : Nat) (x22_2 : Bool), v22 = .bool x22_2 ∧ Aside0 (shell_parsed.j0 kq t143 t144 x22_2 = some (r1, r2, r3, r4)) ∧ Aside0 (kq ≤ k) ∧ Aside0 (wc.heap[gb142]? = some (.cells #[.int .i64 0, .string (⟨#[]⟩ : ByteArray), (.slice none 0 0)] 28 (0, 0))) ∧ Aside0 (Below w.heap.size w wc))
 case first =>
  have H := HC3.out
  clear HC3
  by_cases c6 : t143.toList = ([] : List UInt8)
  ·rw [if_pos c6] at H
   have c6b0 : (t143.toList == ([] : List UInt8)) = true := beq_iff_eq.mpr c6
   have c6b1 : (t143.toList != ([] : List UInt8)) = false := bne_eq_false_iff_eq.mpr c6
   clear c6
   (first | rw [c6b0] | (simp only [i64_w, i32_w]; rw [c6b0]) | skip)
   have H' := Aside0.mk H
   clear H
   go_wp2
   go_meet
   case rel => exact ⟨_, (true), (by first | rfl | (simp; done) | (simp [*]; done)), H', ⟨by first | omega | exact Nat.le_refl _⟩, ⟨by (with_reducible repeat (first | refine blk_drewN ?_ _ | refine blk_drew ?_ | refine blk_alloc ?_ _)); exact BK142.out⟩, ⟨by repeat (first | (with_reducible first | exact HB.out | apply below_alloc | apply pw_below_drewN | apply below_drew1 | refine below_set ?_ GE142.out) | exact HB.out)⟩⟩
  ·rw [if_neg c6] at H
   have c6b0 : (t143.toList == ([] : List UInt8)) = false := beq_eq_false_iff_ne.mpr c6
   have c6b1 : (t143.toList != ([] : List UInt8)) = true := bne_iff_ne.mpr c6
   (first | rw [c6b0] | (simp only [i64_w, i32_w]; rw [c6b0]) | skip)
   by_cases c7 : 0 < (t143.size : Int)
   ·rw [if_pos c7] at H
    have c7b0 : decide (0 < (t143.size : Int)) = true := decide_eq_true c7
    have c7b1 : decide (0 < t143.size) = true := decide_eq_true (by omega)
    clear c7
    have H' := Aside0.mk H
    clear H
    have p8 : 0 ≤ (0 : Int) := (by omega)
    have q8 : 0 < t143.size := (by have : (0 : Int) < (t143.size : Int) := of_decide_eq_true (by first | (with_reducible assumption) | assumption); omega)
    have hx8 : ∀ h : 0 < t143.size, ((t143[0]'h).toNat : Int) = bt t143 0 := bt_at t143 0
    clear p8
    have qi8 : (0 < (t143.size : Int)) = True := eq_true (of_decide_eq_true (by first | (with_reducible assumption) | assumption))
    replace q8 := eq_true q8
    go_wp2
    go_meet
    case rel => exact ⟨_, (((bt t143 0) == 35)), (by first | rfl | (simp; done) | (simp [*]; done)), H', ⟨by first | omega | exact Nat.le_refl _⟩, ⟨by (with_reducible repeat (first | refine blk_drewN ?_ _ | refine blk_drew ?_ | refine blk_alloc ?_ _)); exact BK142.out⟩, ⟨by repeat (first | (with_reducible first | exact HB.out | apply below_alloc | apply pw_below_drewN | apply below_drew1 | refine below_set ?_ GE142.out) | exact HB.out)⟩⟩
   ·rw [if_neg c7] at H
    exact absurd H (by simp)
 case rest =>
  clear HC3
  try clear c1
  try clear p2
  try clear c6
  try clear c6b0
  try clear c6b1
  try clear c7
  try clear c7b0
  try clear c7b1
  try clear p8
  try clear q8
  try clear hx8
  try clear qi8
  try clear p8
  try clear q8
  obtain ⟨kq, x22_2, rfl, HA, HJ2, BK142, HB⟩ := hcut
  cases kq with
  | zero => exact absurd HA.out (by simp [shell_parsed.j0])
  | succ kj2 =>
   have H := HA.out
   clear HA
   simp only [shell_parsed.j0] at H
   by_cases c9 : x22_2 = true
   ·subst c9
    have H1 : (some (0, (⟨#[]⟩ : ByteArray), ([] : List ByteArray), true)) = some (r1, r2, r3, r4) := by rw [if_pos rfl] at H; exact H
    clear H
    have H := H1
    clear H1
    simp only [Option.some.injEq, Prod.mk.injEq] at H
    obtain ⟨rfl, rfl, rfl, rfl⟩ := H
    have hcz10_0 : wc.cell? ⟨gb142, 0, none⟩ = some (.int .i64 0) := (blk_cell BK142.out 0).trans rfl
    have hcz10_1 : wc.cell? ⟨gb142, 1, none⟩ = some (.string (⟨#[]⟩ : ByteArray)) := (blk_cell BK142.out 1).trans rfl
    have hcz10_2 : wc.cell? ⟨gb142, 2, none⟩ = some (.slice none 0 0) := (blk_cell BK142.out 2).trans rfl
    have hfz10_0 := blk_frozen BK142.out 0
    have hfz10_1 := blk_frozen BK142.out 1
    have hfz10_2 := blk_frozen BK142.out 2
    go_wp2
    refine bodyPost_ret (results_ct rfl _ _ gb142 28 #[.int .i64 0, .string (⟨#[]⟩ : ByteArray), .slice none 0 0] (0, 0) _ rfl (by (with_reducible repeat (first | refine blk_drewN ?_ _ | refine blk_drew ?_ | refine blk_alloc ?_ _)); refine blk_put (cs := #[.int .i64 0, .string (⟨#[]⟩ : ByteArray), .slice none 0 0]) ?_ 2 _ rfl; (with_reducible repeat (first | refine blk_drewN ?_ _ | refine blk_drew ?_ | refine blk_alloc ?_ _)); refine blk_put (cs := #[.int .i64 0, .string (⟨#[]⟩ : ByteArray), .slice none 0 0]) ?_ 1 _ rfl; (with_reducible repeat (first | refine blk_drewN ?_ _ | refine blk_drew ?_ | refine blk_alloc ?_ _)); refine blk_put (cs := #[.int .i64 0, .string (⟨#[]⟩ : ByteArray), .slice none 0 0]) ?_ 0 _ rfl; (with_reducible repeat (first | refine blk_drewN ?_ _ | refine blk_drew ?_ | refine blk_alloc ?_ _)); exact BK142.out) Tryd.underlying28 rfl (by kernel_rfl)) rfl ?_
    exact ⟨_, er_, by first | exact Kd.R_nil _ _ _ _ _ | exact Kd.N_nil _ _ _ _ _ | exact Kd.V_nil _ _ _ _ _ | exact Kd.Q_nil _ _ _ _ _ | exact Kd.S_nil _ _ _ _ _, by repeat (first | (with_reducible first | exact HB.out | apply below_alloc | apply pw_below_drewN | apply below_drew1 | refine below_set ?_ GE142.out) | exact HB.out)⟩
   ·replace c9 := Bool.eq_false_iff.mpr c9
    subst c9
    have H1 : ((shell_shape.f kj2 t143).bind fun bt145 => (if bt145.2 = true then (shell_parsed.l0 kj2 t144 bt145.1 (bt145.1.size : Int) 0 0 t143 ([] : List ByteArray)) else (some (0, (⟨#[]⟩ : ByteArray), ([] : List ByteArray), false)))) = some (r1, r2, r3, r4) := by rw [if_neg (show ¬ (false = true) by decide)] at H; exact H
    clear H
    have H := H1
    clear H1
    replace H := Option.bind_eq_some_iff.mp H
    obtain ⟨⟨t145, t146⟩, A110, H⟩ := H
    replace H : (if t146 = true then (shell_parsed.l0 kj2 t144 t145 (t145.size : Int) 0 0 t143 ([] : List ByteArray)) else (some (0, (⟨#[]⟩ : ByteArray), ([] : List ByteArray), false))) = some (r1, r2, r3, r4) := H
    have A11 := Aside0.mk A110
    clear A110
    by_cases c12 : t146 = true
    ·subst c12
     have H1 : (shell_parsed.l0 kj2 t144 t145 (t145.size : Int) 0 0 t143 ([] : List ByteArray)) = some (r1, r2, r3, r4) := by rw [if_pos rfl] at H; exact H
     clear H
     have H := H1
     clear H1
     have H' := Aside0.mk H
     clear H
     go_wp2_with (first | ((with_reducible refine gate_callee (f := 17) rfl ?_); refine goesL_ (some 26) rfl rfl Tryd.func17 (by kernel_rfl) rfl #[.string t143] rfl rf_ ?_; (with_reducible refine (shell_shape.calls kj2 t143 t145 true _ A11.out).mono ?_); rintro e w' ⟨rfl, ⟨nd, rfl⟩⟩; refine ⟨_, rfl, ?_⟩; (try (rw [drewN_self wc]; generalize hq_ : World.drewN wc _ = wc; have n0_ : Aside0 (wc.heap[gb142]? = some (.cells #[.int .i64 0, .string (⟨#[]⟩ : ByteArray), .slice none 0 0] 28 (0, 0))) := ⟨by rw [← hq_]; exact (bk_ BK142.out)⟩; have n1_ : Aside0 (Below w.heap.size w wc) := ⟨by rw [← hq_]; exact (hb1_ GE142.out)⟩; clear BK142 HB hq_; have BK142 := n0_; have HB := n1_; clear n0_ n1_))) | ((with_reducible refine gate_dst (N := 8) rfl ?_); refine box_event ?hg (N := 8) ?hd (cs := #[.int .i64 0, .string (⟨#[]⟩ : ByteArray), .slice none 0 0]) (t := 28) ?hr ?_; (case hd => rfl); (case hg => rfl); (case hr => first | (go_simp; done) | (go_simp; rfl)); intro gb147 hg w13 hbox hb; have n0_ := Aside0.mk (blk_below (g := gb142) (o := .cells #[.int .i64 0, .string (⟨#[]⟩ : ByteArray), .slice none 0 0] 28 (0, 0)) (bk_ BK142.out) hb); have n1_ := Aside0.mk (below_step (hb1_ GE142.out) hb); have n2_ := Aside0.mk (hbox); have n3_ := Aside0.mk ((by rw [hg]; exact (below_size (hb1_ GE142.out)) : w.heap.size ≤ gb147)); have n4_ := Aside0.mk ((by rw [hg]; exact (below_size (hb1_ GE142.out)) : w.heap.size ≤ gb147)); have n5_ := Aside0.mk ((by rw [hg]; exact Nat.ne_of_lt (blk_lt (g := gb142) (o := .cells #[.int .i64 0, .string (⟨#[]⟩ : ByteArray), .slice none 0 0] 28 (0, 0)) (bk_ BK142.out)) : gb142 ≠ gb147)); have n6_ := Aside0.mk ((by rw [hg]; exact Nat.ne_of_gt (blk_lt (g := gb142) (o := .cells #[.int .i64 0, .string (⟨#[]⟩ : ByteArray), .slice none 0 0] 28 (0, 0)) (bk_ BK142.out)) : gb147 ≠ gb142)); clear BK142; clear HB; have BK142 := n0_; have HB := n1_; have BK147 := n2_; have GW147 := n3_; have GE147 := n4_; have NB142_147 := n5_; have NB147_142 := n6_; clear n0_ n1_ n2_ n3_ n4_ n5_ n6_; clear hb hbox hg; have hnb14 := NB147_142.out; have hnc14 := NB142_147.out; have hcz15_0 : w13.cell? ⟨gb147, 0, none⟩ = some (.int .i64 0) := (blk_cell BK147.out 0).trans rfl; have hcz15_1 : w13.cell? ⟨gb147, 1, none⟩ = some (.string (⟨#[]⟩ : ByteArray)) := (blk_cell BK147.out 1).trans rfl; have hcz15_2 : w13.cell? ⟨gb147, 2, none⟩ = some (.slice none 0 0) := (blk_cell BK147.out 2).trans rfl; have hfz15_0 := blk_frozen BK147.out 0; have hfz15_1 := blk_frozen BK147.out 1; have hfz15_2 := blk_frozen BK147.out 2))
     go_loopg [5, 36] kj2 (fun kq v5 v36 w' => ∃ (x5_2 : ByteArray) (x36_2 : Int) (x143000_2 : Int) (x143001_2 : ByteArray) (x148002_2 : List ByteArray) (u148002 : Value), v5 = .string x5_2 ∧ v36 = .int .i64 x36_2 ∧ Aside0 (shell_parsed.l0 kq x5_2 t145 (t145.size : Int) x36_2 0 t143 x148002_2 = some (r1, r2, r3, r4)) ∧ Aside0 (kq ≤ kj2) ∧ Aside0 (Kd.R Kd.string 9 w' w.heap.size (fun _ => True) u148002 x148002_2) ∧ Aside0 (w'.heap[gb142]? = some (.cells #[.int .i64 x143000_2, .string x143001_2, (.slice none 0 0)] 28 (0, 0))) ∧ Aside0 (w'.heap[gb147]? = some (.cells #[.int .i64 0, .string t143, u148002] 28 (0, 0))) ∧ Aside0 (Below w.heap.size w w'))
     case atStart => exact ⟨(t144), (0), (0), ((⟨#[]⟩ : ByteArray)), (([] : List ByteArray)), (.slice none 0 0), (by first | rfl | (simp; done) | (simp [*]; done)), (by first | rfl | (simp; done) | (simp [*]; done)), H', ⟨Nat.le_refl _⟩, ⟨by first | exact Kd.R_nil _ _ _ _ _ | exact Kd.N_nil _ _ _ _ _ | exact Kd.V_nil _ _ _ _ _ | exact Kd.Q_nil _ _ _ _ _ | exact Kd.S_nil _ _ _ _ _⟩, ⟨by (with_reducible repeat (first | refine blk_drewN ?_ _ | refine blk_drew ?_ | refine blk_alloc ?_ _)); refine blk_far ?_ NB142_147.out _; (with_reducible repeat (first | refine blk_drewN ?_ _ | refine blk_drew ?_ | refine blk_alloc ?_ _)); refine blk_far ?_ NB142_147.out _; (with_reducible repeat (first | refine blk_drewN ?_ _ | refine blk_drew ?_ | refine blk_alloc ?_ _)); refine blk_far ?_ NB142_147.out _; (with_reducible repeat (first | refine blk_drewN ?_ _ | refine blk_drew ?_ | refine blk_alloc ?_ _)); exact BK142.out⟩, ⟨by (with_reducible repeat (first | refine blk_drewN ?_ _ | refine blk_drew ?_ | refine blk_alloc ?_ _)); refine blk_put (cs := #[.int .i64 0, .string t143, .slice none 0 0]) ?_ 2 _ rfl; (with_reducible repeat (first | refine blk_drewN ?_ _ | refine blk_drew ?_ | refine blk_alloc ?_ _)); refine blk_put (cs := #[.int .i64 0, .string (⟨#[]⟩ : ByteArray), .slice none 0 0]) ?_ 1 _ rfl; (with_reducible repeat (first | refine blk_drewN ?_ _ | refine blk_drew ?_ | refine blk_alloc ?_ _)); refine blk_put (cs := #[.int .i64 0, .string (⟨#[]⟩ : ByteArray), .slice none 0 0]) ?_ 0 _ rfl; (with_reducible repeat (first | refine blk_drewN ?_ _ | refine blk_drew ?_ | refine blk_alloc ?_ _)); exact BK147.out⟩, ⟨by repeat (first | (with_reducible first | exact HB.out | apply below_alloc | apply pw_below_drewN | apply below_drew1 | refine below_set ?_ GE142.out | refine below_set ?_ GE147.out) | exact HB.out)⟩⟩
     case round =>
      clear H'
      try clear c1
      try clear p2
      try clear c6
      try clear c6b0
      try clear c6b1
      try clear c7
      try clear c7b0
      try clear c7b1
      try clear p8
      try clear q8
      try clear hx8
      try clear qi8
      try clear c9
      try clear c12
      try clear c14
      try clear hcz10_0
      try clear hcz10_1
      try clear hcz10_2
      try clear hcz15_0
      try clear hcz15_1
      try clear hcz15_2
      try clear hfz10_0
      try clear hfz10_1
      try clear hfz10_2
      try clear hfz15_0
      try clear hfz15_1
      try clear hfz15_2
      try clear p2
      try clear p8
      try clear q8
      obtain ⟨x5_2, x36_2, x143000_2, x143001_2, x148002_2, u148002, rfl, rfl, HA, HK2, HO_148002, BK142, BK147, HB⟩ := hrel
      cases gk with
      | zero => exact absurd HA.out (by simp [shell_parsed.l0])
      | succ k2 =>
       have H := HA.out
       clear HA
       simp only [shell_parsed.l0] at H
       by_cases c16 : x36_2 < (t145.size : Int)
       ·rw [if_pos c16] at H
        have c16b0 : decide (x36_2 < (t145.size : Int)) = true := decide_eq_true c16
        clear c16
        by_cases c17 : 0 ≤ x36_2
        ·rw [if_pos c17] at H
         have c17b0 : decide (0 ≤ x36_2) = true := decide_eq_true c17
         clear c17
         by_cases c18 : x36_2 < (t145.size : Int)
         ·rw [if_pos c18] at H
          have c18b0 : decide (x36_2 < (t145.size : Int)) = true := decide_eq_true c18
          clear c18
          have HC20 := Aside0.mk H
          clear H
          have p19 : 0 ≤ (x36_2 : Int) := of_decide_eq_true (by first | (with_reducible assumption) | assumption)
          have q19 : x36_2 < (t145.size : Int) := of_decide_eq_true (by first | (with_reducible assumption) | assumption)
          have hx19 := bt_at t145 x36_2
          replace p19 := eq_true p19
          replace q19 := eq_true q19
          go_upto_if 42 with (fail)
          go_cut [42] (fun v42 wc => ∃ (kq : Nat) (x42_19 : Bool), v42 = .bool x42_19 ∧ Aside0 (shell_parsed.j2 kq x5_2 t145 x36_2 (t145.size : Int) x36_2 (bt t145 x36_2) x42_19 0 t143 x148002_2 = some (r1, r2, r3, r4)) ∧ Aside0 (kq ≤ k2) ∧ Aside0 (Kd.R Kd.string 9 wc w.heap.size (fun _ => True) u148002 x148002_2) ∧ Aside0 (wc.heap[gb142]? = some (.cells #[.int .i64 x143000_2, .string x143001_2, (.slice none 0 0)] 28 (0, 0))) ∧ Aside0 (wc.heap[gb147]? = some (.cells #[.int .i64 0, .string t143, u148002] 28 (0, 0))) ∧ Aside0 (Below w.heap.size w wc))
          case first =>
           have H := HC20.out
           clear HC20
           by_cases c21 : (bt t145 x36_2) = 86
           ·rw [if_pos c21] at H
            have c21b0 : ((bt t145 x36_2) == 86) = true := beq_iff_eq.mpr c21
            have c21b1 : ((bt t145 x36_2) != 86) = false := bne_eq_false_iff_eq.mpr c21
            clear c21
            (first | rw [c21b0] | (simp only [i64_w, i32_w]; rw [c21b0]) | skip)
            have H' := Aside0.mk H
            clear H
            go_wp2
            go_meet
            case rel => exact ⟨_, (((bt t145 x36_2) == 86)), (by first | rfl | (simp; done) | (simp [*]; done)), H', ⟨by have := HJ2.out; have := HK2.out; first | omega | exact Nat.le_refl _⟩, ⟨by (with_reducible repeat (first | apply Kd.R_alloc | apply Kd.R_drewN | apply Kd.R_drew)); exact HO_148002.out⟩, ⟨by (with_reducible repeat (first | refine blk_drewN ?_ _ | refine blk_drew ?_ | refine blk_alloc ?_ _)); exact BK142.out⟩, ⟨by (with_reducible repeat (first | refine blk_drewN ?_ _ | refine blk_drew ?_ | refine blk_alloc ?_ _)); exact BK147.out⟩, ⟨by repeat (first | (with_reducible first | exact HB.out | apply below_alloc | apply pw_below_drewN | apply below_drew1 | refine below_set ?_ GE142.out | refine below_set ?_ GE147.out) | exact HB.out)⟩⟩
           ·rw [if_neg c21] at H
            have c21b0 : ((bt t145 x36_2) == 86) = false := beq_eq_false_iff_ne.mpr c21
            have c21b1 : ((bt t145 x36_2) != 86) = true := bne_iff_ne.mpr c21
            (first | rw [c21b0] | (simp only [i64_w, i32_w]; rw [c21b0]) | skip)
            have H' := Aside0.mk H
            clear H
            go_wp2
            go_meet
            case rel => exact ⟨_, (((bt t145 x36_2) == 63)), (by first | rfl | (simp; done) | (simp [*]; done)), H', ⟨by have := HJ2.out; have := HK2.out; first | omega | exact Nat.le_refl _⟩, ⟨by (with_reducible repeat (first | apply Kd.R_alloc | apply Kd.R_drewN | apply Kd.R_drew)); exact HO_148002.out⟩, ⟨by (with_reducible repeat (first | refine blk_drewN ?_ _ | refine blk_drew ?_ | refine blk_alloc ?_ _)); exact BK142.out⟩, ⟨by (with_reducible repeat (first | refine blk_drewN ?_ _ | refine blk_drew ?_ | refine blk_alloc ?_ _)); exact BK147.out⟩, ⟨by repeat (first | (with_reducible first | exact HB.out | apply below_alloc | apply pw_below_drewN | apply below_drew1 | refine below_set ?_ GE142.out | refine below_set ?_ GE147.out) | exact HB.out)⟩⟩
          case rest =>
           clear HC20
           try clear c1
           try clear p1
           try clear q1
           try clear hx1
           try clear c2
           try clear p2
           try clear c6
           try clear c6b0
           try clear c6b1
           try clear c7
           try clear c7b0
           try clear c7b1
           try clear p8
           try clear q8
           try clear hx8
           try clear qi8
           try clear c9
           try clear c12
           try clear c14
           try clear c16
           try clear c16b0
           try clear c17
           try clear c17b0
           try clear c18
           try clear c18b0
           try clear p19
           try clear q19
           try clear hx19
           try clear c21
           try clear c21b0
           try clear c21b1
           try clear hcz10_0
           try clear hcz10_1
           try clear hcz10_2
           try clear hcz15_0
           try clear hcz15_1
           try clear hcz15_2
           try clear hfz10_0
           try clear hfz10_1
           try clear hfz10_2
           try clear hfz15_0
           try clear hfz15_1
           try clear hfz15_2
           try clear p19
           try clear p2
           try clear p8
           try clear q19
           try clear q8
           obtain ⟨kq, x42_19, rfl, HA, HJ19, HO_148002, BK142, BK147, HB⟩ := hcut
           cases kq with
           | zero => exact absurd HA.out (by simp [shell_parsed.j2])
           | succ kj19 =>
            have H := HA.out
            clear HA
            simp only [shell_parsed.j2] at H
            by_cases c22 : x42_19 = true
            ·subst c22
             have H1 : ((strings_Trim.f x5_2 (⟨#[32]⟩ : ByteArray)).bind fun t149 => (if t149.toList = ([] : List UInt8) then (if 0 ≤ x36_2 then (if x36_2 < (t145.size : Int) then (some (0, t143, x148002_2, ((bt t145 x36_2) == 63))) else (none)) else (none)) else (if x148002_2.length < 8796093022208 then (some (0, t143, (x148002_2 ++ [t149]), true)) else (none)))) = some (r1, r2, r3, r4) := by rw [if_pos rfl] at H; exact H
             clear H
             have H := H1
             clear H1
             replace H := Option.bind_eq_some_iff.mp H
             obtain ⟨t149, A230, H⟩ := H
             replace H : (if t149.toList = ([] : List UInt8) then (if 0 ≤ x36_2 then (if x36_2 < (t145.size : Int) then (some (0, t143, x148002_2, ((bt t145 x36_2) == 63))) else (none)) else (none)) else (if x148002_2.length < 8796093022208 then (some (0, t143, (x148002_2 ++ [t149]), true)) else (none))) = some (r1, r2, r3, r4) := H
             have A23 := Aside0.mk A230
             clear A230
             by_cases c24 : t149.toList = ([] : List UInt8)
             ·rw [if_pos c24] at H
              have c24b0 : (t149.toList == ([] : List UInt8)) = true := beq_iff_eq.mpr c24
              have c24b1 : (t149.toList != ([] : List UInt8)) = false := bne_eq_false_iff_eq.mpr c24
              clear c24
              by_cases c25 : 0 ≤ x36_2
              ·rw [if_pos c25] at H
               have c25b0 : decide (0 ≤ x36_2) = true := decide_eq_true c25
               clear c25
               by_cases c26 : x36_2 < (t145.size : Int)
               ·rw [if_pos c26] at H
                have c26b0 : decide (x36_2 < (t145.size : Int)) = true := decide_eq_true c26
                clear c26
                simp only [Option.some.injEq, Prod.mk.injEq] at H
                obtain ⟨rfl, rfl, rfl, rfl⟩ := H
                try go_wp2_with (first | ((with_reducible refine gate_callee (f := 18) rfl ?_); refine goesL_ (some 46) rfl rfl Tryd.func18 (by kernel_rfl) rfl #[.string x5_2, .string (⟨#[32]⟩ : ByteArray)] rfl rf_ ?_; (with_reducible refine (strings_Trim.calls x5_2 (⟨#[32]⟩ : ByteArray) t149 _ A23.out).mono ?_); rintro e w28 ⟨rfl, hb⟩; refine ⟨_, rfl, ?_⟩; have n0_ := Aside0.mk (Kd.R_below (by (with_reducible repeat (first | apply Kd.R_alloc | apply Kd.R_drewN | apply Kd.R_drew)); exact HO_148002.out) hb); have n1_ := Aside0.mk (blk_below (g := gb142) (o := .cells #[.int .i64 x143000_2, .string x143001_2, .slice none 0 0] 28 (0, 0)) (bk_ BK142.out) hb); have n2_ := Aside0.mk (blk_below (g := gb147) (o := .cells #[.int .i64 0, .string t143, u148002] 28 (0, 0)) (bk_ BK147.out) hb); have n3_ := Aside0.mk (below_step (hb2_ GE142.out GE147.out) hb); clear HO_148002; clear BK142; clear BK147; clear HB; have HO_148002 := n0_; have BK142 := n1_; have BK147 := n2_; have HB := n3_; clear n0_ n1_ n2_ n3_; (try clear hb); (try clear hb2); (try clear hk); (try clear hi)))
                have n0_ := Aside0.mk (Kd.R_drew HO_148002.out)
                have n1_ := Aside0.mk (blk_drew BK142.out)
                have n2_ := Aside0.mk (blk_drew BK147.out)
                have n3_ := Aside0.mk (below_drew1 HB.out)
                clear HO_148002
                clear BK142
                clear BK147
                clear HB
                have HO_148002 := n0_
                have BK142 := n1_
                have BK147 := n2_
                have HB := n3_
                clear n0_ n1_ n2_ n3_
                have p27 : 0 ≤ (x36_2 : Int) := of_decide_eq_true (by first | (with_reducible assumption) | assumption)
                have q27 : x36_2 < (t145.size : Int) := of_decide_eq_true (by first | (with_reducible assumption) | assumption)
                have hx27 := bt_at t145 x36_2
                replace p27 := eq_true p27
                replace q27 := eq_true q27
                obtain ⟨Ao32, co32, eo32⟩ := Kd.R_slice HO_148002.out
                (first | subst eo32 | (injection eo32 with f1_ f2_ f3_; have f4_ := f1_.symm; have f5_ := f3_.symm; clear f1_ f2_ f3_; subst f4_; subst f5_))
                refine start_ (n := 11) (S := fun w' => w'.cell? ⟨gb147, 0, none⟩ = some (.int .i64 0) ∧ w'.cell? ⟨gb147, 1, none⟩ = some (.string t143) ∧ w'.cell? ⟨gb147, 2, none⟩ = some (.slice Ao32 x148002_2.length co32)) (ds := []) #[false, false, false, false, false, false, false, false, false, false, false] (by kernel_rfl) rfl rfl ⟨(blk_cell BK147.out 0).trans rfl, (blk_cell BK147.out 1).trans rfl, (blk_cell BK147.out 2).trans rfl⟩ (fun hHeld => ?_); refine with_tabW shell_parsed.tab17 shell_parsed.bits17 (fun HT_ HW_ => ?_)
                generalize w28.drew = w29 at HO_148002 BK142 BK147 HB hHeld ⊢
                refine pure_ (i := 1) (N := some 56) (v := ?_) (a' := ?_) #[false, true, false, false, false, false, false, false, false, false, false] rfl rfl (any_of HT_.out (by kernel_rfl)) (fun _ _ _ h => h) (Or.inl ⟨by rfl, ?_⟩) ?_ ?_
                rotate_left
                ·intro w'
                 go_simp
                 with_reducible rfl
                rotate_left
                ·simp only [Act.put, List.setIfInBounds_toArray, List.set_cons_zero, List.set_cons_succ, i64_w, i32_w]
                 rfl
                refine pure_ (i := 2) (N := some 57) (v := ?_) (a' := ?_) #[false, true, true, false, false, false, false, false, false, false, false] rfl rfl (any_of HT_.out (by kernel_rfl)) (fun _ _ _ h => h) (Or.inl ⟨by rfl, ?_⟩) ?_ ?_
                rotate_left
                ·intro w'
                 go_simp
                 with_reducible rfl
                rotate_left
                ·simp only [Act.put, List.setIfInBounds_toArray, List.set_cons_zero, List.set_cons_succ, i64_w, i32_w]
                 rfl
                refine pure_ (i := 3) (N := some 58) (v := ?_) (a' := ?_) #[false, true, true, true, false, false, false, false, false, false, false] rfl rfl (any_of HT_.out (by kernel_rfl)) (fun _ _ _ h => h) (Or.inl ⟨by rfl, ?_⟩) ?_ ?_
                rotate_left
                ·intro w'
                 go_simp
                 with_reducible rfl
                rotate_left
                ·simp only [Act.put, List.setIfInBounds_toArray, List.set_cons_zero, List.set_cons_succ, i64_w, i32_w]
                 rfl
                refine pure_ (i := 4) (N := some 59) (v := ?_) (a' := ?_) #[false, true, true, true, true, false, false, false, false, false, false] rfl rfl (any_of HT_.out (by kernel_rfl)) (fun _ _ _ h => h) (Or.inl ⟨by rfl, ?_⟩) ?_ ?_
                rotate_left
                ·intro w'
                 go_simp
                 with_reducible rfl
                rotate_left
                ·simp only [Act.put, List.setIfInBounds_toArray, List.set_cons_zero, List.set_cons_succ, i64_w, i32_w]
                 rfl
                refine pure_ (i := 5) (N := some 60) (v := ?_) (a' := ?_) #[false, true, true, true, true, true, false, false, false, false, false] rfl rfl (any_of HT_.out (by kernel_rfl)) (fun _ _ _ h => h) (Or.inl ⟨by rfl, ?_⟩) ?_ ?_
                rotate_left
                ·intro w'
                 go_simp
                 with_reducible rfl
                rotate_left
                ·simp only [Act.put, List.setIfInBounds_toArray, List.set_cons_zero, List.set_cons_succ, i64_w, i32_w]
                 rfl
                refine take_ (i := 0) (N := some 55) (v := ?_) (a' := ?_) #[true, true, true, true, true, true, false, false, false, false, false] rfl rfl (take_ofW HT_.out HW_.out (by kernel_rfl)) (fun _ _ _ h => h) (Or.inl ⟨by rfl, ?_⟩) hHeld ?_ ?_
                rotate_left
                ·rintro w' ⟨s0, s1, s2⟩
                 go_simp
                 with_reducible rfl
                rotate_left
                ·simp only [Act.put, List.setIfInBounds_toArray, List.set_cons_zero, List.set_cons_succ, i64_w, i32_w]
                 rfl
                refine take_ (i := 6) (N := some 61) (v := ?_) (a' := ?_) #[true, true, true, true, true, true, true, false, false, false, false] rfl rfl (take_ofW HT_.out HW_.out (by kernel_rfl)) (fun _ _ _ h => h) (Or.inl ⟨by rfl, ?_⟩) hHeld ?_ ?_
                rotate_left
                ·rintro w' ⟨s0, s1, s2⟩
                 go_simp
                 with_reducible rfl
                rotate_left
                ·simp only [Act.put, List.setIfInBounds_toArray, List.set_cons_zero, List.set_cons_succ, i64_w, i32_w]
                 rfl
                refine pure_ (i := 7) (N := some 62) (v := ?_) (a' := ?_) #[true, true, true, true, true, true, true, true, false, false, false] rfl rfl (any_of HT_.out (by kernel_rfl)) (fun _ _ _ h => h) (Or.inl ⟨by rfl, ?_⟩) ?_ ?_
                rotate_left
                ·intro w'
                 go_simp
                 with_reducible rfl
                rotate_left
                ·simp only [Act.put, List.setIfInBounds_toArray, List.set_cons_zero, List.set_cons_succ, i64_w, i32_w]
                 rfl
                refine pure_ (i := 8) (N := some 63) (v := ?_) (a' := ?_) #[true, true, true, true, true, true, true, true, true, false, false] rfl rfl (any_of HT_.out (by kernel_rfl)) (fun _ _ _ h => h) (Or.inl ⟨by rfl, ?_⟩) ?_ ?_
                rotate_left
                ·intro w'
                 go_simp
                 with_reducible rfl
                rotate_left
                ·simp only [Act.put, List.setIfInBounds_toArray, List.set_cons_zero, List.set_cons_succ, i64_w, i32_w]
                 rfl
                refine one_ (i := 9) (N := none) #[true, true, true, true, true, true, true, true, true, true, false] rfl rfl (one_of HT_.out (by kernel_rfl)) (by decide) (fun K hK => ?_)
                have hs30 : w29.cell? ⟨gb142, 0, none⟩ = some (.int .i64 x143000_2) := (blk_cell BK142.out 0).trans rfl
                have hfs30 := blk_frozen BK142.out 0
                have hns30_1 := NB147_142.out
                have hms30_1 := NB142_147.out
                have hs31 : w29.cell? ⟨gb142, 1, none⟩ = some (.string x143001_2) := (blk_cell BK142.out 1).trans rfl
                have hfs31 := blk_frozen BK142.out 1
                have hns31_1 := NB147_142.out
                have hms31_1 := NB142_147.out
                have hs33 : w29.cell? ⟨gb142, 2, none⟩ = some (.slice none 0 0) := (blk_cell BK142.out 2).trans rfl
                have hfs33 := blk_frozen BK142.out 2
                have hns33_1 := NB147_142.out
                have hms33_1 := NB142_147.out
                refine skip_ (w1 := ?_) (by rfl) rfl ?_ ?_
                rotate_left
                ·go_simp
                 rfl
                refine hK.out _ _ ⟨((cell_far (p := ⟨gb142, _, none⟩) NB147_142.out _).trans (((cell_far (p := ⟨gb142, _, none⟩) NB147_142.out _).trans (((cell_far (p := ⟨gb142, _, none⟩) NB147_142.out _).trans (hHeld.1)))))), ((cell_far (p := ⟨gb142, _, none⟩) NB147_142.out _).trans (((cell_far (p := ⟨gb142, _, none⟩) NB147_142.out _).trans (((cell_far (p := ⟨gb142, _, none⟩) NB147_142.out _).trans (hHeld.2.1)))))), ((cell_far (p := ⟨gb142, _, none⟩) NB147_142.out _).trans (((cell_far (p := ⟨gb142, _, none⟩) NB147_142.out _).trans (((cell_far (p := ⟨gb142, _, none⟩) NB147_142.out _).trans (hHeld.2.2))))))⟩ (fun hHeld => ?_)
                clear hK K
                refine pure_ (i := 10) (N := some 3) (v := ?_) (a' := ?_) #[true, true, true, true, true, true, true, true, true, true, true] rfl rfl (any_of HT_.out (by kernel_rfl)) (fun _ _ _ h => h) (Or.inl ⟨by rfl, ?_⟩) ?_ ?_
                rotate_left
                ·intro w'
                 go_simp
                 with_reducible rfl
                rotate_left
                ·simp only [Act.put, List.setIfInBounds_toArray, List.set_cons_zero, List.set_cons_succ, i64_w, i32_w]
                 rfl
                refine done_ (done_of HT_.out (by kernel_rfl)) ?_
                try go_wp2
                refine bodyPost_ret (results_ct rfl _ _ gb142 28 #[.int .i64 0, .string t143, .slice Ao32 x148002_2.length co32] (0, 0) _ rfl (by (with_reducible repeat (first | refine blk_drewN ?_ _ | refine blk_drew ?_ | refine blk_alloc ?_ _)); refine blk_put (cs := #[.int .i64 0, .string t143, .slice none 0 0]) ?_ 2 _ rfl; (with_reducible repeat (first | refine blk_drewN ?_ _ | refine blk_drew ?_ | refine blk_alloc ?_ _)); refine blk_put (cs := #[.int .i64 0, .string x143001_2, .slice none 0 0]) ?_ 1 _ rfl; (with_reducible repeat (first | refine blk_drewN ?_ _ | refine blk_drew ?_ | refine blk_alloc ?_ _)); refine blk_put (cs := #[.int .i64 x143000_2, .string x143001_2, .slice none 0 0]) ?_ 0 _ rfl; (with_reducible repeat (first | refine blk_drewN ?_ _ | refine blk_drew ?_ | refine blk_alloc ?_ _)); exact BK142.out) Tryd.underlying28 rfl (by kernel_rfl)) rfl ?_
                exact ⟨_, er_, by (with_reducible repeat (first | apply Kd.R_alloc | apply Kd.R_drewN | apply Kd.R_drew)); exact Kd.R_mono (Kd.R_far (p := ⟨gb142, 2, none⟩) (Kd.R_far (p := ⟨gb142, 1, none⟩) (Kd.R_far (p := ⟨gb142, 0, none⟩) (Kd.R_types HO_148002.out BK142.out (by decide)) (fun _ hk => hk.2) (.int .i64 0)) (fun _ hk => hk.2) (.string t143)) (fun _ hk => hk.2) (.slice Ao32 x148002_2.length co32)) (fun _ hk => trivial), by repeat (first | (with_reducible first | exact HB.out | apply below_alloc | apply pw_below_drewN | apply below_drew1 | refine below_set ?_ GE142.out | refine below_set ?_ GE147.out) | exact HB.out)⟩
               ·rw [if_neg c26] at H
                exact absurd H (by simp)
              ·rw [if_neg c25] at H
               exact absurd H (by simp)
             ·rw [if_neg c24] at H
              have c24b0 : (t149.toList == ([] : List UInt8)) = false := beq_eq_false_iff_ne.mpr c24
              have c24b1 : (t149.toList != ([] : List UInt8)) = true := bne_iff_ne.mpr c24
              by_cases c34 : x148002_2.length < 8796093022208
              ·rw [if_pos c34] at H
               have LMc34 := Aside0.mk c34
               clear c34
               obtain ⟨y150, hy150⟩ : ∃ y_ : List ByteArray, y_ = (x148002_2 ++ [t149]) := ⟨_, rfl⟩
               replace H : (some (0, t143, y150, true)) = some (r1, r2, r3, r4) := by first | (rw [hy150]; with_reducible exact H) | (have H2_ := (Option.bind_some _ _).symm.trans H; rw [hy150]; with_reducible exact H2_) | (have H2_ := (Option.bind_some _ _).symm.trans H; with_reducible exact H2_) | with_reducible exact H | (rw [hy150]; exact H) | exact H
               have Ny150 := Aside0.mk hy150
               clear hy150
               simp only [Option.some.injEq, Prod.mk.injEq] at H
               obtain ⟨rfl, rfl, rfl, rfl⟩ := H
               try go_wp2_with (first | ((with_reducible refine gate_callee (f := 18) rfl ?_); refine goesL_ (some 46) rfl rfl Tryd.func18 (by kernel_rfl) rfl #[.string x5_2, .string (⟨#[32]⟩ : ByteArray)] rfl rf_ ?_; (with_reducible refine (strings_Trim.calls x5_2 (⟨#[32]⟩ : ByteArray) t149 _ A23.out).mono ?_); rintro e w35 ⟨rfl, hb⟩; refine ⟨_, rfl, ?_⟩; have n0_ := Aside0.mk (Kd.R_below (by (with_reducible repeat (first | apply Kd.R_alloc | apply Kd.R_drewN | apply Kd.R_drew)); exact HO_148002.out) hb); have n1_ := Aside0.mk (blk_below (g := gb142) (o := .cells #[.int .i64 x143000_2, .string x143001_2, .slice none 0 0] 28 (0, 0)) (bk_ BK142.out) hb); have n2_ := Aside0.mk (blk_below (g := gb147) (o := .cells #[.int .i64 0, .string t143, u148002] 28 (0, 0)) (bk_ BK147.out) hb); have n3_ := Aside0.mk (below_step (hb2_ GE142.out GE147.out) hb); clear HO_148002; clear BK142; clear BK147; clear HB; have HO_148002 := n0_; have BK142 := n1_; have BK147 := n2_; have HB := n3_; clear n0_ n1_ n2_ n3_; (try clear hb); (try clear hb2); (try clear hk); (try clear hi); have hnb36 := NB147_142.out; have hnc36 := NB142_147.out; have hcz37_0 : w35.cell? ⟨gb147, 0, none⟩ = some (.int .i64 0) := (blk_cell BK147.out 0).trans rfl; have hcz37_1 : w35.cell? ⟨gb147, 1, none⟩ = some (.string t143) := (blk_cell BK147.out 1).trans rfl; have hcz37_2 : w35.cell? ⟨gb147, 2, none⟩ = some (u148002) := (blk_cell BK147.out 2).trans rfl; have hfz37_0 := blk_frozen BK147.out 0; have hfz37_1 := blk_frozen BK147.out 1; have hfz37_2 := blk_frozen BK147.out 2) | ((with_reducible refine gate_builtin (b := .append) (xs := #[.tmp 50, .tmp 52]) rfl ?_); at_builtin; refine Kd.R_append Kd.string (w0 := w) w.heap.size rfl (.tmp 50) (.tmp 52) 26 9 (.string ⟨#[]⟩) 16 rfl Tryd.underlying26 info9 rfl (by decide) (by omega) u148002 x148002_2 t149 [.string t149] (fun _ => True) (fun _ => False) rfl rfl ?aP (fun _ hk => hk.elim) ?aF ?aO ?aB ?aS ?aL ?_; (case aP => exact rfl); (case aB => exact (hb2_ GE142.out GE147.out)); (case aF => exact (fun _ _ => trivial)); (case aO => exact (by (with_reducible repeat (first | apply Kd.R_alloc | apply Kd.R_drewN | apply Kd.R_drew)); exact HO_148002.out)); (case aS => exact (below_size (hb2_ GE142.out GE147.out))); (case aL => have := LMc34.out; omega); intro v151 w38 ho hb hg hat; rw [← Ny150.out] at ho; have n0_ := Aside0.mk (blk_grown (g := gb142) (o := .cells #[.int .i64 x143000_2, .string x143001_2, .slice none 0 0] 28 (0, 0)) (bk_ BK142.out) hg (Kd.R_ne HO_148002.out BK142.out (by decide))); have n1_ := Aside0.mk (blk_grown (g := gb147) (o := .cells #[.int .i64 0, .string t143, u148002] 28 (0, 0)) (bk_ BK147.out) hg (Kd.R_ne HO_148002.out BK147.out (by decide))); have n2_ := Aside0.mk (hb); have n3_ := Aside0.mk (ho); clear BK142; clear BK147; clear HB; clear HO_148002; have BK142 := n0_; have BK147 := n1_; have HB := n2_; have HO152 := n3_; clear n0_ n1_ n2_ n3_; clear ho hb hg hat; obtain ⟨Ao39, co39, eo39⟩ := Kd.R_slice HO152.out; subst eo39; have hcz40_0 : w38.cell? ⟨gb147, 0, none⟩ = some (.int .i64 0) := (blk_cell BK147.out 0).trans rfl; have hcz40_1 : w38.cell? ⟨gb147, 1, none⟩ = some (.string t143) := (blk_cell BK147.out 1).trans rfl; have hcz40_2 : w38.cell? ⟨gb147, 2, none⟩ = some (u148002) := (blk_cell BK147.out 2).trans rfl; have hfz40_0 := blk_frozen BK147.out 0; have hfz40_1 := blk_frozen BK147.out 1; have hfz40_2 := blk_frozen BK147.out 2))
               have n0_ : Aside0 (Kd.R Kd.string 9 (w38.setCell ⟨gb147, 2, none⟩ (.slice Ao39 y150.length co39)) w.heap.size (fun _ => True) (.slice Ao39 y150.length co39) y150) := ⟨by (with_reducible repeat (first | apply Kd.R_alloc | apply Kd.R_drewN | apply Kd.R_drew)); exact Kd.R_mono (Kd.R_far (p := ⟨gb147, 2, none⟩) (Kd.R_types HO152.out BK147.out (by decide)) (fun _ hk => hk.2) (.slice Ao39 y150.length co39)) (fun _ hk => trivial)⟩
               have n1_ : Aside0 ((w38.setCell ⟨gb147, 2, none⟩ (.slice Ao39 y150.length co39)).heap[gb142]? = some (.cells #[.int .i64 x143000_2, .string x143001_2, .slice none 0 0] 28 (0, 0))) := ⟨by (with_reducible repeat (first | refine blk_drewN ?_ _ | refine blk_drew ?_ | refine blk_alloc ?_ _)); refine blk_far ?_ NB142_147.out _; (with_reducible repeat (first | refine blk_drewN ?_ _ | refine blk_drew ?_ | refine blk_alloc ?_ _)); exact BK142.out⟩
               have n2_ : Aside0 ((w38.setCell ⟨gb147, 2, none⟩ (.slice Ao39 y150.length co39)).heap[gb147]? = some (.cells #[.int .i64 0, .string t143, .slice Ao39 y150.length co39] 28 (0, 0))) := ⟨by (with_reducible repeat (first | refine blk_drewN ?_ _ | refine blk_drew ?_ | refine blk_alloc ?_ _)); refine blk_put (cs := #[.int .i64 0, .string t143, u148002]) ?_ 2 _ rfl; (with_reducible repeat (first | refine blk_drewN ?_ _ | refine blk_drew ?_ | refine blk_alloc ?_ _)); exact BK147.out⟩
               have n3_ : Aside0 (Below w.heap.size w (w38.setCell ⟨gb147, 2, none⟩ (.slice Ao39 y150.length co39))) := ⟨by repeat (first | (with_reducible first | exact HB.out | apply below_alloc | apply pw_below_drewN | apply below_drew1 | refine below_set ?_ GE142.out | refine below_set ?_ GE147.out) | exact HB.out)⟩
               (try clear HO152)
               (try clear BK142)
               (try clear BK147)
               (try clear HB)
               generalize (w38.setCell ⟨gb147, 2, none⟩ (.slice Ao39 y150.length co39)) = w41 at n0_ n1_ n2_ n3_ ⊢
               have HO152 := n0_
               have BK142 := n1_
               have BK147 := n2_
               have HB := n3_
               clear n0_ n1_ n2_ n3_
               have n0_ := Aside0.mk (Kd.R_drew HO152.out)
               have n1_ := Aside0.mk (blk_drew BK142.out)
               have n2_ := Aside0.mk (blk_drew BK147.out)
               have n3_ := Aside0.mk (below_drew1 HB.out)
               clear HO152
               clear BK142
               clear BK147
               clear HB
               have HO152 := n0_
               have BK142 := n1_
               have BK147 := n2_
               have HB := n3_
               clear n0_ n1_ n2_ n3_
               refine start_ (n := 11) (S := fun w' => w'.cell? ⟨gb147, 0, none⟩ = some (.int .i64 0) ∧ w'.cell? ⟨gb147, 1, none⟩ = some (.string t143) ∧ w'.cell? ⟨gb147, 2, none⟩ = some (.slice Ao39 y150.length co39)) (ds := []) #[false, false, false, false, false, false, false, false, false, false, false] (by kernel_rfl) rfl rfl ⟨(blk_cell BK147.out 0).trans rfl, (blk_cell BK147.out 1).trans rfl, (blk_cell BK147.out 2).trans rfl⟩ (fun hHeld => ?_); refine with_tabW shell_parsed.tab17 shell_parsed.bits17 (fun HT_ HW_ => ?_)
               generalize w41.drew = w42 at HO152 BK142 BK147 HB hHeld ⊢
               refine pure_ (i := 1) (N := some 56) (v := ?_) (a' := ?_) #[false, true, false, false, false, false, false, false, false, false, false] rfl rfl (any_of HT_.out (by kernel_rfl)) (fun _ _ _ h => h) (Or.inl ⟨by rfl, ?_⟩) ?_ ?_
               rotate_left
               ·intro w'
                go_simp
                with_reducible rfl
               rotate_left
               ·simp only [Act.put, List.setIfInBounds_toArray, List.set_cons_zero, List.set_cons_succ, i64_w, i32_w]
                rfl
               refine pure_ (i := 2) (N := some 57) (v := ?_) (a' := ?_) #[false, true, true, false, false, false, false, false, false, false, false] rfl rfl (any_of HT_.out (by kernel_rfl)) (fun _ _ _ h => h) (Or.inl ⟨by rfl, ?_⟩) ?_ ?_
               rotate_left
               ·intro w'
                go_simp
                with_reducible rfl
               rotate_left
               ·simp only [Act.put, List.setIfInBounds_toArray, List.set_cons_zero, List.set_cons_succ, i64_w, i32_w]
                rfl
               refine pure_ (i := 3) (N := some 58) (v := ?_) (a' := ?_) #[false, true, true, true, false, false, false, false, false, false, false] rfl rfl (any_of HT_.out (by kernel_rfl)) (fun _ _ _ h => h) (Or.inl ⟨by rfl, ?_⟩) ?_ ?_
               rotate_left
               ·intro w'
                go_simp
                with_reducible rfl
               rotate_left
               ·simp only [Act.put, List.setIfInBounds_toArray, List.set_cons_zero, List.set_cons_succ, i64_w, i32_w]
                rfl
               refine pure_ (i := 4) (N := some 59) (v := undef) (a' := ?_) #[false, true, true, true, true, false, false, false, false, false, false] rfl rfl (any_of HT_.out (by kernel_rfl)) (fun _ _ _ h => h) (Or.inr ⟨by rfl, rfl⟩) ?_ ?_
               rotate_left
               ·simp only [Act.put, List.setIfInBounds_toArray, List.set_cons_zero, List.set_cons_succ, i64_w, i32_w]
                rfl
               refine pure_ (i := 5) (N := some 60) (v := undef) (a' := ?_) #[false, true, true, true, true, true, false, false, false, false, false] rfl rfl (any_of HT_.out (by kernel_rfl)) (fun _ _ _ h => h) (Or.inr ⟨by rfl, rfl⟩) ?_ ?_
               rotate_left
               ·simp only [Act.put, List.setIfInBounds_toArray, List.set_cons_zero, List.set_cons_succ, i64_w, i32_w]
                rfl
               refine pure_ (i := 6) (N := some 61) (v := undef) (a' := ?_) #[false, true, true, true, true, true, true, false, false, false, false] rfl rfl (any_of HT_.out (by kernel_rfl)) (fun _ _ _ h => h) (Or.inr ⟨by rfl, rfl⟩) ?_ ?_
               rotate_left
               ·simp only [Act.put, List.setIfInBounds_toArray, List.set_cons_zero, List.set_cons_succ, i64_w, i32_w]
                rfl
               refine pure_ (i := 7) (N := some 62) (v := undef) (a' := ?_) #[false, true, true, true, true, true, true, true, false, false, false] rfl rfl (any_of HT_.out (by kernel_rfl)) (fun _ _ _ h => h) (Or.inr ⟨by rfl, rfl⟩) ?_ ?_
               rotate_left
               ·simp only [Act.put, List.setIfInBounds_toArray, List.set_cons_zero, List.set_cons_succ, i64_w, i32_w]
                rfl
               refine pure_ (i := 8) (N := some 63) (v := ?_) (a' := ?_) #[false, true, true, true, true, true, true, true, true, false, false] rfl rfl (any_of HT_.out (by kernel_rfl)) (fun _ _ _ h => h) (Or.inl ⟨by rfl, ?_⟩) ?_ ?_
               rotate_left
               ·intro w'
                go_simp
                with_reducible rfl
               rotate_left
               ·simp only [Act.put, List.setIfInBounds_toArray, List.set_cons_zero, List.set_cons_succ, i64_w, i32_w]
                rfl
               refine take_ (i := 0) (N := some 55) (v := ?_) (a' := ?_) #[true, true, true, true, true, true, true, true, true, false, false] rfl rfl (take_ofW HT_.out HW_.out (by kernel_rfl)) (fun _ _ _ h => h) (Or.inl ⟨by rfl, ?_⟩) hHeld ?_ ?_
               rotate_left
               ·rintro w' ⟨s0, s1, s2⟩
                go_simp
                with_reducible rfl
               rotate_left
               ·simp only [Act.put, List.setIfInBounds_toArray, List.set_cons_zero, List.set_cons_succ, i64_w, i32_w]
                rfl
               refine one_ (i := 9) (N := none) #[true, true, true, true, true, true, true, true, true, true, false] rfl rfl (one_of HT_.out (by kernel_rfl)) (by decide) (fun K hK => ?_)
               have hs43 : w42.cell? ⟨gb142, 0, none⟩ = some (.int .i64 x143000_2) := (blk_cell BK142.out 0).trans rfl
               have hfs43 := blk_frozen BK142.out 0
               have hns43_1 := NB147_142.out
               have hms43_1 := NB142_147.out
               have hs44 : w42.cell? ⟨gb142, 1, none⟩ = some (.string x143001_2) := (blk_cell BK142.out 1).trans rfl
               have hfs44 := blk_frozen BK142.out 1
               have hns44_1 := NB147_142.out
               have hms44_1 := NB142_147.out
               have hs45 : w42.cell? ⟨gb142, 2, none⟩ = some (.slice none 0 0) := (blk_cell BK142.out 2).trans rfl
               have hfs45 := blk_frozen BK142.out 2
               have hns45_1 := NB147_142.out
               have hms45_1 := NB142_147.out
               refine skip_ (w1 := ?_) (by rfl) rfl ?_ ?_
               rotate_left
               ·go_simp
                rfl
               refine hK.out _ _ ⟨((cell_far (p := ⟨gb142, _, none⟩) NB147_142.out _).trans (((cell_far (p := ⟨gb142, _, none⟩) NB147_142.out _).trans (((cell_far (p := ⟨gb142, _, none⟩) NB147_142.out _).trans (hHeld.1)))))), ((cell_far (p := ⟨gb142, _, none⟩) NB147_142.out _).trans (((cell_far (p := ⟨gb142, _, none⟩) NB147_142.out _).trans (((cell_far (p := ⟨gb142, _, none⟩) NB147_142.out _).trans (hHeld.2.1)))))), ((cell_far (p := ⟨gb142, _, none⟩) NB147_142.out _).trans (((cell_far (p := ⟨gb142, _, none⟩) NB147_142.out _).trans (((cell_far (p := ⟨gb142, _, none⟩) NB147_142.out _).trans (hHeld.2.2))))))⟩ (fun hHeld => ?_)
               clear hK K
               refine pure_ (i := 10) (N := some 3) (v := ?_) (a' := ?_) #[true, true, true, true, true, true, true, true, true, true, true] rfl rfl (any_of HT_.out (by kernel_rfl)) (fun _ _ _ h => h) (Or.inl ⟨by rfl, ?_⟩) ?_ ?_
               rotate_left
               ·intro w'
                go_simp
                with_reducible rfl
               rotate_left
               ·simp only [Act.put, List.setIfInBounds_toArray, List.set_cons_zero, List.set_cons_succ, i64_w, i32_w]
                rfl
               refine done_ (done_of HT_.out (by kernel_rfl)) ?_
               try go_wp2
               refine bodyPost_ret (results_ct rfl _ _ gb142 28 #[.int .i64 0, .string t143, .slice Ao39 y150.length co39] (0, 0) _ rfl (by (with_reducible repeat (first | refine blk_drewN ?_ _ | refine blk_drew ?_ | refine blk_alloc ?_ _)); refine blk_put (cs := #[.int .i64 0, .string t143, .slice none 0 0]) ?_ 2 _ rfl; (with_reducible repeat (first | refine blk_drewN ?_ _ | refine blk_drew ?_ | refine blk_alloc ?_ _)); refine blk_put (cs := #[.int .i64 0, .string x143001_2, .slice none 0 0]) ?_ 1 _ rfl; (with_reducible repeat (first | refine blk_drewN ?_ _ | refine blk_drew ?_ | refine blk_alloc ?_ _)); refine blk_put (cs := #[.int .i64 x143000_2, .string x143001_2, .slice none 0 0]) ?_ 0 _ rfl; (with_reducible repeat (first | refine blk_drewN ?_ _ | refine blk_drew ?_ | refine blk_alloc ?_ _)); exact BK142.out) Tryd.underlying28 rfl (by kernel_rfl)) rfl ?_
               exact ⟨_, er_, by (with_reducible repeat (first | apply Kd.R_alloc | apply Kd.R_drewN | apply Kd.R_drew)); exact Kd.R_mono (Kd.R_far (p := ⟨gb142, 2, none⟩) (Kd.R_far (p := ⟨gb142, 1, none⟩) (Kd.R_far (p := ⟨gb142, 0, none⟩) (Kd.R_types HO152.out BK142.out (by decide)) (fun _ hk => hk.2) (.int .i64 0)) (fun _ hk => hk.2) (.string t143)) (fun _ hk => hk.2) (.slice Ao39 y150.length co39)) (fun _ hk => trivial), by repeat (first | (with_reducible first | exact HB.out | apply below_alloc | apply pw_below_drewN | apply below_drew1 | refine below_set ?_ GE142.out | refine below_set ?_ GE147.out) | exact HB.out)⟩
              ·rw [if_neg c34] at H
               exact absurd H (by simp)
            ·replace c22 := Bool.eq_false_iff.mpr c22
             subst c22
             have H1 : (if (bt t145 x36_2) = 87 then ((strings_FieldsFunc.f x5_2).bind fun t153 => (some (0, t143, t153, decide ((t153.length : Int) > 0)))) else ((shell_word.f x5_2).bind fun bt156 => (if 0 ≤ x36_2 then (if x36_2 < (t145.size : Int) then ((shell_fits.f kj19 (bt t145 x36_2) bt156.1).bind fun t158 => (if t158 = true then (if x148002_2.length < 8796093022208 then (shell_parsed.l0 kj19 bt156.2 t145 (t145.size : Int) (wrap64 (x36_2 + 1)) 0 t143 (x148002_2 ++ [bt156.1])) else (none)) else (some (0, (⟨#[]⟩ : ByteArray), ([] : List ByteArray), false)))) else (none)) else (none)))) = some (r1, r2, r3, r4) := by rw [if_neg (show ¬ (false = true) by decide)] at H; exact H
             clear H
             have H := H1
             clear H1
             by_cases c46 : (bt t145 x36_2) = 87
             ·rw [if_pos c46] at H
              have c46b0 : ((bt t145 x36_2) == 87) = true := beq_iff_eq.mpr c46
              have c46b1 : ((bt t145 x36_2) != 87) = false := bne_eq_false_iff_eq.mpr c46
              clear c46
              replace H := Option.bind_eq_some_iff.mp H
              obtain ⟨t153, A470, H⟩ := H
              replace H : (some (0, t143, t153, decide ((t153.length : Int) > 0))) = some (r1, r2, r3, r4) := H
              have A47 := Aside0.mk A470
              clear A470
              simp only [Option.some.injEq, Prod.mk.injEq] at H
              obtain ⟨rfl, rfl, rfl, rfl⟩ := H
              try go_wp2_with (first | ((with_reducible refine gate_callee (f := 19) rfl ?_); refine goesL_ (some 67) rfl rfl Tryd.func19 (by kernel_rfl) rfl #[.string x5_2, .func (.func 20) #[] #[]] rfl rf_ ?_; (with_reducible refine (strings_FieldsFunc.calls x5_2 t153 _ A47.out).mono ?_); rintro e w48 ⟨v154, rfl, ho0, hb⟩; refine ⟨_, rfl, ?_⟩; have n0_ := Aside0.mk (Kd.R_elder' (by (with_reducible repeat (first | apply Kd.R_alloc | apply Kd.R_drewN | apply Kd.R_drew)); exact HO_148002.out) (Kd.R_base ho0) hb); have n1_ := Aside0.mk (Kd.R_lower (Kd.R_new' ho0 (Kd.R_lt (by (with_reducible repeat (first | apply Kd.R_alloc | apply Kd.R_drewN | apply Kd.R_drew)); exact HO_148002.out))) (below_size (hb2_ GE142.out GE147.out))); have n2_ := Aside0.mk (blk_below (g := gb142) (o := .cells #[.int .i64 x143000_2, .string x143001_2, .slice none 0 0] 28 (0, 0)) (bk_ BK142.out) hb); have n3_ := Aside0.mk (blk_below (g := gb147) (o := .cells #[.int .i64 0, .string t143, u148002] 28 (0, 0)) (bk_ BK147.out) hb); have n4_ := Aside0.mk (below_step (hb2_ GE142.out GE147.out) hb); clear HO_148002; clear BK142; clear BK147; clear HB; have HO_148002 := n0_; have HO155 := n1_; have BK142 := n2_; have BK147 := n3_; have HB := n4_; clear n0_ n1_ n2_ n3_ n4_; (try clear hb); (try clear hb2); (try clear hk); (try clear hi); (try clear ho0); obtain ⟨Ao49, co49, eo49⟩ := Kd.R_slice HO155.out; subst eo49; have hnb50 := NB147_142.out; have hnc50 := NB142_147.out; have hcz51_0 : w48.cell? ⟨gb147, 0, none⟩ = some (.int .i64 0) := (blk_cell BK147.out 0).trans rfl; have hcz51_1 : w48.cell? ⟨gb147, 1, none⟩ = some (.string t143) := (blk_cell BK147.out 1).trans rfl; have hcz51_2 : w48.cell? ⟨gb147, 2, none⟩ = some (u148002) := (blk_cell BK147.out 2).trans rfl; have hfz51_0 := blk_frozen BK147.out 0; have hfz51_1 := blk_frozen BK147.out 1; have hfz51_2 := blk_frozen BK147.out 2))
              have n0_ : Aside0 (Kd.R Kd.string 9 (w48.setCell ⟨gb147, 2, none⟩ (.slice Ao49 t153.length co49)) w.heap.size (fun k_ => some k_ ≠ (.slice Ao49 t153.length co49 : Value).ownBlock) u148002 x148002_2) := ⟨by (with_reducible repeat (first | apply Kd.R_alloc | apply Kd.R_drewN | apply Kd.R_drew)); exact Kd.R_mono (Kd.R_far (p := ⟨gb147, 2, none⟩) (Kd.R_types HO_148002.out BK147.out (by decide)) (fun _ hk => hk.2) (.slice Ao49 t153.length co49)) (fun _ hk => hk.1.2)⟩
              have n1_ : Aside0 (Kd.R Kd.string 9 (w48.setCell ⟨gb147, 2, none⟩ (.slice Ao49 t153.length co49)) w.heap.size (fun k_ => some k_ ≠ (u148002 : Value).ownBlock) (.slice Ao49 t153.length co49) t153) := ⟨by (with_reducible repeat (first | apply Kd.R_alloc | apply Kd.R_drewN | apply Kd.R_drew)); exact Kd.R_mono (Kd.R_far (p := ⟨gb147, 2, none⟩) (Kd.R_types HO155.out BK147.out (by decide)) (fun _ hk => hk.2) (.slice Ao49 t153.length co49)) (fun _ hk => hk.1.2)⟩
              have n2_ : Aside0 ((w48.setCell ⟨gb147, 2, none⟩ (.slice Ao49 t153.length co49)).heap[gb142]? = some (.cells #[.int .i64 x143000_2, .string x143001_2, .slice none 0 0] 28 (0, 0))) := ⟨by (with_reducible repeat (first | refine blk_drewN ?_ _ | refine blk_drew ?_ | refine blk_alloc ?_ _)); refine blk_far ?_ NB142_147.out _; (with_reducible repeat (first | refine blk_drewN ?_ _ | refine blk_drew ?_ | refine blk_alloc ?_ _)); exact BK142.out⟩
              have n3_ : Aside0 ((w48.setCell ⟨gb147, 2, none⟩ (.slice Ao49 t153.length co49)).heap[gb147]? = some (.cells #[.int .i64 0, .string t143, .slice Ao49 t153.length co49] 28 (0, 0))) := ⟨by (with_reducible repeat (first | refine blk_drewN ?_ _ | refine blk_drew ?_ | refine blk_alloc ?_ _)); refine blk_put (cs := #[.int .i64 0, .string t143, u148002]) ?_ 2 _ rfl; (with_reducible repeat (first | refine blk_drewN ?_ _ | refine blk_drew ?_ | refine blk_alloc ?_ _)); exact BK147.out⟩
              have n4_ : Aside0 (Below w.heap.size w (w48.setCell ⟨gb147, 2, none⟩ (.slice Ao49 t153.length co49))) := ⟨by repeat (first | (with_reducible first | exact HB.out | apply below_alloc | apply pw_below_drewN | apply below_drew1 | refine below_set ?_ GE142.out | refine below_set ?_ GE147.out) | exact HB.out)⟩
              (try clear HO_148002)
              (try clear HO155)
              (try clear BK142)
              (try clear BK147)
              (try clear HB)
              generalize (w48.setCell ⟨gb147, 2, none⟩ (.slice Ao49 t153.length co49)) = w52 at n0_ n1_ n2_ n3_ n4_ ⊢
              have HO_148002 := n0_
              have HO155 := n1_
              have BK142 := n2_
              have BK147 := n3_
              have HB := n4_
              clear n0_ n1_ n2_ n3_ n4_
              have n0_ := Aside0.mk (Kd.R_drew HO_148002.out)
              have n1_ := Aside0.mk (Kd.R_drew HO155.out)
              have n2_ := Aside0.mk (blk_drew BK142.out)
              have n3_ := Aside0.mk (blk_drew BK147.out)
              have n4_ := Aside0.mk (below_drew1 HB.out)
              clear HO_148002
              clear HO155
              clear BK142
              clear BK147
              clear HB
              have HO_148002 := n0_
              have HO155 := n1_
              have BK142 := n2_
              have BK147 := n3_
              have HB := n4_
              clear n0_ n1_ n2_ n3_ n4_
              refine start_ (n := 7) (S := fun w' => w'.cell? ⟨gb147, 0, none⟩ = some (.int .i64 0) ∧ w'.cell? ⟨gb147, 1, none⟩ = some (.string t143) ∧ w'.cell? ⟨gb147, 2, none⟩ = some (.slice Ao49 t153.length co49)) (ds := []) #[false, false, false, false, false, false, false] (by kernel_rfl) rfl rfl ⟨(blk_cell BK147.out 0).trans rfl, (blk_cell BK147.out 1).trans rfl, (blk_cell BK147.out 2).trans rfl⟩ (fun hHeld => ?_)
              generalize w52.drew = w53 at HO_148002 HO155 BK142 BK147 HB hHeld ⊢
              refine pure_ (i := 1) (N := some 70) (v := ?_) (a' := ?_) #[false, true, false, false, false, false, false] rfl rfl (by kernel_rfl) (fun _ _ _ h => h) (Or.inl ⟨by rfl, ?_⟩) ?_ ?_
              rotate_left
              ·intro w'
               go_simp
               with_reducible rfl
              rotate_left
              ·simp only [Act.put, List.setIfInBounds_toArray, List.set_cons_zero, List.set_cons_succ, i64_w, i32_w]
               rfl
              refine take_ (i := 0) (N := some 69) (v := ?_) (a' := ?_) #[true, true, false, false, false, false, false] rfl rfl (by kernel_rfl) (fun _ _ _ h => h) (Or.inl ⟨by rfl, ?_⟩) hHeld ?_ ?_
              rotate_left
              ·rintro w' ⟨s0, s1, s2⟩
               go_simp
               with_reducible rfl
              rotate_left
              ·simp only [Act.put, List.setIfInBounds_toArray, List.set_cons_zero, List.set_cons_succ, i64_w, i32_w]
               rfl
              refine take_ (i := 2) (N := some 71) (v := ?_) (a' := ?_) #[true, true, true, false, false, false, false] rfl rfl (by kernel_rfl) (fun _ _ _ h => h) (Or.inl ⟨by rfl, ?_⟩) hHeld ?_ ?_
              rotate_left
              ·rintro w' ⟨s0, s1, s2⟩
               go_simp
               with_reducible rfl
              rotate_left
              ·simp only [Act.put, List.setIfInBounds_toArray, List.set_cons_zero, List.set_cons_succ, i64_w, i32_w]
               rfl
              refine pure_ (i := 3) (N := some 72) (v := ?_) (a' := ?_) #[true, true, true, true, false, false, false] rfl rfl (by kernel_rfl) (fun _ _ _ h => h) (Or.inl ⟨by rfl, ?_⟩) ?_ ?_
              rotate_left
              ·intro w'
               go_simp
               with_reducible rfl
              rotate_left
              ·simp only [Act.put, List.setIfInBounds_toArray, List.set_cons_zero, List.set_cons_succ, i64_w, i32_w]
               rfl
              refine pure_ (i := 4) (N := some 73) (v := ?_) (a' := ?_) #[true, true, true, true, true, false, false] rfl rfl (by kernel_rfl) (fun _ _ _ h => h) (Or.inl ⟨by rfl, ?_⟩) ?_ ?_
              rotate_left
              ·intro w'
               go_simp
               with_reducible rfl
              rotate_left
              ·simp only [Act.put, List.setIfInBounds_toArray, List.set_cons_zero, List.set_cons_succ, i64_w, i32_w]
               rfl
              refine one_ (i := 5) (N := none) #[true, true, true, true, true, true, false] rfl rfl (by kernel_rfl) (by decide) (fun K hK => ?_)
              have hs54 : w53.cell? ⟨gb142, 0, none⟩ = some (.int .i64 x143000_2) := (blk_cell BK142.out 0).trans rfl
              have hfs54 := blk_frozen BK142.out 0
              have hns54_1 := NB147_142.out
              have hms54_1 := NB142_147.out
              have hs55 : w53.cell? ⟨gb142, 1, none⟩ = some (.string x143001_2) := (blk_cell BK142.out 1).trans rfl
              have hfs55 := blk_frozen BK142.out 1
              have hns55_1 := NB147_142.out
              have hms55_1 := NB142_147.out
              have hs56 : w53.cell? ⟨gb142, 2, none⟩ = some (.slice none 0 0) := (blk_cell BK142.out 2).trans rfl
              have hfs56 := blk_frozen BK142.out 2
              have hns56_1 := NB147_142.out
              have hms56_1 := NB142_147.out
              refine skip_ (w1 := ?_) (by rfl) rfl ?_ ?_
              rotate_left
              ·go_simp
               rfl
              refine hK.out _ _ ⟨((cell_far (p := ⟨gb142, _, none⟩) NB147_142.out _).trans (((cell_far (p := ⟨gb142, _, none⟩) NB147_142.out _).trans (((cell_far (p := ⟨gb142, _, none⟩) NB147_142.out _).trans (hHeld.1)))))), ((cell_far (p := ⟨gb142, _, none⟩) NB147_142.out _).trans (((cell_far (p := ⟨gb142, _, none⟩) NB147_142.out _).trans (((cell_far (p := ⟨gb142, _, none⟩) NB147_142.out _).trans (hHeld.2.1)))))), ((cell_far (p := ⟨gb142, _, none⟩) NB147_142.out _).trans (((cell_far (p := ⟨gb142, _, none⟩) NB147_142.out _).trans (((cell_far (p := ⟨gb142, _, none⟩) NB147_142.out _).trans (hHeld.2.2))))))⟩ (fun hHeld => ?_)
              clear hK K
              refine pure_ (i := 6) (N := some 3) (v := ?_) (a' := ?_) #[true, true, true, true, true, true, true] rfl rfl (by kernel_rfl) (fun _ _ _ h => h) (Or.inl ⟨by rfl, ?_⟩) ?_ ?_
              rotate_left
              ·intro w'
               go_simp
               with_reducible rfl
              rotate_left
              ·simp only [Act.put, List.setIfInBounds_toArray, List.set_cons_zero, List.set_cons_succ, i64_w, i32_w]
               rfl
              refine done_ (by kernel_rfl) ?_
              try go_wp2
              refine bodyPost_ret (results_ct rfl _ _ gb142 28 #[.int .i64 0, .string t143, .slice Ao49 t153.length co49] (0, 0) _ rfl (by (with_reducible repeat (first | refine blk_drewN ?_ _ | refine blk_drew ?_ | refine blk_alloc ?_ _)); refine blk_put (cs := #[.int .i64 0, .string t143, .slice none 0 0]) ?_ 2 _ rfl; (with_reducible repeat (first | refine blk_drewN ?_ _ | refine blk_drew ?_ | refine blk_alloc ?_ _)); refine blk_put (cs := #[.int .i64 0, .string x143001_2, .slice none 0 0]) ?_ 1 _ rfl; (with_reducible repeat (first | refine blk_drewN ?_ _ | refine blk_drew ?_ | refine blk_alloc ?_ _)); refine blk_put (cs := #[.int .i64 x143000_2, .string x143001_2, .slice none 0 0]) ?_ 0 _ rfl; (with_reducible repeat (first | refine blk_drewN ?_ _ | refine blk_drew ?_ | refine blk_alloc ?_ _)); exact BK142.out) Tryd.underlying28 rfl (by kernel_rfl)) rfl ?_
              exact ⟨_, er_, by (with_reducible repeat (first | apply Kd.R_alloc | apply Kd.R_drewN | apply Kd.R_drew)); exact Kd.R_mono (Kd.R_far (p := ⟨gb142, 2, none⟩) (Kd.R_far (p := ⟨gb142, 1, none⟩) (Kd.R_far (p := ⟨gb142, 0, none⟩) (Kd.R_types HO155.out BK142.out (by decide)) (fun _ hk => hk.2) (.int .i64 0)) (fun _ hk => hk.2) (.string t143)) (fun _ hk => hk.2) (.slice Ao49 t153.length co49)) (fun _ hk => trivial), by repeat (first | (with_reducible first | exact HB.out | apply below_alloc | apply pw_below_drewN | apply below_drew1 | refine below_set ?_ GE142.out | refine below_set ?_ GE147.out) | exact HB.out)⟩
             ·rw [if_neg c46] at H
              have c46b0 : ((bt t145 x36_2) == 87) = false := beq_eq_false_iff_ne.mpr c46
              have c46b1 : ((bt t145 x36_2) != 87) = true := bne_iff_ne.mpr c46
              replace H := Option.bind_eq_some_iff.mp H
              obtain ⟨⟨t156, t157⟩, A570, H⟩ := H
              replace H : (if 0 ≤ x36_2 then (if x36_2 < (t145.size : Int) then ((shell_fits.f kj19 (bt t145 x36_2) t156).bind fun t158 => (if t158 = true then (if x148002_2.length < 8796093022208 then (shell_parsed.l0 kj19 t157 t145 (t145.size : Int) (wrap64 (x36_2 + 1)) 0 t143 (x148002_2 ++ [t156])) else (none)) else (some (0, (⟨#[]⟩ : ByteArray), ([] : List ByteArray), false)))) else (none)) else (none)) = some (r1, r2, r3, r4) := H
              have A57 := Aside0.mk A570
              clear A570
              by_cases c58 : 0 ≤ x36_2
              ·rw [if_pos c58] at H
               have c58b0 : decide (0 ≤ x36_2) = true := decide_eq_true c58
               clear c58
               by_cases c59 : x36_2 < (t145.size : Int)
               ·rw [if_pos c59] at H
                have c59b0 : decide (x36_2 < (t145.size : Int)) = true := decide_eq_true c59
                clear c59
                replace H := Option.bind_eq_some_iff.mp H
                obtain ⟨t158, A610, H⟩ := H
                replace H : (if t158 = true then (if x148002_2.length < 8796093022208 then (shell_parsed.l0 kj19 t157 t145 (t145.size : Int) (wrap64 (x36_2 + 1)) 0 t143 (x148002_2 ++ [t156])) else (none)) else (some (0, (⟨#[]⟩ : ByteArray), ([] : List ByteArray), false))) = some (r1, r2, r3, r4) := H
                have A61 := Aside0.mk A610
                clear A610
                by_cases c62 : t158 = true
                ·subst c62
                 have H1 : (if x148002_2.length < 8796093022208 then (shell_parsed.l0 kj19 t157 t145 (t145.size : Int) (wrap64 (x36_2 + 1)) 0 t143 (x148002_2 ++ [t156])) else (none)) = some (r1, r2, r3, r4) := by rw [if_pos rfl] at H; exact H
                 clear H
                 have H := H1
                 clear H1
                 by_cases c63 : x148002_2.length < 8796093022208
                 ·rw [if_pos c63] at H
                  have LMc63 := Aside0.mk c63
                  clear c63
                  obtain ⟨y159, hy159⟩ : ∃ y_ : List ByteArray, y_ = (x148002_2 ++ [t156]) := ⟨_, rfl⟩
                  replace H : (shell_parsed.l0 kj19 t157 t145 (t145.size : Int) (wrap64 (x36_2 + 1)) 0 t143 y159) = some (r1, r2, r3, r4) := by first | (rw [hy159]; with_reducible exact H) | (have H2_ := (Option.bind_some _ _).symm.trans H; rw [hy159]; with_reducible exact H2_) | (have H2_ := (Option.bind_some _ _).symm.trans H; with_reducible exact H2_) | with_reducible exact H | (rw [hy159]; exact H) | exact H
                  have Ny159 := Aside0.mk hy159
                  clear hy159
                  have H' := Aside0.mk H
                  clear H
                  go_wp2_with (first | ((with_reducible refine gate_callee (f := 16) rfl ?_); refine goesL_ (some 76) rfl rfl Tryd.func16 (by kernel_rfl) rfl #[.string x5_2] rfl rf_ ?_; (with_reducible refine (shell_word.calls x5_2 t156 t157 _ A57.out).mono ?_); rintro e w64 ⟨rfl, hb⟩; refine ⟨_, rfl, ?_⟩; have n0_ := Aside0.mk (Kd.R_below (by (with_reducible repeat (first | apply Kd.R_alloc | apply Kd.R_drewN | apply Kd.R_drew)); exact HO_148002.out) hb); have n1_ := Aside0.mk (blk_below (g := gb142) (o := .cells #[.int .i64 x143000_2, .string x143001_2, .slice none 0 0] 28 (0, 0)) (bk_ BK142.out) hb); have n2_ := Aside0.mk (blk_below (g := gb147) (o := .cells #[.int .i64 0, .string t143, u148002] 28 (0, 0)) (bk_ BK147.out) hb); have n3_ := Aside0.mk (below_step (hb2_ GE142.out GE147.out) hb); clear HO_148002; clear BK142; clear BK147; clear HB; have HO_148002 := n0_; have BK142 := n1_; have BK147 := n2_; have HB := n3_; clear n0_ n1_ n2_ n3_; (try clear hb); (try clear hb2); (try clear hk); (try clear hi); have p60 : 0 ≤ (x36_2 : Int) := of_decide_eq_true (by first | (with_reducible assumption) | assumption); have q60 : x36_2 < (t145.size : Int) := of_decide_eq_true (by first | (with_reducible assumption) | assumption); have hx60 := bt_at t145 x36_2; replace p60 := eq_true p60; replace q60 := eq_true q60) | ((with_reducible refine gate_callee (f := 21) rfl ?_); refine goesL_ (some 83) rfl rfl Tryd.func21 (by kernel_rfl) rfl #[.int .u8 (bt t145 x36_2), .string t156] rfl rf_ ?_; (with_reducible refine (shell_fits.calls kj19 (bt t145 x36_2) t156 true _ A61.out).mono ?_); rintro e w65 ⟨rfl, hb⟩; refine ⟨_, rfl, ?_⟩; have n0_ := Aside0.mk (Kd.R_below (by (with_reducible repeat (first | apply Kd.R_alloc | apply Kd.R_drewN | apply Kd.R_drew)); exact HO_148002.out) hb); have n1_ := Aside0.mk (blk_below (g := gb142) (o := .cells #[.int .i64 x143000_2, .string x143001_2, .slice none 0 0] 28 (0, 0)) (bk_ BK142.out) hb); have n2_ := Aside0.mk (blk_below (g := gb147) (o := .cells #[.int .i64 0, .string t143, u148002] 28 (0, 0)) (bk_ BK147.out) hb); have n3_ := Aside0.mk (below_step (hb2_ GE142.out GE147.out) hb); clear HO_148002; clear BK142; clear BK147; clear HB; have HO_148002 := n0_; have BK142 := n1_; have BK147 := n2_; have HB := n3_; clear n0_ n1_ n2_ n3_; (try clear hb); (try clear hb2); (try clear hk); (try clear hi); have hnb66 := NB147_142.out; have hnc66 := NB142_147.out; have hcz67_0 : w65.cell? ⟨gb147, 0, none⟩ = some (.int .i64 0) := (blk_cell BK147.out 0).trans rfl; have hcz67_1 : w65.cell? ⟨gb147, 1, none⟩ = some (.string t143) := (blk_cell BK147.out 1).trans rfl; have hcz67_2 : w65.cell? ⟨gb147, 2, none⟩ = some (u148002) := (blk_cell BK147.out 2).trans rfl; have hfz67_0 := blk_frozen BK147.out 0; have hfz67_1 := blk_frozen BK147.out 1; have hfz67_2 := blk_frozen BK147.out 2) | ((with_reducible refine gate_builtin (b := .append) (xs := #[.tmp 87, .tmp 89]) rfl ?_); at_builtin; refine Kd.R_append Kd.string (w0 := w) w.heap.size rfl (.tmp 87) (.tmp 89) 26 9 (.string ⟨#[]⟩) 16 rfl Tryd.underlying26 info9 rfl (by decide) (by omega) u148002 x148002_2 t156 [.string t156] (fun _ => True) (fun _ => False) rfl rfl ?aP (fun _ hk => hk.elim) ?aF ?aO ?aB ?aS ?aL ?_; (case aP => exact rfl); (case aB => exact (hb2_ GE142.out GE147.out)); (case aF => exact (fun _ _ => trivial)); (case aO => exact (by (with_reducible repeat (first | apply Kd.R_alloc | apply Kd.R_drewN | apply Kd.R_drew)); exact HO_148002.out)); (case aS => exact (below_size (hb2_ GE142.out GE147.out))); (case aL => have := LMc63.out; omega); intro v160 w68 ho hb hg hat; rw [← Ny159.out] at ho; have n0_ := Aside0.mk (blk_grown (g := gb142) (o := .cells #[.int .i64 x143000_2, .string x143001_2, .slice none 0 0] 28 (0, 0)) (bk_ BK142.out) hg (Kd.R_ne HO_148002.out BK142.out (by decide))); have n1_ := Aside0.mk (blk_grown (g := gb147) (o := .cells #[.int .i64 0, .string t143, u148002] 28 (0, 0)) (bk_ BK147.out) hg (Kd.R_ne HO_148002.out BK147.out (by decide))); have n2_ := Aside0.mk (hb); have n3_ := Aside0.mk (ho); clear BK142; clear BK147; clear HB; clear HO_148002; have BK142 := n0_; have BK147 := n1_; have HB := n2_; have HO161 := n3_; clear n0_ n1_ n2_ n3_; clear ho hb hg hat; obtain ⟨Ao69, co69, eo69⟩ := Kd.R_slice HO161.out; subst eo69; have hcz70_0 : w68.cell? ⟨gb147, 0, none⟩ = some (.int .i64 0) := (blk_cell BK147.out 0).trans rfl; have hcz70_1 : w68.cell? ⟨gb147, 1, none⟩ = some (.string t143) := (blk_cell BK147.out 1).trans rfl; have hcz70_2 : w68.cell? ⟨gb147, 2, none⟩ = some (u148002) := (blk_cell BK147.out 2).trans rfl; have hfz70_0 := blk_frozen BK147.out 0; have hfz70_1 := blk_frozen BK147.out 1; have hfz70_2 := blk_frozen BK147.out 2))
                  go_roundg kj19
                  case measure => have := HJ2.out; have := HK2.out; have := HJ19.out; omega
                  case rel => exact ⟨(t157), (wrap64 (x36_2 + 1)), (x143000_2), (x143001_2), (y159), (.slice Ao69 y159.length co69), (by first | rfl | (simp; done) | (simp [*]; done)), (by first | rfl | (simp; done) | (simp [*]; done)), H', ⟨by have := HJ2.out; have := HK2.out; have := HJ19.out; omega⟩, ⟨by (with_reducible repeat (first | apply Kd.R_alloc | apply Kd.R_drewN | apply Kd.R_drew)); exact Kd.R_mono (Kd.R_far (p := ⟨gb147, 2, none⟩) (Kd.R_types HO161.out BK147.out (by decide)) (fun _ hk => hk.2) (.slice Ao69 y159.length co69)) (fun _ hk => trivial)⟩, ⟨by (with_reducible repeat (first | refine blk_drewN ?_ _ | refine blk_drew ?_ | refine blk_alloc ?_ _)); refine blk_far ?_ NB142_147.out _; (with_reducible repeat (first | refine blk_drewN ?_ _ | refine blk_drew ?_ | refine blk_alloc ?_ _)); exact BK142.out⟩, ⟨by (with_reducible repeat (first | refine blk_drewN ?_ _ | refine blk_drew ?_ | refine blk_alloc ?_ _)); refine blk_put (cs := #[.int .i64 0, .string t143, u148002]) ?_ 2 _ rfl; (with_reducible repeat (first | refine blk_drewN ?_ _ | refine blk_drew ?_ | refine blk_alloc ?_ _)); exact BK147.out⟩, ⟨by repeat (first | (with_reducible first | exact HB.out | apply below_alloc | apply pw_below_drewN | apply below_drew1 | refine below_set ?_ GE142.out | refine below_set ?_ GE147.out) | exact HB.out)⟩⟩
                 ·rw [if_neg c63] at H
                  exact absurd H (by simp)
                ·replace c62 := Bool.eq_false_iff.mpr c62
                 subst c62
                 have H1 : (some (0, (⟨#[]⟩ : ByteArray), ([] : List ByteArray), false)) = some (r1, r2, r3, r4) := by rw [if_neg (show ¬ (false = true) by decide)] at H; exact H
                 clear H
                 have H := H1
                 clear H1
                 simp only [Option.some.injEq, Prod.mk.injEq] at H
                 obtain ⟨rfl, rfl, rfl, rfl⟩ := H
                 go_wp2_with (first | ((with_reducible refine gate_callee (f := 16) rfl ?_); refine goesL_ (some 76) rfl rfl Tryd.func16 (by kernel_rfl) rfl #[.string x5_2] rfl rf_ ?_; (with_reducible refine (shell_word.calls x5_2 t156 t157 _ A57.out).mono ?_); rintro e w71 ⟨rfl, hb⟩; refine ⟨_, rfl, ?_⟩; have n0_ := Aside0.mk (Kd.R_below (by (with_reducible repeat (first | apply Kd.R_alloc | apply Kd.R_drewN | apply Kd.R_drew)); exact HO_148002.out) hb); have n1_ := Aside0.mk (blk_below (g := gb142) (o := .cells #[.int .i64 x143000_2, .string x143001_2, .slice none 0 0] 28 (0, 0)) (bk_ BK142.out) hb); have n2_ := Aside0.mk (blk_below (g := gb147) (o := .cells #[.int .i64 0, .string t143, u148002] 28 (0, 0)) (bk_ BK147.out) hb); have n3_ := Aside0.mk (below_step (hb2_ GE142.out GE147.out) hb); clear HO_148002; clear BK142; clear BK147; clear HB; have HO_148002 := n0_; have BK142 := n1_; have BK147 := n2_; have HB := n3_; clear n0_ n1_ n2_ n3_; (try clear hb); (try clear hb2); (try clear hk); (try clear hi); have p60 : 0 ≤ (x36_2 : Int) := of_decide_eq_true (by first | (with_reducible assumption) | assumption); have q60 : x36_2 < (t145.size : Int) := of_decide_eq_true (by first | (with_reducible assumption) | assumption); have hx60 := bt_at t145 x36_2; replace p60 := eq_true p60; replace q60 := eq_true q60) | ((with_reducible refine gate_callee (f := 21) rfl ?_); refine goesL_ (some 83) rfl rfl Tryd.func21 (by kernel_rfl) rfl #[.int .u8 (bt t145 x36_2), .string t156] rfl rf_ ?_; (with_reducible refine (shell_fits.calls kj19 (bt t145 x36_2) t156 false _ A61.out).mono ?_); rintro e w72 ⟨rfl, hb⟩; refine ⟨_, rfl, ?_⟩; have n0_ := Aside0.mk (Kd.R_below (by (with_reducible repeat (first | apply Kd.R_alloc | apply Kd.R_drewN | apply Kd.R_drew)); exact HO_148002.out) hb); have n1_ := Aside0.mk (blk_below (g := gb142) (o := .cells #[.int .i64 x143000_2, .string x143001_2, .slice none 0 0] 28 (0, 0)) (bk_ BK142.out) hb); have n2_ := Aside0.mk (blk_below (g := gb147) (o := .cells #[.int .i64 0, .string t143, u148002] 28 (0, 0)) (bk_ BK147.out) hb); have n3_ := Aside0.mk (below_step (hb2_ GE142.out GE147.out) hb); clear HO_148002; clear BK142; clear BK147; clear HB; have HO_148002 := n0_; have BK142 := n1_; have BK147 := n2_; have HB := n3_; clear n0_ n1_ n2_ n3_; (try clear hb); (try clear hb2); (try clear hk); (try clear hi); have hnb73 := NB142_147.out; have hnc73 := NB147_142.out; have hcz74_0 : w72.cell? ⟨gb142, 0, none⟩ = some (.int .i64 x143000_2) := (blk_cell BK142.out 0).trans rfl; have hcz74_1 : w72.cell? ⟨gb142, 1, none⟩ = some (.string x143001_2) := (blk_cell BK142.out 1).trans rfl; have hcz74_2 : w72.cell? ⟨gb142, 2, none⟩ = some (.slice none 0 0) := (blk_cell BK142.out 2).trans rfl; have hfz74_0 := blk_frozen BK142.out 0; have hfz74_1 := blk_frozen BK142.out 1; have hfz74_2 := blk_frozen BK142.out 2))
                 refine bodyPost_ret (results_ct rfl _ _ gb142 28 #[.int .i64 0, .string (⟨#[]⟩ : ByteArray), .slice none 0 0] (0, 0) _ rfl (by (with_reducible repeat (first | refine blk_drewN ?_ _ | refine blk_drew ?_ | refine blk_alloc ?_ _)); refine blk_put (cs := #[.int .i64 0, .string (⟨#[]⟩ : ByteArray), .slice none 0 0]) ?_ 2 _ rfl; (with_reducible repeat (first | refine blk_drewN ?_ _ | refine blk_drew ?_ | refine blk_alloc ?_ _)); refine blk_put (cs := #[.int .i64 0, .string x143001_2, .slice none 0 0]) ?_ 1 _ rfl; (with_reducible repeat (first | refine blk_drewN ?_ _ | refine blk_drew ?_ | refine blk_alloc ?_ _)); refine blk_put (cs := #[.int .i64 x143000_2, .string x143001_2, .slice none 0 0]) ?_ 0 _ rfl; (with_reducible repeat (first | refine blk_drewN ?_ _ | refine blk_drew ?_ | refine blk_alloc ?_ _)); exact BK142.out) Tryd.underlying28 rfl (by kernel_rfl)) rfl ?_
                 exact ⟨_, er_, by first | exact Kd.R_nil _ _ _ _ _ | exact Kd.N_nil _ _ _ _ _ | exact Kd.V_nil _ _ _ _ _ | exact Kd.Q_nil _ _ _ _ _ | exact Kd.S_nil _ _ _ _ _, by repeat (first | (with_reducible first | exact HB.out | apply below_alloc | apply pw_below_drewN | apply below_drew1 | refine below_set ?_ GE142.out | refine below_set ?_ GE147.out) | exact HB.out)⟩
               ·rw [if_neg c59] at H
                exact absurd H (by simp)
              ·rw [if_neg c58] at H
               exact absurd H (by simp)
         ·rw [if_neg c18] at H
          exact absurd H (by simp)
        ·rw [if_neg c17] at H
         exact absurd H (by simp)
       ·rw [if_neg c16] at H
        have c16b0 : decide (x36_2 < (t145.size : Int)) = false := decide_eq_false c16
        clear c16
        replace H := Option.bind_eq_some_iff.mp H
        obtain ⟨t148, A750, H⟩ := H
        replace H : (some (0, t143, x148002_2, (t148.toList == ([] : List UInt8)))) = some (r1, r2, r3, r4) := H
        have A75 := Aside0.mk A750
        clear A750
        simp only [Option.some.injEq, Prod.mk.injEq] at H
        obtain ⟨rfl, rfl, rfl, rfl⟩ := H
        try go_wp2
        have n0_ := Aside0.mk (Kd.R_drew HO_148002.out)
        have n1_ := Aside0.mk (blk_drew BK142.out)
        have n2_ := Aside0.mk (blk_drew BK147.out)
        have n3_ := Aside0.mk (below_drew1 HB.out)
        clear HO_148002
        clear BK142
        clear BK147
        clear HB
        have HO_148002 := n0_
        have BK142 := n1_
        have BK147 := n2_
        have HB := n3_
        clear n0_ n1_ n2_ n3_
        refine start_ (n := 6) (S := fun w' => w'.cell? ⟨gb147, 0, none⟩ = some (.int .i64 0) ∧ w'.cell? ⟨gb147, 1, none⟩ = some (.string t143) ∧ w'.cell? ⟨gb147, 2, none⟩ = some (u148002)) (ds := []) #[false, false, false, false, false, false] (by kernel_rfl) rfl rfl ⟨(blk_cell BK147.out 0).trans rfl, (blk_cell BK147.out 1).trans rfl, (blk_cell BK147.out 2).trans rfl⟩ (fun hHeld => ?_)
        generalize wr.drew = w76 at HO_148002 BK142 BK147 HB hHeld ⊢
        refine pure_ (i := 1) (N := some 94) (v := ?_) (a' := ?_) #[false, true, false, false, false, false] rfl rfl (by kernel_rfl) (fun _ _ _ h => h) (Or.inl ⟨by rfl, ?_⟩) ?_ ?_
        rotate_left
        ·intro w'
         go_simp
         with_reducible rfl
        rotate_left
        ·simp only [Act.put, List.setIfInBounds_toArray, List.set_cons_zero, List.set_cons_succ, i64_w, i32_w]
         rfl
        refine take_ (i := 0) (N := some 93) (v := ?_) (a' := ?_) #[true, true, false, false, false, false] rfl rfl (by kernel_rfl) (fun _ _ _ h => h) (Or.inl ⟨by rfl, ?_⟩) hHeld ?_ ?_
        rotate_left
        ·rintro w' ⟨s0, s1, s2⟩
         go_simp
         with_reducible rfl
        rotate_left
        ·simp only [Act.put, List.setIfInBounds_toArray, List.set_cons_zero, List.set_cons_succ, i64_w, i32_w]
         rfl
        refine one_ (i := 2) (N := some 95) #[true, true, true, false, false, false] rfl rfl (by kernel_rfl) (by decide) (fun K hK => ?_)
        refine goes_ Tryd.func18 (by kernel_rfl) rfl #[.string x5_2, .string (⟨#[32]⟩ : ByteArray)] (by rfl) rfl rfl rf_ ?_
        with_reducible refine (strings_Trim.calls x5_2 (⟨#[32]⟩ : ByteArray) t148 _ A75.out).mono ?_
        rintro e w77 ⟨rfl, hb⟩
        refine ⟨_, rfl, ?_⟩
        have n0_ := Aside0.mk (Kd.R_below (by (with_reducible repeat (first | apply Kd.R_alloc | apply Kd.R_drewN | apply Kd.R_drew)); exact HO_148002.out) hb)
        have n1_ := Aside0.mk (blk_below (g := gb142) (o := .cells #[.int .i64 x143000_2, .string x143001_2, .slice none 0 0] 28 (0, 0)) (bk_ BK142.out) hb)
        have n2_ := Aside0.mk (blk_below (g := gb147) (o := .cells #[.int .i64 0, .string t143, u148002] 28 (0, 0)) (bk_ BK147.out) hb)
        have n3_ := Aside0.mk (below_step (hb2_ GE142.out GE147.out) hb)
        clear HO_148002
        clear BK142
        clear BK147
        clear HB
        have HO_148002 := n0_
        have BK142 := n1_
        have BK147 := n2_
        have HB := n3_
        clear n0_ n1_ n2_ n3_
        (try clear hb)
        (try clear hb2)
        (try clear hk)
        (try clear hi)
        obtain ⟨Ao80, co80, eo80⟩ := Kd.R_slice HO_148002.out
        (first | subst eo80 | (injection eo80 with f1_ f2_ f3_; have f4_ := f1_.symm; have f5_ := f3_.symm; clear f1_ f2_ f3_; subst f4_; subst f5_))
        refine hK.out _ _ ⟨(blk_cell BK147.out 0).trans rfl, (blk_cell BK147.out 1).trans rfl, (blk_cell BK147.out 2).trans rfl⟩ (fun hHeld => ?_)
        clear hK K
        refine norm_ (a' := ?_) ?_ ?_
        rotate_left
        ·show Act.put _ (some 95) _ = _
         simp only [Act.put, List.setIfInBounds_toArray, List.set_cons_zero, List.set_cons_succ, i64_w, i32_w]
         rfl
        refine pure_ (i := 3) (N := some 96) (v := ?_) (a' := ?_) #[true, true, true, true, false, false] rfl rfl (by kernel_rfl) (fun _ _ _ h => h) (Or.inl ⟨by rfl, ?_⟩) ?_ ?_
        rotate_left
        ·intro w'
         go_simp
         with_reducible rfl
        rotate_left
        ·simp only [Act.put, List.setIfInBounds_toArray, List.set_cons_zero, List.set_cons_succ, i64_w, i32_w]
         rfl
        refine one_ (i := 4) (N := none) #[true, true, true, true, true, false] rfl rfl (by kernel_rfl) (by decide) (fun K hK => ?_)
        have hs78 : w77.cell? ⟨gb142, 0, none⟩ = some (.int .i64 x143000_2) := (blk_cell BK142.out 0).trans rfl
        have hfs78 := blk_frozen BK142.out 0
        have hns78_1 := NB147_142.out
        have hms78_1 := NB142_147.out
        have hs79 : w77.cell? ⟨gb142, 1, none⟩ = some (.string x143001_2) := (blk_cell BK142.out 1).trans rfl
        have hfs79 := blk_frozen BK142.out 1
        have hns79_1 := NB147_142.out
        have hms79_1 := NB142_147.out
        have hs81 : w77.cell? ⟨gb142, 2, none⟩ = some (.slice none 0 0) := (blk_cell BK142.out 2).trans rfl
        have hfs81 := blk_frozen BK142.out 2
        have hns81_1 := NB147_142.out
        have hms81_1 := NB142_147.out
        refine skip_ (w1 := ?_) (by rfl) rfl ?_ ?_
        rotate_left
        ·go_simp
         rfl
        refine hK.out _ _ ⟨((cell_far (p := ⟨gb142, _, none⟩) NB147_142.out _).trans (((cell_far (p := ⟨gb142, _, none⟩) NB147_142.out _).trans (((cell_far (p := ⟨gb142, _, none⟩) NB147_142.out _).trans (hHeld.1)))))), ((cell_far (p := ⟨gb142, _, none⟩) NB147_142.out _).trans (((cell_far (p := ⟨gb142, _, none⟩) NB147_142.out _).trans (((cell_far (p := ⟨gb142, _, none⟩) NB147_142.out _).trans (hHeld.2.1)))))), ((cell_far (p := ⟨gb142, _, none⟩) NB147_142.out _).trans (((cell_far (p := ⟨gb142, _, none⟩) NB147_142.out _).trans (((cell_far (p := ⟨gb142, _, none⟩) NB147_142.out _).trans (hHeld.2.2))))))⟩ (fun hHeld => ?_)
        clear hK K
        refine pure_ (i := 5) (N := some 3) (v := ?_) (a' := ?_) #[true, true, true, true, true, true] rfl rfl (by kernel_rfl) (fun _ _ _ h => h) (Or.inl ⟨by rfl, ?_⟩) ?_ ?_
        rotate_left
        ·intro w'
         go_simp
         with_reducible rfl
        rotate_left
        ·simp only [Act.put, List.setIfInBounds_toArray, List.set_cons_zero, List.set_cons_succ, i64_w, i32_w]
         rfl
        refine done_ (by kernel_rfl) ?_
        try go_wp2
        refine bodyPost_ret (results_ct rfl _ _ gb142 28 #[.int .i64 0, .string t143, .slice Ao80 x148002_2.length co80] (0, 0) _ rfl (by (with_reducible repeat (first | refine blk_drewN ?_ _ | refine blk_drew ?_ | refine blk_alloc ?_ _)); refine blk_put (cs := #[.int .i64 0, .string t143, .slice none 0 0]) ?_ 2 _ rfl; (with_reducible repeat (first | refine blk_drewN ?_ _ | refine blk_drew ?_ | refine blk_alloc ?_ _)); refine blk_put (cs := #[.int .i64 0, .string x143001_2, .slice none 0 0]) ?_ 1 _ rfl; (with_reducible repeat (first | refine blk_drewN ?_ _ | refine blk_drew ?_ | refine blk_alloc ?_ _)); refine blk_put (cs := #[.int .i64 x143000_2, .string x143001_2, .slice none 0 0]) ?_ 0 _ rfl; (with_reducible repeat (first | refine blk_drewN ?_ _ | refine blk_drew ?_ | refine blk_alloc ?_ _)); exact BK142.out) Tryd.underlying28 rfl (by kernel_rfl)) rfl ?_
        exact ⟨_, er_, by (with_reducible repeat (first | apply Kd.R_alloc | apply Kd.R_drewN | apply Kd.R_drew)); exact Kd.R_mono (Kd.R_far (p := ⟨gb142, 2, none⟩) (Kd.R_far (p := ⟨gb142, 1, none⟩) (Kd.R_far (p := ⟨gb142, 0, none⟩) (Kd.R_types HO_148002.out BK142.out (by decide)) (fun _ hk => hk.2) (.int .i64 0)) (fun _ hk => hk.2) (.string t143)) (fun _ hk => hk.2) (.slice Ao80 x148002_2.length co80)) (fun _ hk => trivial), by repeat (first | (with_reducible first | exact HB.out | apply below_alloc | apply pw_below_drewN | apply below_drew1 | refine below_set ?_ GE142.out | refine below_set ?_ GE147.out) | exact HB.out)⟩
    ·replace c12 := Bool.eq_false_iff.mpr c12
     subst c12
     have H1 : (some (0, (⟨#[]⟩ : ByteArray), ([] : List ByteArray), false)) = some (r1, r2, r3, r4) := by rw [if_neg (show ¬ (false = true) by decide)] at H; exact H
     clear H
     have H := H1
     clear H1
     simp only [Option.some.injEq, Prod.mk.injEq] at H
     obtain ⟨rfl, rfl, rfl, rfl⟩ := H
     go_wp2_with (first | ((with_reducible refine gate_callee (f := 17) rfl ?_); refine goesL_ (some 26) rfl rfl Tryd.func17 (by kernel_rfl) rfl #[.string t143] rfl rf_ ?_; (with_reducible refine (shell_shape.calls kj2 t143 t145 false _ A11.out).mono ?_); rintro e w' ⟨rfl, ⟨nd, rfl⟩⟩; refine ⟨_, rfl, ?_⟩; (try (rw [drewN_self wc]; generalize hq_ : World.drewN wc _ = wc; have n0_ : Aside0 (wc.heap[gb142]? = some (.cells #[.int .i64 0, .string (⟨#[]⟩ : ByteArray), .slice none 0 0] 28 (0, 0))) := ⟨by rw [← hq_]; exact (bk_ BK142.out)⟩; have n1_ : Aside0 (Below w.heap.size w wc) := ⟨by rw [← hq_]; exact (hb1_ GE142.out)⟩; clear BK142 HB hq_; have BK142 := n0_; have HB := n1_; clear n0_ n1_)); have hcz82_0 : wc.cell? ⟨gb142, 0, none⟩ = some (.int .i64 0) := (blk_cell BK142.out 0).trans rfl; have hcz82_1 : wc.cell? ⟨gb142, 1, none⟩ = some (.string (⟨#[]⟩ : ByteArray)) := (blk_cell BK142.out 1).trans rfl; have hcz82_2 : wc.cell? ⟨gb142, 2, none⟩ = some (.slice none 0 0) := (blk_cell BK142.out 2).trans rfl; have hfz82_0 := blk_frozen BK142.out 0; have hfz82_1 := blk_frozen BK142.out 1; have hfz82_2 := blk_frozen BK142.out 2))
     refine bodyPost_ret (results_ct rfl _ _ gb142 28 #[.int .i64 0, .string (⟨#[]⟩ : ByteArray), .slice none 0 0] (0, 0) _ rfl (by (with_reducible repeat (first | refine blk_drewN ?_ _ | refine blk_drew ?_ | refine blk_alloc ?_ _)); refine blk_put (cs := #[.int .i64 0, .string (⟨#[]⟩ : ByteArray), .slice none 0 0]) ?_ 2 _ rfl; (with_reducible repeat (first | refine blk_drewN ?_ _ | refine blk_drew ?_ | refine blk_alloc ?_ _)); refine blk_put (cs := #[.int .i64 0, .string (⟨#[]⟩ : ByteArray), .slice none 0 0]) ?_ 1 _ rfl; (with_reducible repeat (first | refine blk_drewN ?_ _ | refine blk_drew ?_ | refine blk_alloc ?_ _)); refine blk_put (cs := #[.int .i64 0, .string (⟨#[]⟩ : ByteArray), .slice none 0 0]) ?_ 0 _ rfl; (with_reducible repeat (first | refine blk_drewN ?_ _ | refine blk_drew ?_ | refine blk_alloc ?_ _)); exact BK142.out) Tryd.underlying28 rfl (by kernel_rfl)) rfl ?_
     exact ⟨_, er_, by first | exact Kd.R_nil _ _ _ _ _ | exact Kd.N_nil _ _ _ _ _ | exact Kd.V_nil _ _ _ _ _ | exact Kd.Q_nil _ _ _ _ _ | exact Kd.S_nil _ _ _ _ _, by repeat (first | (with_reducible first | exact HB.out | apply below_alloc | apply pw_below_drewN | apply below_drew1 | refine below_set ?_ GE142.out) | exact HB.out)⟩

end Go.Proofs.YtggdffgoffmlpaaDoor.PA
