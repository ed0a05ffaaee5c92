/- Texts of this claim, one behind the other: PA11, URefPrint. Conditions: those of each theorem. -/
import Derived.Test.YtealmfcimoomlaaDoorPA0
import Derived.Test.YtealmfcimoomlaaDoorUWtree
import Derived.Test.YtealmfcimoomlaaDoorPA10
import Derived.Lib.AppendStr
import Derived.Lib.OwnKind
-- Written by a program of this session (wip/tools/xprint.py: the kit's print, with given functions). Not trusted: Lean checks it.
-- squeezed
namespace Go.Proofs.YtealmfcimoomlaaDoor.PA
open Go.RowKit Go.Proofs.YtealmfcimoomlaaDoorW.PrintWords Go.Proofs.YtealmfcimoomlaaDoorW.PrintLast Go.Proofs.YtealmfcimoomlaaDoorW.PrintMore
attribute [local go_sem] max2_int min2_int max_two min_two max_three min_three max_four min_four   -- for this text's walks alone
set_option linter.unusedVariables false
set_option linter.unusedSimpArgs false

/-! ### espalierref04_hollow: function 38 -/
def espalierref04_hollow.l0 : Nat → List (S36) → Int → Option (Bool)
 | 0, _, _ => none
 | k + 1, x0, x3 => if x3 < (x0.length : Int) then (if 0 ≤ x3 then (if ((rd_T36 x0 x3).f0) = 2 then (if ((rd_T36 x0 x3).f3).toList = ([] : List UInt8) then (espalierref04_hollow.l0 k x0 (wrap64 (x3 + 1))) else (some false)) else (some false)) else (none)) else (some true)
def espalierref04_hollow.f (k : Nat) (l0 : List (S36)) : Option (Bool) := espalierref04_hollow.l0 k l0 0
theorem espalierref04_hollow.mono_l : ∀ k, (∀ y0 y1, LeO (espalierref04_hollow.l0 k y0 y1) (espalierref04_hollow.l0 (k + 1) y0 y1))
 | 0 => fun _ _ r h => by simp [espalierref04_hollow.l0] at h
 | k + 1 => by
  have ih0 := espalierref04_hollow.mono_l k
  ·intro y0 y1
   unfold espalierref04_hollow.l0
   repeat' first
   | (with_reducible exact ih0 _ _)
   | (with_reducible exact LeO.refl _)
   | (with_reducible exact LeO.none _)
   | (with_reducible refine LeO.ite ?_ ?_)
   | (with_reducible refine LeO.bind ?_ (fun _ => ?_))
   | exact ih0 _ _
   | exact LeO.none _
   | refine LeO.ite ?_ ?_
   | refine LeO.bind ?_ (fun _ => ?_)
theorem espalierref04_hollow.mono : ∀ a0 k, LeO (espalierref04_hollow.f k a0) (espalierref04_hollow.f (k + 1) a0) := by
 intro a0 k
 have ih0 := espalierref04_hollow.mono_l k
 unfold espalierref04_hollow.f
 repeat' first
   | (with_reducible exact ih0 _ _)
   | (with_reducible exact LeO.refl _)
   | (with_reducible exact LeO.none _)
   | (with_reducible refine LeO.ite ?_ ?_)
   | (with_reducible refine LeO.bind ?_ (fun _ => ?_))
   | exact ih0 _ _
   | exact LeO.none _
   | refine LeO.ite ?_ ?_
   | refine LeO.bind ?_ (fun _ => ?_)
set_option maxHeartbeats 8000000 in
set_option maxRecDepth 100000 in
theorem espalierref04_hollow.calls (k : Nat) (A0 : Option Addr) (c0 : Nat) (l0 : List (S36)) (r : Bool) (w : World) (hr0 : Kd.C k36 w A0 l0.length l0) (hc0 : l0.length ≤ c0) (h : espalierref04_hollow.f k l0 = some r) :
  Calls Tryd.prog 38 #[.slice A0 l0.length c0] w fun e w' => e = .returned (.bool r) ∧ Drawn0 w w' := by
 have HR0 := Aside0.mk hr0
 have HC0 := Aside0.mk hc0
 clear hr0 hc0
 have H : (espalierref04_hollow.l0 k l0 0) = some r := h
 clear h
 have H' := Aside0.mk H
 clear H
 go_enter Tryd.func38, Tryd.ntmps38
 go_wp2
 go_loopg [3] k (fun kq v3 w' => ∃ (x3_1 : Int), v3 = .int .i64 x3_1 ∧ Aside0 (espalierref04_hollow.l0 kq l0 x3_1 = some r) ∧ Aside0 (kq ≤ k) ∧ Drawn0 w w')
 case atStart => exact ⟨(0), (by first | rfl | (simp; done) | (simp [*]; done)), H', ⟨Nat.le_refl _⟩, by repeat (first | exact Drawn0.refl _ | apply Drawn0.step)⟩
 case round =>
  clear H'
  obtain ⟨x3_1, rfl, HA, HK1, ⟨m1, rfl⟩⟩ := hrel
  cases gk with
  | zero => exact absurd HA.out (by simp [espalierref04_hollow.l0])
  | succ k1 =>
   have H := HA.out
   clear HA
   simp only [espalierref04_hollow.l0] at H
   by_cases c2 : x3_1 < (l0.length : Int)
   ·rw [if_pos c2] at H
    have c2b0 : decide (x3_1 < (l0.length : Int)) = true := decide_eq_true c2
    clear c2
    by_cases c3 : 0 ≤ x3_1
    ·rw [if_pos c3] at H
     have c3b0 : decide (0 ≤ x3_1) = true := decide_eq_true c3
     clear c3
     by_cases c4 : ((rd_T36 l0 x3_1).f0) = 2
     ·rw [if_pos c4] at H
      have c4b0 := beq_iff_eq.mpr c4
      have c4b1 := bne_eq_false_iff_eq.mpr c4
      clear c4
      by_cases c5 : ((rd_T36 l0 x3_1).f3).toList = ([] : List UInt8)
      ·rw [if_pos c5] at H
       have c5b0 := beq_iff_eq.mpr c5
       have c5b1 := bne_eq_false_iff_eq.mpr c5
       clear c5
       have H' := Aside0.mk H
       clear H
       have p198 : 0 ≤ (x3_1 : Int) := of_decide_eq_true (by first | (with_reducible assumption) | assumption)
       have q198 : x3_1 < (l0.length : Int) := of_decide_eq_true (by first | (with_reducible assumption) | assumption)
       obtain ⟨ad198, A198_2, c198_2, A198_4, c198_4, e198, hx198_0, hx198_1, hx198_2, hx198_3, hx198_4, hl198_2, hi198_2, hl198_4, hi198_4⟩ := at_T36 HR0.out x3_1 p198 q198
       cases e198
       have HR198_2 := Aside0.mk hi198_2
       have HC198_2 := Aside0.mk hl198_2
       clear hi198_2 hl198_2
       have HR198_4 := Aside0.mk hi198_4
       have HC198_4 := Aside0.mk hl198_4
       clear hi198_4 hl198_4
       replace p198 := eq_true p198
       replace q198 := eq_true q198
       have p199 : 0 ≤ (x3_1 : Int) := of_decide_eq_true (by first | (with_reducible assumption) | assumption)
       have q199 : x3_1 < (l0.length : Int) := of_decide_eq_true (by first | (with_reducible assumption) | assumption)
       obtain ⟨ad199, A199_2, c199_2, A199_4, c199_4, e199, hx199_0, hx199_1, hx199_2, hx199_3, hx199_4, hl199_2, hi199_2, hl199_4, hi199_4⟩ := at_T36 HR0.out x3_1 p199 q199
       obtain rfl : ad198 = ad199 := (by injection e199)
       have HR199_2 := Aside0.mk hi199_2
       have HC199_2 := Aside0.mk hl199_2
       clear hi199_2 hl199_2
       have HR199_4 := Aside0.mk hi199_4
       have HC199_4 := Aside0.mk hl199_4
       clear hi199_4 hl199_4
       replace p199 := eq_true p199
       replace q199 := eq_true q199
       have ea_ := Option.some.inj (hx198_2.symm.trans hx199_2)
       injection ea_ with ea_ en_ ec_
       subst ea_
       subst ec_
       clear en_
       have ea_ := Option.some.inj (hx198_4.symm.trans hx199_4)
       injection ea_ with ea_ en_ ec_
       subst ea_
       subst ec_
       clear en_
       go_wp2
       go_roundg k1
       case measure => have := HK1.out; omega
       case rel => exact ⟨(wrap64 (x3_1 + 1)), (by first | rfl | (simp; done) | (simp [*]; done)), H', ⟨by have := HK1.out; omega⟩, by repeat (first | exact Drawn0.refl _ | apply Drawn0.step)⟩
      ·rw [if_neg c5] at H
       have c5b0 := beq_eq_false_iff_ne.mpr c5
       have c5b1 := bne_iff_ne.mpr c5
       obtain rfl := Option.some.inj H
       have p198 : 0 ≤ (x3_1 : Int) := of_decide_eq_true (by first | (with_reducible assumption) | assumption)
       have q198 : x3_1 < (l0.length : Int) := of_decide_eq_true (by first | (with_reducible assumption) | assumption)
       obtain ⟨ad198, A198_2, c198_2, A198_4, c198_4, e198, hx198_0, hx198_1, hx198_2, hx198_3, hx198_4, hl198_2, hi198_2, hl198_4, hi198_4⟩ := at_T36 HR0.out x3_1 p198 q198
       cases e198
       have HR198_2 := Aside0.mk hi198_2
       have HC198_2 := Aside0.mk hl198_2
       clear hi198_2 hl198_2
       have HR198_4 := Aside0.mk hi198_4
       have HC198_4 := Aside0.mk hl198_4
       clear hi198_4 hl198_4
       replace p198 := eq_true p198
       replace q198 := eq_true q198
       have p199 : 0 ≤ (x3_1 : Int) := of_decide_eq_true (by first | (with_reducible assumption) | assumption)
       have q199 : x3_1 < (l0.length : Int) := of_decide_eq_true (by first | (with_reducible assumption) | assumption)
       obtain ⟨ad199, A199_2, c199_2, A199_4, c199_4, e199, hx199_0, hx199_1, hx199_2, hx199_3, hx199_4, hl199_2, hi199_2, hl199_4, hi199_4⟩ := at_T36 HR0.out x3_1 p199 q199
       obtain rfl : ad198 = ad199 := (by injection e199)
       have HR199_2 := Aside0.mk hi199_2
       have HC199_2 := Aside0.mk hl199_2
       clear hi199_2 hl199_2
       have HR199_4 := Aside0.mk hi199_4
       have HC199_4 := Aside0.mk hl199_4
       clear hi199_4 hl199_4
       replace p199 := eq_true p199
       replace q199 := eq_true q199
       have ea_ := Option.some.inj (hx198_2.symm.trans hx199_2)
       injection ea_ with ea_ en_ ec_
       subst ea_
       subst ec_
       clear en_
       have ea_ := Option.some.inj (hx198_4.symm.trans hx199_4)
       injection ea_ with ea_ en_ ec_
       subst ea_
       subst ec_
       clear en_
       go_wp2
       go_ret
       exact ⟨by first | rfl | (simp; done) | (simp [*]; done), by repeat (first | exact Drawn0.refl _ | apply Drawn0.step)⟩
     ·rw [if_neg c4] at H
      have c4b0 := beq_eq_false_iff_ne.mpr c4
      have c4b1 := bne_iff_ne.mpr c4
      obtain rfl := Option.some.inj H
      have p198 : 0 ≤ (x3_1 : Int) := of_decide_eq_true (by first | (with_reducible assumption) | assumption)
      have q198 : x3_1 < (l0.length : Int) := of_decide_eq_true (by first | (with_reducible assumption) | assumption)
      obtain ⟨ad198, A198_2, c198_2, A198_4, c198_4, e198, hx198_0, hx198_1, hx198_2, hx198_3, hx198_4, hl198_2, hi198_2, hl198_4, hi198_4⟩ := at_T36 HR0.out x3_1 p198 q198
      cases e198
      have HR198_2 := Aside0.mk hi198_2
      have HC198_2 := Aside0.mk hl198_2
      clear hi198_2 hl198_2
      have HR198_4 := Aside0.mk hi198_4
      have HC198_4 := Aside0.mk hl198_4
      clear hi198_4 hl198_4
      replace p198 := eq_true p198
      replace q198 := eq_true q198
      go_wp2
      go_ret
      exact ⟨by first | rfl | (simp; done) | (simp [*]; done), by repeat (first | exact Drawn0.refl _ | apply Drawn0.step)⟩
    ·rw [if_neg c3] at H
     exact absurd H (by simp)
   ·rw [if_neg c2] at H
    have c2b0 : decide (x3_1 < (l0.length : Int)) = false := decide_eq_false c2
    clear c2
    obtain rfl := Option.some.inj H
    go_wp2
    go_ret
    exact ⟨by first | rfl | (simp; done) | (simp [*]; done), by repeat (first | exact Drawn0.refl _ | apply Drawn0.step)⟩

-- NOT PRINTED: function 20 (espalierref04_print)

-- NOT PRINTED: function 6 (espalierref04_Print)

-- GIVEN: function 39 (api_Attr_39)

end Go.Proofs.YtealmfcimoomlaaDoor.PA

/- espalierref04.print and Print: a forest written behind bytes. -/
namespace Go.Proofs.YtealmfcimoomlaaDoor.PA
open Go.RowKit Go.Proofs.YtealmfcimoomlaaDoorW.PrintWords Go.Proofs.YtealmfcimoomlaaDoorW.PrintLast Go.Proofs.YtealmfcimoomlaaDoorW.PrintMore
set_option linter.unusedVariables false
set_option linter.unusedSimpArgs false
def rput (b : List UInt8) (s : ByteArray) : Option (List UInt8) := if b.length + s.size ≤ 140737488000000 then some (b ++ s.data.toList) else none
def rattrF (k : Nat) : List S54 → List UInt8 → Option (List UInt8)
  | [], b => some b
  | a :: l, b => if a.f0.size ≤ 100000 then (espalierref02_Escape.f k a.f1 true).bind fun e => if e.1.size ≤ 1000000 then (rput b (⟨#[32]⟩ ++ a.f0 ++ ⟨#[61, 34]⟩ ++ e.1 ++ ⟨#[34]⟩)).bind fun b1 => rattrF k l b1 else none else none
mutual
def rtreeF (k : Nat) : S36 → List UInt8 → Option (List UInt8)
  | ⟨f0, f1, f2, f3, f4⟩, b =>
    if f0 = 2 then (espalierref02_Escape.f k f3 false).bind fun e => rput b e.1
    else if f1.size ≤ 100000 then (rput b (⟨#[60]⟩ ++ f1)).bind fun b1 => (rattrF k f2 b1).bind fun b2 => (espalierref04_hollow.f k f4).bind fun h =>
      if h = true then rput b2 ⟨#[47, 62]⟩ else (rput b2 ⟨#[62]⟩).bind fun b3 => (rkidsF k f4 b3).bind fun b4 => rput b4 (⟨#[60, 47]⟩ ++ f1 ++ ⟨#[62]⟩)
    else none
def rkidsF (k : Nat) : List S36 → List UInt8 → Option (List UInt8)
  | [], b => some b
  | t :: l, b => if b.length ≤ 262144 then (rtreeF k t b).bind fun b1 => rkidsF k l b1 else some b
end
theorem rattrF_mono (k : Nat) : ∀ (l : List S54) (b : List UInt8), LeO (rattrF k l b) (rattrF (k + 1) l b)
  | [], b => by rw [rattrF, rattrF]; exact LeO.refl _
  | a :: l, b => by
    rw [rattrF, rattrF]
    exact LeO.ite (LeO.bind (espalierref02_Escape.mono _ _ _) fun e => LeO.ite (LeO.bind (LeO.refl _) fun b1 => rattrF_mono k l _) (LeO.refl _)) (LeO.refl _)
mutual
theorem rtreeF_mono (k : Nat) : ∀ (t : S36) (b : List UInt8), LeO (rtreeF k t b) (rtreeF (k + 1) t b)
  | ⟨f0, f1, f2, f3, f4⟩, b => by
    rw [rtreeF, rtreeF]
    exact LeO.ite (LeO.bind (espalierref02_Escape.mono _ _ _) fun e => LeO.refl _) (LeO.ite (LeO.bind (LeO.refl _) fun b1 => LeO.bind (rattrF_mono k f2 _) fun b2 => LeO.bind (espalierref04_hollow.mono _ _) fun h =>
      LeO.ite (LeO.refl _) (LeO.bind (LeO.refl _) fun b3 => LeO.bind (rkidsF_mono k f4 _) fun b4 => LeO.refl _)) (LeO.refl _))
theorem rkidsF_mono (k : Nat) : ∀ (l : List S36) (b : List UInt8), LeO (rkidsF k l b) (rkidsF (k + 1) l b)
  | [], b => by rw [rkidsF, rkidsF]; exact LeO.refl _
  | t :: l, b => by
    rw [rkidsF, rkidsF]
    exact LeO.ite (LeO.bind (rtreeF_mono k t b) fun b1 => rkidsF_mono k l b1) (LeO.refl _)
end
/-- Under way in 'print': the bytes so far, in the call's own memory. -/
structure RW (w0 wS : World) (v : Value) (bs : List UInt8) (w : World) : Prop where
  own : w.ownsRow w0.heap.size 5 1 v bs.length (Lib.byteCells bs)
  bel0 : Below w0.heap.size w0 w
  bel : Below w0.heap.size wS w
  kept : Lib.OthersKept 5 none wS w
theorem RW.move {w0 wS w w' : World} {v : Value} {bs : List UInt8} (h : RW w0 wS v bs w) (hb : Below w.heap.size w w') : RW w0 wS v bs w' :=
  ⟨pw_own_below h.own hb, h.bel0.trans (hb.mono h.bel0.size), h.bel.trans (hb.mono h.bel0.size), h.kept.trans ((Lib.OthersKept.refl _ _ w).below hb)⟩
theorem RW.app {w0 wS w w' : World} {v v' : Value} {bs r : List UInt8} {s : ByteArray} {n : Nat} (hr : r = bs ++ s.data.toList) (h : RW w0 wS v bs w) (h1 : w'.ownsRow w0.heap.size 5 1 v' n (Lib.byteCells bs ++ Lib.strCells s)) (h2 : w.grownBy w' v.ownBlock) : RW w0 wS v' r w' := by
  subst hr
  have hn : n = bs.length + s.size := by have := h1.1; simp only [List.length_append, Lib.byteCells_length, Lib.strCells_length] at this; omega
  subst hn
  refine ⟨?_, h.bel0.grown h2 (h.bel0.size) (fun k hk => own_base h.own k hk), h.bel.grown h2 (h.bel0.size) (fun k hk => own_base h.own k hk), h.kept.grown h2 (Lib.ownsRow_kind h.own)⟩
  rw [bytes_str, List.length_append, data_length]
  exact h1
theorem RW.keeps {w0 wS w w' : World} {v v' : Value} {bs bs' : List UInt8} (h : RW w0 wS v bs w) (h' : RW w0 w v' bs' w') : RW w0 wS v' bs' w' :=
  ⟨h'.own, h'.bel0, h.bel.trans h'.bel, h.kept.trans h'.kept⟩
theorem RW.slice {w0 wS w : World} {v : Value} {bs : List UInt8} (h : RW w0 wS v bs w) : ∃ A c, v = .slice A bs.length c := own_slice h.own
theorem rput_some {b r : List UInt8} {s : ByteArray} (h : rput b s = some r) : b.length + s.size ≤ 140737488000000 ∧ r = b ++ s.data.toList := by
  unfold rput at h
  by_cases hs : b.length + s.size ≤ 140737488000000
  · rw [if_pos hs] at h; exact ⟨hs, (Option.some.inj h).symm⟩
  · rw [if_neg hs] at h; cases h
/-- A variable of the call's own, of another type than bytes. -/
structure RB (q : Nat) (ds : Array Value) (T : TypeId) (w : World) : Prop where
  blk : w.heap[q]? = some (.cells ds T (0, 0))
  ty : T ≠ 5
theorem RB.step {q : Nat} {ds : Array Value} {T : TypeId} {w w' : World} (h : RB q ds T w) (k : Lib.OthersKept 5 none w w') : RB q ds T w' :=
  ⟨k _ _ h.blk (by simp) (fun c fz e => by injection e with _ e _; exact h.ty e), h.ty⟩
theorem RB.grown {q : Nat} {ds : Array Value} {T : TypeId} {w w' : World} {B n : Nat} {v : Value} {xs : List Value} (h : RB q ds T w) (h1 : w.ownsRow B 5 1 v n xs) (h2 : w.grownBy w' v.ownBlock) : RB q ds T w' :=
  h.step ((Lib.OthersKept.refl _ _ w).grown h2 (Lib.ownsRow_kind h1))
theorem RB.below {q : Nat} {ds : Array Value} {T : TypeId} {w w' : World} (h : RB q ds T w) (hb : Below w.heap.size w w') : RB q ds T w' := ⟨(hb.block q (blk_lt h.blk)).trans h.blk, h.ty⟩
theorem RB.cell {q : Nat} {ds : Array Value} {T : TypeId} {w : World} (h : RB q ds T w) (i : Nat) : w.cell? ⟨q, i, none⟩ = ds[i]? := blk_cell h.blk i
end Go.Proofs.YtealmfcimoomlaaDoor.PA
