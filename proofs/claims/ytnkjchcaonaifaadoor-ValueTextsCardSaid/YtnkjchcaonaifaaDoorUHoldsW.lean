/- value.holds: what it answers, over value.asBool, asNumber, numbers, and itself through closures. Written by wip/gen/holds.py. -/
import Derived.Test.YtnkjchcaonaifaaDoorPA2
import Derived.Test.YtnkjchcaonaifaaDoorPA1
import Derived.Test.YtnkjchcaonaifaaDoorPA2
import Derived.Test.YtnkjchcaonaifaaDoorPA2
import Derived.Test.YtnkjchcaonaifaaDoorPA2
import Derived.Test.YtnkjchcaonaifaaDoorUIndexFunc
import Derived.Test.YtnkjchcaonaifaaDoorURead
import Derived.WalkKit
import Derived.BigCall
import Derived.BigGuard
import Derived.Outline
import Derived.Shelf.Abstract
import Derived.Deep.QuietTactic
import Derived.Deep.RegionHeld3
import Derived.BigQuiet
namespace Go.Proofs.YtnkjchcaonaifaaDoor.PA
open Go.RowKit Go.Proofs.YtnkjchcaonaifaaDoorW.PrintWords Go.Proofs.YtnkjchcaonaifaaDoorW.PrintLast Go.Proofs.YtnkjchcaonaifaaDoorW.PrintMore
set_option linter.unusedVariables false
set_option linter.unusedSimpArgs false
structure HeldAt (w W : World) (g3 g4 g5 : Nat) (op : ByteArray) (x0 : Int) (x1 : Bool) (x2 : Int) (x3 : Bool) (x4 : ByteArray) (x5 : Value) (y0 : Int) (y1 : Bool) (y2 : Int) (y3 : Bool) (y4 : ByteArray) (y5 : Value) : Prop where
  bel : Below w.heap.size w W
  b3 : W.heap[g3]? = some (.cells #[.string op] 9 (0, 0))
  b4 : W.heap[g4]? = some (.cells #[.int .i64 x0, .bool x1, .int .i64 x2, .bool x3, .string x4, x5] 49 (0, 0))
  b5 : W.heap[g5]? = some (.cells #[.int .i64 y0, .bool y1, .int .i64 y2, .bool y3, .string y4, y5] 49 (0, 0))
section
variable {w W W' : World} {g3 g4 g5 : Nat} {op : ByteArray} {x0 : Int} {x1 : Bool} {x2 : Int} {x3 : Bool} {x4 : ByteArray} {x5 : Value} {y0 : Int} {y1 : Bool} {y2 : Int} {y3 : Bool} {y4 : ByteArray} {y5 : Value}
theorem HeldAt.step (h : HeldAt w W g3 g4 g5 op x0 x1 x2 x3 x4 x5 y0 y1 y2 y3 y4 y5) (hb : Below W.heap.size W W') : HeldAt w W' g3 g4 g5 op x0 x1 x2 x3 x4 x5 y0 y1 y2 y3 y4 y5 :=
  ⟨below_step h.bel hb, blk_below h.b3 hb, blk_below h.b4 hb, blk_below h.b5 hb⟩
theorem HeldAt.drewN (h : HeldAt w W g3 g4 g5 op x0 x1 x2 x3 x4 x5 y0 y1 y2 y3 y4 y5) (n : Nat) : HeldAt w (W.drewN n) g3 g4 g5 op x0 x1 x2 x3 x4 x5 y0 y1 y2 y3 y4 y5 := h.step (pw_below_drewN (Below.refl _ _) n)
theorem HeldAt.drew (h : HeldAt w W g3 g4 g5 op x0 x1 x2 x3 x4 x5 y0 y1 y2 y3 y4 y5) : HeldAt w W.drew g3 g4 g5 op x0 x1 x2 x3 x4 x5 y0 y1 y2 y3 y4 y5 := h.step (below_drew1 (Below.refl _ _))
theorem HeldAt.all (h : HeldAt w W g3 g4 g5 op x0 x1 x2 x3 x4 x5 y0 y1 y2 y3 y4 y5) : HeldAt w W g3 g4 g5 op x0 x1 x2 x3 x4 x5 y0 y1 y2 y3 y4 y5 ∧ W.cell? ⟨g3, 0, none⟩ = some (.string op) ∧
    W.cell? ⟨g4, 0, none⟩ = some (.int .i64 x0) ∧ W.cell? ⟨g4, 1, none⟩ = some (.bool x1) ∧ W.cell? ⟨g4, 2, none⟩ = some (.int .i64 x2) ∧ W.cell? ⟨g4, 3, none⟩ = some (.bool x3) ∧ W.cell? ⟨g4, 4, none⟩ = some (.string x4) ∧ W.cell? ⟨g4, 5, none⟩ = some x5 ∧
    W.cell? ⟨g5, 0, none⟩ = some (.int .i64 y0) ∧ W.cell? ⟨g5, 1, none⟩ = some (.bool y1) ∧ W.cell? ⟨g5, 2, none⟩ = some (.int .i64 y2) ∧ W.cell? ⟨g5, 3, none⟩ = some (.bool y3) ∧ W.cell? ⟨g5, 4, none⟩ = some (.string y4) ∧ W.cell? ⟨g5, 5, none⟩ = some y5 :=
  ⟨h, (blk_cell h.b3 0).trans rfl, (blk_cell h.b4 0).trans rfl, (blk_cell h.b4 1).trans rfl, (blk_cell h.b4 2).trans rfl, (blk_cell h.b4 3).trans rfl, (blk_cell h.b4 4).trans rfl, (blk_cell h.b4 5).trans rfl,
    (blk_cell h.b5 0).trans rfl, (blk_cell h.b5 1).trans rfl, (blk_cell h.b5 2).trans rfl, (blk_cell h.b5 3).trans rfl, (blk_cell h.b5 4).trans rfl, (blk_cell h.b5 5).trans rfl⟩
end
set_option maxHeartbeats 4000000
set_option maxRecDepth 1000000
section
variable (op : ByteArray) (a_0 : Int) (a_1 : Bool) (a_2 : Int) (a_3 : Bool) (a_4 : ByteArray) (a_5 : Option Addr) (a_6 : Nat) (na : Nat) (b_0 : Int) (b_1 : Bool) (b_2 : Int) (b_3 : Bool) (b_4 : ByteArray) (b_5 : Option Addr) (b_6 : Nat) (nb : Nat) (w : World)
include op a_0 a_1 a_2 a_3 a_4 a_5 a_6 na b_0 b_1 b_2 b_3 b_4 b_5 b_6 nb w
theorem holds12_eq_l (r1 r2 : Bool) (h14 : (a_0 == 4) = false) (h24 : (b_0 == 4) = false) (ho : (op.toList == ([61] : List UInt8)) = true) (h11 : (a_0 == 1) = true)
    (ha : Hid (∀ W, Below w.heap.size w W → Calls Tryd.prog 47 #[.agg #[.int .i64 a_0, .bool a_1, .int .i64 a_2, .bool a_3, .string a_4, .slice a_5 na a_6]] W fun e w' => e = .returned (.bool r1) ∧ Below W.heap.size W w')) (hb : Hid (∀ W, Below w.heap.size w W → Calls Tryd.prog 47 #[.agg #[.int .i64 b_0, .bool b_1, .int .i64 b_2, .bool b_3, .string b_4, .slice b_5 nb b_6]] W fun e w' => e = .returned (.bool r2) ∧ Below W.heap.size W w')) :
    Calls Tryd.prog 42 #[.string op, .agg #[.int .i64 a_0, .bool a_1, .int .i64 a_2, .bool a_3, .string a_4, .slice a_5 na a_6], .agg #[.int .i64 b_0, .bool b_1, .int .i64 b_2, .bool b_3, .string b_4, .slice b_5 nb b_6]] w fun e w' => e = .returned (.bool ((r1 == r2) == true)) ∧ Below w.heap.size w w' := by
  have huV := Tryd.underlying49
  go_enter Tryd.func42, Tryd.ntmps42
  go_wp2_with (first
    | ((with_reducible refine gate_dst (N := 3) rfl ?_); refine box_event ?hg (N := 3) ?hd (cs := #[.string op]) (t := 9) ?hr ?_; (case hd => rfl); (case hg => rfl); (case hr => first | (go_simp; done) | (go_simp; rfl)); intro g3 hg3 w3 hx3 hb3; have B3 := Aside0.mk hb3; have K3 := Aside0.mk hx3; clear hb3 hx3 hg3)
    | ((with_reducible refine gate_dst (N := 4) rfl ?_); refine box_event ?hg (N := 4) ?hd (cs := #[.int .i64 a_0, .bool a_1, .int .i64 a_2, .bool a_3, .string a_4, .slice a_5 na a_6]) (t := 49) ?hr ?_; (case hd => rfl); (case hg => rfl); (case hr => first | (go_simp; done) | (go_simp; rfl)); intro g4 hg4 w4 hx4 hb4; have K3' := Aside0.mk (blk_below K3.out hb4); have B4 := Aside0.mk (below_step B3.out hb4); have K4 := Aside0.mk hx4; clear hb4 hx4 hg4 K3 B3)
    | ((with_reducible refine gate_dst (N := 5) rfl ?_); refine box_event ?hg (N := 5) ?hd (cs := #[.int .i64 b_0, .bool b_1, .int .i64 b_2, .bool b_3, .string b_4, .slice b_5 nb b_6]) (t := 49) ?hr ?_; (case hd => rfl); (case hg => rfl); (case hr => first | (go_simp; done) | (go_simp; rfl)); intro g5 hg5 w5 hx5 hb5; have HA := Aside0.mk (HeldAt.mk (below_step B4.out hb5) (blk_below K3'.out hb5) (blk_below K4.out hb5) hx5); clear hb5 hx5 hg5 K3' K4 B4; obtain ⟨-, c3, c40, c41, c42, c43, c44, c45, c50, c51, c52, c53, c54, c55⟩ := HA.out.all))
  go_quiet (fail)
  generalize hq : w5.drewN nq = w6
  have HA6 := Aside0.mk (hq ▸ HA.out.drewN nq)
  clear hq c3 c40 c41 c42 c43 c44 c45 c50 c51 c52 c53 c54 c55 HA
  obtain ⟨-, c3, c40, c41, c42, c43, c44, c45, c50, c51, c52, c53, c54, c55⟩ := HA6.out.all
  go_wp2
  go_region_held3 (fun W => HeldAt w W g3 g4 g5 op a_0 a_1 a_2 a_3 a_4 (.slice a_5 na a_6) b_0 b_1 b_2 b_3 b_4 (.slice b_5 nb b_6) ∧ W.cell? ⟨g3, 0, none⟩ = some (.string op) ∧ W.cell? ⟨g4, 0, none⟩ = some (.int .i64 a_0) ∧ W.cell? ⟨g4, 1, none⟩ = some (.bool a_1) ∧ W.cell? ⟨g4, 2, none⟩ = some (.int .i64 a_2) ∧ W.cell? ⟨g4, 3, none⟩ = some (.bool a_3) ∧ W.cell? ⟨g4, 4, none⟩ = some (.string a_4) ∧ W.cell? ⟨g4, 5, none⟩ = some (.slice a_5 na a_6) ∧ W.cell? ⟨g5, 0, none⟩ = some (.int .i64 b_0) ∧ W.cell? ⟨g5, 1, none⟩ = some (.bool b_1) ∧ W.cell? ⟨g5, 2, none⟩ = some (.int .i64 b_2) ∧ W.cell? ⟨g5, 3, none⟩ = some (.bool b_3) ∧ W.cell? ⟨g5, 4, none⟩ = some (.string b_4) ∧ W.cell? ⟨g5, 5, none⟩ = some (.slice b_5 nb b_6))
    (first | exact HA6.out.drew.all | (go_split_ands; exact (HeldAt.step (by assumption) (by assumption)).all))
    (first | (go_at_call 47; (with_reducible refine (ha.out _ ?_).mono ?_); (next => (go_split_ands; exact HeldAt.bel (by assumption))); rintro e w7 ⟨rfl, hb7⟩) | (go_at_call 47; (with_reducible refine (hb.out _ ?_).mono ?_); (next => (go_split_ands; exact HeldAt.bel (by assumption))); rintro e w7 ⟨rfl, hb7⟩))
  all_goals
    go_wp2
    go_ret
    refine ⟨?_, by (go_split_ands; exact HeldAt.bel (by assumption))⟩
    cases r1 <;> cases r2 <;> rfl
theorem holds12_eq_r (r1 r2 : Bool) (h14 : (a_0 == 4) = false) (h24 : (b_0 == 4) = false) (ho : (op.toList == ([61] : List UInt8)) = true) (h11 : (a_0 == 1) = false) (h21 : (b_0 == 1) = true)
    (ha : Hid (∀ W, Below w.heap.size w W → Calls Tryd.prog 47 #[.agg #[.int .i64 a_0, .bool a_1, .int .i64 a_2, .bool a_3, .string a_4, .slice a_5 na a_6]] W fun e w' => e = .returned (.bool r1) ∧ Below W.heap.size W w')) (hb : Hid (∀ W, Below w.heap.size w W → Calls Tryd.prog 47 #[.agg #[.int .i64 b_0, .bool b_1, .int .i64 b_2, .bool b_3, .string b_4, .slice b_5 nb b_6]] W fun e w' => e = .returned (.bool r2) ∧ Below W.heap.size W w')) :
    Calls Tryd.prog 42 #[.string op, .agg #[.int .i64 a_0, .bool a_1, .int .i64 a_2, .bool a_3, .string a_4, .slice a_5 na a_6], .agg #[.int .i64 b_0, .bool b_1, .int .i64 b_2, .bool b_3, .string b_4, .slice b_5 nb b_6]] w fun e w' => e = .returned (.bool ((r1 == r2) == true)) ∧ Below w.heap.size w w' := by
  have huV := Tryd.underlying49
  go_enter Tryd.func42, Tryd.ntmps42
  go_wp2_with (first
    | ((with_reducible refine gate_dst (N := 3) rfl ?_); refine box_event ?hg (N := 3) ?hd (cs := #[.string op]) (t := 9) ?hr ?_; (case hd => rfl); (case hg => rfl); (case hr => first | (go_simp; done) | (go_simp; rfl)); intro g3 hg3 w3 hx3 hb3; have B3 := Aside0.mk hb3; have K3 := Aside0.mk hx3; clear hb3 hx3 hg3)
    | ((with_reducible refine gate_dst (N := 4) rfl ?_); refine box_event ?hg (N := 4) ?hd (cs := #[.int .i64 a_0, .bool a_1, .int .i64 a_2, .bool a_3, .string a_4, .slice a_5 na a_6]) (t := 49) ?hr ?_; (case hd => rfl); (case hg => rfl); (case hr => first | (go_simp; done) | (go_simp; rfl)); intro g4 hg4 w4 hx4 hb4; have K3' := Aside0.mk (blk_below K3.out hb4); have B4 := Aside0.mk (below_step B3.out hb4); have K4 := Aside0.mk hx4; clear hb4 hx4 hg4 K3 B3)
    | ((with_reducible refine gate_dst (N := 5) rfl ?_); refine box_event ?hg (N := 5) ?hd (cs := #[.int .i64 b_0, .bool b_1, .int .i64 b_2, .bool b_3, .string b_4, .slice b_5 nb b_6]) (t := 49) ?hr ?_; (case hd => rfl); (case hg => rfl); (case hr => first | (go_simp; done) | (go_simp; rfl)); intro g5 hg5 w5 hx5 hb5; have HA := Aside0.mk (HeldAt.mk (below_step B4.out hb5) (blk_below K3'.out hb5) (blk_below K4.out hb5) hx5); clear hb5 hx5 hg5 K3' K4 B4; obtain ⟨-, c3, c40, c41, c42, c43, c44, c45, c50, c51, c52, c53, c54, c55⟩ := HA.out.all))
  go_quiet (fail)
  generalize hq : w5.drewN nq = w6
  have HA6 := Aside0.mk (hq ▸ HA.out.drewN nq)
  clear hq c3 c40 c41 c42 c43 c44 c45 c50 c51 c52 c53 c54 c55 HA
  obtain ⟨-, c3, c40, c41, c42, c43, c44, c45, c50, c51, c52, c53, c54, c55⟩ := HA6.out.all
  go_wp2
  go_region_held3 (fun W => HeldAt w W g3 g4 g5 op a_0 a_1 a_2 a_3 a_4 (.slice a_5 na a_6) b_0 b_1 b_2 b_3 b_4 (.slice b_5 nb b_6) ∧ W.cell? ⟨g3, 0, none⟩ = some (.string op) ∧ W.cell? ⟨g4, 0, none⟩ = some (.int .i64 a_0) ∧ W.cell? ⟨g4, 1, none⟩ = some (.bool a_1) ∧ W.cell? ⟨g4, 2, none⟩ = some (.int .i64 a_2) ∧ W.cell? ⟨g4, 3, none⟩ = some (.bool a_3) ∧ W.cell? ⟨g4, 4, none⟩ = some (.string a_4) ∧ W.cell? ⟨g4, 5, none⟩ = some (.slice a_5 na a_6) ∧ W.cell? ⟨g5, 0, none⟩ = some (.int .i64 b_0) ∧ W.cell? ⟨g5, 1, none⟩ = some (.bool b_1) ∧ W.cell? ⟨g5, 2, none⟩ = some (.int .i64 b_2) ∧ W.cell? ⟨g5, 3, none⟩ = some (.bool b_3) ∧ W.cell? ⟨g5, 4, none⟩ = some (.string b_4) ∧ W.cell? ⟨g5, 5, none⟩ = some (.slice b_5 nb b_6))
    (first | exact HA6.out.drew.all | (go_split_ands; exact (HeldAt.step (by assumption) (by assumption)).all))
    (first | (go_at_call 47; (with_reducible refine (ha.out _ ?_).mono ?_); (next => (go_split_ands; exact HeldAt.bel (by assumption))); rintro e w7 ⟨rfl, hb7⟩) | (go_at_call 47; (with_reducible refine (hb.out _ ?_).mono ?_); (next => (go_split_ands; exact HeldAt.bel (by assumption))); rintro e w7 ⟨rfl, hb7⟩))
  all_goals
    go_wp2
    go_ret
    refine ⟨?_, by (go_split_ands; exact HeldAt.bel (by assumption))⟩
    cases r1 <;> cases r2 <;> rfl
theorem holds12_ne_l (r1 r2 : Bool) (h14 : (a_0 == 4) = false) (h24 : (b_0 == 4) = false) (ho : (op.toList == ([61] : List UInt8)) = false) (ho2 : (op.toList == ([33, 61] : List UInt8)) = true) (h11 : (a_0 == 1) = true)
    (ha : Hid (∀ W, Below w.heap.size w W → Calls Tryd.prog 47 #[.agg #[.int .i64 a_0, .bool a_1, .int .i64 a_2, .bool a_3, .string a_4, .slice a_5 na a_6]] W fun e w' => e = .returned (.bool r1) ∧ Below W.heap.size W w')) (hb : Hid (∀ W, Below w.heap.size w W → Calls Tryd.prog 47 #[.agg #[.int .i64 b_0, .bool b_1, .int .i64 b_2, .bool b_3, .string b_4, .slice b_5 nb b_6]] W fun e w' => e = .returned (.bool r2) ∧ Below W.heap.size W w')) :
    Calls Tryd.prog 42 #[.string op, .agg #[.int .i64 a_0, .bool a_1, .int .i64 a_2, .bool a_3, .string a_4, .slice a_5 na a_6], .agg #[.int .i64 b_0, .bool b_1, .int .i64 b_2, .bool b_3, .string b_4, .slice b_5 nb b_6]] w fun e w' => e = .returned (.bool ((r1 == r2) == false)) ∧ Below w.heap.size w w' := by
  have huV := Tryd.underlying49
  go_enter Tryd.func42, Tryd.ntmps42
  go_wp2_with (first
    | ((with_reducible refine gate_dst (N := 3) rfl ?_); refine box_event ?hg (N := 3) ?hd (cs := #[.string op]) (t := 9) ?hr ?_; (case hd => rfl); (case hg => rfl); (case hr => first | (go_simp; done) | (go_simp; rfl)); intro g3 hg3 w3 hx3 hb3; have B3 := Aside0.mk hb3; have K3 := Aside0.mk hx3; clear hb3 hx3 hg3)
    | ((with_reducible refine gate_dst (N := 4) rfl ?_); refine box_event ?hg (N := 4) ?hd (cs := #[.int .i64 a_0, .bool a_1, .int .i64 a_2, .bool a_3, .string a_4, .slice a_5 na a_6]) (t := 49) ?hr ?_; (case hd => rfl); (case hg => rfl); (case hr => first | (go_simp; done) | (go_simp; rfl)); intro g4 hg4 w4 hx4 hb4; have K3' := Aside0.mk (blk_below K3.out hb4); have B4 := Aside0.mk (below_step B3.out hb4); have K4 := Aside0.mk hx4; clear hb4 hx4 hg4 K3 B3)
    | ((with_reducible refine gate_dst (N := 5) rfl ?_); refine box_event ?hg (N := 5) ?hd (cs := #[.int .i64 b_0, .bool b_1, .int .i64 b_2, .bool b_3, .string b_4, .slice b_5 nb b_6]) (t := 49) ?hr ?_; (case hd => rfl); (case hg => rfl); (case hr => first | (go_simp; done) | (go_simp; rfl)); intro g5 hg5 w5 hx5 hb5; have HA := Aside0.mk (HeldAt.mk (below_step B4.out hb5) (blk_below K3'.out hb5) (blk_below K4.out hb5) hx5); clear hb5 hx5 hg5 K3' K4 B4; obtain ⟨-, c3, c40, c41, c42, c43, c44, c45, c50, c51, c52, c53, c54, c55⟩ := HA.out.all))
  go_quiet (fail)
  generalize hq : w5.drewN nq = w6
  have HA6 := Aside0.mk (hq ▸ HA.out.drewN nq)
  clear hq c3 c40 c41 c42 c43 c44 c45 c50 c51 c52 c53 c54 c55 HA
  obtain ⟨-, c3, c40, c41, c42, c43, c44, c45, c50, c51, c52, c53, c54, c55⟩ := HA6.out.all
  go_wp2
  go_region_held3 (fun W => HeldAt w W g3 g4 g5 op a_0 a_1 a_2 a_3 a_4 (.slice a_5 na a_6) b_0 b_1 b_2 b_3 b_4 (.slice b_5 nb b_6) ∧ W.cell? ⟨g3, 0, none⟩ = some (.string op) ∧ W.cell? ⟨g4, 0, none⟩ = some (.int .i64 a_0) ∧ W.cell? ⟨g4, 1, none⟩ = some (.bool a_1) ∧ W.cell? ⟨g4, 2, none⟩ = some (.int .i64 a_2) ∧ W.cell? ⟨g4, 3, none⟩ = some (.bool a_3) ∧ W.cell? ⟨g4, 4, none⟩ = some (.string a_4) ∧ W.cell? ⟨g4, 5, none⟩ = some (.slice a_5 na a_6) ∧ W.cell? ⟨g5, 0, none⟩ = some (.int .i64 b_0) ∧ W.cell? ⟨g5, 1, none⟩ = some (.bool b_1) ∧ W.cell? ⟨g5, 2, none⟩ = some (.int .i64 b_2) ∧ W.cell? ⟨g5, 3, none⟩ = some (.bool b_3) ∧ W.cell? ⟨g5, 4, none⟩ = some (.string b_4) ∧ W.cell? ⟨g5, 5, none⟩ = some (.slice b_5 nb b_6))
    (first | exact HA6.out.drew.all | (go_split_ands; exact (HeldAt.step (by assumption) (by assumption)).all))
    (first | (go_at_call 47; (with_reducible refine (ha.out _ ?_).mono ?_); (next => (go_split_ands; exact HeldAt.bel (by assumption))); rintro e w7 ⟨rfl, hb7⟩) | (go_at_call 47; (with_reducible refine (hb.out _ ?_).mono ?_); (next => (go_split_ands; exact HeldAt.bel (by assumption))); rintro e w7 ⟨rfl, hb7⟩))
  all_goals
    go_wp2
    go_ret
    refine ⟨?_, by (go_split_ands; exact HeldAt.bel (by assumption))⟩
    cases r1 <;> cases r2 <;> rfl
theorem holds12_ne_r (r1 r2 : Bool) (h14 : (a_0 == 4) = false) (h24 : (b_0 == 4) = false) (ho : (op.toList == ([61] : List UInt8)) = false) (ho2 : (op.toList == ([33, 61] : List UInt8)) = true) (h11 : (a_0 == 1) = false) (h21 : (b_0 == 1) = true)
    (ha : Hid (∀ W, Below w.heap.size w W → Calls Tryd.prog 47 #[.agg #[.int .i64 a_0, .bool a_1, .int .i64 a_2, .bool a_3, .string a_4, .slice a_5 na a_6]] W fun e w' => e = .returned (.bool r1) ∧ Below W.heap.size W w')) (hb : Hid (∀ W, Below w.heap.size w W → Calls Tryd.prog 47 #[.agg #[.int .i64 b_0, .bool b_1, .int .i64 b_2, .bool b_3, .string b_4, .slice b_5 nb b_6]] W fun e w' => e = .returned (.bool r2) ∧ Below W.heap.size W w')) :
    Calls Tryd.prog 42 #[.string op, .agg #[.int .i64 a_0, .bool a_1, .int .i64 a_2, .bool a_3, .string a_4, .slice a_5 na a_6], .agg #[.int .i64 b_0, .bool b_1, .int .i64 b_2, .bool b_3, .string b_4, .slice b_5 nb b_6]] w fun e w' => e = .returned (.bool ((r1 == r2) == false)) ∧ Below w.heap.size w w' := by
  have huV := Tryd.underlying49
  go_enter Tryd.func42, Tryd.ntmps42
  go_wp2_with (first
    | ((with_reducible refine gate_dst (N := 3) rfl ?_); refine box_event ?hg (N := 3) ?hd (cs := #[.string op]) (t := 9) ?hr ?_; (case hd => rfl); (case hg => rfl); (case hr => first | (go_simp; done) | (go_simp; rfl)); intro g3 hg3 w3 hx3 hb3; have B3 := Aside0.mk hb3; have K3 := Aside0.mk hx3; clear hb3 hx3 hg3)
    | ((with_reducible refine gate_dst (N := 4) rfl ?_); refine box_event ?hg (N := 4) ?hd (cs := #[.int .i64 a_0, .bool a_1, .int .i64 a_2, .bool a_3, .string a_4, .slice a_5 na a_6]) (t := 49) ?hr ?_; (case hd => rfl); (case hg => rfl); (case hr => first | (go_simp; done) | (go_simp; rfl)); intro g4 hg4 w4 hx4 hb4; have K3' := Aside0.mk (blk_below K3.out hb4); have B4 := Aside0.mk (below_step B3.out hb4); have K4 := Aside0.mk hx4; clear hb4 hx4 hg4 K3 B3)
    | ((with_reducible refine gate_dst (N := 5) rfl ?_); refine box_event ?hg (N := 5) ?hd (cs := #[.int .i64 b_0, .bool b_1, .int .i64 b_2, .bool b_3, .string b_4, .slice b_5 nb b_6]) (t := 49) ?hr ?_; (case hd => rfl); (case hg => rfl); (case hr => first | (go_simp; done) | (go_simp; rfl)); intro g5 hg5 w5 hx5 hb5; have HA := Aside0.mk (HeldAt.mk (below_step B4.out hb5) (blk_below K3'.out hb5) (blk_below K4.out hb5) hx5); clear hb5 hx5 hg5 K3' K4 B4; obtain ⟨-, c3, c40, c41, c42, c43, c44, c45, c50, c51, c52, c53, c54, c55⟩ := HA.out.all))
  go_quiet (fail)
  generalize hq : w5.drewN nq = w6
  have HA6 := Aside0.mk (hq ▸ HA.out.drewN nq)
  clear hq c3 c40 c41 c42 c43 c44 c45 c50 c51 c52 c53 c54 c55 HA
  obtain ⟨-, c3, c40, c41, c42, c43, c44, c45, c50, c51, c52, c53, c54, c55⟩ := HA6.out.all
  go_wp2
  go_region_held3 (fun W => HeldAt w W g3 g4 g5 op a_0 a_1 a_2 a_3 a_4 (.slice a_5 na a_6) b_0 b_1 b_2 b_3 b_4 (.slice b_5 nb b_6) ∧ W.cell? ⟨g3, 0, none⟩ = some (.string op) ∧ W.cell? ⟨g4, 0, none⟩ = some (.int .i64 a_0) ∧ W.cell? ⟨g4, 1, none⟩ = some (.bool a_1) ∧ W.cell? ⟨g4, 2, none⟩ = some (.int .i64 a_2) ∧ W.cell? ⟨g4, 3, none⟩ = some (.bool a_3) ∧ W.cell? ⟨g4, 4, none⟩ = some (.string a_4) ∧ W.cell? ⟨g4, 5, none⟩ = some (.slice a_5 na a_6) ∧ W.cell? ⟨g5, 0, none⟩ = some (.int .i64 b_0) ∧ W.cell? ⟨g5, 1, none⟩ = some (.bool b_1) ∧ W.cell? ⟨g5, 2, none⟩ = some (.int .i64 b_2) ∧ W.cell? ⟨g5, 3, none⟩ = some (.bool b_3) ∧ W.cell? ⟨g5, 4, none⟩ = some (.string b_4) ∧ W.cell? ⟨g5, 5, none⟩ = some (.slice b_5 nb b_6))
    (first | exact HA6.out.drew.all | (go_split_ands; exact (HeldAt.step (by assumption) (by assumption)).all))
    (first | (go_at_call 47; (with_reducible refine (ha.out _ ?_).mono ?_); (next => (go_split_ands; exact HeldAt.bel (by assumption))); rintro e w7 ⟨rfl, hb7⟩) | (go_at_call 47; (with_reducible refine (hb.out _ ?_).mono ?_); (next => (go_split_ands; exact HeldAt.bel (by assumption))); rintro e w7 ⟨rfl, hb7⟩))
  all_goals
    go_wp2
    go_ret
    refine ⟨?_, by (go_split_ands; exact HeldAt.bel (by assumption))⟩
    cases r1 <;> cases r2 <;> rfl
theorem holds14_eq (h14 : (a_0 == 4) = false) (h24 : (b_0 == 4) = false) (ho : (op.toList == ([61] : List UInt8)) = true) (h11 : (a_0 == 1) = false) (h21 : (b_0 == 1) = false) (h13 : (a_0 == 3) = true) (h23 : (b_0 == 3) = true) (q : Bool) (hq0 : (a_4.toList == b_4.toList) = q) :
    Calls Tryd.prog 42 #[.string op, .agg #[.int .i64 a_0, .bool a_1, .int .i64 a_2, .bool a_3, .string a_4, .slice a_5 na a_6], .agg #[.int .i64 b_0, .bool b_1, .int .i64 b_2, .bool b_3, .string b_4, .slice b_5 nb b_6]] w fun e w' => e = .returned (.bool (q == true)) ∧ Below w.heap.size w w' := by
  have huV := Tryd.underlying49
  go_enter Tryd.func42, Tryd.ntmps42
  go_wp2_with (first
    | ((with_reducible refine gate_dst (N := 3) rfl ?_); refine box_event ?hg (N := 3) ?hd (cs := #[.string op]) (t := 9) ?hr ?_; (case hd => rfl); (case hg => rfl); (case hr => first | (go_simp; done) | (go_simp; rfl)); intro g3 hg3 w3 hx3 hb3; have B3 := Aside0.mk hb3; have K3 := Aside0.mk hx3; clear hb3 hx3 hg3)
    | ((with_reducible refine gate_dst (N := 4) rfl ?_); refine box_event ?hg (N := 4) ?hd (cs := #[.int .i64 a_0, .bool a_1, .int .i64 a_2, .bool a_3, .string a_4, .slice a_5 na a_6]) (t := 49) ?hr ?_; (case hd => rfl); (case hg => rfl); (case hr => first | (go_simp; done) | (go_simp; rfl)); intro g4 hg4 w4 hx4 hb4; have K3' := Aside0.mk (blk_below K3.out hb4); have B4 := Aside0.mk (below_step B3.out hb4); have K4 := Aside0.mk hx4; clear hb4 hx4 hg4 K3 B3)
    | ((with_reducible refine gate_dst (N := 5) rfl ?_); refine box_event ?hg (N := 5) ?hd (cs := #[.int .i64 b_0, .bool b_1, .int .i64 b_2, .bool b_3, .string b_4, .slice b_5 nb b_6]) (t := 49) ?hr ?_; (case hd => rfl); (case hg => rfl); (case hr => first | (go_simp; done) | (go_simp; rfl)); intro g5 hg5 w5 hx5 hb5; have HA := Aside0.mk (HeldAt.mk (below_step B4.out hb5) (blk_below K3'.out hb5) (blk_below K4.out hb5) hx5); clear hb5 hx5 hg5 K3' K4 B4; obtain ⟨-, c3, c40, c41, c42, c43, c44, c45, c50, c51, c52, c53, c54, c55⟩ := HA.out.all))
  go_quiet (fail)
  generalize hq : w5.drewN nq = w6
  have HA6 := Aside0.mk (hq ▸ HA.out.drewN nq)
  clear hq c3 c40 c41 c42 c43 c44 c45 c50 c51 c52 c53 c54 c55 HA
  obtain ⟨-, c3, c40, c41, c42, c43, c44, c45, c50, c51, c52, c53, c54, c55⟩ := HA6.out.all
  go_wp2
  go_ret
  refine ⟨?_, HA6.out.bel⟩
  cases q <;> rfl
theorem holds14_ne (h14 : (a_0 == 4) = false) (h24 : (b_0 == 4) = false) (ho : (op.toList == ([61] : List UInt8)) = false) (ho2 : (op.toList == ([33, 61] : List UInt8)) = true) (h11 : (a_0 == 1) = false) (h21 : (b_0 == 1) = false) (h13 : (a_0 == 3) = true) (h23 : (b_0 == 3) = true) (q : Bool) (hq0 : (a_4.toList == b_4.toList) = q) :
    Calls Tryd.prog 42 #[.string op, .agg #[.int .i64 a_0, .bool a_1, .int .i64 a_2, .bool a_3, .string a_4, .slice a_5 na a_6], .agg #[.int .i64 b_0, .bool b_1, .int .i64 b_2, .bool b_3, .string b_4, .slice b_5 nb b_6]] w fun e w' => e = .returned (.bool (q == false)) ∧ Below w.heap.size w w' := by
  have huV := Tryd.underlying49
  go_enter Tryd.func42, Tryd.ntmps42
  go_wp2_with (first
    | ((with_reducible refine gate_dst (N := 3) rfl ?_); refine box_event ?hg (N := 3) ?hd (cs := #[.string op]) (t := 9) ?hr ?_; (case hd => rfl); (case hg => rfl); (case hr => first | (go_simp; done) | (go_simp; rfl)); intro g3 hg3 w3 hx3 hb3; have B3 := Aside0.mk hb3; have K3 := Aside0.mk hx3; clear hb3 hx3 hg3)
    | ((with_reducible refine gate_dst (N := 4) rfl ?_); refine box_event ?hg (N := 4) ?hd (cs := #[.int .i64 a_0, .bool a_1, .int .i64 a_2, .bool a_3, .string a_4, .slice a_5 na a_6]) (t := 49) ?hr ?_; (case hd => rfl); (case hg => rfl); (case hr => first | (go_simp; done) | (go_simp; rfl)); intro g4 hg4 w4 hx4 hb4; have K3' := Aside0.mk (blk_below K3.out hb4); have B4 := Aside0.mk (below_step B3.out hb4); have K4 := Aside0.mk hx4; clear hb4 hx4 hg4 K3 B3)
    | ((with_reducible refine gate_dst (N := 5) rfl ?_); refine box_event ?hg (N := 5) ?hd (cs := #[.int .i64 b_0, .bool b_1, .int .i64 b_2, .bool b_3, .string b_4, .slice b_5 nb b_6]) (t := 49) ?hr ?_; (case hd => rfl); (case hg => rfl); (case hr => first | (go_simp; done) | (go_simp; rfl)); intro g5 hg5 w5 hx5 hb5; have HA := Aside0.mk (HeldAt.mk (below_step B4.out hb5) (blk_below K3'.out hb5) (blk_below K4.out hb5) hx5); clear hb5 hx5 hg5 K3' K4 B4; obtain ⟨-, c3, c40, c41, c42, c43, c44, c45, c50, c51, c52, c53, c54, c55⟩ := HA.out.all))
  go_quiet (fail)
  generalize hq : w5.drewN nq = w6
  have HA6 := Aside0.mk (hq ▸ HA.out.drewN nq)
  clear hq c3 c40 c41 c42 c43 c44 c45 c50 c51 c52 c53 c54 c55 HA
  obtain ⟨-, c3, c40, c41, c42, c43, c44, c45, c50, c51, c52, c53, c54, c55⟩ := HA6.out.all
  go_wp2
  go_ret
  refine ⟨?_, HA6.out.bel⟩
  cases q <;> rfl
theorem holdsN_o (r1 r2 : Int × Bool) (r : Bool) (h14 : (a_0 == 4) = false) (h24 : (b_0 == 4) = false) (ho : (op.toList == ([61] : List UInt8)) = false) (ho2 : (op.toList == ([33, 61] : List UInt8)) = false)
    (ha : Hid (∀ W, Below w.heap.size w W → Calls Tryd.prog 46 #[.agg #[.int .i64 a_0, .bool a_1, .int .i64 a_2, .bool a_3, .string a_4, .slice a_5 na a_6]] W fun e w' => e = .returned (.tuple #[.int .i64 r1.1, .bool r1.2]) ∧ Below W.heap.size W w')) (hb : Hid (∀ W, Below w.heap.size w W → Calls Tryd.prog 46 #[.agg #[.int .i64 b_0, .bool b_1, .int .i64 b_2, .bool b_3, .string b_4, .slice b_5 nb b_6]] W fun e w' => e = .returned (.tuple #[.int .i64 r2.1, .bool r2.2]) ∧ Below W.heap.size W w'))
    (hn : Hid (∀ w, Calls Tryd.prog 69 #[.string op, .int .i64 r1.1, .int .i64 r2.1] w fun e w' => e = .returned (.bool r) ∧ Below w.heap.size w w')) :
    Calls Tryd.prog 42 #[.string op, .agg #[.int .i64 a_0, .bool a_1, .int .i64 a_2, .bool a_3, .string a_4, .slice a_5 na a_6], .agg #[.int .i64 b_0, .bool b_1, .int .i64 b_2, .bool b_3, .string b_4, .slice b_5 nb b_6]] w fun e w' => e = .returned (.bool (if r1.2 && r2.2 then r else (op.toList == ([33, 61] : List UInt8)))) ∧ Below w.heap.size w w' := by
  obtain ⟨m1, o1⟩ := r1
  obtain ⟨m2, o2⟩ := r2
  simp only at ha hb hn ⊢
  rcases o1 with _ | _ <;> rcases o2 with _ | _
  all_goals
    have huV := Tryd.underlying49
    go_enter Tryd.func42, Tryd.ntmps42
    go_wp2_with (first
      | ((with_reducible refine gate_dst (N := 3) rfl ?_); refine box_event ?hg (N := 3) ?hd (cs := #[.string op]) (t := 9) ?hr ?_; (case hd => rfl); (case hg => rfl); (case hr => first | (go_simp; done) | (go_simp; rfl)); intro g3 hg3 w3 hx3 hb3; have B3 := Aside0.mk hb3; have K3 := Aside0.mk hx3; clear hb3 hx3 hg3)
      | ((with_reducible refine gate_dst (N := 4) rfl ?_); refine box_event ?hg (N := 4) ?hd (cs := #[.int .i64 a_0, .bool a_1, .int .i64 a_2, .bool a_3, .string a_4, .slice a_5 na a_6]) (t := 49) ?hr ?_; (case hd => rfl); (case hg => rfl); (case hr => first | (go_simp; done) | (go_simp; rfl)); intro g4 hg4 w4 hx4 hb4; have K3' := Aside0.mk (blk_below K3.out hb4); have B4 := Aside0.mk (below_step B3.out hb4); have K4 := Aside0.mk hx4; clear hb4 hx4 hg4 K3 B3)
      | ((with_reducible refine gate_dst (N := 5) rfl ?_); refine box_event ?hg (N := 5) ?hd (cs := #[.int .i64 b_0, .bool b_1, .int .i64 b_2, .bool b_3, .string b_4, .slice b_5 nb b_6]) (t := 49) ?hr ?_; (case hd => rfl); (case hg => rfl); (case hr => first | (go_simp; done) | (go_simp; rfl)); intro g5 hg5 w5 hx5 hb5; have HA := Aside0.mk (HeldAt.mk (below_step B4.out hb5) (blk_below K3'.out hb5) (blk_below K4.out hb5) hx5); clear hb5 hx5 hg5 K3' K4 B4; obtain ⟨-, c3, c40, c41, c42, c43, c44, c45, c50, c51, c52, c53, c54, c55⟩ := HA.out.all))
    go_quiet (fail)
    generalize hq : w5.drewN nq = w6
    have HA6 := Aside0.mk (hq ▸ HA.out.drewN nq)
    clear hq c3 c40 c41 c42 c43 c44 c45 c50 c51 c52 c53 c54 c55 HA
    obtain ⟨-, c3, c40, c41, c42, c43, c44, c45, c50, c51, c52, c53, c54, c55⟩ := HA6.out.all
    go_wp2_with (first
      | (go_at_call 46; (with_reducible refine (ha.out _ HA6.out.bel).mono ?_); rintro e w7 ⟨rfl, hb7⟩; have HA7 := Aside0.mk (HA6.out.step hb7); clear hb7; obtain ⟨-, d3, d40, d41, d42, d43, d44, d45, d50, d51, d52, d53, d54, d55⟩ := HA7.out.all)
      | (go_at_call 46; (with_reducible refine (hb.out _ HA7.out.bel).mono ?_); rintro e w8 ⟨rfl, hb8⟩; have HA8 := Aside0.mk (HA7.out.step hb8); clear hb8; obtain ⟨-, e3, e40, e41, e42, e43, e44, e45, e50, e51, e52, e53, e54, e55⟩ := HA8.out.all)
      | (go_at_call 69; (with_reducible refine (hn.out _).mono ?_); rintro e w9 ⟨rfl, hb9⟩))
    go_ret
    exact ⟨by first | rfl | (rw [ho2]; rfl), by first | exact below_step HA8.out.bel hb9 | exact HA8.out.bel⟩
theorem holdsN_eq_1 (r1 r2 : Int × Bool) (r : Bool) (h14 : (a_0 == 4) = false) (h24 : (b_0 == 4) = false) (ho : (op.toList == ([61] : List UInt8)) = true) (ho2 : (op.toList == ([33, 61] : List UInt8)) = false) (h11 : (a_0 == 1) = false) (h21 : (b_0 == 1) = false) (h13 : (a_0 == 3) = false)
    (ha : Hid (∀ W, Below w.heap.size w W → Calls Tryd.prog 46 #[.agg #[.int .i64 a_0, .bool a_1, .int .i64 a_2, .bool a_3, .string a_4, .slice a_5 na a_6]] W fun e w' => e = .returned (.tuple #[.int .i64 r1.1, .bool r1.2]) ∧ Below W.heap.size W w')) (hb : Hid (∀ W, Below w.heap.size w W → Calls Tryd.prog 46 #[.agg #[.int .i64 b_0, .bool b_1, .int .i64 b_2, .bool b_3, .string b_4, .slice b_5 nb b_6]] W fun e w' => e = .returned (.tuple #[.int .i64 r2.1, .bool r2.2]) ∧ Below W.heap.size W w'))
    (hn : Hid (∀ w, Calls Tryd.prog 69 #[.string op, .int .i64 r1.1, .int .i64 r2.1] w fun e w' => e = .returned (.bool r) ∧ Below w.heap.size w w')) :
    Calls Tryd.prog 42 #[.string op, .agg #[.int .i64 a_0, .bool a_1, .int .i64 a_2, .bool a_3, .string a_4, .slice a_5 na a_6], .agg #[.int .i64 b_0, .bool b_1, .int .i64 b_2, .bool b_3, .string b_4, .slice b_5 nb b_6]] w fun e w' => e = .returned (.bool (if r1.2 && r2.2 then r else (op.toList == ([33, 61] : List UInt8)))) ∧ Below w.heap.size w w' := by
  obtain ⟨m1, o1⟩ := r1
  obtain ⟨m2, o2⟩ := r2
  simp only at ha hb hn ⊢
  rcases o1 with _ | _ <;> rcases o2 with _ | _
  all_goals
    have huV := Tryd.underlying49
    go_enter Tryd.func42, Tryd.ntmps42
    go_wp2_with (first
      | ((with_reducible refine gate_dst (N := 3) rfl ?_); refine box_event ?hg (N := 3) ?hd (cs := #[.string op]) (t := 9) ?hr ?_; (case hd => rfl); (case hg => rfl); (case hr => first | (go_simp; done) | (go_simp; rfl)); intro g3 hg3 w3 hx3 hb3; have B3 := Aside0.mk hb3; have K3 := Aside0.mk hx3; clear hb3 hx3 hg3)
      | ((with_reducible refine gate_dst (N := 4) rfl ?_); refine box_event ?hg (N := 4) ?hd (cs := #[.int .i64 a_0, .bool a_1, .int .i64 a_2, .bool a_3, .string a_4, .slice a_5 na a_6]) (t := 49) ?hr ?_; (case hd => rfl); (case hg => rfl); (case hr => first | (go_simp; done) | (go_simp; rfl)); intro g4 hg4 w4 hx4 hb4; have K3' := Aside0.mk (blk_below K3.out hb4); have B4 := Aside0.mk (below_step B3.out hb4); have K4 := Aside0.mk hx4; clear hb4 hx4 hg4 K3 B3)
      | ((with_reducible refine gate_dst (N := 5) rfl ?_); refine box_event ?hg (N := 5) ?hd (cs := #[.int .i64 b_0, .bool b_1, .int .i64 b_2, .bool b_3, .string b_4, .slice b_5 nb b_6]) (t := 49) ?hr ?_; (case hd => rfl); (case hg => rfl); (case hr => first | (go_simp; done) | (go_simp; rfl)); intro g5 hg5 w5 hx5 hb5; have HA := Aside0.mk (HeldAt.mk (below_step B4.out hb5) (blk_below K3'.out hb5) (blk_below K4.out hb5) hx5); clear hb5 hx5 hg5 K3' K4 B4; obtain ⟨-, c3, c40, c41, c42, c43, c44, c45, c50, c51, c52, c53, c54, c55⟩ := HA.out.all))
    go_quiet (fail)
    generalize hq : w5.drewN nq = w6
    have HA6 := Aside0.mk (hq ▸ HA.out.drewN nq)
    clear hq c3 c40 c41 c42 c43 c44 c45 c50 c51 c52 c53 c54 c55 HA
    obtain ⟨-, c3, c40, c41, c42, c43, c44, c45, c50, c51, c52, c53, c54, c55⟩ := HA6.out.all
    go_wp2_with (first
      | (go_at_call 46; (with_reducible refine (ha.out _ HA6.out.bel).mono ?_); rintro e w7 ⟨rfl, hb7⟩; have HA7 := Aside0.mk (HA6.out.step hb7); clear hb7; obtain ⟨-, d3, d40, d41, d42, d43, d44, d45, d50, d51, d52, d53, d54, d55⟩ := HA7.out.all)
      | (go_at_call 46; (with_reducible refine (hb.out _ HA7.out.bel).mono ?_); rintro e w8 ⟨rfl, hb8⟩; have HA8 := Aside0.mk (HA7.out.step hb8); clear hb8; obtain ⟨-, e3, e40, e41, e42, e43, e44, e45, e50, e51, e52, e53, e54, e55⟩ := HA8.out.all)
      | (go_at_call 69; (with_reducible refine (hn.out _).mono ?_); rintro e w9 ⟨rfl, hb9⟩))
    go_ret
    exact ⟨by first | rfl | (rw [ho2]; rfl), by first | exact below_step HA8.out.bel hb9 | exact HA8.out.bel⟩
theorem holdsN_eq_2 (r1 r2 : Int × Bool) (r : Bool) (h14 : (a_0 == 4) = false) (h24 : (b_0 == 4) = false) (ho : (op.toList == ([61] : List UInt8)) = true) (ho2 : (op.toList == ([33, 61] : List UInt8)) = false) (h11 : (a_0 == 1) = false) (h21 : (b_0 == 1) = false) (h13 : (a_0 == 3) = true) (h23 : (b_0 == 3) = false)
    (ha : Hid (∀ W, Below w.heap.size w W → Calls Tryd.prog 46 #[.agg #[.int .i64 a_0, .bool a_1, .int .i64 a_2, .bool a_3, .string a_4, .slice a_5 na a_6]] W fun e w' => e = .returned (.tuple #[.int .i64 r1.1, .bool r1.2]) ∧ Below W.heap.size W w')) (hb : Hid (∀ W, Below w.heap.size w W → Calls Tryd.prog 46 #[.agg #[.int .i64 b_0, .bool b_1, .int .i64 b_2, .bool b_3, .string b_4, .slice b_5 nb b_6]] W fun e w' => e = .returned (.tuple #[.int .i64 r2.1, .bool r2.2]) ∧ Below W.heap.size W w'))
    (hn : Hid (∀ w, Calls Tryd.prog 69 #[.string op, .int .i64 r1.1, .int .i64 r2.1] w fun e w' => e = .returned (.bool r) ∧ Below w.heap.size w w')) :
    Calls Tryd.prog 42 #[.string op, .agg #[.int .i64 a_0, .bool a_1, .int .i64 a_2, .bool a_3, .string a_4, .slice a_5 na a_6], .agg #[.int .i64 b_0, .bool b_1, .int .i64 b_2, .bool b_3, .string b_4, .slice b_5 nb b_6]] w fun e w' => e = .returned (.bool (if r1.2 && r2.2 then r else (op.toList == ([33, 61] : List UInt8)))) ∧ Below w.heap.size w w' := by
  obtain ⟨m1, o1⟩ := r1
  obtain ⟨m2, o2⟩ := r2
  simp only at ha hb hn ⊢
  rcases o1 with _ | _ <;> rcases o2 with _ | _
  all_goals
    have huV := Tryd.underlying49
    go_enter Tryd.func42, Tryd.ntmps42
    go_wp2_with (first
      | ((with_reducible refine gate_dst (N := 3) rfl ?_); refine box_event ?hg (N := 3) ?hd (cs := #[.string op]) (t := 9) ?hr ?_; (case hd => rfl); (case hg => rfl); (case hr => first | (go_simp; done) | (go_simp; rfl)); intro g3 hg3 w3 hx3 hb3; have B3 := Aside0.mk hb3; have K3 := Aside0.mk hx3; clear hb3 hx3 hg3)
      | ((with_reducible refine gate_dst (N := 4) rfl ?_); refine box_event ?hg (N := 4) ?hd (cs := #[.int .i64 a_0, .bool a_1, .int .i64 a_2, .bool a_3, .string a_4, .slice a_5 na a_6]) (t := 49) ?hr ?_; (case hd => rfl); (case hg => rfl); (case hr => first | (go_simp; done) | (go_simp; rfl)); intro g4 hg4 w4 hx4 hb4; have K3' := Aside0.mk (blk_below K3.out hb4); have B4 := Aside0.mk (below_step B3.out hb4); have K4 := Aside0.mk hx4; clear hb4 hx4 hg4 K3 B3)
      | ((with_reducible refine gate_dst (N := 5) rfl ?_); refine box_event ?hg (N := 5) ?hd (cs := #[.int .i64 b_0, .bool b_1, .int .i64 b_2, .bool b_3, .string b_4, .slice b_5 nb b_6]) (t := 49) ?hr ?_; (case hd => rfl); (case hg => rfl); (case hr => first | (go_simp; done) | (go_simp; rfl)); intro g5 hg5 w5 hx5 hb5; have HA := Aside0.mk (HeldAt.mk (below_step B4.out hb5) (blk_below K3'.out hb5) (blk_below K4.out hb5) hx5); clear hb5 hx5 hg5 K3' K4 B4; obtain ⟨-, c3, c40, c41, c42, c43, c44, c45, c50, c51, c52, c53, c54, c55⟩ := HA.out.all))
    go_quiet (fail)
    generalize hq : w5.drewN nq = w6
    have HA6 := Aside0.mk (hq ▸ HA.out.drewN nq)
    clear hq c3 c40 c41 c42 c43 c44 c45 c50 c51 c52 c53 c54 c55 HA
    obtain ⟨-, c3, c40, c41, c42, c43, c44, c45, c50, c51, c52, c53, c54, c55⟩ := HA6.out.all
    go_wp2_with (first
      | (go_at_call 46; (with_reducible refine (ha.out _ HA6.out.bel).mono ?_); rintro e w7 ⟨rfl, hb7⟩; have HA7 := Aside0.mk (HA6.out.step hb7); clear hb7; obtain ⟨-, d3, d40, d41, d42, d43, d44, d45, d50, d51, d52, d53, d54, d55⟩ := HA7.out.all)
      | (go_at_call 46; (with_reducible refine (hb.out _ HA7.out.bel).mono ?_); rintro e w8 ⟨rfl, hb8⟩; have HA8 := Aside0.mk (HA7.out.step hb8); clear hb8; obtain ⟨-, e3, e40, e41, e42, e43, e44, e45, e50, e51, e52, e53, e54, e55⟩ := HA8.out.all)
      | (go_at_call 69; (with_reducible refine (hn.out _).mono ?_); rintro e w9 ⟨rfl, hb9⟩))
    go_ret
    exact ⟨by first | rfl | (rw [ho2]; rfl), by first | exact below_step HA8.out.bel hb9 | exact HA8.out.bel⟩
theorem holdsN_ne_1 (r1 r2 : Int × Bool) (r : Bool) (h14 : (a_0 == 4) = false) (h24 : (b_0 == 4) = false) (ho : (op.toList == ([61] : List UInt8)) = false) (ho2 : (op.toList == ([33, 61] : List UInt8)) = true) (h11 : (a_0 == 1) = false) (h21 : (b_0 == 1) = false) (h13 : (a_0 == 3) = false)
    (ha : Hid (∀ W, Below w.heap.size w W → Calls Tryd.prog 46 #[.agg #[.int .i64 a_0, .bool a_1, .int .i64 a_2, .bool a_3, .string a_4, .slice a_5 na a_6]] W fun e w' => e = .returned (.tuple #[.int .i64 r1.1, .bool r1.2]) ∧ Below W.heap.size W w')) (hb : Hid (∀ W, Below w.heap.size w W → Calls Tryd.prog 46 #[.agg #[.int .i64 b_0, .bool b_1, .int .i64 b_2, .bool b_3, .string b_4, .slice b_5 nb b_6]] W fun e w' => e = .returned (.tuple #[.int .i64 r2.1, .bool r2.2]) ∧ Below W.heap.size W w'))
    (hn : Hid (∀ w, Calls Tryd.prog 69 #[.string op, .int .i64 r1.1, .int .i64 r2.1] w fun e w' => e = .returned (.bool r) ∧ Below w.heap.size w w')) :
    Calls Tryd.prog 42 #[.string op, .agg #[.int .i64 a_0, .bool a_1, .int .i64 a_2, .bool a_3, .string a_4, .slice a_5 na a_6], .agg #[.int .i64 b_0, .bool b_1, .int .i64 b_2, .bool b_3, .string b_4, .slice b_5 nb b_6]] w fun e w' => e = .returned (.bool (if r1.2 && r2.2 then r else (op.toList == ([33, 61] : List UInt8)))) ∧ Below w.heap.size w w' := by
  obtain ⟨m1, o1⟩ := r1
  obtain ⟨m2, o2⟩ := r2
  simp only at ha hb hn ⊢
  rcases o1 with _ | _ <;> rcases o2 with _ | _
  all_goals
    have huV := Tryd.underlying49
    go_enter Tryd.func42, Tryd.ntmps42
    go_wp2_with (first
      | ((with_reducible refine gate_dst (N := 3) rfl ?_); refine box_event ?hg (N := 3) ?hd (cs := #[.string op]) (t := 9) ?hr ?_; (case hd => rfl); (case hg => rfl); (case hr => first | (go_simp; done) | (go_simp; rfl)); intro g3 hg3 w3 hx3 hb3; have B3 := Aside0.mk hb3; have K3 := Aside0.mk hx3; clear hb3 hx3 hg3)
      | ((with_reducible refine gate_dst (N := 4) rfl ?_); refine box_event ?hg (N := 4) ?hd (cs := #[.int .i64 a_0, .bool a_1, .int .i64 a_2, .bool a_3, .string a_4, .slice a_5 na a_6]) (t := 49) ?hr ?_; (case hd => rfl); (case hg => rfl); (case hr => first | (go_simp; done) | (go_simp; rfl)); intro g4 hg4 w4 hx4 hb4; have K3' := Aside0.mk (blk_below K3.out hb4); have B4 := Aside0.mk (below_step B3.out hb4); have K4 := Aside0.mk hx4; clear hb4 hx4 hg4 K3 B3)
      | ((with_reducible refine gate_dst (N := 5) rfl ?_); refine box_event ?hg (N := 5) ?hd (cs := #[.int .i64 b_0, .bool b_1, .int .i64 b_2, .bool b_3, .string b_4, .slice b_5 nb b_6]) (t := 49) ?hr ?_; (case hd => rfl); (case hg => rfl); (case hr => first | (go_simp; done) | (go_simp; rfl)); intro g5 hg5 w5 hx5 hb5; have HA := Aside0.mk (HeldAt.mk (below_step B4.out hb5) (blk_below K3'.out hb5) (blk_below K4.out hb5) hx5); clear hb5 hx5 hg5 K3' K4 B4; obtain ⟨-, c3, c40, c41, c42, c43, c44, c45, c50, c51, c52, c53, c54, c55⟩ := HA.out.all))
    go_quiet (fail)
    generalize hq : w5.drewN nq = w6
    have HA6 := Aside0.mk (hq ▸ HA.out.drewN nq)
    clear hq c3 c40 c41 c42 c43 c44 c45 c50 c51 c52 c53 c54 c55 HA
    obtain ⟨-, c3, c40, c41, c42, c43, c44, c45, c50, c51, c52, c53, c54, c55⟩ := HA6.out.all
    go_wp2_with (first
      | (go_at_call 46; (with_reducible refine (ha.out _ HA6.out.bel).mono ?_); rintro e w7 ⟨rfl, hb7⟩; have HA7 := Aside0.mk (HA6.out.step hb7); clear hb7; obtain ⟨-, d3, d40, d41, d42, d43, d44, d45, d50, d51, d52, d53, d54, d55⟩ := HA7.out.all)
      | (go_at_call 46; (with_reducible refine (hb.out _ HA7.out.bel).mono ?_); rintro e w8 ⟨rfl, hb8⟩; have HA8 := Aside0.mk (HA7.out.step hb8); clear hb8; obtain ⟨-, e3, e40, e41, e42, e43, e44, e45, e50, e51, e52, e53, e54, e55⟩ := HA8.out.all)
      | (go_at_call 69; (with_reducible refine (hn.out _).mono ?_); rintro e w9 ⟨rfl, hb9⟩))
    go_ret
    exact ⟨by first | rfl | (rw [ho2]; rfl), by first | exact below_step HA8.out.bel hb9 | exact HA8.out.bel⟩
theorem holdsN_ne_2 (r1 r2 : Int × Bool) (r : Bool) (h14 : (a_0 == 4) = false) (h24 : (b_0 == 4) = false) (ho : (op.toList == ([61] : List UInt8)) = false) (ho2 : (op.toList == ([33, 61] : List UInt8)) = true) (h11 : (a_0 == 1) = false) (h21 : (b_0 == 1) = false) (h13 : (a_0 == 3) = true) (h23 : (b_0 == 3) = false)
    (ha : Hid (∀ W, Below w.heap.size w W → Calls Tryd.prog 46 #[.agg #[.int .i64 a_0, .bool a_1, .int .i64 a_2, .bool a_3, .string a_4, .slice a_5 na a_6]] W fun e w' => e = .returned (.tuple #[.int .i64 r1.1, .bool r1.2]) ∧ Below W.heap.size W w')) (hb : Hid (∀ W, Below w.heap.size w W → Calls Tryd.prog 46 #[.agg #[.int .i64 b_0, .bool b_1, .int .i64 b_2, .bool b_3, .string b_4, .slice b_5 nb b_6]] W fun e w' => e = .returned (.tuple #[.int .i64 r2.1, .bool r2.2]) ∧ Below W.heap.size W w'))
    (hn : Hid (∀ w, Calls Tryd.prog 69 #[.string op, .int .i64 r1.1, .int .i64 r2.1] w fun e w' => e = .returned (.bool r) ∧ Below w.heap.size w w')) :
    Calls Tryd.prog 42 #[.string op, .agg #[.int .i64 a_0, .bool a_1, .int .i64 a_2, .bool a_3, .string a_4, .slice a_5 na a_6], .agg #[.int .i64 b_0, .bool b_1, .int .i64 b_2, .bool b_3, .string b_4, .slice b_5 nb b_6]] w fun e w' => e = .returned (.bool (if r1.2 && r2.2 then r else (op.toList == ([33, 61] : List UInt8)))) ∧ Below w.heap.size w w' := by
  obtain ⟨m1, o1⟩ := r1
  obtain ⟨m2, o2⟩ := r2
  simp only at ha hb hn ⊢
  rcases o1 with _ | _ <;> rcases o2 with _ | _
  all_goals
    have huV := Tryd.underlying49
    go_enter Tryd.func42, Tryd.ntmps42
    go_wp2_with (first
      | ((with_reducible refine gate_dst (N := 3) rfl ?_); refine box_event ?hg (N := 3) ?hd (cs := #[.string op]) (t := 9) ?hr ?_; (case hd => rfl); (case hg => rfl); (case hr => first | (go_simp; done) | (go_simp; rfl)); intro g3 hg3 w3 hx3 hb3; have B3 := Aside0.mk hb3; have K3 := Aside0.mk hx3; clear hb3 hx3 hg3)
      | ((with_reducible refine gate_dst (N := 4) rfl ?_); refine box_event ?hg (N := 4) ?hd (cs := #[.int .i64 a_0, .bool a_1, .int .i64 a_2, .bool a_3, .string a_4, .slice a_5 na a_6]) (t := 49) ?hr ?_; (case hd => rfl); (case hg => rfl); (case hr => first | (go_simp; done) | (go_simp; rfl)); intro g4 hg4 w4 hx4 hb4; have K3' := Aside0.mk (blk_below K3.out hb4); have B4 := Aside0.mk (below_step B3.out hb4); have K4 := Aside0.mk hx4; clear hb4 hx4 hg4 K3 B3)
      | ((with_reducible refine gate_dst (N := 5) rfl ?_); refine box_event ?hg (N := 5) ?hd (cs := #[.int .i64 b_0, .bool b_1, .int .i64 b_2, .bool b_3, .string b_4, .slice b_5 nb b_6]) (t := 49) ?hr ?_; (case hd => rfl); (case hg => rfl); (case hr => first | (go_simp; done) | (go_simp; rfl)); intro g5 hg5 w5 hx5 hb5; have HA := Aside0.mk (HeldAt.mk (below_step B4.out hb5) (blk_below K3'.out hb5) (blk_below K4.out hb5) hx5); clear hb5 hx5 hg5 K3' K4 B4; obtain ⟨-, c3, c40, c41, c42, c43, c44, c45, c50, c51, c52, c53, c54, c55⟩ := HA.out.all))
    go_quiet (fail)
    generalize hq : w5.drewN nq = w6
    have HA6 := Aside0.mk (hq ▸ HA.out.drewN nq)
    clear hq c3 c40 c41 c42 c43 c44 c45 c50 c51 c52 c53 c54 c55 HA
    obtain ⟨-, c3, c40, c41, c42, c43, c44, c45, c50, c51, c52, c53, c54, c55⟩ := HA6.out.all
    go_wp2_with (first
      | (go_at_call 46; (with_reducible refine (ha.out _ HA6.out.bel).mono ?_); rintro e w7 ⟨rfl, hb7⟩; have HA7 := Aside0.mk (HA6.out.step hb7); clear hb7; obtain ⟨-, d3, d40, d41, d42, d43, d44, d45, d50, d51, d52, d53, d54, d55⟩ := HA7.out.all)
      | (go_at_call 46; (with_reducible refine (hb.out _ HA7.out.bel).mono ?_); rintro e w8 ⟨rfl, hb8⟩; have HA8 := Aside0.mk (HA7.out.step hb8); clear hb8; obtain ⟨-, e3, e40, e41, e42, e43, e44, e45, e50, e51, e52, e53, e54, e55⟩ := HA8.out.all)
      | (go_at_call 69; (with_reducible refine (hn.out _).mono ?_); rintro e w9 ⟨rfl, hb9⟩))
    go_ret
    exact ⟨by first | rfl | (rw [ho2]; rfl), by first | exact below_step HA8.out.bel hb9 | exact HA8.out.bel⟩
end
theorem C_zero (w : World) (A : Option Addr) : Kd.string.C w A 0 [] := ⟨rfl, by omega, fun h => absurd h (by omega)⟩
theorem truth2 (b : Bool) (w : World) : Calls Tryd.prog 65 #[.bool b] w fun e w' => (∃ A c, e = .returned (.agg #[.int .i64 1, .bool b, .int .i64 0, .bool false, .string ⟨#[]⟩, .slice A 0 c])) ∧ Below w.heap.size w w' :=
  (value_truth.calls b _ _ _ _ _ _ w rfl).mono fun e w' ⟨v, he, hR, hb⟩ => by
    obtain ⟨A, c, rfl⟩ := Kd.R_slice hR
    exact ⟨⟨A, c, he⟩, hb⟩
theorem texted2 (s : ByteArray) (w : World) : Calls Tryd.prog 67 #[.string s] w fun e w' => (∃ A c, e = .returned (.agg #[.int .i64 3, .bool false, .int .i64 0, .bool false, .string s, .slice A 0 c])) ∧ Below w.heap.size w w' :=
  (value_texted.calls s _ _ _ _ _ _ w rfl).mono fun e w' ⟨v, he, hR, hb⟩ => by
    obtain ⟨A, c, rfl⟩ := Kd.R_slice hR
    exact ⟨⟨A, c, he⟩, hb⟩
section
variable (op : ByteArray) (a_0 : Int) (a_1 : Bool) (a_2 : Int) (a_3 : Bool) (a_4 : ByteArray) (a_5 : Option Addr) (a_6 : Nat) (na : Nat) (b_0 : Int) (b_1 : Bool) (b_2 : Int) (b_3 : Bool) (b_4 : ByteArray) (b_5 : Option Addr) (b_6 : Nat) (nb : Nat) (w : World)
include op a_0 a_1 a_2 a_3 a_4 a_5 a_6 na b_0 b_1 b_2 b_3 b_4 b_5 b_6 nb w
theorem holds_an (r1 q : Bool) (h14 : (a_0 == 4) = true) (h21 : (b_0 == 1) = true) (h24 : (b_0 == 4) = false) (ha : Hid (∀ W, Below w.heap.size w W → Calls Tryd.prog 47 #[.agg #[.int .i64 a_0, .bool a_1, .int .i64 a_2, .bool a_3, .string a_4, .slice a_5 na a_6]] W fun e w' => e = .returned (.bool r1) ∧ Below W.heap.size W w'))
    (hh : Hid (∀ W A c, Below w.heap.size w W → Calls Tryd.prog 42 #[.string op, .agg #[.int .i64 1, .bool r1, .int .i64 0, .bool false, .string ⟨#[]⟩, .slice A 0 c], .agg #[.int .i64 b_0, .bool b_1, .int .i64 b_2, .bool b_3, .string b_4, .slice b_5 nb b_6]] W fun e w' => e = .returned (.bool q) ∧ Below W.heap.size W w')) :
    Calls Tryd.prog 42 #[.string op, .agg #[.int .i64 a_0, .bool a_1, .int .i64 a_2, .bool a_3, .string a_4, .slice a_5 na a_6], .agg #[.int .i64 b_0, .bool b_1, .int .i64 b_2, .bool b_3, .string b_4, .slice b_5 nb b_6]] w fun e w' => e = .returned (.bool q) ∧ Below w.heap.size w w' := by
  have huV := Tryd.underlying49
  go_enter Tryd.func42, Tryd.ntmps42
  go_wp2_with (first
    | ((with_reducible refine gate_dst (N := 3) rfl ?_); refine box_event ?hg (N := 3) ?hd (cs := #[.string op]) (t := 9) ?hr ?_; (case hd => rfl); (case hg => rfl); (case hr => first | (go_simp; done) | (go_simp; rfl)); intro g3 hg3 w3 hx3 hb3; have B3 := Aside0.mk hb3; have K3 := Aside0.mk hx3; clear hb3 hx3 hg3)
    | ((with_reducible refine gate_dst (N := 4) rfl ?_); refine box_event ?hg (N := 4) ?hd (cs := #[.int .i64 a_0, .bool a_1, .int .i64 a_2, .bool a_3, .string a_4, .slice a_5 na a_6]) (t := 49) ?hr ?_; (case hd => rfl); (case hg => rfl); (case hr => first | (go_simp; done) | (go_simp; rfl)); intro g4 hg4 w4 hx4 hb4; have K3' := Aside0.mk (blk_below K3.out hb4); have B4 := Aside0.mk (below_step B3.out hb4); have K4 := Aside0.mk hx4; clear hb4 hx4 hg4 K3 B3)
    | ((with_reducible refine gate_dst (N := 5) rfl ?_); refine box_event ?hg (N := 5) ?hd (cs := #[.int .i64 b_0, .bool b_1, .int .i64 b_2, .bool b_3, .string b_4, .slice b_5 nb b_6]) (t := 49) ?hr ?_; (case hd => rfl); (case hg => rfl); (case hr => first | (go_simp; done) | (go_simp; rfl)); intro g5 hg5 w5 hx5 hb5; have HA := Aside0.mk (HeldAt.mk (below_step B4.out hb5) (blk_below K3'.out hb5) (blk_below K4.out hb5) hx5); clear hb5 hx5 hg5 K3' K4 B4; obtain ⟨-, c3, c40, c41, c42, c43, c44, c45, c50, c51, c52, c53, c54, c55⟩ := HA.out.all))
  go_quiet (fail)
  generalize hq : w5.drewN nq = w6
  have HA6 := Aside0.mk (hq ▸ HA.out.drewN nq)
  clear hq c3 c40 c41 c42 c43 c44 c45 c50 c51 c52 c53 c54 c55 HA
  obtain ⟨-, c3, c40, c41, c42, c43, c44, c45, c50, c51, c52, c53, c54, c55⟩ := HA6.out.all
  go_wp2
  go_region_held3 (fun W => HeldAt w W g3 g4 g5 op a_0 a_1 a_2 a_3 a_4 (.slice a_5 na a_6) b_0 b_1 b_2 b_3 b_4 (.slice b_5 nb b_6) ∧ W.cell? ⟨g3, 0, none⟩ = some (.string op) ∧ W.cell? ⟨g4, 0, none⟩ = some (.int .i64 a_0) ∧ W.cell? ⟨g4, 1, none⟩ = some (.bool a_1) ∧ W.cell? ⟨g4, 2, none⟩ = some (.int .i64 a_2) ∧ W.cell? ⟨g4, 3, none⟩ = some (.bool a_3) ∧ W.cell? ⟨g4, 4, none⟩ = some (.string a_4) ∧ W.cell? ⟨g4, 5, none⟩ = some (.slice a_5 na a_6) ∧ W.cell? ⟨g5, 0, none⟩ = some (.int .i64 b_0) ∧ W.cell? ⟨g5, 1, none⟩ = some (.bool b_1) ∧ W.cell? ⟨g5, 2, none⟩ = some (.int .i64 b_2) ∧ W.cell? ⟨g5, 3, none⟩ = some (.bool b_3) ∧ W.cell? ⟨g5, 4, none⟩ = some (.string b_4) ∧ W.cell? ⟨g5, 5, none⟩ = some (.slice b_5 nb b_6))
    (first | exact HA6.out.drew.all | (go_split_ands; exact (HeldAt.step (by assumption) (by assumption)).all))
    (first | (go_at_call 47; (with_reducible refine (ha.out _ ?_).mono ?_); (next => (go_split_ands; exact HeldAt.bel (by assumption))); rintro e w7 ⟨rfl, hb7⟩) | (go_at_call 65; (with_reducible refine (truth2 r1 _).mono ?_); rintro e w7 ⟨⟨A, c, rfl⟩, hb7⟩) | (go_at_call 42; (with_reducible refine (hh.out _ _ _ ?_).mono ?_); (next => (go_split_ands; exact HeldAt.bel (by assumption))); rintro e w7 ⟨rfl, hb7⟩))
  all_goals
    go_wp2
    go_ret
    exact ⟨rfl, by (go_split_ands; exact HeldAt.bel (by assumption))⟩
theorem holds_bn (r1 q : Bool) (h14 : (a_0 == 4) = false) (h24 : (b_0 == 4) = true) (h11 : (a_0 == 1) = true) (hb : Hid (∀ W, Below w.heap.size w W → Calls Tryd.prog 47 #[.agg #[.int .i64 b_0, .bool b_1, .int .i64 b_2, .bool b_3, .string b_4, .slice b_5 nb b_6]] W fun e w' => e = .returned (.bool r1) ∧ Below W.heap.size W w'))
    (hh : Hid (∀ W A c, Below w.heap.size w W → Calls Tryd.prog 42 #[.string op, .agg #[.int .i64 a_0, .bool a_1, .int .i64 a_2, .bool a_3, .string a_4, .slice a_5 na a_6], .agg #[.int .i64 1, .bool r1, .int .i64 0, .bool false, .string ⟨#[]⟩, .slice A 0 c]] W fun e w' => e = .returned (.bool q) ∧ Below W.heap.size W w')) :
    Calls Tryd.prog 42 #[.string op, .agg #[.int .i64 a_0, .bool a_1, .int .i64 a_2, .bool a_3, .string a_4, .slice a_5 na a_6], .agg #[.int .i64 b_0, .bool b_1, .int .i64 b_2, .bool b_3, .string b_4, .slice b_5 nb b_6]] w fun e w' => e = .returned (.bool q) ∧ Below w.heap.size w w' := by
  have huV := Tryd.underlying49
  go_enter Tryd.func42, Tryd.ntmps42
  go_wp2_with (first
    | ((with_reducible refine gate_dst (N := 3) rfl ?_); refine box_event ?hg (N := 3) ?hd (cs := #[.string op]) (t := 9) ?hr ?_; (case hd => rfl); (case hg => rfl); (case hr => first | (go_simp; done) | (go_simp; rfl)); intro g3 hg3 w3 hx3 hb3; have B3 := Aside0.mk hb3; have K3 := Aside0.mk hx3; clear hb3 hx3 hg3)
    | ((with_reducible refine gate_dst (N := 4) rfl ?_); refine box_event ?hg (N := 4) ?hd (cs := #[.int .i64 a_0, .bool a_1, .int .i64 a_2, .bool a_3, .string a_4, .slice a_5 na a_6]) (t := 49) ?hr ?_; (case hd => rfl); (case hg => rfl); (case hr => first | (go_simp; done) | (go_simp; rfl)); intro g4 hg4 w4 hx4 hb4; have K3' := Aside0.mk (blk_below K3.out hb4); have B4 := Aside0.mk (below_step B3.out hb4); have K4 := Aside0.mk hx4; clear hb4 hx4 hg4 K3 B3)
    | ((with_reducible refine gate_dst (N := 5) rfl ?_); refine box_event ?hg (N := 5) ?hd (cs := #[.int .i64 b_0, .bool b_1, .int .i64 b_2, .bool b_3, .string b_4, .slice b_5 nb b_6]) (t := 49) ?hr ?_; (case hd => rfl); (case hg => rfl); (case hr => first | (go_simp; done) | (go_simp; rfl)); intro g5 hg5 w5 hx5 hb5; have HA := Aside0.mk (HeldAt.mk (below_step B4.out hb5) (blk_below K3'.out hb5) (blk_below K4.out hb5) hx5); clear hb5 hx5 hg5 K3' K4 B4; obtain ⟨-, c3, c40, c41, c42, c43, c44, c45, c50, c51, c52, c53, c54, c55⟩ := HA.out.all))
  go_quiet (fail)
  generalize hq : w5.drewN nq = w6
  have HA6 := Aside0.mk (hq ▸ HA.out.drewN nq)
  clear hq c3 c40 c41 c42 c43 c44 c45 c50 c51 c52 c53 c54 c55 HA
  obtain ⟨-, c3, c40, c41, c42, c43, c44, c45, c50, c51, c52, c53, c54, c55⟩ := HA6.out.all
  go_wp2
  go_region_held3 (fun W => HeldAt w W g3 g4 g5 op a_0 a_1 a_2 a_3 a_4 (.slice a_5 na a_6) b_0 b_1 b_2 b_3 b_4 (.slice b_5 nb b_6) ∧ W.cell? ⟨g3, 0, none⟩ = some (.string op) ∧ W.cell? ⟨g4, 0, none⟩ = some (.int .i64 a_0) ∧ W.cell? ⟨g4, 1, none⟩ = some (.bool a_1) ∧ W.cell? ⟨g4, 2, none⟩ = some (.int .i64 a_2) ∧ W.cell? ⟨g4, 3, none⟩ = some (.bool a_3) ∧ W.cell? ⟨g4, 4, none⟩ = some (.string a_4) ∧ W.cell? ⟨g4, 5, none⟩ = some (.slice a_5 na a_6) ∧ W.cell? ⟨g5, 0, none⟩ = some (.int .i64 b_0) ∧ W.cell? ⟨g5, 1, none⟩ = some (.bool b_1) ∧ W.cell? ⟨g5, 2, none⟩ = some (.int .i64 b_2) ∧ W.cell? ⟨g5, 3, none⟩ = some (.bool b_3) ∧ W.cell? ⟨g5, 4, none⟩ = some (.string b_4) ∧ W.cell? ⟨g5, 5, none⟩ = some (.slice b_5 nb b_6))
    (first | exact HA6.out.drew.all | (go_split_ands; exact (HeldAt.step (by assumption) (by assumption)).all))
    (first | (go_at_call 47; (with_reducible refine (hb.out _ ?_).mono ?_); (next => (go_split_ands; exact HeldAt.bel (by assumption))); rintro e w7 ⟨rfl, hb7⟩) | (go_at_call 65; (with_reducible refine (truth2 r1 _).mono ?_); rintro e w7 ⟨⟨A, c, rfl⟩, hb7⟩) | (go_at_call 42; (with_reducible refine (hh.out _ _ _ ?_).mono ?_); (next => (go_split_ands; exact HeldAt.bel (by assumption))); rintro e w7 ⟨rfl, hb7⟩))
  all_goals
    go_wp2
    go_ret
    exact ⟨rfl, by (go_split_ands; exact HeldAt.bel (by assumption))⟩
theorem holds_a (q : Bool) (h14 : (a_0 == 4) = true) (h21 : (b_0 == 1) = false) (q24 : Bool) (h24 : (b_0 == 4) = q24)
    (hh : Hid (∀ W g3 g4 g5, HeldAt w W g3 g4 g5 op a_0 a_1 a_2 a_3 a_4 (.slice a_5 na a_6) b_0 b_1 b_2 b_3 b_4 (.slice b_5 nb b_6) → Calls Tryd.prog 63 #[.slice a_5 na a_6, .func (.func 66) #[] #[.pointer (some ⟨g3, 0, none⟩), .pointer (some ⟨g5, 0, none⟩)]] W fun e w' => e = .returned (.bool q) ∧ Below W.heap.size W w')) :
    Calls Tryd.prog 42 #[.string op, .agg #[.int .i64 a_0, .bool a_1, .int .i64 a_2, .bool a_3, .string a_4, .slice a_5 na a_6], .agg #[.int .i64 b_0, .bool b_1, .int .i64 b_2, .bool b_3, .string b_4, .slice b_5 nb b_6]] w fun e w' => e = .returned (.bool q) ∧ Below w.heap.size w w' := by
  cases q24
  all_goals
    have huV := Tryd.underlying49
    go_enter Tryd.func42, Tryd.ntmps42
    go_wp2_with (first
      | ((with_reducible refine gate_dst (N := 3) rfl ?_); refine box_event ?hg (N := 3) ?hd (cs := #[.string op]) (t := 9) ?hr ?_; (case hd => rfl); (case hg => rfl); (case hr => first | (go_simp; done) | (go_simp; rfl)); intro g3 hg3 w3 hx3 hb3; have B3 := Aside0.mk hb3; have K3 := Aside0.mk hx3; clear hb3 hx3 hg3)
      | ((with_reducible refine gate_dst (N := 4) rfl ?_); refine box_event ?hg (N := 4) ?hd (cs := #[.int .i64 a_0, .bool a_1, .int .i64 a_2, .bool a_3, .string a_4, .slice a_5 na a_6]) (t := 49) ?hr ?_; (case hd => rfl); (case hg => rfl); (case hr => first | (go_simp; done) | (go_simp; rfl)); intro g4 hg4 w4 hx4 hb4; have K3' := Aside0.mk (blk_below K3.out hb4); have B4 := Aside0.mk (below_step B3.out hb4); have K4 := Aside0.mk hx4; clear hb4 hx4 hg4 K3 B3)
      | ((with_reducible refine gate_dst (N := 5) rfl ?_); refine box_event ?hg (N := 5) ?hd (cs := #[.int .i64 b_0, .bool b_1, .int .i64 b_2, .bool b_3, .string b_4, .slice b_5 nb b_6]) (t := 49) ?hr ?_; (case hd => rfl); (case hg => rfl); (case hr => first | (go_simp; done) | (go_simp; rfl)); intro g5 hg5 w5 hx5 hb5; have HA := Aside0.mk (HeldAt.mk (below_step B4.out hb5) (blk_below K3'.out hb5) (blk_below K4.out hb5) hx5); clear hb5 hx5 hg5 K3' K4 B4; obtain ⟨-, c3, c40, c41, c42, c43, c44, c45, c50, c51, c52, c53, c54, c55⟩ := HA.out.all))
    go_quiet (fail)
    generalize hq : w5.drewN nq = w6
    have HA6 := Aside0.mk (hq ▸ HA.out.drewN nq)
    clear hq c3 c40 c41 c42 c43 c44 c45 c50 c51 c52 c53 c54 c55 HA
    obtain ⟨-, c3, c40, c41, c42, c43, c44, c45, c50, c51, c52, c53, c54, c55⟩ := HA6.out.all
    go_wp2_with (go_at_call 63; (with_reducible refine (hh.out _ _ _ _ HA6.out).mono ?_); rintro e w7 ⟨rfl, hb7⟩)
    go_ret
    exact ⟨rfl, below_step HA6.out.bel hb7⟩
theorem holds_b (q : Bool) (h14 : (a_0 == 4) = false) (h24 : (b_0 == 4) = true) (h11 : (a_0 == 1) = false)
    (hh : Hid (∀ W g3 g4 g5, HeldAt w W g3 g4 g5 op a_0 a_1 a_2 a_3 a_4 (.slice a_5 na a_6) b_0 b_1 b_2 b_3 b_4 (.slice b_5 nb b_6) → Calls Tryd.prog 63 #[.slice b_5 nb b_6, .func (.func 68) #[] #[.pointer (some ⟨g3, 0, none⟩), .pointer (some ⟨g4, 0, none⟩)]] W fun e w' => e = .returned (.bool q) ∧ Below W.heap.size W w')) :
    Calls Tryd.prog 42 #[.string op, .agg #[.int .i64 a_0, .bool a_1, .int .i64 a_2, .bool a_3, .string a_4, .slice a_5 na a_6], .agg #[.int .i64 b_0, .bool b_1, .int .i64 b_2, .bool b_3, .string b_4, .slice b_5 nb b_6]] w fun e w' => e = .returned (.bool q) ∧ Below w.heap.size w w' := by
  have huV := Tryd.underlying49
  go_enter Tryd.func42, Tryd.ntmps42
  go_wp2_with (first
    | ((with_reducible refine gate_dst (N := 3) rfl ?_); refine box_event ?hg (N := 3) ?hd (cs := #[.string op]) (t := 9) ?hr ?_; (case hd => rfl); (case hg => rfl); (case hr => first | (go_simp; done) | (go_simp; rfl)); intro g3 hg3 w3 hx3 hb3; have B3 := Aside0.mk hb3; have K3 := Aside0.mk hx3; clear hb3 hx3 hg3)
    | ((with_reducible refine gate_dst (N := 4) rfl ?_); refine box_event ?hg (N := 4) ?hd (cs := #[.int .i64 a_0, .bool a_1, .int .i64 a_2, .bool a_3, .string a_4, .slice a_5 na a_6]) (t := 49) ?hr ?_; (case hd => rfl); (case hg => rfl); (case hr => first | (go_simp; done) | (go_simp; rfl)); intro g4 hg4 w4 hx4 hb4; have K3' := Aside0.mk (blk_below K3.out hb4); have B4 := Aside0.mk (below_step B3.out hb4); have K4 := Aside0.mk hx4; clear hb4 hx4 hg4 K3 B3)
    | ((with_reducible refine gate_dst (N := 5) rfl ?_); refine box_event ?hg (N := 5) ?hd (cs := #[.int .i64 b_0, .bool b_1, .int .i64 b_2, .bool b_3, .string b_4, .slice b_5 nb b_6]) (t := 49) ?hr ?_; (case hd => rfl); (case hg => rfl); (case hr => first | (go_simp; done) | (go_simp; rfl)); intro g5 hg5 w5 hx5 hb5; have HA := Aside0.mk (HeldAt.mk (below_step B4.out hb5) (blk_below K3'.out hb5) (blk_below K4.out hb5) hx5); clear hb5 hx5 hg5 K3' K4 B4; obtain ⟨-, c3, c40, c41, c42, c43, c44, c45, c50, c51, c52, c53, c54, c55⟩ := HA.out.all))
  go_quiet (fail)
  generalize hq : w5.drewN nq = w6
  have HA6 := Aside0.mk (hq ▸ HA.out.drewN nq)
  clear hq c3 c40 c41 c42 c43 c44 c45 c50 c51 c52 c53 c54 c55 HA
  obtain ⟨-, c3, c40, c41, c42, c43, c44, c45, c50, c51, c52, c53, c54, c55⟩ := HA6.out.all
  go_wp2_with (go_at_call 63; (with_reducible refine (hh.out _ _ _ _ HA6.out).mono ?_); rintro e w7 ⟨rfl, hb7⟩)
  go_ret
  exact ⟨rfl, below_step HA6.out.bel hb7⟩
end
theorem cl1 (op s : ByteArray) (b_0 : Int) (b_1 : Bool) (b_2 : Int) (b_3 : Bool) (b_4 : ByteArray) (b_5 : Option Addr) (b_6 : Nat) (nb : Nat) (w : World) (q : Bool) (g3 g5 : Nat) (hH : HeldAt w w g3 g5 g5 op b_0 b_1 b_2 b_3 b_4 (.slice b_5 nb b_6) b_0 b_1 b_2 b_3 b_4 (.slice b_5 nb b_6))
    (hh : Hid (∀ W A c, Below w.heap.size w W → Calls Tryd.prog 42 #[.string op, .agg #[.int .i64 3, .bool false, .int .i64 0, .bool false, .string s, .slice A 0 c], .agg #[.int .i64 b_0, .bool b_1, .int .i64 b_2, .bool b_3, .string b_4, .slice b_5 nb b_6]] W fun e w' => e = .returned (.bool q) ∧ Below W.heap.size W w')) :
    Calls Tryd.prog 66 #[.string s, .pointer (some ⟨g3, 0, none⟩), .pointer (some ⟨g5, 0, none⟩)] w fun e w' => e = .returned (.bool q) ∧ Below w.heap.size w w' := by
  have huV := Tryd.underlying49
  have HA6 := Aside0.mk hH
  obtain ⟨-, c3, c40, c41, c42, c43, c44, c45, c50, c51, c52, c53, c54, c55⟩ := hH.all
  clear hH
  go_enter Tryd.func66, Tryd.ntmps66
  go_wp2
  go_region_held3 (fun W => HeldAt w W g3 g5 g5 op b_0 b_1 b_2 b_3 b_4 (.slice b_5 nb b_6) b_0 b_1 b_2 b_3 b_4 (.slice b_5 nb b_6) ∧ W.cell? ⟨g3, 0, none⟩ = some (.string op) ∧ W.cell? ⟨g5, 0, none⟩ = some (.int .i64 b_0) ∧ W.cell? ⟨g5, 1, none⟩ = some (.bool b_1) ∧ W.cell? ⟨g5, 2, none⟩ = some (.int .i64 b_2) ∧ W.cell? ⟨g5, 3, none⟩ = some (.bool b_3) ∧ W.cell? ⟨g5, 4, none⟩ = some (.string b_4) ∧ W.cell? ⟨g5, 5, none⟩ = some (.slice b_5 nb b_6) ∧ W.cell? ⟨g5, 0, none⟩ = some (.int .i64 b_0) ∧ W.cell? ⟨g5, 1, none⟩ = some (.bool b_1) ∧ W.cell? ⟨g5, 2, none⟩ = some (.int .i64 b_2) ∧ W.cell? ⟨g5, 3, none⟩ = some (.bool b_3) ∧ W.cell? ⟨g5, 4, none⟩ = some (.string b_4) ∧ W.cell? ⟨g5, 5, none⟩ = some (.slice b_5 nb b_6))
    (first | exact HA6.out.drew.all | (go_split_ands; exact (HeldAt.step (by assumption) (by assumption)).all))
    (first | (go_at_call 67; (with_reducible refine (texted2 s _).mono ?_); rintro e w7 ⟨⟨A, c, rfl⟩, hb7⟩) | (go_at_call 42; (with_reducible refine (hh.out _ _ _ ?_).mono ?_); (next => (go_split_ands; exact HeldAt.bel (by assumption))); rintro e w7 ⟨rfl, hb7⟩))
  all_goals
    go_wp2
    go_ret
    exact ⟨rfl, by (go_split_ands; exact HeldAt.bel (by assumption))⟩
theorem cl2 (op s : ByteArray) (b_0 : Int) (b_1 : Bool) (b_2 : Int) (b_3 : Bool) (b_4 : ByteArray) (b_5 : Option Addr) (b_6 : Nat) (nb : Nat) (w : World) (q : Bool) (g3 g5 : Nat) (hH : HeldAt w w g3 g5 g5 op b_0 b_1 b_2 b_3 b_4 (.slice b_5 nb b_6) b_0 b_1 b_2 b_3 b_4 (.slice b_5 nb b_6))
    (hh : Hid (∀ W A c, Below w.heap.size w W → Calls Tryd.prog 42 #[.string op, .agg #[.int .i64 b_0, .bool b_1, .int .i64 b_2, .bool b_3, .string b_4, .slice b_5 nb b_6], .agg #[.int .i64 3, .bool false, .int .i64 0, .bool false, .string s, .slice A 0 c]] W fun e w' => e = .returned (.bool q) ∧ Below W.heap.size W w')) :
    Calls Tryd.prog 68 #[.string s, .pointer (some ⟨g3, 0, none⟩), .pointer (some ⟨g5, 0, none⟩)] w fun e w' => e = .returned (.bool q) ∧ Below w.heap.size w w' := by
  have huV := Tryd.underlying49
  have HA6 := Aside0.mk hH
  obtain ⟨-, c3, c40, c41, c42, c43, c44, c45, c50, c51, c52, c53, c54, c55⟩ := hH.all
  clear hH
  go_enter Tryd.func68, Tryd.ntmps68
  go_wp2
  go_region_held3 (fun W => HeldAt w W g3 g5 g5 op b_0 b_1 b_2 b_3 b_4 (.slice b_5 nb b_6) b_0 b_1 b_2 b_3 b_4 (.slice b_5 nb b_6) ∧ W.cell? ⟨g3, 0, none⟩ = some (.string op) ∧ W.cell? ⟨g5, 0, none⟩ = some (.int .i64 b_0) ∧ W.cell? ⟨g5, 1, none⟩ = some (.bool b_1) ∧ W.cell? ⟨g5, 2, none⟩ = some (.int .i64 b_2) ∧ W.cell? ⟨g5, 3, none⟩ = some (.bool b_3) ∧ W.cell? ⟨g5, 4, none⟩ = some (.string b_4) ∧ W.cell? ⟨g5, 5, none⟩ = some (.slice b_5 nb b_6) ∧ W.cell? ⟨g5, 0, none⟩ = some (.int .i64 b_0) ∧ W.cell? ⟨g5, 1, none⟩ = some (.bool b_1) ∧ W.cell? ⟨g5, 2, none⟩ = some (.int .i64 b_2) ∧ W.cell? ⟨g5, 3, none⟩ = some (.bool b_3) ∧ W.cell? ⟨g5, 4, none⟩ = some (.string b_4) ∧ W.cell? ⟨g5, 5, none⟩ = some (.slice b_5 nb b_6))
    (first | exact HA6.out.drew.all | (go_split_ands; exact (HeldAt.step (by assumption) (by assumption)).all))
    (first | (go_at_call 67; (with_reducible refine (texted2 s _).mono ?_); rintro e w7 ⟨⟨A, c, rfl⟩, hb7⟩) | (go_at_call 42; (with_reducible refine (hh.out _ _ _ ?_).mono ?_); (next => (go_split_ands; exact HeldAt.bel (by assumption))); rintro e w7 ⟨rfl, hb7⟩))
  all_goals
    go_wp2
    go_ret
    exact ⟨rfl, by (go_split_ands; exact HeldAt.bel (by assumption))⟩
end Go.Proofs.YtnkjchcaonaifaaDoor.PA
