/- What the listed package-level variables hold while a law runs: 'Glob' (the two tables of unicode/utf8), and that it stays. -/
import Derived.Test.YtggdffgoffmlpaaDoorProg
import Derived.Shelf.Unicode.DecodeSlow
import Derived.Below
import Derived.Lib.ItoaNum
import Derived.Lib.LaidTab
namespace Go.Proofs.YtggdffgoffmlpaaDoor
open Go.RowKit
def Glob (w : World) : Prop := Lib.Utf8Tabs 1 2 w
theorem Glob.step {w w' : World} (h : Glob w) (hb : Below w.heap.size w w') : Glob w' := Utf8Tabs_below h hb
theorem bne_isEmpty (l : List UInt8) : (l != ([] : List UInt8)) = !l.isEmpty := by cases l <;> rfl
theorem beq_isEmpty (l : List UInt8) : (l == ([] : List UInt8)) = l.isEmpty := by cases l <;> rfl
/-- What the printed texts say often, in one word each (wip/tools/xprint.py turns it). -/
theorem hb_ {p : Prop} (h : p := by repeat (first | (with_reducible first | exact HB.out | apply below_alloc | apply pw_below_drewN | apply below_drew1) | exact HB.out)) : p := h
theorem bk_ {p q : Prop} (a : q) (h : q → p := by (intro z_; (with_reducible repeat (first | refine blk_drewN ?_ _ | refine blk_drew ?_ | refine blk_alloc ?_ _)); exact z_)) : p := h a
theorem rf_ {p : Prop} (h : p := by (try simp only [List.map_toArray, List.map_cons, List.map_nil]); first | done | rfl | (simp only [List.length_drop, List.length_take]; rfl)) : p := h
theorem hb1_ {p q : Prop} (a : q) (h : q → p := by (intro z_; repeat (first | (with_reducible first | exact HB.out | apply below_alloc | apply pw_below_drewN | apply below_drew1 | refine below_set ?_ z_) | exact HB.out))) : p := h a
theorem hb2_ {p q r : Prop} (a : q) (b : r) (h : q → r → p := by (intro z_ y_; repeat (first | (with_reducible first | exact HB.out | apply below_alloc | apply pw_below_drewN | apply below_drew1 | refine below_set ?_ z_ | refine below_set ?_ y_) | exact HB.out))) : p := h a b
theorem hc_ {w W W' : World} {p : Addr} {v : Value} (hb : Below w.heap.size w W) (h : w.cell? p = some v) (e : W'.cell? p = W.cell? p := by rfl) : W'.cell? p = some v := e.trans ((hb.cell (World.block_lt_of_cell? w _ h)).trans h)
theorem er_ {p : Prop} (h : p := by first | rfl | (simp [errW_none, errW_some] <;> rfl) | (simp [*, errW_none, errW_some] <;> rfl) | (simp only [bne_isEmpty, beq_isEmpty] <;> rfl)) : p := h
theorem far_block (a : Addr) (n : Nat) : (a.add n).block = a.block := by
  unfold Addr.add
  split <;> rfl
theorem far_ {w W : World} {g j : Nat} {a a0 : Addr} {v : Value} (h : w.cell? a0 = some v) (hg : w.heap.size ≤ g) (u : Value) (hb : a.block = a0.block := by first | rfl | (simp only [far_block]; done) | (dsimp only; rw [far_block]) | (show (Addr.add _ _).block = _; rw [far_block])) : (W.setCell ⟨g, j, none⟩ u).cell? a = W.cell? a :=
  World.cell?_setCell_other _ _ _ _ (fun e => by
    have := World.block_lt_of_cell? _ _ h
    subst e
    simp only at hb
    omega)
theorem var?_step {P : Program} {w w' : World} {name : String} {cs : Array Value} (h : w.var? P name = some cs) (hb : Below w.heap.size w w') : w'.var? P name = some cs := by
  unfold World.var? at h ⊢
  cases hg : P.globalNamed name with
  | none => rw [hg] at h; exact h
  | some g =>
    rw [hg] at h
    simp only [Option.bind_some] at h ⊢
    have hlt : g < w.heap.size := by
      rcases Nat.lt_or_ge g w.heap.size with hl | hl
      · exact hl
      · rw [Array.getElem?_eq_none hl] at h; cases h
    rw [hb.block g hlt]
    exact h
/-- What the variables of strings and strconv hold: as far as this translation has them. -/
structure Glob3 (w : World) : Prop where
  triv : True
  maxLen : ∃ m, w.cell? ⟨0, 0, none⟩ = some (.int .i64 m)
  errSyntax : ∃ t p, w.var? Tryd.prog "strconv.ErrSyntax" = some #[.iface t p]
  errRange : ∃ t p, w.var? Tryd.prog "strconv.ErrRange" = some #[.iface t p]
  pow10 : Lib.TabIs Tryd.prog w "internal/strconv.uint64pow10" .u64 Lib.pow10Tab
theorem Glob3.step {w w' : World} (h : Glob3 w) (hb : Below w.heap.size w w') : Glob3 w' where
  triv := trivial
  maxLen := let ⟨m, hm⟩ := h.maxLen; ⟨m, (hb.cell (World.block_lt_of_cell? w _ hm)).trans hm⟩
  errSyntax := let ⟨t, p, hp⟩ := h.errSyntax; ⟨t, p, var?_step hp hb⟩
  errRange := let ⟨t, p, hp⟩ := h.errRange; ⟨t, p, var?_step hp hb⟩
  pow10 := var?_step h.pow10 hb
end Go.Proofs.YtggdffgoffmlpaaDoor
