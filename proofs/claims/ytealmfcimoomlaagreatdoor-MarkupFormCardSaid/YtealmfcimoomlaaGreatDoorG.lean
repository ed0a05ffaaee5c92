/- What the listed package-level variables hold while a law runs: 'Glob' (the two tables of unicode/utf8), and that it stays. -/
import Derived.Test.YtealmfcimoomlaaGreatDoorProg
import Derived.Shelf.Unicode.DecodeSlow
import Derived.Below
import Derived.Lib.ItoaNum
import Derived.Lib.LaidTab
namespace Go.Proofs.YtealmfcimoomlaaGreatDoor
open Go.RowKit
def Glob (w : World) : Prop := Lib.Utf8Tabs 2 3 w
theorem Glob.step {w w' : World} (h : Glob w) (hb : Below w.heap.size w w') : Glob w' := Utf8Tabs_below h hb
/-- The five references by names, as chars.named holds them: cell by cell. -/
def namedCells : List Value := [.string ⟨#[38, 97, 109, 112, 59]⟩, .int .u8 38, .string ⟨#[38, 108, 116, 59]⟩, .int .u8 60, .string ⟨#[38, 103, 116, 59]⟩, .int .u8 62, .string ⟨#[38, 113, 117, 111, 116, 59]⟩, .int .u8 34, .string ⟨#[38, 97, 112, 111, 115, 59]⟩, .int .u8 39]
def Glob2 (w : World) : Prop := 1 < w.heap.size ∧ ∀ i, i < 10 → w.cell? ⟨1, i, none⟩ = some (namedCells.getD i .nilIface)
theorem Glob2.step {w w' : World} (h : Glob2 w) (hb : Below w.heap.size w w') : Glob2 w' :=
  ⟨Nat.lt_of_lt_of_le h.1 hb.size, fun i hi => by rw [hb.cell (p := ⟨1, i, none⟩) h.1]; exact h.2 i hi⟩
theorem bytesLess_total : ∀ a b : List UInt8, (Op.bytesLess a b || a == b) = !Op.bytesLess b a
  | [], [] => rfl
  | [], _ :: _ => rfl
  | _ :: _, [] => rfl
  | a :: x, b :: y => by
    have ih := bytesLess_total x y
    simp only [Op.bytesLess]
    by_cases h1 : a < b
    · have h2 : ¬ b < a := fun h => absurd (UInt8.lt_trans h1 h) (UInt8.lt_irrefl a)
      have h3 : ¬ b = a := fun h => by subst h; exact UInt8.lt_irrefl _ h1
      simp [h1, h2, h3]
    · by_cases h2 : b < a
      · have h3 : ¬ a = b := fun h => by subst h; exact UInt8.lt_irrefl _ h2
        simp [h1, h2, h3]
      · have h3 : a = b := UInt8.le_antisymm (UInt8.not_lt.mp h2) (UInt8.not_lt.mp h1)
        subst h3
        simp [UInt8.lt_irrefl]
        simpa using ih
/-- The comparisons of texts, as the print spells them. -/
theorem leq_str (t : TypeId) (a b : ByteArray) : binOp .leq t (.string a) (.string b) = pure (.bool (!Op.bytesLess b.toList a.toList)) := by
  rw [← bytesLess_total]; simp [binOp, Op.stringOp]
theorem geq_str (t : TypeId) (a b : ByteArray) : binOp .geq t (.string a) (.string b) = pure (.bool (!Op.bytesLess a.toList b.toList)) := by
  simp [binOp, Op.stringOp]
theorem gtr_str (t : TypeId) (a b : ByteArray) : binOp .gtr t (.string a) (.string b) = pure (.bool (Op.bytesLess b.toList a.toList)) := by
  have h : Op.bytesLess b.toList a.toList = !(Op.bytesLess a.toList b.toList || a.toList == b.toList) := by rw [bytesLess_total, Bool.not_not]
  rw [h]; simp [binOp, Op.stringOp]
theorem bne_isEmpty (l : List UInt8) : (l != ([] : List UInt8)) = !l.isEmpty := by cases l <;> rfl
theorem beq_isEmpty (l : List UInt8) : (l == ([] : List UInt8)) = l.isEmpty := by cases l <;> rfl
/-- What the printed texts say often, in one word each (wip/tools/xprint.py turns it). -/
theorem hb_ {p : Prop} (h : p := by repeat (first | (with_reducible first | exact HB.out | apply below_alloc | apply pw_below_drewN | apply below_drew1) | exact HB.out)) : p := h
theorem bk_ {p q : Prop} (a : q) (h : q → p := by (intro z_; (with_reducible repeat (first | refine blk_drewN ?_ _ | refine blk_drew ?_ | refine blk_alloc ?_ _)); exact z_)) : p := h a
theorem rf_ {p : Prop} (h : p := by (try simp only [List.map_toArray, List.map_cons, List.map_nil]); first | done | rfl | (simp only [List.length_drop, List.length_take]; rfl)) : p := h
theorem hb1_ {p q : Prop} (a : q) (h : q → p := by (intro z_; repeat (first | (with_reducible first | exact HB.out | apply below_alloc | apply pw_below_drewN | apply below_drew1 | refine below_set ?_ z_) | exact HB.out))) : p := h a
theorem hb2_ {p q r : Prop} (a : q) (b : r) (h : q → r → p := by (intro z_ y_; repeat (first | (with_reducible first | exact HB.out | apply below_alloc | apply pw_below_drewN | apply below_drew1 | refine below_set ?_ z_ | refine below_set ?_ y_) | exact HB.out))) : p := h a b
theorem hc_ {w W W' : World} {p : Addr} {v : Value} (hb : Below w.heap.size w W) (h : w.cell? p = some v) (e : W'.cell? p = W.cell? p := by rfl) : W'.cell? p = some v := e.trans ((hb.cell (World.block_lt_of_cell? w _ h)).trans h)
theorem er_ {p : Prop} (h : p := by first | rfl | (simp [errW_none, errW_some] <;> rfl) | (simp [*, errW_none, errW_some] <;> rfl) | (simp only [bne_isEmpty, beq_isEmpty] <;> rfl)) : p := h
theorem var?_step {P : Program} {w w' : World} {name : String} {cs : Array Value} (h : w.var? P name = some cs) (hb : Below w.heap.size w w') : w'.var? P name = some cs := by
  unfold World.var? at h ⊢
  cases hg : P.globalNamed name with
  | none => rw [hg] at h; exact h
  | some g =>
    rw [hg] at h
    simp only [Option.bind_some] at h ⊢
    have hlt : g < w.heap.size := by
      rcases Nat.lt_or_ge g w.heap.size with hl | hl
      · exact hl
      · rw [Array.getElem?_eq_none hl] at h; cases h
    rw [hb.block g hlt]
    exact h
/-- What the variables of strings and strconv hold: as far as this translation has them. -/
structure Glob3 (w : World) : Prop where
  triv : True
  maxLen : ∃ m, w.cell? ⟨0, 0, none⟩ = some (.int .i64 m)
  errSyntax : ∃ t p, w.var? Tryz.prog "strconv.ErrSyntax" = some #[.iface t p]
  errRange : ∃ t p, w.var? Tryz.prog "strconv.ErrRange" = some #[.iface t p]
  pow10 : Lib.TabIs Tryz.prog w "internal/strconv.uint64pow10" .u64 Lib.pow10Tab
theorem Glob3.step {w w' : World} (h : Glob3 w) (hb : Below w.heap.size w w') : Glob3 w' where
  triv := trivial
  maxLen := let ⟨m, hm⟩ := h.maxLen; ⟨m, (hb.cell (World.block_lt_of_cell? w _ hm)).trans hm⟩
  errSyntax := let ⟨t, p, hp⟩ := h.errSyntax; ⟨t, p, var?_step hp hb⟩
  errRange := let ⟨t, p, hp⟩ := h.errRange; ⟨t, p, var?_step hp hb⟩
  pow10 := var?_step h.pow10 hb
end Go.Proofs.YtealmfcimoomlaaGreatDoor
