/- Texts of this claim, one behind the other: PA0, UBuild. Conditions: those of each theorem. -/
import Derived.Test.YtealmfcimoomlaaGreatDoorProg
import Derived.Below
import Derived.Deep.Draws
import Derived.Deep.AppendLies
import Derived.Maps.AppendAt
import Derived.OwnWalk
import Derived.Laws.BytesArg
import Derived.Laws.MakeOwn
import Derived.Laws.OwnMore
import Derived.Deep.OwnRows
import Derived.Tactics
import Derived.Lib.ConvBytes
import Derived.Laws.Slices
import Derived.WalkKit
import Derived.KernelRfl
import Derived.RowKit3
import Derived.Deep.LoopGhost
import Derived.Deep.QuietTactic
import Derived.BigQuiet
import Derived.WideLaws
import Derived.Deep.DeepCutAuto
import Derived.Deep.CutBlock
import Derived.Deep.RegionHeld3
import Derived.Laws.Rows
import Derived.Lib.AppendStr
import Derived.ArgAppend
import Derived.Laws.IdiomCopy
import Derived.OrdersHeld
import Derived.Laws.BitsLemmas
import Derived.RowKit
import Derived.Test.YtealmfcimoomlaaGreatDoorG
import Derived.Test.YtealmfcimoomlaaGreatDoorWWords
import Derived.Test.YtealmfcimoomlaaGreatDoorWLast
import Derived.Test.YtealmfcimoomlaaGreatDoorWQPut
import Derived.Test.YtealmfcimoomlaaGreatDoorWMore
import Derived.Lib.FrozenHead2
import Derived.Lib.OthersKept
import Derived.Lib.UnsafeStr
import Derived.Shelf.Strings.BuilderK
import Derived.BigCall
-- Written by a program of this session (wip/tools/xprint.py: the kit's print, with given functions). Not trusted: Lean checks it.
-- squeezed
namespace Go.Proofs.YtealmfcimoomlaaGreatDoor.PA
open Go.RowKit Go.Proofs.YtealmfcimoomlaaGreatDoorW.PrintWords Go.Proofs.YtealmfcimoomlaaGreatDoorW.PrintLast Go.Proofs.YtealmfcimoomlaaGreatDoorW.PrintMore

/-! Words for what these texts say often. -/
section
variable {P : Program} {md : Region.Mode} {ops : Array Oper} {S : World → Prop} {ds : List Nat} {Q : Exit → Act → World → Prop}
end

theorem bp_ {p q : Prop} (a : q) (h : q → p := by (intro z_; (repeat (first | (with_reducible refine blk_drewN ?_ _) | (with_reducible refine blk_drew ?_) | (with_reducible refine blk_alloc ?_ _) | (with_reducible apply blk_put))); exact z_; all_goals rfl)) : p := h a
theorem sc_ {p q : Prop} (a : q) (h : q → p := by (intro z_; repeat (first | exact z_ | (with_reducible refine Kd.C_alloc ?_ _) | (with_reducible refine Kd.C_drewN ?_ _) | (with_reducible refine Kd.C_drew ?_)))) : p := h a
theorem ce5_ {w : World} {g : Nat} {t : TypeId} {a b c d e : Value} (h : w.heap[g]? = some (.cells #[a, b, c, d, e] t (0, 0))) : w.cell? ⟨g, 0, none⟩ = some a ∧ w.cell? ⟨g, 1, none⟩ = some b ∧ w.cell? ⟨g, 2, none⟩ = some c ∧ w.cell? ⟨g, 3, none⟩ = some d ∧ w.cell? ⟨g, 4, none⟩ = some e :=
  ⟨(blk_cell h 0).trans rfl, (blk_cell h 1).trans rfl, (blk_cell h 2).trans rfl, (blk_cell h 3).trans rfl, (blk_cell h 4).trans rfl⟩
theorem fr5_ {w : World} {g : Nat} {t : TypeId} {cs : Array Value} (h : w.heap[g]? = some (.cells cs t (0, 0))) : w.frozen? ⟨g, 0, none⟩ = false ∧ w.frozen? ⟨g, 1, none⟩ = false ∧ w.frozen? ⟨g, 2, none⟩ = false ∧ w.frozen? ⟨g, 3, none⟩ = false ∧ w.frozen? ⟨g, 4, none⟩ = false := ⟨blk_frozen h 0, blk_frozen h 1, blk_frozen h 2, blk_frozen h 3, blk_frozen h 4⟩
attribute [local go_sem] max2_int min2_int max_two min_two max_three min_three max_four min_four   -- for this text's walks alone
set_option linter.unusedVariables false
set_option linter.unusedSimpArgs false



def errW : Option Int → Value
 | none => .nilIface
 | some c => .iface 0 (.int .i64 c)
theorem errW_none : errW none = .nilIface := rfl
theorem errW_some (c : Int) : errW (some c) = .iface 0 (.int .i64 c) := rfl

-- the values' own types
/-! #### struct type 61 -/
structure S61 where
 f0 : ByteArray
 f1 : ByteArray
def z61 : S61 := ⟨(⟨#[]⟩ : ByteArray), (⟨#[]⟩ : ByteArray)⟩
def k61 : Kd S61 := Kd.iso (Kd.pair Kd.string Kd.string) (fun x : S61 => (x.f0, x.f1))
theorem k61_open {w : World} {x : S61} {cs : List Value} (h : k61.K w x cs) : cs = [.string x.f0, .string x.f1] := by
 obtain ⟨_, _, rfl, rfl, rfl⟩ := h
 exact rfl
theorem k61_openM {w : World} {base : Nat} {ok : Nat → Prop} {x : S61} {cs : List Value} (h : k61.M w base ok x cs) : cs = [.string x.f0, .string x.f1] := by
 obtain ⟨_, _, rfl, rfl, rfl⟩ := h
 exact rfl
theorem k61_mkM (w : World) (base : Nat) (ok : Nat → Prop) (x : S61)  : k61.M w base ok x [.string x.f0, .string x.f1] := ⟨[.string x.f0], [.string x.f1], rfl, rfl, rfl⟩
def rd_T61 (xs : List S61) (i : Int) : S61 := xs.getD i.toNat z61
theorem at_T61 {w : World} {A : Option Addr} {n : Nat} {xs : List S61} (h : Kd.C k61 w A n xs) (i : Int) (h0 : 0 ≤ i) (h1 : i < n) : ∃ ad , A = some ad ∧ w.cell? (ad.add (i.toNat * 2)) = some (.string (rd_T61 xs i).f0) ∧ w.cell? ⟨(ad.add (i.toNat * 2)).block, (ad.add (i.toNat * 2)).off + 1, none⟩ = some (.string (rd_T61 xs i).f1) := by
 obtain ⟨ad, c, e, _, hK, hc0⟩ := Kd.C_get h z61 i h0 h1
 have hc : ∀ j u, c[j]? = some u → w.cell? (ad.add (i.toNat * 2 + j)) = some u := hc0
 obtain rfl := k61_open hK
 exact ⟨ad, e, hc 0 _ rfl, by rw [← add_field _ _ 1 (by omega)]; exact hc 1 _ rfl⟩

/-! #### struct type 35, nested in itself -/
structure S35 where
 f0 : Int
 f1 : ByteArray
 f2 : (List S61)
 f3 : ByteArray
 f4 : (List S35)
def z35 : S35 := ⟨(0 : Int), (⟨#[]⟩ : ByteArray), ([] : List S61), (⟨#[]⟩ : ByteArray), ([] : List S35)⟩
def F35 (d : Kd S35) : Kd S35 := Kd.iso (Kd.pair (Kd.int .i64) (Kd.pair Kd.string (Kd.pair (Kd.slice 61 k61) (Kd.pair Kd.string (Kd.slice 35 d))))) (fun x : S35 => (x.f0, x.f1, x.f2, x.f3, x.f4))
theorem mono35 : Kd.Mono F35 := Kd.mono_iso _ (Kd.mono_pair (Kd.mono_const _) (Kd.mono_pair (Kd.mono_const _) (Kd.mono_pair (Kd.mono_const _) (Kd.mono_pair (Kd.mono_const _) (Kd.mono_slice 35 Kd.mono_id)))))
theorem sub35 : Kd.Sub F35 [35, 61] := Kd.sub_iso _ (Kd.sub_pair (Kd.sub_const _ (by decide)) (Kd.sub_pair (Kd.sub_const _ (by decide)) (Kd.sub_pair (Kd.sub_const _ (by decide)) (Kd.sub_pair (Kd.sub_const _ (by decide)) (Kd.sub_slice 35 (by decide) Kd.sub_id)))))
theorem sz35 : ∀ n, (Kd.upto F35 5 [35, 61] n).sz = 5 := Kd.upto_sz (fun _ => rfl)
def k35 : Kd S35 := Kd.fix F35 5 [35, 61] sz35 (Kd.upto_E sub35)
theorem k35_open {w : World} {x : S35} {cs : List Value} (h : k35.K w x cs) : ∃ A2 c2 A4 c4, cs = [.int .i64 x.f0, .string x.f1, .slice A2 x.f2.length c2, .string x.f3, .slice A4 x.f4.length c4] ∧ x.f2.length ≤ c2 ∧ k61.C w A2 x.f2.length x.f2 ∧ x.f4.length ≤ c4 ∧ k35.C w A4 x.f4.length x.f4 := by
 obtain ⟨n, h⟩ := h
 cases n with
 | zero => exact h.elim
 | succ n =>
  obtain ⟨_, _, rfl, rfl, ⟨_, _, rfl, rfl, ⟨_, _, rfl, ⟨A2, c2, rfl, l2, g2⟩, ⟨_, _, rfl, rfl, ⟨A4, c4, rfl, l4, g4⟩⟩⟩⟩⟩ := h
  exact ⟨A2, c2, A4, c4, rfl, l2, g2, l4, Kd.fix_C g4⟩
theorem k35_mk (w : World) (x : S35) {A2 : Option Addr} {c2 : Nat} (l2 : x.f2.length ≤ c2) (g2 : k61.C w A2 x.f2.length x.f2) {A4 : Option Addr} {c4 : Nat} (l4 : x.f4.length ≤ c4) (g4 : k35.C w A4 x.f4.length x.f4) : k35.K w x [.int .i64 x.f0, .string x.f1, .slice A2 x.f2.length c2, .string x.f3, .slice A4 x.f4.length c4] := by
 obtain ⟨n4, q4⟩ := Kd.fix_C_back mono35 g4
 have r4 := Kd.upto_C_le mono35 sz35 (show n4 ≤ n4 by omega) q4
 exact ⟨n4 + 1, ⟨[.int .i64 x.f0], [.string x.f1, .slice A2 x.f2.length c2, .string x.f3, .slice A4 x.f4.length c4], rfl, rfl, ⟨[.string x.f1], [.slice A2 x.f2.length c2, .string x.f3, .slice A4 x.f4.length c4], rfl, rfl, ⟨[.slice A2 x.f2.length c2], [.string x.f3, .slice A4 x.f4.length c4], rfl, ⟨A2, c2, rfl, l2, g2⟩, ⟨[.string x.f3], [.slice A4 x.f4.length c4], rfl, rfl, ⟨A4, c4, rfl, l4, r4⟩⟩⟩⟩⟩⟩
theorem k35_mkM (w : World) (base : Nat) (ok : Nat → Prop) (x : S35) {v2 : Value} (g2 : k61.R 61 w base ok v2 x.f2) {v4 : Value} (g4 : k35.R 35 w base ok v4 x.f4) : k35.M w base ok x [.int .i64 x.f0, .string x.f1, v2, .string x.f3, v4] := by
 obtain ⟨n4, q4⟩ := Kd.fix_R_back mono35 g4
 have r4 := Kd.upto_R_le mono35 sz35 (show n4 ≤ n4 by omega) q4
 exact ⟨n4 + 1, ⟨[.int .i64 x.f0], [.string x.f1, v2, .string x.f3, v4], rfl, rfl, ⟨[.string x.f1], [v2, .string x.f3, v4], rfl, rfl, ⟨[v2], [.string x.f3, v4], rfl, ⟨v2, rfl, g2⟩, ⟨[.string x.f3], [v4], rfl, rfl, ⟨v4, rfl, r4⟩⟩⟩⟩⟩⟩
def rd_T35 (xs : List S35) (i : Int) : S35 := xs.getD i.toNat z35
theorem at_T35 {w : World} {A : Option Addr} {n : Nat} {xs : List S35} (h : Kd.C k35 w A n xs) (i : Int) (h0 : 0 ≤ i) (h1 : i < n) : ∃ ad A2 c2 A4 c4, A = some ad ∧ w.cell? (ad.add (i.toNat * 5)) = some (.int .i64 (rd_T35 xs i).f0) ∧ w.cell? ⟨(ad.add (i.toNat * 5)).block, (ad.add (i.toNat * 5)).off + 1, none⟩ = some (.string (rd_T35 xs i).f1) ∧ w.cell? ⟨(ad.add (i.toNat * 5)).block, (ad.add (i.toNat * 5)).off + 2, none⟩ = some (.slice A2 (rd_T35 xs i).f2.length c2) ∧ w.cell? ⟨(ad.add (i.toNat * 5)).block, (ad.add (i.toNat * 5)).off + 3, none⟩ = some (.string (rd_T35 xs i).f3) ∧ w.cell? ⟨(ad.add (i.toNat * 5)).block, (ad.add (i.toNat * 5)).off + 4, none⟩ = some (.slice A4 (rd_T35 xs i).f4.length c4) ∧ (rd_T35 xs i).f2.length ≤ c2 ∧ k61.C w A2 (rd_T35 xs i).f2.length (rd_T35 xs i).f2 ∧ (rd_T35 xs i).f4.length ≤ c4 ∧ k35.C w A4 (rd_T35 xs i).f4.length (rd_T35 xs i).f4 := by
 obtain ⟨ad, c, e, _, hK, hc0⟩ := Kd.C_get h z35 i h0 h1
 have hc : ∀ j u, c[j]? = some u → w.cell? (ad.add (i.toNat * 5 + j)) = some u := hc0
 obtain ⟨A2, c2, A4, c4, rfl, l2, g2, l4, g4⟩ := k35_open hK
 exact ⟨ad, A2, c2, A4, c4, e, hc 0 _ rfl, by rw [← add_field _ _ 1 (by omega)]; exact hc 1 _ rfl, by rw [← add_field _ _ 2 (by omega)]; exact hc 2 _ rfl, by rw [← add_field _ _ 3 (by omega)]; exact hc 3 _ rfl, by rw [← add_field _ _ 4 (by omega)]; exact hc 4 _ rfl, l2, g2, l4, g4⟩

end Go.Proofs.YtealmfcimoomlaaGreatDoor.PA

/- strings.Builder as a part of a variable: copyCheck, WriteString, Len, String, Reset, for a builder that lies at a place o of a block of any type. Conditions: those of each theorem. -/
namespace Go.Proofs.YtealmfcimoomlaaGreatDoor.PA
open Go.RowKit Go.Proofs.YtealmfcimoomlaaGreatDoorW.PrintWords Go.Proofs.YtealmfcimoomlaaGreatDoorW.PrintLast Go.Proofs.YtealmfcimoomlaaGreatDoorW.PrintMore
set_option linter.unusedVariables false
set_option linter.unusedSimpArgs false
/-- A block b of cells cs (type T); at the place o a builder that holds bs; all of it from B on. -/
def Bld (T : TypeId) (B b o : Nat) (cs : Array Value) (bs : List Value) (w : World) : Prop :=
  B ≤ b ∧ w.heap[b]? = some (.cells cs T (0, 0)) ∧ (cs[o]? = some (.pointer none) ∨ cs[o]? = some (.pointer (some ⟨b, o, none⟩))) ∧ ∃ v, cs[o + 1]? = some v ∧ w.ownsRowF B 5 1 v bs.length bs ∧ v.ownBlock ≠ some b
/-- The same but for the builder at o. -/
def Out (o : Nat) (cs cs' : Array Value) : Prop := cs'.size = cs.size ∧ ∀ j, j ≠ o → j ≠ o + 1 → cs'[j]? = cs[j]?
theorem Out.refl (o : Nat) (cs : Array Value) : Out o cs cs := ⟨rfl, fun _ _ _ => rfl⟩
theorem Out.trans {o : Nat} {a b c : Array Value} (h : Out o a b) (g : Out o b c) : Out o a c := ⟨g.1.trans h.1, fun j h1 h2 => (g.2 j h1 h2).trans (h.2 j h1 h2)⟩
theorem Out.set0 (o : Nat) (cs : Array Value) (v : Value) : Out o cs (cs.setIfInBounds o v) := ⟨by simp, fun j h1 _ => by rw [Array.getElem?_setIfInBounds, if_neg (fun e => h1 e.symm)]⟩
theorem Out.set1 (o : Nat) (cs : Array Value) (v : Value) : Out o cs (cs.setIfInBounds (o + 1) v) := ⟨by simp, fun j _ h2 => by rw [Array.getElem?_setIfInBounds, if_neg (fun e => h2 e.symm)]⟩
theorem heap_set {w : World} {b : Nat} {cs : Array Value} {T : TypeId} {fz : Nat × Nat} (hb : w.heap[b]? = some (.cells cs T fz)) (o : Nat) (v : Value) : (w.setCell ⟨b, o, none⟩ v).heap[b]? = some (.cells (cs.setIfInBounds o v) T fz) := by
  simp [World.setCell, Array.getElem?_modify, hb]
section
variable {T : TypeId} {B b o : Nat} {cs : Array Value} {bs : List Value} {w : World}
theorem Bld.lt (h : Bld T B b o cs bs w) : b < w.heap.size := by
  rcases Nat.lt_or_ge b w.heap.size with h' | h'
  · exact h'
  · have := h.2.1
    simp [Array.getElem?_eq_none h'] at this
theorem Bld.shape (h : Bld T B b o cs bs w) : w.shape? b = some (T, cs.size) := by simp [World.shape?, h.2.1]
theorem Bld.in0 (h : Bld T B b o cs bs w) : o < cs.size := by
  rcases h.2.2.1 with e | e
  · exact (Array.getElem?_eq_some_iff.1 e).1
  · exact (Array.getElem?_eq_some_iff.1 e).1
theorem Bld.in1 (h : Bld T B b o cs bs w) : o + 1 < cs.size := by
  obtain ⟨_, _, _, v, e, _⟩ := h
  exact (Array.getElem?_eq_some_iff.1 e).1
theorem Bld.drew (h : Bld T B b o cs bs w) : Bld T B b o cs bs w.drew := h
theorem Bld.alloc (h : Bld T B b o cs bs w) (x : Obj) : Bld T B b o cs bs (w.alloc x) := by
  have hlt := h.lt
  obtain ⟨hB, hb, ha, v, hv, hown, hne⟩ := h
  exact ⟨hB, (Lib.alloc_old w x b hlt).trans hb, ha, v, hv, hown.kept (World.grownBy_alloc w x none) (by cases hv : v.ownBlock <;> simp), hne⟩
/-- Whatever changes neither the block nor what is older than the new world's own. -/
theorem Bld.move {w1 : World} (h : Bld T B b o cs bs w) (hb : Below w.heap.size w w1) : Bld T B b o cs bs w1 := by
  have hlt := h.lt
  obtain ⟨hB, hbk, ha, v, hv, hown, hne⟩ := h
  refine ⟨hB, (hb.block b hlt).trans hbk, ha, v, hv, ⟨hown.1, ?_⟩, hne⟩
  rcases hown.2 with h0 | ⟨g, cap, cur, fz, h1, h2, h3, h4⟩
  · exact .inl h0
  · have hg : g < w.heap.size := by
      rcases Nat.lt_or_ge g w.heap.size with h' | h'
      · exact h'
      · simp [Array.getElem?_eq_none h'] at h3
    exact .inr ⟨g, cap, cur, fz, h1, h2, (hb.block g hg).trans h3, h4⟩
/-- A store into another cell of the block. -/
theorem Bld.other (h : Bld T B b o cs bs w) (j : Nat) (h0 : j ≠ o) (h1 : j ≠ o + 1) (u : Value) : Bld T B b o (cs.setIfInBounds j u) bs (w.setCell ⟨b, j, none⟩ u) := by
  obtain ⟨hB, hb, ha, v, hv, hown, hne⟩ := h
  refine ⟨hB, heap_set hb j u, ?_, v, ?_, ?_, hne⟩
  · rw [Array.getElem?_setIfInBounds, if_neg h0]; exact ha
  · rw [Array.getElem?_setIfInBounds, if_neg h1]; exact hv
  · exact hown.kept (row := some b) ⟨rfl, rfl, rfl, by simp [World.setCell], fun k _ hk => Below.heap_setCell _ _ _ _ (fun e => hk (by simp [e]))⟩ (Or.inr hne)
theorem Bld.used (h : Bld T B b o cs bs w) : Bld T B b o (cs.setIfInBounds o (.pointer (some ⟨b, o, none⟩))) bs (w.setCell ⟨b, o, none⟩ (.pointer (some ⟨b, o, none⟩))) := by
  have hin := h.in0
  obtain ⟨hB, hb, ha, v, hv, hown, hne⟩ := h
  refine ⟨hB, heap_set hb o _, .inr ?_, v, ?_, ?_, hne⟩
  · rw [Array.getElem?_setIfInBounds, if_pos rfl, if_pos hin]
  · rw [Array.getElem?_setIfInBounds, if_neg (by omega)]; exact hv
  · exact hown.kept (row := some b) ⟨rfl, rfl, rfl, by simp [World.setCell], fun k _ hk => Below.heap_setCell _ _ _ _ (fun e => hk (by simp [e]))⟩ (Or.inr hne)
theorem Bld.put {v' : Value} {bs' : List Value} (h : Bld T B b o cs bs w) (hown : w.ownsRowF B 5 1 v' bs'.length bs') (hne : v'.ownBlock ≠ some b) : Bld T B b o (cs.setIfInBounds (o + 1) v') bs' (w.setCell ⟨b, o + 1, none⟩ v') := by
  have hin := h.in1
  obtain ⟨hB, hb, ha, v, hv, _, _⟩ := h
  refine ⟨hB, heap_set hb (o + 1) _, ?_, v', ?_, ?_, hne⟩
  · rw [Array.getElem?_setIfInBounds, if_neg (by omega)]; exact ha
  · rw [Array.getElem?_setIfInBounds, if_pos rfl, if_pos hin]
  · exact hown.kept (row := some b) ⟨rfl, rfl, rfl, by simp [World.setCell], fun k _ hk => Below.heap_setCell _ _ _ _ (fun e => hk (by simp [e]))⟩ (Or.inr hne)
end
theorem info_builder : (Tryz.prog.info? 70).map (·.size) = some 2 := by kernel_rfl
set_option maxHeartbeats 1000000 in
set_option maxRecDepth 100000 in
theorem copyCheck_used (b o : Nat) (w : World) (h0 : w.cell? ⟨b, o, none⟩ = some (.pointer (some ⟨b, o, none⟩))) :
    Calls Tryz.prog 77 #[.pointer (some ⟨b, o, none⟩)] w fun e w' => e = .returned (.tuple #[]) ∧ w' = w := by
  obtain ⟨j, hj, _⟩ := Option.map_eq_some_iff.1 info_builder
  go_enter Tryz.func77, Tryz.ntmps77
  go_wp2
  rw [Lib.run_neq_ptr_same w _ (by kernel_rfl : Tryz.prog.underlying 68 = some (.pointer 70)) hj]
  go_wp2
  go_end0
  exact ⟨rfl, rfl⟩
set_option maxHeartbeats 1000000 in
set_option maxRecDepth 100000 in
theorem copyCheck_fresh (T : TypeId) (N b o : Nat) (w : World) (h0 : w.cell? ⟨b, o, none⟩ = some (.pointer none)) (hsh : w.shape? b = some (T, N)) (ho : o < N) (hfz : w.frozen? ⟨b, o, none⟩ = false)
    (hl : liesAt Tryz.prog Tryz.prog.depth T (N / Tryz.prog.cellsOf T) o 70 1 = true) :
    Calls Tryz.prog 77 #[.pointer (some ⟨b, o, none⟩)] w fun e w' => e = .returned (.tuple #[]) ∧ w' = w.setCell ⟨b, o, none⟩ (.pointer (some ⟨b, o, none⟩)) := by
  obtain ⟨j, hj, hjs⟩ := Option.map_eq_some_iff.1 info_builder
  have tB : Tryz.prog.underlying 68 = some (.pointer 70) := by kernel_rfl
  have tU : Tryz.prog.underlying 125 = some .unsafePointer := by kernel_rfl
  go_enter Tryz.func77, Tryz.ntmps77
  go_wp2
  rw [Lib.run_to_unsafe w ⟨b, o, none⟩ tB tU hj (by rw [hjs]; decide) hsh ho]
  simp only [Result.andThen]
  rw [Oper.upon_value]
  go_wp2
  rw [run_callFunc_extern Tryz.func104 (by kernel_rfl) (by kernel_rfl) (by kernel_rfl) (e := Extern.AbiNoEscape.same) (by kernel_rfl)]
  rw [Lib.run_noEscape]
  simp only [Result.andThen]
  rw [Oper.upon_value]
  go_wp2
  rw [Lib.run_from_unsafe w ⟨b, o, none⟩ tU tB hj hsh hl]
  simp only [Result.andThen]
  rw [Oper.upon_value]
  go_wp2
  go_end0
  exact ⟨rfl, rfl⟩
section
variable {T : TypeId} {B b o : Nat} {cs : Array Value} {bs : List Value} {w : World}
theorem Bld.copyCheck (h : Bld T B b o cs bs w) (hl : liesAt Tryz.prog Tryz.prog.depth T (cs.size / Tryz.prog.cellsOf T) o 70 1 = true) :
    Calls Tryz.prog 77 #[.pointer (some ⟨b, o, none⟩)] w fun e w' => e = .returned (.tuple #[]) ∧ ∃ cs', Out o cs cs' ∧ cs'[o]? = some (.pointer (some ⟨b, o, none⟩)) ∧ Bld T B b o cs' bs w' ∧ Below B w w' ∧ Lib.OthersKept 5 (some b) w w' := by
  rcases h.2.2.1 with ha | ha
  · refine (copyCheck_fresh T cs.size b o w (by rw [Lib.cell_of_heap h.2.1]; exact ha) h.shape h.in0 (Lib.frozen_of_heap h.2.1 o) hl).mono ?_
    rintro e w' ⟨rfl, rfl⟩
    exact ⟨rfl, _, Out.set0 o cs _, by rw [Array.getElem?_setIfInBounds, if_pos rfl, if_pos h.in0], h.used, (Below.refl B w).setCell (p := ⟨b, o, none⟩) h.1 _, (Lib.OthersKept.refl _ _ w).setCell ⟨b, o, none⟩ rfl _⟩
  · refine (copyCheck_used b o w (by rw [Lib.cell_of_heap h.2.1]; exact ha)).mono ?_
    rintro e w' ⟨rfl, rfl⟩
    exact ⟨rfl, cs, Out.refl o cs, ha, h, Below.refl B _, Lib.OthersKept.refl _ _ _⟩
end
set_option maxHeartbeats 2000000 in
set_option maxRecDepth 100000 in
theorem WriteString_at (T : TypeId) (B b o : Nat) (cs : Array Value) (bs : List Value) (s : ByteArray) (w : World) (h : Bld T B b o cs bs w) (hlen : bs.length + s.size ≤ 140737488355328) (hBw : B ≤ w.heap.size) (hT : T ≠ 5)
    (hl : liesAt Tryz.prog Tryz.prog.depth T (cs.size / Tryz.prog.cellsOf T) o 70 1 = true) :
    Calls Tryz.prog 58 #[.pointer (some ⟨b, o, none⟩), .string s] w fun e w' => e = .returned (.tuple #[.int .i64 s.size, .nilIface]) ∧ ∃ cs', Out o cs cs' ∧ Bld T B b o cs' (bs ++ Lib.strCells s) w' ∧ Below B w w' ∧ Lib.OthersKept 5 (some b) w w' := by
  obtain ⟨i0, hi, hz0, hz1, hz2⟩ := info_parts (show (Tryz.prog.info? 5).map (fun i => (i.zero, i.size, i.bytes)) = some (some (.int .u8 0), 1, 1) by kernel_rfl)
  have tS : Tryz.prog.underlying 44 = some (.slice 5) := by kernel_rfl
  have tG : Tryz.prog.underlying 9 = some .string := by kernel_rfl
  go_enter Tryz.func58, Tryz.ntmps58
  go_wp2_with (go_at_call 77; refine (h.copyCheck hl).mono ?_)
  rintro e w1 ⟨rfl, cs1, ho1, ha1, h1, hb1, hk1⟩
  obtain ⟨hB, hbk, ha, v, hv, hown, hne⟩ := h1
  have h1 : Bld T B b o cs1 bs w1 := ⟨hB, hbk, ha, v, hv, hown, hne⟩
  have c0 : w1.cell? ⟨b, o, none⟩ = some (.pointer (some ⟨b, o, none⟩)) := by rw [Lib.cell_of_heap hbk]; exact ha1
  have c1 : w1.cell? ⟨b, o + 1, none⟩ = some v := by rw [Lib.cell_of_heap hbk]; exact hv
  go_wp2_with (at_builtin; refine Lib.wpList_append_own_stringF _ rfl _ _ 44 9 rfl B 5 i0 tS tG hi hz0 hz1 hz2 _ _ _ rfl hown s rfl ?c3 ?c4 ?c5 ?_)
  case c3 => unfold maxLen; omega
  case c4 => omega
  case c5 => have := hb1.size; omega
  intro v' w2 hown' hgrow _
  have h2 : Bld T B b o cs1 bs w1 := h1
  have hlt := h2.lt
  have hb2 : w2.heap[b]? = some (.cells cs1 T (0, 0)) := by
    rw [hgrow.block b hlt (fun e => hne e.symm)]
    exact hbk
  have d0 : w2.cell? ⟨b, o, none⟩ = some (.pointer (some ⟨b, o, none⟩)) := by rw [Lib.cell_of_heap hb2]; exact ha1
  have d1 : w2.cell? ⟨b, o + 1, none⟩ = some v := by rw [Lib.cell_of_heap hb2]; exact hv
  have f1 : w2.frozen? ⟨b, o + 1, none⟩ = false := Lib.frozen_of_heap hb2 (o + 1)
  have hne' : v'.ownBlock ≠ some b := Lib.ownBlock_neF hown' hb2 hT
  obtain ⟨ao, n', cap, rfl⟩ : ∃ ao n' cap, v' = .slice ao n' cap := by
    rcases hown'.2 with ⟨hv, _⟩ | ⟨g, cap, cur, fz, hv, _⟩
    · exact ⟨_, _, _, hv⟩
    · exact ⟨_, _, _, hv⟩
  go_wp2
  go_ret2
  refine ⟨rfl, cs1.setIfInBounds (o + 1) (.slice ao n' cap), ho1.trans (Out.set1 o cs1 _), ?_, ?_, (hk1.grown hgrow (Lib.ownsRowF_kind hown)).setCell ⟨b, o + 1, none⟩ rfl _⟩
  · have hx : ∃ v, cs1[o + 1]? = some v := ⟨v, hv⟩
    refine ⟨hB, heap_set hb2 (o + 1) _, ?_, _, ?_, ?_, hne'⟩
    · rw [Array.getElem?_setIfInBounds, if_neg (by omega)]; exact ha
    · rw [Array.getElem?_setIfInBounds, if_pos rfl, if_pos h2.in1]
    · have hq : w2.ownsRowF B 5 1 (.slice ao n' cap) (bs ++ Lib.strCells s).length (bs ++ Lib.strCells s) := by simpa [Lib.strCells_length] using hown'
      exact hq.kept (row := some b) ⟨rfl, rfl, rfl, by simp [World.setCell], fun k _ hk => Below.heap_setCell _ _ _ _ (fun e => hk (by simp [e]))⟩ (Or.inr hne')
  · exact (hb1.grown hgrow (by have := hb1.size; omega) (fun k hk => (hown.lt k hk).1)).setCell (p := ⟨b, o + 1, none⟩) hB _
set_option maxHeartbeats 1000000 in
set_option maxRecDepth 100000 in
theorem Len_at (T : TypeId) (B b o : Nat) (cs : Array Value) (bs : List Value) (w : World) (h : Bld T B b o cs bs w) :
    Calls Tryz.prog 50 #[.pointer (some ⟨b, o, none⟩)] w fun e w' => e = .returned (.int .i64 bs.length) ∧ w' = w := by
  obtain ⟨hB, hbk, ha, v, hv, hown, hne⟩ := h
  obtain ⟨ao, cap, rfl⟩ : ∃ ao cap, v = .slice ao bs.length cap := by
    rcases hown.2 with ⟨hv, h0⟩ | ⟨g, cap, cur, fz, hv, _⟩
    · exact ⟨none, 0, by rw [hv, h0]⟩
    · exact ⟨_, _, hv⟩
  have c1 : w.cell? ⟨b, o + 1, none⟩ = some (.slice ao bs.length cap) := by rw [Lib.cell_of_heap hbk]; exact hv
  go_enter Tryz.func50, Tryz.ntmps50
  go_wp2
  go_ret
  exact ⟨rfl, rfl⟩
theorem Bld.froze {T : TypeId} {B b o g cap : Nat} {cs : Array Value} {bs : List Value} {w : World} (h : Bld T B b o cs bs w) (hc : cs[o + 1]? = some (.slice (some ⟨g, 0, none⟩) bs.length cap)) :
    Bld T B b o cs bs (w.freeze ⟨g, 0, none⟩ bs.length) := by
  obtain ⟨hB, hb, ha, v, hv, hown, hne⟩ := h
  have hv2 : v = .slice (some ⟨g, 0, none⟩) bs.length cap := Option.some.inj (hv.symm.trans hc)
  subst hv2
  have hgb : g ≠ b := fun e => hne (by simp [Value.ownBlock, e])
  unfold World.freeze
  split
  · exact ⟨hB, hb, ha, _, hv, hown, hne⟩
  · rename_i hn0
    refine ⟨hB, ?_, ha, _, hv, ⟨hown.1, ?_⟩, hne⟩
    · simp only [Array.getElem?_modify]
      rw [if_neg hgb]
      exact hb
    · rcases hown.2 with ⟨hv, _⟩ | ⟨g', cap', cur, fz, hv, hbg, hg, hfz, rest⟩
      · cases hv
      · injection hv with ha _ hcap
        injection ha with ha
        injection ha with hgg _ _
        subst hgg
        subst hcap
        obtain ⟨lo, hi⟩ := fz
        refine .inr ⟨g, _, cur, (if lo == hi then (0, 0 + bs.length) else (min lo 0, max hi (0 + bs.length))), rfl, hbg, ?_, ?_, rest⟩
        · simp [Array.getElem?_modify, hg]
        · simp only at hfz
          split <;> simp <;> omega
set_option maxHeartbeats 2000000 in
set_option maxRecDepth 100000 in
theorem String_at (T : TypeId) (B b o : Nat) (cs : Array Value) (l : List UInt8) (w : World) (h : Bld T B b o cs (Lib.byteCells l) w) (hBw : B ≤ w.heap.size) :
    Calls Tryz.prog 31 #[.pointer (some ⟨b, o, none⟩)] w fun e w' => e = .returned (.string ⟨l.toArray⟩) ∧ Bld T B b o cs (Lib.byteCells l) w' ∧ Below B w w' ∧ Lib.OthersKept 5 (some b) w w' := by
  have hA := h
  have hlt := h.lt
  obtain ⟨hB, hbk, ha, v, hv, hown, hne⟩ := h
  have hUS : ∀ W q, (Builtin.unsafeString_ #[96, 3] 9 #[.pointer q, .int .i64 0]).run Tryz.prog W = .ok (.string .empty) W := fun W q => Lib.run_unsafeString_none W _ _ _ q
  have tP : Tryz.prog.underlying 96 = some (.pointer 5) := by kernel_rfl
  by_cases hl0 : l = []
  · subst hl0
    rcases hown.2 with ⟨rfl, _⟩ | ⟨g, cap, cur, fz, rfl, hbg, hg, _, _, _, _, _⟩
    · have c1 : w.drew.cell? ⟨b, o + 1, none⟩ = some (.slice none 0 0) := by
        have : w.drew.heap[b]? = some (.cells cs T (0, 0)) := hbk
        rw [Lib.cell_of_heap this]; exact hv
      have c0 : w.cell? ⟨b, o + 1, none⟩ = some (.slice none 0 0) := c1
      have hSD : ∀ W, (Builtin.unsafeSliceData_ #[44] 96 #[.slice none 0 0]).run Tryz.prog W = .ok (.pointer none) W := fun _ => rfl
      go_enter Tryz.func31, Tryz.ntmps31
      go_wp2
      go_region
      all_goals (go_wp2; go_ret; exact ⟨rfl, hA.drew, Below.drew (Below.refl B w), (Lib.OthersKept.refl _ _ w).drew⟩)
    · have c1 : w.drew.cell? ⟨b, o + 1, none⟩ = some (.slice (some ⟨g, 0, none⟩) 0 cap) := by
        have : w.drew.heap[b]? = some (.cells cs T (0, 0)) := hbk
        rw [Lib.cell_of_heap this]; exact hv
      have c0 : w.cell? ⟨b, o + 1, none⟩ = some (.slice (some ⟨g, 0, none⟩) 0 cap) := c1
      by_cases hc0 : cap = 0
      · subst hc0
        have hSD : (Builtin.unsafeSliceData_ #[44] 96 #[.slice (some ⟨g, 0, none⟩) 0 0]).run Tryz.prog w.drew = .ok (.pointer (some ⟨w.drew.heap.size, 0, none⟩)) (w.drew.alloc (.view ⟨g, 0, none⟩ 5)) :=
          Lib.run_unsafeSliceData_zero w.drew _ _ 5 tP ⟨g, 0, none⟩ 0 (5, cur.size) (by have hg' : w.drew.heap[g]? = some (.cells cur 5 fz) := hg; simp [World.shape?, hg'])
        have c2 : (w.drew.alloc (.view ⟨g, 0, none⟩ 5)).cell? ⟨b, o + 1, none⟩ = some (.slice (some ⟨g, 0, none⟩) 0 0) := by
          have : (w.drew.alloc (.view ⟨g, 0, none⟩ 5)).heap[b]? = _ := (Lib.alloc_old w.drew _ b hlt).trans hbk
          rw [Lib.cell_of_heap this]; exact hv
        have c3 : (w.alloc (.view ⟨g, 0, none⟩ 5)).drew.cell? ⟨b, o + 1, none⟩ = some (.slice (some ⟨g, 0, none⟩) 0 0) := c2
        go_enter Tryz.func31, Tryz.ntmps31
        go_wp2
        go_region
        all_goals (go_wp2; go_ret; exact ⟨rfl, hA.drew.alloc _, (Below.drew (Below.refl B w)).alloc hBw _, ((Lib.OthersKept.refl _ _ w).drew).alloc _⟩)
      · have hSD : ∀ W, (Builtin.unsafeSliceData_ #[44] 96 #[.slice (some ⟨g, 0, none⟩) 0 cap]).run Tryz.prog W = .ok (.pointer (some ⟨g, 0, none⟩)) W := fun W =>
          Lib.run_unsafeSliceData_row W _ _ _ _ _ hc0
        clear hc0
        go_enter Tryz.func31, Tryz.ntmps31
        go_wp2
        go_region
        all_goals (go_wp2; go_ret; exact ⟨rfl, hA.drew, Below.drew (Below.refl B w), (Lib.OthersKept.refl _ _ w).drew⟩)
  · have hl1 : l.length ≠ 0 := by simpa using hl0
    rw [Lib.byteCells_length] at hown
    obtain ⟨g, cap, cur, fz, rfl, hbg, hg, hfz, hnc, hcm, hcs, htake⟩ : ∃ g cap cur fz, v = .slice (some ⟨g, 0, none⟩) l.length cap ∧ B ≤ g ∧ w.heap[g]? = some (.cells cur 5 fz) ∧ fz.2 ≤ l.length * 1 ∧ l.length ≤ cap ∧ cap ≤ maxLen ∧ cur.size = cap * 1 ∧ cur.toList.take (l.length * 1) = Lib.byteCells l := by
      rcases hown.2 with ⟨_, hz⟩ | ⟨g, cap, cur, fz, hv, r⟩
      · exact absurd hz hl1
      · exact ⟨g, cap, cur, fz, hv, r⟩
    have c1 : w.drew.cell? ⟨b, o + 1, none⟩ = some (.slice (some ⟨g, 0, none⟩) l.length cap) := by
      have : w.drew.heap[b]? = some (.cells cs T (0, 0)) := hbk
      rw [Lib.cell_of_heap this]; exact hv
    have hSD : (Builtin.unsafeSliceData_ #[44] 96 #[.slice (some ⟨g, 0, none⟩) l.length cap]).run Tryz.prog w.drew = .ok (.pointer (some ⟨g, 0, none⟩)) w.drew :=
      Lib.run_unsafeSliceData_row _ _ _ _ _ _ (by omega)
    have hUS2 : (Builtin.unsafeString_ #[96, 3] 9 #[.pointer (some ⟨g, 0, none⟩), .int .i64 l.length]).run Tryz.prog w.drew = .ok (.string ⟨l.toArray⟩) (w.drew.freeze ⟨g, 0, none⟩ l.length) := by
      refine Lib.run_unsafeString_row w.drew 96 3 9 5 tP (by kernel_rfl) g cur.size (by have hg' : w.drew.heap[g]? = some (.cells cur 5 fz) := hg; simp [World.shape?, hg']) l hl0 (by omega) (by unfold maxLen at hcm; omega) ?_
      intro j x hx
      have := hown.cells (g := g) rfl j (.int .u8 x.toNat) (by simp [Lib.byteCells, hx])
      exact this
    have hkeep : Bld T B b o cs (Lib.byteCells l) (w.drew.freeze ⟨g, 0, none⟩ l.length) := by
      have hF := hA.drew.froze (g := g) (cap := cap) (by rw [Lib.byteCells_length]; exact hv)
      rw [Lib.byteCells_length] at hF
      exact hF
    go_enter Tryz.func31, Tryz.ntmps31
    go_wp2
    go_region
    all_goals (go_wp2; go_ret; exact ⟨rfl, hkeep, Lib.below_freeze (Below.drew (Below.refl B w)) (p := ⟨g, 0, none⟩) hbg _, ((Lib.OthersKept.refl _ _ w).drew).freeze ⟨g, 0, none⟩ _ ⟨cur, fz, hg⟩⟩)
end Go.Proofs.YtealmfcimoomlaaGreatDoor.PA
