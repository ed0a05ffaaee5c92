/- From what a row lists to 'Glob'. -/
import Derived.Test.YtdmeafhhdhojlaaDoorG
import Derived.Test.YtdmeafhhdhojlaaDoorRows
import Derived.Test.YtdmeafhhdhojlaaDoorShelf
import Derived.Lib.LaidU8T
import Derived.PinnedBridge
namespace Go.Proofs.YtdmeafhhdhojlaaDoor
open Go.Shelf Go.Lib
set_option linter.unusedSimpArgs false
set_option maxRecDepth 100000
variable {w : World}
theorem Glob.of_reads {w : World} (h3 : VarReads Tryd.prog w "unicode/utf8.first" Rows.laid_unicode_utf8_first) (h4 : VarReads Tryd.prog w "unicode/utf8.acceptRanges" Rows.laid_unicode_utf8_acceptRanges) : Glob w :=
  utf8Tabs_of_readsT (ρ := Tryd.lays197_ren) (U8Types.of260 { Tryd.lays197 with }) ⟨by kernel_rfl, by kernel_rfl, by kernel_rfl, by kernel_rfl, by kernel_rfl, by kernel_rfl, by kernel_rfl⟩
    (Pinned.utf8First_eq ▸ h3) ((show Rows.laid_unicode_utf8_acceptRanges = acceptData by kernel_rfl) ▸ h4)
theorem named_elem {fuel : Nat} {cs : List Value} {p : List MemPlace} {txt : List UInt8} {c : Int} (h : DataW.trod (fun _ => ()) Tryd.prog w 0 (fun _ => true) false fuel 84 cs = some (.agg [.lit (.string txt), .lit (.int .u8 c)], p)) : cs = [.string ⟨txt.toArray⟩, .int .u8 c] := by
  obtain ⟨xs, n, rfl, hx, hl, hxl, hall⟩ := DataW.trod_struct Tryd.underlying84 h
  have c9 : Tryd.prog.cellsOf 9 = 1 := by kernel_rfl
  have c5 : Tryd.prog.cellsOf 5 = 1 := by kernel_rfl
  have c84 : Tryd.prog.cellsOf 84 = 2 := by kernel_rfl
  have h0 : DataW.trod (fun _ => ()) Tryd.prog w 0 (fun _ => true) false n 9 ((cs.drop 0).take (Tryd.prog.cellsOf 9)) = xs[0]? := hall 0 _ rfl
  have h1 : DataW.trod (fun _ => ()) Tryd.prog w 0 (fun _ => true) false n 5 ((cs.drop 1).take (Tryd.prog.cellsOf 5)) = xs[1]? := hall 1 _ rfl
  rw [c9] at h0
  rw [c5] at h1
  rw [c84] at hl
  match xs, hxl with
  | [a, b], _ =>
    have e := congrArg Prod.fst hx
    simp only [List.map_cons, List.map_nil, DataW.agg.injEq, List.cons.injEq, and_true] at e
    simp only [List.getElem?_cons_zero, List.getElem?_cons_succ, List.drop_zero] at h0 h1
    obtain ⟨s, hs, ha, _⟩ := DataW.trod_string Tryd.underlying9 h0
    obtain ⟨z, hz, hb, _⟩ := DataW.trod_int Tryd.underlying5 h1
    match cs, hl with
    | [x, y], _ =>
      simp at hs hz
      subst hs hz
      rw [ha, hb] at e
      simp at e
      obtain ⟨e1, e2⟩ := e
      subst e2
      rw [e1]
theorem Glob2.of_reads {w : World} (h : VarReads Tryd.prog w "espalier/chars.named" Rows.laid_espalier_chars_named) : Glob2 w := by
  obtain ⟨g, t, cs, fuel, p, hg, hty, hvar, hd⟩ := h
  obtain rfl := Option.some.inj ((show Tryd.prog.globalNamed "espalier/chars.named" = some 0 by kernel_rfl).symm.trans hg)
  obtain rfl := Option.some.inj ((show (Tryd.prog.globals[0]?).map (·.type) = some 85 by kernel_rfl).symm.trans hty)
  have c84 : Tryd.prog.cellsOf 84 = 2 := by kernel_rfl
  have hc : ∀ i, w.cell? ⟨0, i, none⟩ = cs[i]? := fun i => World.var?_cell hg hvar i
  have key : ∀ (j : Nat) (hj : j < 5) (txt : List UInt8) (c : Int), (match (Rows.laid_espalier_chars_named : DataW Unit) with | .agg l => l[j]? | _ => none) = some (.agg [.lit (.string txt), .lit (.int .u8 c)]) →
      w.cell? ⟨0, 2 * j, none⟩ = some (.string ⟨txt.toArray⟩) ∧ w.cell? ⟨0, 2 * j + 1, none⟩ = some (.int .u8 c) := by
    intro j hj txt c hl
    obtain ⟨fuel', d, q, hdi, he⟩ := array_elem Tryd.underlying85 hd j hj
    have hdd : d = .agg [.lit (.string txt), .lit (.int .u8 c)] := Option.some.inj (hdi.symm.trans hl)
    subst hdd
    rw [c84] at he
    have e := named_elem he
    have e0 := congrArg (·[0]?) e
    have e1 := congrArg (·[1]?) e
    simp only [List.getElem?_take, List.getElem?_drop] at e0 e1
    constructor
    · rw [hc, ← Array.getElem?_toList]; simpa [Nat.mul_comm] using e0
    · rw [hc, ← Array.getElem?_toList]; simpa [Nat.mul_comm] using e1
  have k0 := key 0 (by omega) _ _ rfl
  have k1 := key 1 (by omega) _ _ rfl
  have k2 := key 2 (by omega) _ _ rfl
  have k3 := key 3 (by omega) _ _ rfl
  have k4 := key 4 (by omega) _ _ rfl
  refine ⟨?_, ?_⟩
  · have h0 := k0.1
    unfold World.cell? at h0
    rcases Nat.lt_or_ge 0 w.heap.size with h | h
    · exact h
    · rw [show ((⟨0, 2 * 0, none⟩ : Addr)).block = 0 from rfl, Array.getElem?_eq_none h] at h0
      simp at h0
  · intro i hi
    have : i = 0 ∨ i = 1 ∨ i = 2 ∨ i = 3 ∨ i = 4 ∨ i = 5 ∨ i = 6 ∨ i = 7 ∨ i = 8 ∨ i = 9 := by omega
    rcases this with rfl | rfl | rfl | rfl | rfl | rfl | rfl | rfl | rfl | rfl
    · exact k0.1
    · exact k0.2
    · exact k1.1
    · exact k1.2
    · exact k2.1
    · exact k2.2
    · exact k3.1
    · exact k3.2
    · exact k4.1
    · exact k4.2
end Go.Proofs.YtdmeafhhdhojlaaDoor
