/- espalierlaw14's ValueOne: over what its calls answer it answers true. Written by wip/gen/one14.py. -/
import Derived.Test.YtnkjchcaonaifaaDoorULives
import Derived.Test.YtnkjchcaonaifaaDoorPA10
import Derived.Test.YtnkjchcaonaifaaDoorPA1
import Derived.WalkKit
import Derived.BigCall
import Derived.BigGuard
import Derived.Outline
import Derived.Shelf.Abstract
import Derived.Deep.QuietTactic
import Derived.Deep.RegionHeld3
import Derived.BigQuiet
import Derived.Lib.Hide
namespace Go.Proofs.YtnkjchcaonaifaaDoor.PA
open Go.RowKit Go.Proofs.YtnkjchcaonaifaaDoorW.PrintWords Go.Proofs.YtnkjchcaonaifaaDoorW.PrintLast Go.Proofs.YtnkjchcaonaifaaDoorW.PrintMore
set_option linter.unusedVariables false
set_option linter.unusedSimpArgs false
structure OneAt (w W : World) (g : Nat) (x0 : Int) (x1 : Bool) (x2 : Int) (x3 : Bool) (x4 : ByteArray) (x5 : Value) : Prop where
  bel : Below w.heap.size w W
  bk : W.heap[g]? = some (.cells #[.int .i64 x0, .bool x1, .int .i64 x2, .bool x3, .string x4, x5] 49 (0, 0))
section
variable {w W W' : World} {g : Nat} {x0 : Int} {x1 : Bool} {x2 : Int} {x3 : Bool} {x4 : ByteArray} {x5 : Value}
theorem OneAt.step (h : OneAt w W g x0 x1 x2 x3 x4 x5) (hb : Below W.heap.size W W') : OneAt w W' g x0 x1 x2 x3 x4 x5 := ⟨below_step h.bel hb, blk_below h.bk hb⟩
theorem OneAt.all (h : OneAt w W g x0 x1 x2 x3 x4 x5) : OneAt w W g x0 x1 x2 x3 x4 x5 ∧ W.cell? ⟨g, 0, none⟩ = some (.int .i64 x0) ∧ W.cell? ⟨g, 1, none⟩ = some (.bool x1) ∧ W.cell? ⟨g, 2, none⟩ = some (.int .i64 x2) ∧ W.cell? ⟨g, 3, none⟩ = some (.bool x3) ∧ W.cell? ⟨g, 4, none⟩ = some (.string x4) ∧ W.cell? ⟨g, 5, none⟩ = some (x5) :=
  ⟨h, (blk_cell h.bk 0).trans rfl, (blk_cell h.bk 1).trans rfl, (blk_cell h.bk 2).trans rfl, (blk_cell h.bk 3).trans rfl, (blk_cell h.bk 4).trans rfl, (blk_cell h.bk 5).trans rfl⟩
theorem OneAt.el (h : OneAt w W g x0 x1 x2 x3 x4 x5) {p : Addr} {v : Value} (hp : W.cell? p = some v) : OneAt w W g x0 x1 x2 x3 x4 x5 ∧ W.cell? p = some v ∧ W.cell? ⟨g, 0, none⟩ = some (.int .i64 x0) ∧ W.cell? ⟨g, 1, none⟩ = some (.bool x1) ∧ W.cell? ⟨g, 2, none⟩ = some (.int .i64 x2) ∧ W.cell? ⟨g, 3, none⟩ = some (.bool x3) ∧ W.cell? ⟨g, 4, none⟩ = some (.string x4) ∧ W.cell? ⟨g, 5, none⟩ = some (x5) :=
  ⟨h, hp, (blk_cell h.bk 0).trans rfl, (blk_cell h.bk 1).trans rfl, (blk_cell h.bk 2).trans rfl, (blk_cell h.bk 3).trans rfl, (blk_cell h.bk 4).trans rfl, (blk_cell h.bk 5).trans rfl⟩
theorem OneAt.el2 (h : OneAt w W g x0 x1 x2 x3 x4 x5) {p : Addr} {v : Value} (hp : W.cell? p = some v) (hb : Below W.heap.size W W') : OneAt w W' g x0 x1 x2 x3 x4 x5 ∧ W'.cell? p = some v ∧ W'.cell? ⟨g, 0, none⟩ = some (.int .i64 x0) ∧ W'.cell? ⟨g, 1, none⟩ = some (.bool x1) ∧ W'.cell? ⟨g, 2, none⟩ = some (.int .i64 x2) ∧ W'.cell? ⟨g, 3, none⟩ = some (.bool x3) ∧ W'.cell? ⟨g, 4, none⟩ = some (.string x4) ∧ W'.cell? ⟨g, 5, none⟩ = some (x5) :=
  (h.step hb).el ((hb.cell (World.block_lt_of_cell? W _ hp)).trans hp)
end
theorem C_six {w : World} {g : Nat} {T : TypeId} {s0 s1 s2 s3 s4 s5 : ByteArray} (h : w.heap[g]? = some (.cells #[.string s0, .string s1, .string s2, .string s3, .string s4, .string s5] T (0, 0))) : Kd.string.C w (some ⟨g, 0, none⟩) 6 [s0, s1, s2, s3, s4, s5] := by
  refine ⟨rfl, by omega, fun _ => ⟨_, rfl, fun j p hj => ?_⟩⟩
  have hc0 := (blk_cell h 0).trans rfl
  have hc1 := (blk_cell h 1).trans rfl
  have hc2 := (blk_cell h 2).trans rfl
  have hc3 := (blk_cell h 3).trans rfl
  have hc4 := (blk_cell h 4).trans rfl
  have hc5 := (blk_cell h 5).trans rfl
  rcases j with _ | _ | _ | _ | _ | _ | j
  all_goals first
    | (simp only [List.getElem?_cons_zero, List.getElem?_cons_succ, Option.some.injEq] at hj
       subst hj
       refine ⟨[.string _], rfl, rfl, fun i u hi => ?_⟩
       rcases i with _ | i
       · simp only [List.getElem?_cons_zero, Option.some.injEq] at hi
         subst hi
         rw [add_plain]; assumption
       · simp at hi)
    | (simp at hj)
theorem cell_six (w : World) (which : Int) (h0 : 0 ≤ which) (op : ByteArray) (hop : rdOf ByteArray.empty [⟨#[61]⟩, ⟨#[33, 61]⟩, ⟨#[60]⟩, ⟨#[60, 61]⟩, ⟨#[62]⟩, ⟨#[62, 61]⟩] (which % 6) = op) : (w.alloc (.cells #[.string ⟨#[61]⟩, .string ⟨#[33, 61]⟩, .string ⟨#[60]⟩, .string ⟨#[60, 61]⟩, .string ⟨#[62]⟩, .string ⟨#[62, 61]⟩] 9)).cell? ⟨w.heap.size, (which % 6).toNat, none⟩ = some (.string op) := by
  obtain ⟨ad, e, h⟩ := Kd.at_string (C_six (blk_new w (.cells #[.string ⟨#[61]⟩, .string ⟨#[33, 61]⟩, .string ⟨#[60]⟩, .string ⟨#[60, 61]⟩, .string ⟨#[62]⟩, .string ⟨#[62, 61]⟩] 9))) (which % 6) (by omega) (by omega)
  cases e
  rw [add_plain, hop] at h
  exact h
set_option maxHeartbeats 16000000 in
set_option maxRecDepth 1000000 in
theorem ValueOne_walk (l : List ByteArray) (A : Option Addr) (c : Nat) (x0 : Int) (x1 : Bool) (x2 : Int) (x3 : Bool) (x4 : ByteArray) (x5 : Value) (which : Int) (T : ByteArray → Int) (C : ByteArray → Bool) (eb : Int) (op : ByteArray) (w : World)
    (hr : Kd.string.C w A l.length l) (hw0 : 0 ≤ which) (hw1 : which < 256) (hop : rdOf ByteArray.empty [⟨#[61]⟩, ⟨#[33, 61]⟩, ⟨#[60]⟩, ⟨#[60, 61]⟩, ⟨#[62]⟩, ⟨#[62, 61]⟩] (which % 6) = op)
    (hT : Hid (∀ W s, s ∈ l → Below w.heap.size w W → Calls Tryd.prog 16 #[.string s] W fun e w' => (∃ a, e = .returned (.tuple #[.int .i64 a, .int .i64 (T s)])) ∧ Below W.heap.size W w'))
    (hB : Hid (∀ W, Below w.heap.size w W → Calls Tryd.prog 23 #[.agg #[.int .i64 x0, .bool x1, .int .i64 x2, .bool x3, .string x4, x5]] W fun e w' => (∃ a, e = .returned (.tuple #[.bool a, .int .i64 eb])) ∧ Below W.heap.size W w'))
    (hC : Hid ((∀ j, j < l.length → T l[j]! = 0) → eb = 0 → l.length ≤ 4096 → (x0 == 1) = false →
      (∀ W s A' c', s ∈ l → Below w.heap.size w W → Calls Tryd.prog 15 #[.string op, .agg #[.int .i64 3, .bool false, .int .i64 0, .bool false, .string s, .slice A' 0 c'], .agg #[.int .i64 x0, .bool x1, .int .i64 x2, .bool x3, .string x4, x5]] W fun e w' => e = .returned (.tuple #[.bool (C s), .int .i64 0]) ∧ Below W.heap.size W w') ∧
      (∀ W, Below w.heap.size w W → Calls Tryd.prog 15 #[.string op, .agg #[.int .i64 4, .bool false, .int .i64 0, .bool false, .string ⟨#[]⟩, .slice A l.length c], .agg #[.int .i64 x0, .bool x1, .int .i64 x2, .bool x3, .string x4, x5]] W fun e w' => e = .returned (.tuple #[.bool (l.any C), .int .i64 0]) ∧ Below W.heap.size W w') ∧
      (∀ W g c', 1 ≤ c' → Below w.heap.size w W → W.heap[g]? = some (.cells #[.int .i64 4, .bool false, .int .i64 0, .bool false, .string ⟨#[]⟩, .slice A l.length c] 49 (0, 0)) → Calls Tryd.prog 18 #[.string ⟨#[99, 111, 117, 110, 116]⟩, .agg #[.int .i64 0, .int .i64 0, .string ⟨#[]⟩, .string ⟨#[]⟩, .slice none 0 0], .slice (some ⟨g, 0, none⟩) 1 c'] W fun e w' => (∃ A c, e = .returned (.tuple #[.agg #[.int .i64 2, .bool false, .int .i64 (l.length : Int), .bool false, .string ⟨#[]⟩, .slice A 0 c], .int .i64 0])) ∧ Below W.heap.size W w') ∧
      (∀ W, Below w.heap.size w W → Calls Tryd.prog 23 #[.agg #[.int .i64 4, .bool false, .int .i64 0, .bool false, .string ⟨#[]⟩, .slice A l.length c]] W fun e w' => e = .returned (.tuple #[.bool (decide (0 < (l.length : Int))), .int .i64 0]) ∧ Below W.heap.size W w'))) (hG : Glob w := by first | exact Glob.step HG.out (by repeat (first | (with_reducible first | exact HB.out | apply below_alloc | apply pw_below_drewN | apply below_drew1) | exact HB.out | (refine below_set ?_ (Aside0.out (by assumption))))) | exact HG.out | assumption) (hG3 : Glob3 w := by first | exact Glob3.step HG3.out (by repeat (first | (with_reducible first | exact HB.out | apply below_alloc | apply pw_below_drewN | apply below_drew1) | exact HB.out | (refine below_set ?_ (Aside0.out (by assumption))))) | exact HG3.out | assumption) :
    Calls Tryd.prog 7 #[.slice A l.length c, .agg #[.int .i64 x0, .bool x1, .int .i64 x2, .bool x3, .string x4, x5], .int .u8 which] w fun e w' => e = .returned (.bool true) ∧ Below w.heap.size w w' := by
  have huV := Tryd.underlying49
  have huH := Tryd.underlying61
  have HG := Aside0.mk hG
  have HG3 := Aside0.mk hG3
  clear hG hG3
  have hbig : l.length ≤ 9223372036854775807 := hr.2.1
  generalize hn : l.length = n at hr hbig hC ⊢
  have HN := Aside0.mk hn
  have HR := Aside0.mk hr
  have HOP := Aside0.mk hop
  clear hn hr hop
  go_enter Tryd.func7, Tryd.ntmps7
  go_wp2_with (first
    | ((with_reducible refine gate_dst (N := 4) rfl ?_); refine box_event ?hg (N := 4) ?hd (cs := #[.int .i64 x0, .bool x1, .int .i64 x2, .bool x3, .string x4, x5]) (t := 49) ?hr ?_; (case hd => rfl); (case hg => rfl); (case hr => first | (go_simp; done) | (go_simp; rfl)); intro g hg w4 hxg hbg; have HA0 := Aside0.mk (OneAt.mk hbg hxg); clear hxg hbg hg)
    | (go_at_call 14; (with_reducible refine (espalierlaw14_lives.calls true _ rfl (HG.out.step HA0.out.bel) (HG3.out.step HA0.out.bel)).mono ?_); rintro e w1 ⟨rfl, hb⟩; have HA := Aside0.mk (HA0.out.step hb); have hix := cell_six w1 which hw0 op HOP.out; clear hb HA0))
  have HA2 : Aside0 (OneAt w (w1.alloc (.cells #[.string ⟨#[61]⟩, .string ⟨#[33, 61]⟩, .string ⟨#[60]⟩, .string ⟨#[60, 61]⟩, .string ⟨#[62]⟩, .string ⟨#[62, 61]⟩] 9)) g x0 x1 x2 x3 x4 x5) := Aside0.mk (HA.out.step (below_alloc (Below.refl _ _) _))
  clear hix HA
  go_loopg [8] n (fun gg s8 wr => ∃ kk : Nat, kk ≤ n ∧ n - kk ≤ gg ∧ s8 = .int .i64 kk ∧ Aside0 (OneAt w wr g x0 x1 x2 x3 x4 x5) ∧ Aside0 (∀ j, j < kk → T l[j]! = 0))
  case atStart => exact ⟨0, Nat.zero_le _, by omega, rfl, HA2, ⟨fun j hj => absurd hj (Nat.not_lt_zero _)⟩⟩
  case round =>
    obtain ⟨kk, hkk, hg, rfl, HA, A0⟩ := hrel
    by_cases hlt : kk < n
    · have hltz : (kk : Int) < (n : Int) := by omega
      have hkz : kk < l.length := lt_of_eq' HN.out.symm kk hlt
      obtain ⟨ad, rfl, hcell⟩ := Kd.at_string (Kd.C_below HR.out HA.out.bel) (kk : Int) (by omega) hltz
      have hy0 : rdOf ByteArray.empty l (kk : Int) = l[kk]! := by
        show l.getD (kk : Int).toNat _ = _
        rw [Int.toNat_natCast, List.getD_eq_getElem?_getD, List.getElem?_eq_getElem hkz, getElem!_pos l kk hkz]
        rfl
      rw [hy0, Int.toNat_natCast] at hcell
      have hcall := hT.out wr l[kk]! (by rw [getElem!_pos l kk hkz]; exact List.getElem_mem _) HA.out.bel
      clear hy0 hkz
      generalize hy : l[kk]! = y at hcell hcall
      have B := Aside0.mk hy
      clear hy
      by_cases hq : T y = 0
      · rw [hq] at hcall
        go_wp2_with (go_at_call 16; (with_reducible refine hcall.mono ?_); rintro e w' ⟨⟨a, rfl⟩, hb'⟩; have HA3 := Aside0.mk (HA.out.step hb'); clear hb' HA)
        go_roundg (n - (kk + 1))
        case measure => omega
        case rel =>
          refine ⟨kk + 1, by omega, by omega, by go_num, HA3, ⟨fun j hj => ?_⟩⟩
          by_cases e : j = kk
          · subst e
            rw [B.out]; exact hq
          · exact A0.out j (by omega)
      · have hq1 : (T y != 0) = true := bne_iff_ne.mpr hq
        go_wp2_with (go_at_call 16; (with_reducible refine hcall.mono ?_); rintro e w' ⟨⟨a, rfl⟩, hb'⟩; have HA3 := Aside0.mk (HA.out.step hb'); clear hb' HA)
        go_ret
        exact ⟨rfl, HA3.out.bel⟩
    · have hltz : ¬ (kk : Int) < (n : Int) := by omega
      obtain rfl : kk = n := by omega
      obtain ⟨-, c40, c41, c42, c43, c44, c45⟩ := HA.out.all
      have hbq := hB.out wr HA.out.bel
      clear hlt
      by_cases he : ¬ eb = 0
      · have he1 : (eb != 0) = true := bne_iff_ne.mpr he
        go_wp2_with (go_at_call 23; (with_reducible refine hbq.mono ?_); rintro e w' ⟨⟨a, rfl⟩, hb'⟩; have HA3 := Aside0.mk (HA.out.step hb'); clear hb' HA c40 c41 c42 c43 c44 c45; obtain ⟨-, d40, d41, d42, d43, d44, d45⟩ := HA3.out.all)
        go_ret
        exact ⟨rfl, HA3.out.bel⟩
      have he := Decidable.of_not_not he
      by_cases hl : ¬ kk ≤ 4096
      · have hl1 : decide (4096 < (kk : Int)) = true := decide_eq_true (by omega)
        rw [he] at hbq
        go_wp2_with (go_at_call 23; (with_reducible refine hbq.mono ?_); rintro e w' ⟨⟨a, rfl⟩, hb'⟩; have HA3 := Aside0.mk (HA.out.step hb'); clear hb' HA c40 c41 c42 c43 c44 c45; obtain ⟨-, d40, d41, d42, d43, d44, d45⟩ := HA3.out.all)
        go_ret
        exact ⟨rfl, HA3.out.bel⟩
      have hl := Decidable.of_not_not hl
      have hl1 : decide (4096 < (kk : Int)) = false := decide_eq_false (by omega)
      cases hk : (x0 == 1) with
      | true =>
        rw [he] at hbq
        go_wp2_with (go_at_call 23; (with_reducible refine hbq.mono ?_); rintro e w' ⟨⟨a, rfl⟩, hb'⟩; have HA3 := Aside0.mk (HA.out.step hb'); clear hb' HA c40 c41 c42 c43 c44 c45; obtain ⟨-, d40, d41, d42, d43, d44, d45⟩ := HA3.out.all)
        go_ret
        exact ⟨rfl, HA3.out.bel⟩
      | false =>
        obtain ⟨hc1, hc2, hc3, hc4⟩ := hC.out A0.out he hl hk
        have HC1 := Lib.hid hc1
        have HC2 := Lib.hid hc2
        have HC3 := Lib.hid hc3
        have HC4 := Lib.hid hc4
        rw [he] at hbq
        clear hc1 hc2 hc3 hc4 hC A0 he hl
        go_wp2_with (go_at_call 23; (with_reducible refine hbq.mono ?_); rintro e w' ⟨⟨a, rfl⟩, hb'⟩; have HA3 := Aside0.mk (HA.out.step hb'); clear hb' HA c40 c41 c42 c43 c44 c45; obtain ⟨-, d40, d41, d42, d43, d44, d45⟩ := HA3.out.all)
        clear d40 d41 d42 d43 d44 d45
        go_loopg [13, 14] kk (fun gg s13 s14 wr => ∃ k2 : Nat, k2 ≤ kk ∧ kk - k2 ≤ gg ∧ s13 = .bool ((l.take k2).any C) ∧ s14 = .int .i64 k2 ∧ Aside0 (OneAt w wr g x0 x1 x2 x3 x4 x5))
        case atStart => exact ⟨0, Nat.zero_le _, by omega, rfl, rfl, HA3⟩
        case round =>
          obtain ⟨k2, hk2, hg2, rfl, rfl, HA⟩ := hrel
          by_cases hlt : k2 < kk
          · have hltz : (k2 : Int) < (kk : Int) := by omega
            have hkz : k2 < l.length := lt_of_eq' HN.out.symm k2 hlt
            obtain ⟨ad, rfl, hcell⟩ := Kd.at_string (Kd.C_below HR.out HA.out.bel) (k2 : Int) (by omega) hltz
            have hy0 : rdOf ByteArray.empty l (k2 : Int) = l[k2]! := by
              show l.getD (k2 : Int).toNat _ = _
              rw [Int.toNat_natCast, List.getD_eq_getElem?_getD, List.getElem?_eq_getElem hkz, getElem!_pos l k2 hkz]
              rfl
            rw [hy0, Int.toNat_natCast] at hcell
            have hmem : l[k2]! ∈ l := by rw [getElem!_pos l k2 hkz]; exact List.getElem_mem _
            have hany : (l.take (k2 + 1)).any C = ((l.take k2).any C || C l[k2]!) := by
              rw [List.take_add_one, List.any_append, List.getElem?_eq_getElem hkz, getElem!_pos l k2 hkz]
              simp
            clear hy0 hkz
            generalize hy : l[k2]! = y at hcell hmem hany
            generalize hqa : (l.take k2).any C = q0 at hany ⊢
            have HY := Aside0.mk hmem
            have HN2 := Aside0.mk hany
            clear hy hqa hmem hany
            obtain ⟨-, hcell, c40, c41, c42, c43, c44, c45⟩ := HA.out.el hcell
            go_wp2
            go_region_held3 (fun W => OneAt w W g x0 x1 x2 x3 x4 x5 ∧ W.cell? (ad.add k2) = some (.string y) ∧ W.cell? ⟨g, 0, none⟩ = some (.int .i64 x0) ∧ W.cell? ⟨g, 1, none⟩ = some (.bool x1) ∧ W.cell? ⟨g, 2, none⟩ = some (.int .i64 x2) ∧ W.cell? ⟨g, 3, none⟩ = some (.bool x3) ∧ W.cell? ⟨g, 4, none⟩ = some (.string x4) ∧ W.cell? ⟨g, 5, none⟩ = some (x5))
              (first | exact HA.out.el hcell | exact (HA.out.step (below_drew1 (Below.refl _ _))).el hcell | (go_split_ands; exact OneAt.el2 (by assumption) (by assumption) (by assumption)))
              (first | (go_at_call 19; (with_reducible refine (text2 y _).mono ?_); rintro e w7 ⟨⟨A', c', rfl⟩, hb7⟩) | (go_at_call 15; (with_reducible refine (HC1.out _ _ _ _ HY.out ?_).mono ?_); (next => (go_split_ands; exact OneAt.bel (by assumption))); rintro e w8 ⟨rfl, hb8⟩))
            all_goals
              rcases q0 with _ | _
              all_goals
                go_wp2
                go_roundg (kk - (k2 + 1))
                case measure => omega
                case rel => exact ⟨k2 + 1, by omega, by omega, by rw [HN2.out]; first | rfl | simp, by go_num, ⟨by (go_split_ands; assumption)⟩⟩
          · have : k2 = kk := by omega
            subst this
            rw [List.take_of_length_le (by rw [HN.out]; exact Nat.le_refl _)]
            have hc2 := HC2.out
            clear HC2
            generalize hq0 : l.any C = q0 at hc2 ⊢
            have HC2 := Lib.hid hc2
            clear hq0 hc2
            obtain ⟨-, c40, c41, c42, c43, c44, c45⟩ := HA.out.all
            go_wp2
            go_region_held3 (fun W => OneAt w W g x0 x1 x2 x3 x4 x5 ∧ W.cell? ⟨g, 0, none⟩ = some (.int .i64 x0) ∧ W.cell? ⟨g, 1, none⟩ = some (.bool x1) ∧ W.cell? ⟨g, 2, none⟩ = some (.int .i64 x2) ∧ W.cell? ⟨g, 3, none⟩ = some (.bool x3) ∧ W.cell? ⟨g, 4, none⟩ = some (.string x4) ∧ W.cell? ⟨g, 5, none⟩ = some (x5))
              (first | exact HA.out.all | exact (HA.out.step (below_drew1 (Below.refl _ _))).all | (go_split_ands; exact (OneAt.step (by assumption) (by assumption)).all))
              (first | (go_at_call 24; (with_reducible refine (nodes2 _ _ _ _).mono ?_); rintro e w7 ⟨rfl, hb7⟩) | (go_at_call 15; (with_reducible refine (HC2.out _ ?_).mono ?_); (next => (go_split_ands; exact OneAt.bel (by assumption))); rintro e w8 ⟨rfl, hb8⟩))
            have HB8 : Aside0 (OneAt w w8 g x0 x1 x2 x3 x4 x5) := ⟨by (go_split_ands; assumption)⟩
            go_wp2_with (first
              | (go_at_call 24; (with_reducible refine (nodes2 _ _ _ _).mono ?_); rintro e v7 ⟨rfl, hb⟩; have H7 := Aside0.mk (below_step HB8.out.bel hb); clear hb HB8)
              | (go_at_call 18; (with_reducible refine (HC3.out _ _ _ (Nat.le_refl _) (below_alloc H7.out _) (blk_new _ _)).mono ?_); rintro e v11 ⟨⟨A5, c5, rfl⟩, hb⟩; have H11 := Aside0.mk (below_step (below_alloc H7.out _) hb); clear hb H7)
              | ((with_reducible refine gate_dst (N := 19) rfl ?_); refine box_event ?hg (N := 19) ?hd (cs := #[.int .i64 0, .bool false, .int .i64 0, .bool false, .string (⟨#[]⟩ : ByteArray), .slice none 0 0]) (t := 49) ?hr ?_; (case hd => rfl); (case hg => rfl); (case hr => first | (go_simp; done) | (go_simp; rfl)); intro g7 hg7 u7 hxg7 hbg7; have GE := Aside0.mk (by rw [hg7]; exact H11.out.size : w.heap.size ≤ g7); have H12 := Aside0.mk (below_step H11.out hbg7); have BK := Aside0.mk hxg7; have zg7_0 : u7.cell? ⟨g7, 0, none⟩ = some (.int .i64 0) := (blk_cell hxg7 0).trans rfl; have zg7_1 : u7.cell? ⟨g7, 1, none⟩ = some (.bool false) := (blk_cell hxg7 1).trans rfl; have zg7_2 : u7.cell? ⟨g7, 2, none⟩ = some (.int .i64 0) := (blk_cell hxg7 2).trans rfl; have zg7_3 : u7.cell? ⟨g7, 3, none⟩ = some (.bool false) := (blk_cell hxg7 3).trans rfl; have zg7_4 : u7.cell? ⟨g7, 4, none⟩ = some (.string (⟨#[]⟩ : ByteArray)) := (blk_cell hxg7 4).trans rfl; have zg7_5 : u7.cell? ⟨g7, 5, none⟩ = some (.slice none 0 0) := (blk_cell hxg7 5).trans rfl; have fg7_0 := blk_frozen hxg7 0; have fg7_1 := blk_frozen hxg7 1; have fg7_2 := blk_frozen hxg7 2; have fg7_3 := blk_frozen hxg7 3; have fg7_4 := blk_frozen hxg7 4; have fg7_5 := blk_frozen hxg7 5; clear hxg7 hbg7 hg7 H11)
              | (go_at_call 24; (with_reducible refine (nodes2 _ _ _ _).mono ?_); rintro e v13 ⟨rfl, hb⟩; have L7 := Aside0.mk (blk_below (blk_put (cs := #[.int .i64 2, .bool false, .int .i64 (k2 : Int), .bool false, .string (⟨#[]⟩ : ByteArray), .slice none 0 0]) (blk_put (cs := #[.int .i64 2, .bool false, .int .i64 (k2 : Int), .bool false, .string (⟨#[]⟩ : ByteArray), .slice none 0 0]) (blk_put (cs := #[.int .i64 2, .bool false, .int .i64 (k2 : Int), .bool false, .string (⟨#[]⟩ : ByteArray), .slice none 0 0]) (blk_put (cs := #[.int .i64 2, .bool false, .int .i64 0, .bool false, .string (⟨#[]⟩ : ByteArray), .slice none 0 0]) (blk_put (cs := #[.int .i64 2, .bool false, .int .i64 0, .bool false, .string (⟨#[]⟩ : ByteArray), .slice none 0 0]) (blk_put (cs := #[.int .i64 0, .bool false, .int .i64 0, .bool false, .string (⟨#[]⟩ : ByteArray), .slice none 0 0]) BK.out 0 _ rfl) 1 _ rfl) 2 _ rfl) 3 _ rfl) 4 _ rfl) 5 _ rfl) hb); have H13 := Aside0.mk (below_step (by repeat (first | exact H12.out | refine below_set ?_ GE.out)) hb); clear hb H12)
              | (go_at_call 23; (with_reducible refine (HC4.out _ H13.out).mono ?_); rintro e v14 ⟨rfl, hb⟩; have c72 := (blk_cell (blk_below L7.out hb) 2).trans rfl; have c73 := (blk_cell (blk_below L7.out hb) 3).trans rfl; have H14 := Aside0.mk (below_step H13.out hb); clear hb H13))
            go_ret
            exact ⟨rfl, H14.out⟩
structure OneP (k : Nat) (l : List ByteArray) (x0 : Int) (x1 : Bool) (x2 : Int) (x3 : Bool) (x4 : ByteArray) (l5 : List ByteArray) (which : Int) (T : ByteArray → Int) (C : ByteArray → Bool) (eb : Int) (op : ByteArray) : Prop where
  w0 : 0 ≤ which
  w1 : which < 256
  hop : rdOf ByteArray.empty [⟨#[61]⟩, ⟨#[33, 61]⟩, ⟨#[60]⟩, ⟨#[60, 61]⟩, ⟨#[62]⟩, ⟨#[62, 61]⟩] (which % 6) = op
  t : ∀ s ∈ l, ∃ a, chars_Text.f k s = some (a, T s)
  b : ∃ a, value_Bool.f k x0 x1 x2 x3 x4 l5 = some (a, eb)
  c : (∀ j, j < l.length → T l[j]! = 0) → eb = 0 → l.length ≤ 4096 → (x0 == 1) = false →
    (∀ s ∈ l, value_Compare.f k op 3 false 0 false s [] x0 x1 x2 x3 x4 l5 = some (C s, 0)) ∧
    value_Compare.f k op 4 false 0 false ⟨#[]⟩ l x0 x1 x2 x3 x4 l5 = some (l.any C, 0) ∧
    value_Call.f k ⟨#[99, 111, 117, 110, 116]⟩ 0 0 ⟨#[]⟩ ⟨#[]⟩ [] [⟨4, false, 0, false, ⟨#[]⟩, l⟩] = some (2, false, (l.length : Int), false, ⟨#[]⟩, [], 0) ∧
    value_Bool.f k 4 false 0 false ⟨#[]⟩ l = some (decide (0 < (l.length : Int)), 0)
theorem espalierlaw14_ValueOne.calls (A : Option Addr) (c : Nat) (l : List ByteArray) (x0 : Int) (x1 : Bool) (x2 : Int) (x3 : Bool) (x4 : ByteArray) (A5 : Option Addr) (c5 : Nat) (l5 : List ByteArray) (which : Int) (r : Bool) (w : World) (hr0 : Kd.string.C w A l.length l) (hc0 : l.length ≤ c) (hr5 : Kd.string.C w A5 l5.length l5) (hc5 : l5.length ≤ c5) (h : r = true ∧ ∃ k T C eb op, OneP k l x0 x1 x2 x3 x4 l5 which T C eb op) (hG : Glob w := by first | exact Glob.step HG.out (by repeat (first | (with_reducible first | exact HB.out | apply below_alloc | apply pw_below_drewN | apply below_drew1) | exact HB.out | (refine below_set ?_ (Aside0.out (by assumption))))) | exact HG.out | assumption) (hG3 : Glob3 w := by first | exact Glob3.step HG3.out (by repeat (first | (with_reducible first | exact HB.out | apply below_alloc | apply pw_below_drewN | apply below_drew1) | exact HB.out | (refine below_set ?_ (Aside0.out (by assumption))))) | exact HG3.out | assumption) :
    Calls Tryd.prog 7 #[.slice A l.length c, .agg #[.int .i64 x0, .bool x1, .int .i64 x2, .bool x3, .string x4, .slice A5 l5.length c5], .int .u8 which] w fun e w' => e = .returned (.bool r) ∧ Below w.heap.size w w' := by
  obtain ⟨rfl, k, T, C, eb, op, hP⟩ := h
  have hz : ∀ (W : World) (A' : Option Addr), Kd.string.C W A' 0 ([] : List ByteArray) := C_zero2
  refine ValueOne_walk l A c x0 x1 x2 x3 x4 (.slice A5 l5.length c5) which T C eb op w hr0 hP.w0 hP.w1 hP.hop (Lib.hid fun W s hs hb => ?_) (Lib.hid fun W hb => ?_) (Lib.hid fun h1 h2 h3 h4 => ?_) hG hG3
  · obtain ⟨a, ha⟩ := hP.t s hs
    exact (chars_Text.calls k s a (T s) W ha (hG.step hb)).mono fun e w' he => ⟨⟨a, he.1⟩, he.2⟩
  · obtain ⟨a, ha⟩ := hP.b
    exact (value_Bool.calls k x0 x1 x2 x3 x4 A5 c5 l5 a eb W (Kd.C_below hr5 hb) hc5 ha (hG.step hb)).mono fun e w' he => ⟨⟨a, he.1⟩, he.2⟩
  obtain ⟨p1, p2, p3, p4⟩ := hP.c h1 h2 h3 h4
  refine ⟨fun W s A' c' hs hb => ?_, fun W hb => ?_, fun W g c' hc' hb hg => ?_, fun W hb => ?_⟩
  · exact value_Compare.calls k op 3 false 0 false s _ A' c' ([] : List ByteArray) x0 x1 x2 x3 x4 _ A5 c5 l5 (C s) 0 W (Kd.V_mk (Nat.zero_le _) (Kd.C_F Kd.heap_string (hz W A'))) (Kd.V_mk hc5 (Kd.C_F Kd.heap_string (Kd.C_below hr5 hb))) (p1 s hs) (hG.step hb) (hG3.step hb)
  · exact value_Compare.calls k op 4 false 0 false ⟨#[]⟩ _ A c l x0 x1 x2 x3 x4 _ A5 c5 l5 (l.any C) 0 W (Kd.V_mk hc0 (Kd.C_F Kd.heap_string (Kd.C_below hr0 hb))) (Kd.V_mk hc5 (Kd.C_F Kd.heap_string (Kd.C_below hr5 hb))) p2 (hG.step hb) (hG3.step hb)
  · refine (value_Call.calls k ⟨#[99, 111, 117, 110, 116]⟩ 0 0 ⟨#[]⟩ ⟨#[]⟩ none 0 [] (some ⟨g, 0, none⟩) c' [⟨4, false, 0, false, ⟨#[]⟩, l⟩] 2 false (l.length : Int) false ⟨#[]⟩ [] 0 W (CA_zero W none) (Nat.zero_le _) (CV_one (x := ⟨4, false, 0, false, ⟨#[]⟩, l⟩) hg hc0 (Kd.C_below hr0 hb)) hc' p3 (hG.step hb) (hG3.step hb)).mono fun e w' ⟨v, he, hR, hb⟩ => ?_
    obtain ⟨A, c, rfl⟩ := Kd.R_slice hR
    exact ⟨⟨A, c, he⟩, hb⟩
  · exact value_Bool.calls k 4 false 0 false ⟨#[]⟩ A c l _ 0 W (Kd.C_below hr0 hb) hc0 p4 (hG.step hb)
end Go.Proofs.YtnkjchcaonaifaaDoor.PA
