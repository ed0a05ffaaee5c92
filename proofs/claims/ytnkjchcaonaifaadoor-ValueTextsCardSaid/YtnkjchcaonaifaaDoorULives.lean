/- espalierlaw14's lives: it answers true. -/
import Derived.Test.YtnkjchcaonaifaaDoorPA3
import Derived.Test.YtnkjchcaonaifaaDoorPA6
import Derived.Test.YtnkjchcaonaifaaDoorPA7
import Derived.Test.YtnkjchcaonaifaaDoorPA7
import Derived.Test.YtnkjchcaonaifaaDoorPA7
import Derived.WalkKit
import Derived.BigCall
import Derived.BigGuard
import Derived.Outline
namespace Go.Proofs.YtnkjchcaonaifaaDoor.PA
open Go.RowKit Go.Proofs.YtnkjchcaonaifaaDoorW.PrintWords Go.Proofs.YtnkjchcaonaifaaDoorW.PrintLast Go.Proofs.YtnkjchcaonaifaaDoorW.PrintMore
set_option linter.unusedVariables false
set_option linter.unusedSimpArgs false
theorem text2 (s : ByteArray) (w : World) : Calls Tryd.prog 19 #[.string s] w fun e w' => (∃ A c, e = .returned (.agg #[.int .i64 3, .bool false, .int .i64 0, .bool false, .string s, .slice A 0 c])) ∧ Below w.heap.size w w' :=
  (espalierlaw14_text.calls s _ _ _ _ _ _ w rfl).mono fun e w' ⟨v, he, hR, hb⟩ => by
    obtain ⟨A, c, rfl⟩ := Kd.R_slice hR
    exact ⟨⟨A, c, he⟩, hb⟩
theorem number2 (n : Int) (w : World) : Calls Tryd.prog 21 #[.int .i64 n] w fun e w' => (∃ A c, e = .returned (.agg #[.int .i64 2, .bool false, .int .i64 n, .bool false, .string ⟨#[]⟩, .slice A 0 c])) ∧ Below w.heap.size w w' :=
  (espalierlaw14_number.calls n _ _ _ _ _ _ w rfl).mono fun e w' ⟨v, he, hR, hb⟩ => by
    obtain ⟨A, c, rfl⟩ := Kd.R_slice hR
    exact ⟨⟨A, c, he⟩, hb⟩
theorem C_zero2 (w : World) (A : Option Addr) : Kd.string.C w A 0 [] := ⟨rfl, by omega, fun h => absurd h (by omega)⟩
theorem C_two {w : World} {g : Nat} {s t : ByteArray} {T : TypeId} (h : w.heap[g]? = some (.cells #[.string s, .string t] T (0, 0))) : Kd.string.C w (some ⟨g, 0, none⟩) 2 [s, t] := by
  refine ⟨rfl, by omega, fun _ => ⟨_, rfl, fun j p hj => ?_⟩⟩
  have hc0 := (blk_cell h 0).trans rfl
  have hc1 := (blk_cell h 1).trans rfl
  rcases j with _ | _ | j
  · simp only [List.getElem?_cons_zero, Option.some.injEq] at hj
    subst hj
    refine ⟨[.string s], rfl, rfl, fun i u hi => ?_⟩
    rcases i with _ | i
    · simp only [List.getElem?_cons_zero, Option.some.injEq] at hi
      subst hi
      rw [add_plain]; exact hc0
    · simp at hi
  · simp only [List.getElem?_cons_zero, List.getElem?_cons_succ, Option.some.injEq] at hj
    subst hj
    refine ⟨[.string t], rfl, rfl, fun i u hi => ?_⟩
    rcases i with _ | i
    · simp only [List.getElem?_cons_zero, Option.some.injEq] at hi
      subst hi
      rw [add_plain]; exact hc1
    · simp at hi
  · simp at hj
theorem CV_one {w : World} {g : Nat} {x : S49} {A : Option Addr} {c : Nat} (h : w.heap[g]? = some (.cells #[.int .i64 x.f0, .bool x.f1, .int .i64 x.f2, .bool x.f3, .string x.f4, .slice A x.f5.length c] 49 (0, 0))) (hl : x.f5.length ≤ c) (hC : Kd.string.C w A x.f5.length x.f5) : Kd.C k49 w (some ⟨g, 0, none⟩) 1 [x] := by
  refine ⟨rfl, by omega, fun _ => ⟨_, rfl, fun j p hj => ?_⟩⟩
  rcases j with _ | j
  · simp only [List.getElem?_cons_zero, Option.some.injEq] at hj
    subst hj
    refine ⟨[.int .i64 x.f0, .bool x.f1, .int .i64 x.f2, .bool x.f3, .string x.f4, .slice A x.f5.length c], rfl, k49_mk w x hl hC, fun i u hi => ?_⟩
    rw [add_plain, blk_cell h]
    simpa using hi
  · simp at hj
theorem CA_zero (w : World) (A : Option Addr) : Kd.C k121 w A 0 [] := ⟨rfl, by omega, fun h => absurd h (by omega)⟩
set_option maxHeartbeats 4000000 in
set_option maxRecDepth 1000000 in
theorem nodes2 (A : Option Addr) (n c : Nat) (w : World) : Calls Tryd.prog 24 #[.slice A n c] w fun e w' => e = .returned (.agg #[.int .i64 4, .bool false, .int .i64 0, .bool false, .string ⟨#[]⟩, .slice A n c]) ∧ Below w.heap.size w w' := by
  have huV := Tryd.underlying49
  go_enter Tryd.func24, Tryd.ntmps24
  go_wp2_with (first | ((with_reducible refine gate_dst (N := 2) rfl ?_); refine box_event ?hg (N := 2) ?hd (cs := #[.int .i64 0, .bool false, .int .i64 0, .bool false, .string (⟨#[]⟩ : ByteArray), .slice none 0 0]) (t := 49) ?hr ?_; (case hd => rfl); (case hg => rfl); (case hr => first | (go_simp; done) | (go_simp; rfl)); intro g2 hg2 w2 hxg2 hbg2; have HB := Aside0.mk hbg2; have GE := Aside0.mk (Nat.le_of_eq hg2.symm); have BK := Aside0.mk hxg2; have zg2_0 : w2.cell? ⟨g2, 0, none⟩ = some (.int .i64 0) := (blk_cell hxg2 0).trans rfl; have zg2_1 : w2.cell? ⟨g2, 1, none⟩ = some (.bool false) := (blk_cell hxg2 1).trans rfl; have zg2_2 : w2.cell? ⟨g2, 2, none⟩ = some (.int .i64 0) := (blk_cell hxg2 2).trans rfl; have zg2_3 : w2.cell? ⟨g2, 3, none⟩ = some (.bool false) := (blk_cell hxg2 3).trans rfl; have zg2_4 : w2.cell? ⟨g2, 4, none⟩ = some (.string (⟨#[]⟩ : ByteArray)) := (blk_cell hxg2 4).trans rfl; have zg2_5 : w2.cell? ⟨g2, 5, none⟩ = some (.slice none 0 0) := (blk_cell hxg2 5).trans rfl; have fg2_0 := blk_frozen hxg2 0; have fg2_1 := blk_frozen hxg2 1; have fg2_2 := blk_frozen hxg2 2; have fg2_3 := blk_frozen hxg2 3; have fg2_4 := blk_frozen hxg2 4; have fg2_5 := blk_frozen hxg2 5; clear hxg2 hbg2 hg2))
  refine bodyPost_ret (results_cell_row rfl _ _ g2 49 #[.int .i64 4, .bool false, .int .i64 0, .bool false, .string (⟨#[]⟩ : ByteArray), .slice A n c] (0, 0) _ rfl (blk_put (cs := #[.int .i64 4, .bool false, .int .i64 0, .bool false, .string (⟨#[]⟩ : ByteArray), .slice none 0 0]) (blk_put (cs := #[.int .i64 4, .bool false, .int .i64 0, .bool false, .string (⟨#[]⟩ : ByteArray), .slice none 0 0]) (blk_put (cs := #[.int .i64 4, .bool false, .int .i64 0, .bool false, .string (⟨#[]⟩ : ByteArray), .slice none 0 0]) (blk_put (cs := #[.int .i64 4, .bool false, .int .i64 0, .bool false, .string (⟨#[]⟩ : ByteArray), .slice none 0 0]) (blk_put (cs := #[.int .i64 4, .bool false, .int .i64 0, .bool false, .string (⟨#[]⟩ : ByteArray), .slice none 0 0]) (blk_put (cs := #[.int .i64 0, .bool false, .int .i64 0, .bool false, .string (⟨#[]⟩ : ByteArray), .slice none 0 0]) BK.out 0 _ rfl) 1 _ rfl) 2 _ rfl) 3 _ rfl) 4 _ rfl) 5 _ rfl) huV rfl (by kernel_rfl)) rfl ?_
  exact ⟨rfl, by repeat (first | exact HB.out | refine below_set ?_ GE.out)⟩
theorem cmp1 (A1 : Option Addr) (c1 : Nat) (A2 : Option Addr) (c2 : Nat) (w : World) (hG : Glob w) (hG3 : Glob3 w) (l1 : 0 ≤ c1) (h1 : Kd.string.C w A1 0 ([] : List ByteArray)) (l2 : 0 ≤ c2) (h2 : Kd.string.C w A2 0 ([] : List ByteArray)) :
    Calls Tryd.prog 15 #[.string ⟨#[60]⟩, .agg #[.int .i64 3, .bool false, .int .i64 0, .bool false, .string ⟨#[49, 48]⟩, .slice A1 0 c1], .agg #[.int .i64 3, .bool false, .int .i64 0, .bool false, .string ⟨#[57]⟩, .slice A2 0 c2]] w fun e w' => e = .returned (.tuple #[.bool false, .int .i64 0]) ∧ Below w.heap.size w w' :=
  value_Compare.calls 40 ⟨#[60]⟩ 3 false 0 false ⟨#[49, 48]⟩ _ A1 c1 ([] : List ByteArray) 3 false 0 false ⟨#[57]⟩ _ A2 c2 ([] : List ByteArray) false 0 w (Kd.V_mk l1 (Kd.C_F Kd.heap_string h1)) (Kd.V_mk l2 (Kd.C_F Kd.heap_string h2)) (by decide +kernel) hG hG3
theorem cmp2 (A1 : Option Addr) (c1 : Nat) (A2 : Option Addr) (c2 : Nat) (w : World) (hG : Glob w) (hG3 : Glob3 w) (l1 : 2 ≤ c1) (h1 : Kd.string.C w A1 2 ([⟨#[49]⟩, ⟨#[120]⟩] : List ByteArray)) (l2 : 0 ≤ c2) (h2 : Kd.string.C w A2 0 ([] : List ByteArray)) :
    Calls Tryd.prog 15 #[.string ⟨#[61]⟩, .agg #[.int .i64 4, .bool false, .int .i64 0, .bool false, .string ⟨#[]⟩, .slice A1 2 c1], .agg #[.int .i64 2, .bool false, .int .i64 1, .bool false, .string ⟨#[]⟩, .slice A2 0 c2]] w fun e w' => e = .returned (.tuple #[.bool true, .int .i64 0]) ∧ Below w.heap.size w w' :=
  value_Compare.calls 40 ⟨#[61]⟩ 4 false 0 false ⟨#[]⟩ _ A1 c1 ([⟨#[49]⟩, ⟨#[120]⟩] : List ByteArray) 2 false 1 false ⟨#[]⟩ _ A2 c2 ([] : List ByteArray) true 0 w (Kd.V_mk l1 (Kd.C_F Kd.heap_string h1)) (Kd.V_mk l2 (Kd.C_F Kd.heap_string h2)) (by decide +kernel) hG hG3
theorem cmp3 (A1 : Option Addr) (c1 : Nat) (A2 : Option Addr) (c2 : Nat) (w : World) (hG : Glob w) (hG3 : Glob3 w) (l1 : 2 ≤ c1) (h1 : Kd.string.C w A1 2 ([⟨#[49]⟩, ⟨#[120]⟩] : List ByteArray)) (l2 : 0 ≤ c2) (h2 : Kd.string.C w A2 0 ([] : List ByteArray)) :
    Calls Tryd.prog 15 #[.string ⟨#[33, 61]⟩, .agg #[.int .i64 4, .bool false, .int .i64 0, .bool false, .string ⟨#[]⟩, .slice A1 2 c1], .agg #[.int .i64 2, .bool false, .int .i64 1, .bool false, .string ⟨#[]⟩, .slice A2 0 c2]] w fun e w' => e = .returned (.tuple #[.bool true, .int .i64 0]) ∧ Below w.heap.size w w' :=
  value_Compare.calls 40 ⟨#[33, 61]⟩ 4 false 0 false ⟨#[]⟩ _ A1 c1 ([⟨#[49]⟩, ⟨#[120]⟩] : List ByteArray) 2 false 1 false ⟨#[]⟩ _ A2 c2 ([] : List ByteArray) true 0 w (Kd.V_mk l1 (Kd.C_F Kd.heap_string h1)) (Kd.V_mk l2 (Kd.C_F Kd.heap_string h2)) (by decide +kernel) hG hG3
theorem call4 (g : Nat) (c : Nat) (A : Option Addr) (c1 : Nat) (w : World) (hG : Glob w) (hG3 : Glob3 w) (hc : 1 ≤ c) (h : w.heap[g]? = some (.cells #[.int .i64 4, .bool false, .int .i64 0, .bool false, .string ⟨#[]⟩, .slice A 2 c1] 49 (0, 0))) (l1 : 2 ≤ c1) (h1 : Kd.string.C w A 2 [⟨#[49]⟩, ⟨#[50]⟩]) :
    Calls Tryd.prog 18 #[.string ⟨#[115, 117, 109]⟩, .agg #[.int .i64 0, .int .i64 0, .string ⟨#[]⟩, .string ⟨#[]⟩, .slice none 0 0], .slice (some ⟨g, 0, none⟩) 1 c] w fun e w' => (∃ A c, e = .returned (.tuple #[.agg #[.int .i64 2, .bool false, .int .i64 3, .bool false, .string ⟨#[]⟩, .slice A 0 c], .int .i64 0])) ∧ Below w.heap.size w w' :=
  (value_Call.calls 40 ⟨#[115, 117, 109]⟩ 0 0 ⟨#[]⟩ ⟨#[]⟩ none 0 [] (some ⟨g, 0, none⟩) c [⟨4, false, 0, false, ⟨#[]⟩, [⟨#[49]⟩, ⟨#[50]⟩]⟩] 2 false 3 false ⟨#[]⟩ [] 0 w (CA_zero w none) (Nat.zero_le _) (CV_one h l1 h1) hc (by kernel_rfl) hG hG3).mono fun e w' ⟨v, he, hR, hb⟩ => by
    obtain ⟨A, c, rfl⟩ := Kd.R_slice hR
    exact ⟨⟨A, c, he⟩, hb⟩
theorem num5 (A : Option Addr) (c : Nat) (w : World) (hG : Glob w) (hG3 : Glob3 w) : Calls Tryd.prog 22 #[.agg #[.int .i64 3, .bool false, .int .i64 0, .bool false, .string ⟨#[32, 45, 55, 10]⟩, .slice A 0 c]] w fun e w' => e = .returned (.tuple #[.int .i64 (-7), .bool true, .int .i64 0]) ∧ Below w.heap.size w w' :=
  value_Number.calls 40 3 false 0 false ⟨#[32, 45, 55, 10]⟩ A c [] (-7) true 0 w (C_zero2 w A) (Nat.zero_le _) (by decide +kernel) hG hG3
def espalierlaw14_lives.f : Option Bool := some true
set_option maxHeartbeats 8000000 in
set_option maxRecDepth 1000000 in
theorem espalierlaw14_lives.calls (r : Bool) (w : World) (h : espalierlaw14_lives.f = some r) (hG : Glob w := by first | exact Glob.step HG.out (by repeat (first | (with_reducible first | exact HB.out | apply below_alloc | apply pw_below_drewN | apply below_drew1) | exact HB.out | (refine below_set ?_ (Aside0.out (by assumption))))) | exact HG.out | assumption) (hG3 : Glob3 w := by first | exact Glob3.step HG3.out (by repeat (first | (with_reducible first | exact HB.out | apply below_alloc | apply pw_below_drewN | apply below_drew1) | exact HB.out | (refine below_set ?_ (Aside0.out (by assumption))))) | exact HG3.out | assumption) :
    Calls Tryd.prog 14 #[] w fun e w' => e = .returned (.bool r) ∧ Below w.heap.size w w' := by
  obtain rfl := Option.some.inj h
  clear h
  have huV := Tryd.underlying49
  have huH := Tryd.underlying61
  have HG := Aside0.mk hG
  have HG3 := Aside0.mk hG3
  have H0 := Aside0.mk (Below.refl w.heap.size w)
  clear hG hG3
  go_enter Tryd.func14, Tryd.ntmps14
  go_wp2_with (first
    | (go_at_call 19; (with_reducible refine (text2 ⟨#[49, 48]⟩ _).mono ?_); rintro e v1 ⟨⟨A1, c1, rfl⟩, hb⟩; have H1 := Aside0.mk (below_step H0.out hb); clear hb H0)
    | (go_at_call 19; (with_reducible refine (text2 ⟨#[57]⟩ _).mono ?_); rintro e v2 ⟨⟨A2, c2, rfl⟩, hb⟩; have H2 := Aside0.mk (below_step H1.out hb); clear hb H1)
    | (go_at_call 15; (with_reducible refine (cmp1 A1 c1 A2 c2 _ (HG.out.step H2.out) (HG3.out.step H2.out) (Nat.zero_le _) (C_zero2 _ _) (Nat.zero_le _) (C_zero2 _ _)).mono ?_); rintro e v3 ⟨rfl, hb⟩; have H3 := Aside0.mk (below_step H2.out hb); clear hb H2)
    | (go_at_call 24; (with_reducible refine (nodes2 _ 2 _ _).mono ?_); rintro e v4 ⟨rfl, hb⟩; have S1 := Aside0.mk (Kd.C_below (C_two (blk_new _ _)) hb); have H4 := Aside0.mk (below_step (below_alloc H3.out _) hb); clear hb H3)
    | (go_at_call 21; (with_reducible refine (number2 1 _).mono ?_); rintro e v5 ⟨⟨A3, c3, rfl⟩, hb⟩; have T1 := Aside0.mk (Kd.C_below S1.out hb); clear S1; have H5 := Aside0.mk (below_step H4.out hb); clear hb H4)
    | (go_at_call 15; (with_reducible refine (cmp2 _ _ A3 c3 _ (HG.out.step H5.out) (HG3.out.step H5.out) (Nat.le_refl _) T1.out (Nat.zero_le _) (C_zero2 _ _)).mono ?_); rintro e v6 ⟨rfl, hb⟩; clear T1; have H6 := Aside0.mk (below_step H5.out hb); clear hb H5)
    | (go_at_call 24; (with_reducible refine (nodes2 _ 2 _ _).mono ?_); rintro e v7 ⟨rfl, hb⟩; have S2 := Aside0.mk (Kd.C_below (C_two (blk_new _ _)) hb); have H7 := Aside0.mk (below_step (below_alloc H6.out _) hb); clear hb H6)
    | (go_at_call 21; (with_reducible refine (number2 1 _).mono ?_); rintro e v8 ⟨⟨A4, c4, rfl⟩, hb⟩; have T2 := Aside0.mk (Kd.C_below S2.out hb); clear S2; have H8 := Aside0.mk (below_step H7.out hb); clear hb H7)
    | (go_at_call 15; (with_reducible refine (cmp3 _ _ A4 c4 _ (HG.out.step H8.out) (HG3.out.step H8.out) (Nat.le_refl _) T2.out (Nat.zero_le _) (C_zero2 _ _)).mono ?_); rintro e v9 ⟨rfl, hb⟩; clear T2; have H9 := Aside0.mk (below_step H8.out hb); clear hb H8)
    | (go_at_call 24; (with_reducible refine (nodes2 _ 2 _ _).mono ?_); rintro e v10 ⟨rfl, hb⟩; have S3 := Aside0.mk (Kd.C_below (C_two (blk_new _ _)) hb); have H10 := Aside0.mk (below_step (below_alloc H9.out _) hb); clear hb H9)
    | (go_at_call 18; (with_reducible refine (call4 _ 1 _ 2 _ (HG.out.step (below_alloc H10.out _)) (HG3.out.step (below_alloc H10.out _)) (Nat.le_refl _) (blk_new _ _) (Nat.le_refl _) (Kd.C_below S3.out (below_alloc (Below.refl _ _) _))).mono ?_); rintro e v11 ⟨⟨A5, c5, rfl⟩, hb⟩; clear S3; have H11 := Aside0.mk (below_step (below_alloc H10.out _) hb); clear hb H10)
    | ((with_reducible refine gate_dst (N := 7) rfl ?_); refine box_event ?hg (N := 7) ?hd (cs := #[.int .i64 0, .bool false, .int .i64 0, .bool false, .string (⟨#[]⟩ : ByteArray), .slice none 0 0]) (t := 49) ?hr ?_; (case hd => rfl); (case hg => rfl); (case hr => first | (go_simp; done) | (go_simp; rfl)); intro g7 hg7 w7 hxg7 hbg7; have GE := Aside0.mk (by rw [hg7]; exact H11.out.size : w.heap.size ≤ g7); have H12 := Aside0.mk (below_step H11.out hbg7); have BK := Aside0.mk hxg7; have zg7_0 : w7.cell? ⟨g7, 0, none⟩ = some (.int .i64 0) := (blk_cell hxg7 0).trans rfl; have zg7_1 : w7.cell? ⟨g7, 1, none⟩ = some (.bool false) := (blk_cell hxg7 1).trans rfl; have zg7_2 : w7.cell? ⟨g7, 2, none⟩ = some (.int .i64 0) := (blk_cell hxg7 2).trans rfl; have zg7_3 : w7.cell? ⟨g7, 3, none⟩ = some (.bool false) := (blk_cell hxg7 3).trans rfl; have zg7_4 : w7.cell? ⟨g7, 4, none⟩ = some (.string (⟨#[]⟩ : ByteArray)) := (blk_cell hxg7 4).trans rfl; have zg7_5 : w7.cell? ⟨g7, 5, none⟩ = some (.slice none 0 0) := (blk_cell hxg7 5).trans rfl; have fg7_0 := blk_frozen hxg7 0; have fg7_1 := blk_frozen hxg7 1; have fg7_2 := blk_frozen hxg7 2; have fg7_3 := blk_frozen hxg7 3; have fg7_4 := blk_frozen hxg7 4; have fg7_5 := blk_frozen hxg7 5; clear hxg7 hbg7 hg7 H11)
    | (go_at_call 19; (with_reducible refine (text2 ⟨#[32, 45, 55, 10]⟩ _).mono ?_); rintro e v13 ⟨⟨A6, c6, rfl⟩, hb⟩; have L7 := Aside0.mk (blk_below (blk_put (cs := #[.int .i64 2, .bool false, .int .i64 3, .bool false, .string (⟨#[]⟩ : ByteArray), .slice none 0 0]) (blk_put (cs := #[.int .i64 2, .bool false, .int .i64 3, .bool false, .string (⟨#[]⟩ : ByteArray), .slice none 0 0]) (blk_put (cs := #[.int .i64 2, .bool false, .int .i64 3, .bool false, .string (⟨#[]⟩ : ByteArray), .slice none 0 0]) (blk_put (cs := #[.int .i64 2, .bool false, .int .i64 0, .bool false, .string (⟨#[]⟩ : ByteArray), .slice none 0 0]) (blk_put (cs := #[.int .i64 2, .bool false, .int .i64 0, .bool false, .string (⟨#[]⟩ : ByteArray), .slice none 0 0]) (blk_put (cs := #[.int .i64 0, .bool false, .int .i64 0, .bool false, .string (⟨#[]⟩ : ByteArray), .slice none 0 0]) BK.out 0 _ rfl) 1 _ rfl) 2 _ rfl) 3 _ rfl) 4 _ rfl) 5 _ rfl) hb); have H13 := Aside0.mk (below_step (by repeat (first | exact H12.out | refine below_set ?_ GE.out)) hb); clear hb H12)
    | (go_at_call 22; (with_reducible refine (num5 A6 c6 _ (HG.out.step H13.out) (HG3.out.step H13.out)).mono ?_); rintro e v14 ⟨rfl, hb⟩; have c70 := (blk_cell (blk_below L7.out hb) 0).trans rfl; have c72 := (blk_cell (blk_below L7.out hb) 2).trans rfl; have H14 := Aside0.mk (below_step H13.out hb); clear hb H13))
  go_ret
  exact ⟨rfl, H14.out⟩
end Go.Proofs.YtnkjchcaonaifaaDoor.PA
