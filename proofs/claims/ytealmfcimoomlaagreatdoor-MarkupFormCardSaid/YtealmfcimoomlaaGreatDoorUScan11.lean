/- Texts of this claim, one behind the other: UTreeCheck, PM1, UScan11. Conditions: those of each theorem. -/
import Derived.Test.YtealmfcimoomlaaGreatDoorUWtree
import Derived.Test.YtealmfcimoomlaaGreatDoorPA6
import Derived.Test.YtealmfcimoomlaaGreatDoorPTree
import Derived.Test.YtealmfcimoomlaaGreatDoorPNumber
/- tree.Check, by looker.look over a counter in memory. -/
namespace Go.Proofs.YtealmfcimoomlaaGreatDoor.PA
open Go.RowKit Go.Proofs.YtealmfcimoomlaaGreatDoorW.PrintWords Go.Proofs.YtealmfcimoomlaaGreatDoorW.PrintLast Go.Proofs.YtealmfcimoomlaaGreatDoorW.PrintMore
set_option linter.unusedVariables false
set_option linter.unusedSimpArgs false
mutual
def lookF (k : Nat) : S35 → Int → Int → Option (Int × Int)
  | ⟨f0, f1, f2, f3, f4⟩, d, n =>
    if 64 < d then some (2, n) else if 4096 ≤ n then some (2, n)
    else (tree_own.f k f0 f1 f2 f3 f4).bind fun e => if e = 0 then (if f0 = 2 then some (0, wrap64 (n + 1)) else lookK k f4 (wrap64 (d + 1)) (wrap64 (n + 1))) else some (e, n)
def lookK (k : Nat) : List S35 → Int → Int → Option (Int × Int)
  | [], _, n => some (0, n)
  | t :: l, d, n => (lookF k t d n).bind fun r => if r.1 = 0 then lookK k l d r.2 else some r
end
mutual
theorem lookF_mono (k : Nat) : ∀ (t : S35) (d n : Int), LeO (lookF k t d n) (lookF (k + 1) t d n)
  | ⟨f0, f1, f2, f3, f4⟩, d, n => by
    rw [lookF, lookF]
    exact LeO.ite (LeO.refl _) (LeO.ite (LeO.refl _) (LeO.bind (tree_own.mono _ _ _ _ _ _) fun e => LeO.ite (LeO.ite (LeO.refl _) (lookK_mono k f4 _ _)) (LeO.refl _)))
theorem lookK_mono (k : Nat) : ∀ (l : List S35) (d n : Int), LeO (lookK k l d n) (lookK (k + 1) l d n)
  | [], d, n => by rw [lookK, lookK]; exact LeO.refl _
  | t :: l, d, n => by
    rw [lookK, lookK]
    exact LeO.bind (lookF_mono k t d n) fun r => LeO.ite (lookK_mono k l d r.2) (LeO.refl _)
end
/-- Under way in 'look': the counter stands in the block b, the tree in g. -/
structure LW (w0 wS : World) (b g : Nat) (cs : Array Value) (m1 m2 : Int) (w : World) : Prop where
  lk : w.heap[b]? = some (.cells #[.int .i64 m1, .int .i64 m2] 64 (0, 0))
  old : w0.heap.size ≤ b
  bel0 : Below w0.heap.size w0 w
  bel : Below w0.heap.size wS w
  keep : KeepBut wS w b none
  blk : w.heap[g]? = some (.cells cs 35 (0, 0))
theorem LW.step {w0 wS w w' : World} {b g : Nat} {cs : Array Value} {m1 m2 n1 n2 : Int} (h : LW w0 wS b g cs m1 m2 w) (h1 : w'.heap[b]? = some (.cells #[.int .i64 n1, .int .i64 n2] 64 (0, 0))) (h2 : Below w0.heap.size w w') (h3 : KeepBut w w' b none) : LW w0 wS b g cs n1 n2 w' :=
  ⟨h1, h.old, h.bel0.trans h2, h.bel.trans h2, h.keep.trans h3 (.inl rfl), h3.blk h.blk (blk_ne h.blk h.lk (by decide)) (by simp)⟩
theorem LW.move {w0 wS w w' : World} {b g : Nat} {cs : Array Value} {m1 m2 : Int} (h : LW w0 wS b g cs m1 m2 w) (hb : Below w.heap.size w w') : LW w0 wS b g cs m1 m2 w' :=
  h.step ((hb.block b (blk_lt h.lk)).trans h.lk) (hb.mono h.bel0.size) (KeepBut.of_below hb b none)
theorem LW.set0 {w0 wS w : World} {b g : Nat} {cs : Array Value} {m1 m2 : Int} (h : LW w0 wS b g cs m1 m2 w) (u : Int) : LW w0 wS b g cs u m2 (w.setCell ⟨b, 0, none⟩ (.int .i64 u)) :=
  h.step (blk_set h.lk 0 _) ((Below.refl _ w).setCell (p := ⟨b, 0, none⟩) h.old _) ((KeepBut.refl w b none).set_ 0 _)
theorem LW.set1 {w0 wS w : World} {b g : Nat} {cs : Array Value} {m1 m2 : Int} (h : LW w0 wS b g cs m1 m2 w) (u : Int) : LW w0 wS b g cs m1 u (w.setCell ⟨b, 1, none⟩ (.int .i64 u)) :=
  h.step (blk_set h.lk 1 _) ((Below.refl _ w).setCell (p := ⟨b, 1, none⟩) h.old _) ((KeepBut.refl w b none).set_ 1 _)
theorem LW.start {w0 w : World} {b : Nat} {m1 m2 : Int} (h : w.heap[b]? = some (.cells #[.int .i64 m1, .int .i64 m2] 64 (0, 0))) (ho : w0.heap.size ≤ b) (hB : Below w0.heap.size w0 w) (cs : Array Value) : LW w0 w b w.heap.size cs m1 m2 (w.alloc (.cells cs 35)) := by
  have hb := (Below.refl w.heap.size w).alloc (Nat.le_refl _) (.cells cs 35)
  exact ⟨(hb.block b (blk_lt h)).trans h, ho, hB.trans (hb.mono hB.size), hb.mono hB.size, KeepBut.of_below hb b none, heap_alloc_new w _⟩
theorem LW.cells {w0 wS w : World} {b g : Nat} {m1 m2 : Int} {x0 x1 x2 x3 x4 : Value} (h : LW w0 wS b g #[x0, x1, x2, x3, x4] m1 m2 w) :
    w.cell? ⟨g, 0, none⟩ = some x0 ∧ w.cell? ⟨g, 1, none⟩ = some x1 ∧ w.cell? ⟨g, 2, none⟩ = some x2 ∧ w.cell? ⟨g, 3, none⟩ = some x3 ∧ w.cell? ⟨g, 4, none⟩ = some x4 ∧ w.cell? ⟨b, 0, none⟩ = some (.int .i64 m1) ∧ w.cell? ⟨b, 1, none⟩ = some (.int .i64 m2) ∧ w.frozen? ⟨b, 0, none⟩ = false ∧ w.frozen? ⟨b, 1, none⟩ = false :=
  ⟨(blk_cell h.blk 0).trans rfl, (blk_cell h.blk 1).trans rfl, (blk_cell h.blk 2).trans rfl, (blk_cell h.blk 3).trans rfl, (blk_cell h.blk 4).trans rfl, (blk_cell h.lk 0).trans rfl, (blk_cell h.lk 1).trans rfl, blk_frozen h.lk 0, blk_frozen h.lk 1⟩
set_option maxHeartbeats 8000000 in
set_option maxRecDepth 100000 in
theorem look_calls (k : Nat) (w0 : World) (hG : Glob w0) : ∀ (n : Nat) (t : S35), SizeOf.sizeOf t ≤ n → ∀ (A2 : Option Addr) (c2 : Nat) (A4 : Option Addr) (c4 : Nat) (b : Nat) (d m1 m2 : Int) (r : Int × Int) (w : World),
    Kd.C k61 w0 A2 t.f2.length t.f2 → t.f2.length ≤ c2 → Kd.C k35 w0 A4 t.f4.length t.f4 → t.f4.length ≤ c4 → w.heap[b]? = some (.cells #[.int .i64 m1, .int .i64 m2] 64 (0, 0)) → w0.heap.size ≤ b → Below w0.heap.size w0 w → lookF k t d m1 = some r →
    Calls Tryz.prog 27 #[.pointer (some ⟨b, 0, none⟩), .agg #[.int .i64 t.f0, .string t.f1, .slice A2 t.f2.length c2, .string t.f3, .slice A4 t.f4.length c4], .int .i64 d] w fun e w' => e = .returned (.int .i64 r.1) ∧ (∃ m' : Int, w'.heap[b]? = some (.cells #[.int .i64 r.2, .int .i64 m'] 64 (0, 0))) ∧ Below w0.heap.size w w' ∧ KeepBut w w' b none := by
  intro n
  induction n with
  | zero => intro t h; cases t; simp at h
  | succ n ih =>
    intro t hn A2 c2 A4 c4 b d m1 m2 r w hC2 hl2 hC4 hl4 hL hO hB hf
    have T0 := Aside0.mk (LW.start hL hO hB #[.int .i64 t.f0, .string t.f1, .slice A2 t.f2.length c2, .string t.f3, .slice A4 t.f4.length c4])
    have HG := Aside0.mk hG
    have HC2 := Aside0.mk hC2
    have HC4 := Aside0.mk hC4
    have HL2 := Aside0.mk hl2
    have HL4 := Aside0.mk hl4
    have IH := Aside0.mk ih
    have HN := Aside0.mk hn
    have hbig4 : t.f4.length ≤ 9223372036854775807 := hC4.2.1
    clear hO hB hG hC2 hC4 ih hn hL hl2 hl4
    have hf' : lookF k ⟨t.f0, t.f1, t.f2, t.f3, t.f4⟩ d m1 = some r := by rw [tree_one]; exact hf
    clear hf
    rw [lookF] at hf'
    obtain ⟨a0, b0, c0, d0, e0, l0, l1, z0, z1⟩ := T0.out.cells
    obtain ⟨mm, hmm⟩ : ∃ mm : Int, ∀ W, (Builtin.max_ #[3, 3] 3 #[.int .i64 m2, .int .i64 d]).run Tryz.prog W = .ok (.int .i64 mm) W := ⟨if m2 < d then d else m2, fun W => by rw [max_two, max2_int]; rfl⟩
    by_cases h1 : 64 < d
    · rw [if_pos h1] at hf'
      obtain rfl := Option.some.inj hf'
      have hd : decide (64 < d) = true := decide_eq_true h1
      clear h1
      go_enter Tryz.func27, Tryz.ntmps27
      go_wp2
      go_ret
      exact ⟨rfl, ⟨_, T0.out.lk⟩, T0.out.bel, T0.out.keep⟩
    rw [if_neg h1] at hf'
    have hd : decide (64 < d) = false := decide_eq_false h1
    clear h1
    by_cases h2 : 4096 ≤ m1
    · rw [if_pos h2] at hf'
      obtain rfl := Option.some.inj hf'
      have hd2 : decide (4096 ≤ m1) = true := decide_eq_true h2
      clear h2
      go_enter Tryz.func27, Tryz.ntmps27
      go_wp2
      go_ret
      exact ⟨rfl, ⟨_, T0.out.lk⟩, T0.out.bel, T0.out.keep⟩
    rw [if_neg h2] at hf'
    have hd2 : decide (4096 ≤ m1) = false := decide_eq_false h2
    clear h2
    obtain ⟨e1, he1, hf2⟩ := Option.bind_eq_some_iff.mp hf'
    have HO := Aside0.mk (tree_own.calls k t.f0 t.f1 A2 c2 t.f2 t.f3 A4 c4 t.f4 e1 (w.alloc (.cells #[.int .i64 t.f0, .string t.f1, .slice A2 t.f2.length c2, .string t.f3, .slice A4 t.f4.length c4] 35)) (Kd.C_below HC2.out T0.out.bel0) HL2.out (Kd.C_below HC4.out T0.out.bel0) HL4.out he1 (Glob.step HG.out T0.out.bel0))
    clear hf' he1
    by_cases h3 : e1 = 0
    case neg =>
      rw [if_neg h3] at hf2
      obtain rfl := Option.some.inj hf2
      have hd3 : (e1 != 0) = true := bne_iff_ne.mpr h3
      clear h3 hf2
      go_enter Tryz.func27, Tryz.ntmps27
      go_wp2_with (go_at_call 44; refine HO.out.mono ?_)
      rintro e w2 ⟨rfl, hB2⟩
      have T1 := T0.out.move hB2
      go_wp2
      go_ret
      exact ⟨rfl, ⟨_, T1.lk⟩, T1.bel, T1.keep⟩
    rw [if_pos h3] at hf2
    subst h3
    by_cases h4 : t.f0 = 2
    · rw [if_pos h4] at hf2
      obtain rfl := Option.some.inj hf2
      have hd4 : (t.f0 == 2) = true := beq_iff_eq.mpr h4
      clear h4 hf2
      go_enter Tryz.func27, Tryz.ntmps27
      go_wp2_with (go_at_call 44; refine HO.out.mono ?_)
      rintro e w2 ⟨rfl, hB2⟩
      have T1 := Aside0.mk (T0.out.move hB2)
      have T2 := Aside0.mk (T1.out.set0 (wrap64 (m1 + 1)))
      have T3 := Aside0.mk (T2.out.set1 mm)
      clear hB2 HO a0 b0 c0 d0 e0 l0 l1 z0 z1 T0
      obtain ⟨a0, b0, c0, d0, e0, l0, l1, z0, z1⟩ := T1.out.cells
      obtain ⟨a1, b1, c1, d1, e1, l10, l11, z10, z11⟩ := T2.out.cells
      obtain ⟨a2, b2, c2', d2, e2, l20, l21, z20, z21⟩ := T3.out.cells
      go_wp2
      go_ret
      exact ⟨rfl, ⟨_, T3.out.lk⟩, T3.out.bel, T3.out.keep⟩
    rw [if_neg h4] at hf2
    have hd4 : (t.f0 == 2) = false := beq_eq_false_iff_ne.mpr h4
    clear h4
    have HF := Aside0.mk hf2
    clear hf2
    go_enter Tryz.func27, Tryz.ntmps27
    go_wp2_with (go_at_call 44; refine HO.out.mono ?_)
    rintro e w2 ⟨rfl, hB2⟩
    have T1 := Aside0.mk (T0.out.move hB2)
    have T2 := Aside0.mk (T1.out.set0 (wrap64 (m1 + 1)))
    have T3 := Aside0.mk (T2.out.set1 mm)
    clear hB2 HO a0 b0 c0 d0 e0 l0 l1 z0 z1 T0
    obtain ⟨a0, b0, c0, d0, e0, l0, l1, z0, z1⟩ := T1.out.cells
    obtain ⟨a1, b1, c1, d1, e1, l10, l11, z10, z11⟩ := T2.out.cells
    obtain ⟨a2, b2, c2', d2, e2, l20, l21, z20, z21⟩ := T3.out.cells
    go_wp2
    clear a0 b0 c0 d0 e0 l0 l1 z0 z1 a1 b1 c1 d1 e1 l10 l11 z10 z11 T1 T2
    go_loopw [47] (fun v wr => ∃ i : Nat, i ≤ t.f4.length ∧ v = .int .i64 i ∧ Aside0 (∃ m1 m2 : Int, lookK k (t.f4.drop i) (wrap64 (d + 1)) m1 = some r ∧ LW w0 w b w.heap.size #[.int .i64 t.f0, .string t.f1, .slice A2 t.f2.length c2, .string t.f3, .slice A4 t.f4.length c4] m1 m2 wr)) (fun v _ => t.f4.length - (intOf v).toNat)
    case atStart => exact ⟨0, Nat.zero_le _, rfl, ⟨⟨_, _, HF.out, T3.out⟩⟩⟩
    case round =>
      obtain ⟨i, hi, rfl, ⟨n1, n2, hbd, T6⟩⟩ := hrel
      clear a2 b2 c2' d2 e2 l20 l21 z20 z21 T3
      by_cases hlt : i < t.f4.length
      · have hltz : (i : Int) < (t.f4.length : Int) := by omega
        have hmem : rd_T35 t.f4 (i : Int) ∈ t.f4 := rd36_mem _ _ hlt
        rw [drop36 _ _ hlt, lookK] at hbd
        obtain ⟨ad, B2, c52, B4, c54, rfl, y0, y1, y2, y3, y4, g2, g3, g4, g5⟩ := at_T35 HC4.out (i : Int) (by omega) hltz
        have y0 := pw_cell_below (T6.bel0) y0
        have y1 := pw_cell_below (T6.bel0) y1
        have y2 := pw_cell_below (T6.bel0) y2
        have y3 := pw_cell_below (T6.bel0) y3
        have y4 := pw_cell_below (T6.bel0) y4
        rw [Int.toNat_natCast] at y0 y1 y2 y3 y4
        have hsz : SizeOf.sizeOf (rd_T35 t.f4 (i : Int)) ≤ n := by
          have h1 := List.sizeOf_lt_of_mem hmem
          have h2 := HN.out
          have h3 := size_kids t
          omega
        generalize rd_T35 t.f4 (i : Int) = a at hbd y0 y1 y2 y3 y4 g2 g3 g4 g5 hsz
        obtain ⟨e5, he5, hbd2⟩ := Option.bind_eq_some_iff.mp hbd
        have X0 := Aside0.mk (T6.move ((Below.refl wr.heap.size wr).alloc (Nat.le_refl _) (.cells #[.int .i64 a.f0, .string a.f1, .slice B2 a.f2.length c52, .string a.f3, .slice B4 a.f4.length c54] 35)))
        have hq := heap_alloc_new wr (.cells #[.int .i64 a.f0, .string a.f1, .slice B2 a.f2.length c52, .string a.f3, .slice B4 a.f4.length c54] 35)
        have HI := Aside0.mk (IH.out a hsz B2 c52 B4 c54 b (wrap64 (d + 1)) n1 n2 e5 _ g3 g2 g5 g4 X0.out.lk X0.out.old X0.out.bel0 he5)
        have HF2 := Aside0.mk hbd2
        have q0 := (blk_cell hq 0).trans rfl
        have q1 := (blk_cell hq 1).trans rfl
        have q2 := (blk_cell hq 2).trans rfl
        have q3 := (blk_cell hq 3).trans rfl
        have q4 := (blk_cell hq 4).trans rfl
        clear hbd he5 hbd2 T6 hmem hsz g2 g3 g4 g5 hq HF
        by_cases h9 : e5.1 = 0
        · have hd9 : (e5.1 != 0) = false := bne_eq_false_iff_eq.mpr h9
          go_wp2_with (go_at_call 27; refine HI.out.mono ?_)
          rintro e w5 ⟨rfl, ⟨m', h5⟩, hB5, hK5⟩
          have X3 := Aside0.mk (X0.out.step h5 hB5 hK5)
          have HF4 := HF2.out
          rw [if_pos h9] at HF4
          have HF3 := Aside0.mk HF4
          clear HF4
          clear h5 hB5 hK5 HI X0 q0 q1 q2 q3 q4 HF2 h9
          go_wp2
          go_roundw
          case rel => exact ⟨i + 1, by omega, by go_num, ⟨⟨_, _, HF3.out, X3.out⟩⟩⟩
          case measure => simp [intOf]; omega
        · have hd9 : (e5.1 != 0) = true := bne_iff_ne.mpr h9
          go_wp2_with (go_at_call 27; refine HI.out.mono ?_)
          rintro e w5 ⟨rfl, ⟨m', h5⟩, hB5, hK5⟩
          have X3 := Aside0.mk (X0.out.step h5 hB5 hK5)
          have HF3 := HF2.out
          rw [if_neg h9] at HF3
          obtain rfl := Option.some.inj HF3
          clear h5 hB5 hK5 HI X0 q0 q1 q2 q3 q4 HF2 h9 HF3
          go_wp2
          go_ret
          exact ⟨rfl, ⟨_, X3.out.lk⟩, X3.out.bel, X3.out.keep⟩
      · rw [List.drop_of_length_le (by omega), lookK] at hbd
        obtain rfl := Option.some.inj hbd
        have T7 := Aside0.mk T6
        clear T6 hbd
        go_wp2
        go_ret
        exact ⟨rfl, ⟨_, T7.out.lk⟩, T7.out.bel, T7.out.keep⟩
def tree_Check.f (k : Nat) (f0 : Int) (f1 : ByteArray) (f2 : List S61) (f3 : ByteArray) (f4 : List S35) : Option Int := (lookF k ⟨f0, f1, f2, f3, f4⟩ 1 0).map (·.1)
theorem tree_Check.mono : ∀ a0 a1 a2 a3 a4 k, LeO (tree_Check.f k a0 a1 a2 a3 a4) (tree_Check.f (k + 1) a0 a1 a2 a3 a4) := fun _ _ _ _ _ k => LeO.map _ (lookF_mono k _ _ _)
set_option maxHeartbeats 4000000 in
set_option maxRecDepth 100000 in
theorem tree_Check.calls (k : Nat) (a0_0 : Int) (a0_1 : ByteArray) (A0_2 : Option Addr) (c0_2 : Nat) (l0_2 : List (S61)) (a0_3 : ByteArray) (A0_4 : Option Addr) (c0_4 : Nat) (l0_4 : List (S35)) (r : Int) (w : World) (hr0_2 : Kd.C k61 w A0_2 l0_2.length l0_2) (hc0_2 : l0_2.length ≤ c0_2) (hr0_4 : Kd.C k35 w A0_4 l0_4.length l0_4) (hc0_4 : l0_4.length ≤ c0_4) (h : tree_Check.f k a0_0 a0_1 l0_2 a0_3 l0_4 = some r)  (hG : Glob w := by first | exact Glob.step HG.out (by repeat (first | (with_reducible first | exact HB.out | apply below_alloc | apply pw_below_drewN | apply below_drew1) | exact HB.out | (refine below_set ?_ (Aside0.out (by assumption))))) | exact HG.out | assumption) :
    Calls Tryz.prog 16 #[.agg #[.int .i64 a0_0, .string a0_1, .slice A0_2 l0_2.length c0_2, .string a0_3, .slice A0_4 l0_4.length c0_4]] w fun e w' => e = .returned (.int .i64 r) ∧ Below w.heap.size w w' := by
  obtain ⟨r2, hr2, rfl⟩ := Option.map_eq_some_iff.mp h
  clear h
  have hb1 := (Below.refl w.heap.size w).alloc (Nat.le_refl _) (.cells #[.int .i64 a0_0, .string a0_1, .slice A0_2 l0_2.length c0_2, .string a0_3, .slice A0_4 l0_4.length c0_4] 35)
  have hx1 := heap_alloc_new w (.cells #[.int .i64 a0_0, .string a0_1, .slice A0_2 l0_2.length c0_2, .string a0_3, .slice A0_4 l0_4.length c0_4] 35)
  have hs1 : (w.alloc (.cells #[.int .i64 a0_0, .string a0_1, .slice A0_2 l0_2.length c0_2, .string a0_3, .slice A0_4 l0_4.length c0_4] 35)).heap.size = w.heap.size + 1 := Array.size_push ..
  have hb2 := hb1.alloc hb1.size (.cells #[.int .i64 0, .int .i64 0] 64)
  have hx2 := heap_alloc_new (w.alloc (.cells #[.int .i64 a0_0, .string a0_1, .slice A0_2 l0_2.length c0_2, .string a0_3, .slice A0_4 l0_4.length c0_4] 35)) (.cells #[.int .i64 0, .int .i64 0] 64)
  have hx3 := (Lib.alloc_old _ (.cells #[.int .i64 0, .int .i64 0] 64) w.heap.size (blk_lt hx1)).trans hx1
  rw [hs1] at hx2
  have HI := Aside0.mk (look_calls k w hG _ ⟨a0_0, a0_1, l0_2, a0_3, l0_4⟩ (Nat.le_refl _) A0_2 c0_2 A0_4 c0_4 (w.heap.size + 1) 1 0 0 r2 _ hr0_2 hc0_2 hr0_4 hc0_4 hx2 (by omega) hb2 hr2)
  have q0 := (blk_cell hx3 0).trans rfl
  have q1 := (blk_cell hx3 1).trans rfl
  have q2 := (blk_cell hx3 2).trans rfl
  have q3 := (blk_cell hx3 3).trans rfl
  have q4 := (blk_cell hx3 4).trans rfl
  have HB := Aside0.mk hb2
  clear hx1 hx2 hx3 hs1 hb1 hb2 hr2 hr0_2 hr0_4 hc0_2 hc0_4 hG
  go_enter Tryz.func16, Tryz.ntmps16
  go_wp2_with (go_at_call 27; refine HI.out.mono ?_; rintro e w5 ⟨rfl, ⟨m', h5⟩, hB5, hK5⟩)
  go_ret
  exact ⟨rfl, HB.out.trans hB5⟩
end Go.Proofs.YtealmfcimoomlaaGreatDoor.PA

/- Names, texts, attributes, nodes by themselves: what is wrong with them, without rounds. -/
namespace Go.Proofs.YtealmfcimoomlaaGreatDoor.PA
open Go.RowKit Go.Proofs.YtealmfcimoomlaaGreatDoorW.PrintWords Go.Proofs.YtealmfcimoomlaaGreatDoorW.PrintLast Go.Proofs.YtealmfcimoomlaaGreatDoorW.PrintMore
set_option linter.unusedVariables false
set_option linter.unusedSimpArgs false
def nameB (s : ByteArray) : Bool := (chars_Name.f (s.size + 2) s).getD false
theorem name_evP (s : ByteArray) (hs : s.size ≤ 140737488355328) : Ev (fun k => chars_Name.f k s) (nameB s) := by
  obtain ⟨b, hb⟩ := Name_ends s hs (s.size + 2) (Nat.le_refl _)
  refine ⟨s.size + 2, fun k hk => ?_⟩
  have : nameB s = b := by unfold nameB; rw [hb]; rfl
  rw [this]
  exact at_rounds (g := fun k => chars_Name.f k s) (fun k => chars_Name.mono _ _) hk hb
theorem nameB_size {s : ByteArray} (h : nameB s = true) : s.size ≤ 32 := by
  unfold nameB chars_Name.f at h
  by_cases h1 : s.toList = ([] : List UInt8)
  · rw [Lib.toList_data] at h1
    rw [Lib.size_eq, h1]
    exact Nat.zero_le _
  · rw [if_neg h1] at h
    by_cases h2 : (s.size : Int) > 32
    · rw [if_pos h2, chars_Name.j0.eq_2, if_pos rfl] at h
      cases h
    · omega
def textE (s : ByteArray) : Int := (textR s).2
theorem text_evP (s : ByteArray) (hs : s.size ≤ 140737488355328) : Ev (fun k => chars_Text.f k s) (textR s) := ⟨s.size + 2, fun k hk => by show chars_Text.f k s = _; unfold chars_Text.f; rw [text_eq s hs k hk]; rfl⟩
def attrsI (x0 : List S61) : Nat → Nat → Int
  | 0, _ => 0
  | d + 1, i =>
    if nameB (rd_T61 x0 (i : Int)).f0 = true then
      (if (decide (0 < i) && !(Op.bytesLess ((rd_T61 x0 ((i - 1 : Nat) : Int)).f0).toList ((rd_T61 x0 (i : Int)).f0).toList)) = true then 6
       else if textE (rd_T61 x0 (i : Int)).f1 = 0 then attrsI x0 d (i + 1) else textE (rd_T61 x0 (i : Int)).f1)
    else 6
def attrsE (l : List S61) : Int := if l.length > 32 then 2 else attrsI l l.length 0
def smallA (l : List S61) : Prop := ∀ a ∈ l, a.f0.size ≤ 140737488351232 ∧ a.f1.size ≤ 140737488351232
theorem rd54_mem (l : List S61) (i : Nat) (h : i < l.length) : rd_T61 l (i : Int) ∈ l := by
  have := drop54 l i h
  exact List.mem_of_mem_drop (this ▸ List.mem_cons_self)
theorem attrs_evP (x0 : List S61) (hx : smallA x0) (hl : x0.length ≤ 32) : ∀ (d i : Nat), i + d = x0.length → Ev (fun k => tree_attrs.l0 k x0 x0 (x0.length : Int) (i : Int)) (attrsI x0 d i)
  | 0, i, h => Ev.step (f := fun _ => some 0) (fun k => by rw [tree_attrs.l0.eq_2, if_neg (by omega)]) (Ev.now 0)
  | d + 1, i, h => by
    have hi : i < x0.length := by omega
    have hm := hx _ (rd54_mem x0 i hi)
    have hw : wrap64 ((i : Int) + 1) = ((i + 1 : Nat) : Int) := by unfold wrap64; omega
    have ih := attrs_evP x0 hx hl d (i + 1) (by omega)
    rw [attrsI]
    generalize ha : rd_T61 x0 (i : Int) = a at hm ⊢
    have hj : ∀ bl, Ev (fun k => tree_attrs.j1 k x0 x0 (x0.length : Int) (i : Int) bl a.f0 a.f1) (if bl = true then 6 else if textE a.f1 = 0 then attrsI x0 d (i + 1) else textE a.f1) := by
      intro bl
      cases bl with
      | true => exact Ev.step (f := fun _ => some 6) (fun k => by rw [tree_attrs.j1.eq_2, if_pos rfl]) (Ev.now 6)
      | false =>
        refine Ev.step (fun k => by rw [tree_attrs.j1.eq_2, if_neg (by decide)]) (Ev.bind (text_evP a.f1 (by omega)) ?_)
        rw [if_neg (by decide)]
        unfold textE
        by_cases ht : (textR a.f1).2 = 0
        · simp only [if_pos ht, hw]
          exact ih
        · simp only [if_neg ht]
          exact Ev.now _
    refine Ev.step (fun k => by rw [tree_attrs.l0.eq_2, if_pos (by omega), if_pos (by omega), if_pos (by omega), ha]) (Ev.bind (name_evP a.f0 (by omega)) ?_)
    cases hn : nameB a.f0 with
    | false => simp only [if_neg (show ¬ (false = true) by decide)]; exact hj true
    | true =>
      simp only [if_pos rfl, if_true]
      by_cases h0 : 0 < i
      · have hw1 : wrap64 ((i : Int) - 1) = ((i - 1 : Nat) : Int) := by unfold wrap64; omega
        rw [hw1]
        simp only [if_pos (show (i : Int) > 0 by omega), if_pos (show (0 : Int) ≤ ((i - 1 : Nat) : Int) by omega), if_pos (show ((i - 1 : Nat) : Int) < (x0.length : Int) by omega), decide_eq_true h0, Bool.true_and]
        exact hj _
      · simp only [if_neg (show ¬ (i : Int) > 0 by omega), decide_eq_false h0, Bool.false_and]
        exact hj false
theorem attrsE_P (l : List S61) (hx : smallA l) : Ev (fun k => tree_attrs.f k l) (attrsE l) := by
  unfold tree_attrs.f attrsE
  by_cases h : l.length > 32
  · simp only [if_pos h, if_pos (show (l.length : Int) > 32 by omega)]; exact Ev.now 2
  · simp only [if_neg h, if_neg (show ¬ (l.length : Int) > 32 by omega)]; exact attrs_evP l hx (by omega) l.length 0 (by omega)
theorem attrsI_ok (x0 : List S61) : ∀ (d i : Nat), i + d = x0.length → attrsI x0 d i = 0 → ∀ a ∈ x0.drop i, nameB a.f0 = true ∧ textE a.f1 = 0
  | 0, i, h, _ => by rw [List.drop_of_length_le (by omega)]; intro a ha; cases ha
  | d + 1, i, h, he => by
    rw [attrsI] at he
    rw [drop54 x0 i (by omega)]
    by_cases h1 : nameB (rd_T61 x0 (i : Int)).f0 = true
    · rw [if_pos h1] at he
      split at he
      · cases he
      · by_cases h2 : textE (rd_T61 x0 (i : Int)).f1 = 0
        · rw [if_pos h2] at he
          intro a ha
          rcases List.mem_cons.1 ha with rfl | ha
          · exact ⟨h1, h2⟩
          · exact attrsI_ok x0 d (i + 1) (by omega) he a ha
        · rw [if_neg h2] at he; exact absurd he h2
    · rw [if_neg h1] at he; cases he
theorem attrsE_ok {l : List S61} (h : attrsE l = 0) : l.length ≤ 32 ∧ ∀ a ∈ l, nameB a.f0 = true ∧ textE a.f1 = 0 := by
  unfold attrsE at h
  by_cases h1 : l.length > 32
  · rw [if_pos h1] at h; cases h
  · rw [if_neg h1] at h
    exact ⟨by omega, attrsI_ok l l.length 0 (by omega) h⟩
def ownE (f0 : Int) (f1 : ByteArray) (f2 : List S61) (f3 : ByteArray) : Int := if f0 = 1 then (if nameB f1 = true then attrsE f2 else 6) else if f0 = 2 then textE f3 else 1
theorem ownE_P (f0 : Int) (f1 : ByteArray) (f2 : List S61) (f3 : ByteArray) (f4 : List S35) (h1 : f1.size ≤ 140737488351232) (h2 : smallA f2) (h3 : f3.size ≤ 140737488351232) : Ev (fun k => tree_own.f k f0 f1 f2 f3 f4) (ownE f0 f1 f2 f3) := by
  unfold tree_own.f ownE
  by_cases c1 : f0 = 1
  · simp only [if_pos c1]
    refine Ev.bind (name_evP f1 (by omega)) ?_
    cases nameB f1 with
    | true => simp only [if_true]; exact Ev.bind (attrsE_P f2 h2) (Ev.now _)
    | false => simp only [if_neg (show ¬ (false = true) by decide)]; exact Ev.now 6
  · simp only [if_neg c1]
    by_cases c2 : f0 = 2
    · simp only [if_pos c2]; exact Ev.bind (text_evP f3 (by omega)) (Ev.now _)
    · simp only [if_neg c2]; exact Ev.now 1
end Go.Proofs.YtealmfcimoomlaaGreatDoor.PA

/- scan.reader: what its parts answer, without rounds; what package-level variables hold stays. -/
namespace Go.Proofs.YtealmfcimoomlaaGreatDoor.PA
open Go.RowKit Go.Proofs.YtealmfcimoomlaaGreatDoorW.PrintWords Go.Proofs.YtealmfcimoomlaaGreatDoorW.PrintLast Go.Proofs.YtealmfcimoomlaaGreatDoorW.PrintMore
set_option linter.unusedVariables false
set_option linter.unusedSimpArgs false
/-- What the package-level variables hold, they held when the call began, below B. -/
def Env (B : Nat) (w : World) : Prop := ∃ w0 : World, B = w0.heap.size ∧ Glob w0 ∧ Glob2 w0 ∧ Glob3 w0 ∧ Below B w0 w
theorem Env.step {B : Nat} {w w' : World} (h : Env B w) (hb : Below B w w') : Env B w' := let ⟨w0, h1, h2, h3, h4, h5⟩ := h; ⟨w0, h1, h2, h3, h4, h5.trans hb⟩
theorem Env.g1 {B : Nat} {w : World} (h : Env B w) : Glob w := by obtain ⟨w0, rfl, h2, h3, h4, h5⟩ := h; exact h2.step h5
theorem Env.g2 {B : Nat} {w : World} (h : Env B w) : Glob2 w := by obtain ⟨w0, rfl, h2, h3, h4, h5⟩ := h; exact h3.step h5
theorem Env.g3 {B : Nat} {w : World} (h : Env B w) : Glob3 w := by obtain ⟨w0, rfl, h2, h3, h4, h5⟩ := h; exact h4.step h5
theorem Env.le {B : Nat} {w : World} (h : Env B w) : B ≤ w.heap.size := by obtain ⟨w0, rfl, h2, h3, h4, h5⟩ := h; exact h5.size
def charP (s : ByteArray) (st : St) : Res ByteArray := if (chr s st.at_).2 = 0 then .bad st.at_ 7 else .ok (s.extract st.at_ (st.at_ + (chr s st.at_).2)) { st with at_ := st.at_ + (chr s st.at_).2 }
theorem charP_calls (B r : Nat) (tell : Value) (s : ByteArray) (st : St) (w : World) (h : Rd B r tell s st w) (hE : Env B w) (ha : st.at_ < s.size) (hs : s.size ≤ 262144) :
    Calls Tryz.prog 69 #[.pointer (some ⟨r, 0, none⟩)] w (Ends B r tell s (fun v => .string v) w (charP s st)) := by
  have hf := first_eq 0 (s.extract st.at_ s.size) (by rw [ByteArray.size_extract]; omega)
  rw [chr_extract s st.at_ (by omega)] at hf
  have hle := chr_le s st.at_ ha
  unfold charP
  by_cases h0 : (chr s st.at_).2 = 0
  · rw [if_pos h0] at hf ⊢
    have := char_calls B r tell s st w 1 0 0 7 h (by unfold chars_First.f; rw [hf]; rfl) (by omega) (by omega) hE.g1
    exact this
  · rw [if_neg h0] at hf ⊢
    have := char_calls B r tell s st w 1 (chr s st.at_).2 _ 0 h (by unfold chars_First.f; rw [hf]; rfl) (by omega) (by omega) hE.g1
    exact this
def refP (s : ByteArray) (st : St) : Res ByteArray := refF s st (unAll (refS s st.at_) (refS s st.at_).size [] 0).1 (unAll (refS s st.at_) (refS s st.at_).size [] 0).2.2
theorem refP_calls (B r : Nat) (tell : Value) (s : ByteArray) (st : St) (w : World) (h : Rd B r tell s st w) (hE : Env B w) (ha : st.at_ ≤ s.size) (hs : s.size ≤ 262144) :
    Calls Tryz.prog 68 #[.pointer (some ⟨r, 0, none⟩)] w (Ends B r tell s (fun v => .string v) w (refP s st)) :=
  reference_calls B r tell s st w ((refS s st.at_).size + 21) _ _ _ h (unescape_eq (refS s st.at_) (by have := refS_size s st.at_; omega) _ (Nat.le_refl _)) ha (by omega) hE.g1 hE.g2
def nameP (s : ByteArray) (st : St) : Res ByteArray := nameF s st (nameB (s.extract st.at_ (skipF s namedV st.at_)))
theorem nameP_calls (B r : Nat) (tell : Value) (s : ByteArray) (st : St) (w : World) (h : Rd B r tell s st w) (ha : st.at_ ≤ s.size) (hs : s.size ≤ 262144) :
    Calls Tryz.prog 116 #[.pointer (some ⟨r, 0, none⟩)] w (Ends B r tell s (fun v => .string v) w (nameP s st)) := by
  obtain ⟨k, hk⟩ := name_evP (s.extract st.at_ (skipF s namedV st.at_)) (by rw [ByteArray.size_extract]; omega)
  exact name_calls B r tell s st w k _ h (hk k (Nat.le_refl _)) ha (by omega)
def letterV (c : Int) : Bool := (scan_letter.f 64 c).getD false
theorem letterV_fin : ∀ n : Fin 256, scan_letter.f 64 (n.val : Int) = some (letterV (n.val : Int)) := by decide +kernel
theorem letterV_f (c : Int) (h0 : 0 ≤ c) (h1 : c ≤ 255) : scan_letter.f 64 c = some (letterV c) := by
  have := letterV_fin ⟨c.toNat, by omega⟩
  simp only [Int.toNat_of_nonneg h0] at this
  exact this
theorem indexP (B : Nat) (s mark : ByteArray) (fr : Nat) (w : World) (hE : Env B w) (hs : s.size ≤ 262144) :
    Calls Tryz.prog 54 #[.string (s.extract fr s.size), .string mark] w fun e w' => e = .returned (.int .i64 (Lib.index (s.extract fr s.size).data.toList mark.data.toList)) ∧ Below w.heap.size w w' := by
  obtain ⟨m, hm⟩ := hE.g3.maxLen
  refine (Tryz.strings_Index (s.extract fr s.size) mark m w (by rw [ByteArray.size_extract]; omega) hm).mono ?_
  rintro e w' ⟨rfl, rfl⟩
  exact ⟨rfl, Below.refl _ _⟩
end Go.Proofs.YtealmfcimoomlaaGreatDoor.PA
