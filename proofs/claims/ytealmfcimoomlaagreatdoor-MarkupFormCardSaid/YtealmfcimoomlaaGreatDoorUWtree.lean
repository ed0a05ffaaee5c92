/- The writer over a tree: writer.tree. -/
import Derived.Test.YtealmfcimoomlaaGreatDoorUSolid
namespace Go.Proofs.YtealmfcimoomlaaGreatDoor.PA
open Go.RowKit Go.Proofs.YtealmfcimoomlaaGreatDoorW.PrintWords Go.Proofs.YtealmfcimoomlaaGreatDoorW.PrintLast Go.Proofs.YtealmfcimoomlaaGreatDoorW.PrintMore
set_option linter.unusedVariables false
set_option linter.unusedSimpArgs false
theorem TW.start {w0 w : World} {b : Nat} {bs : List UInt8} (h : Wri w0.heap.size b bs w) (hb : Below w0.heap.size w0 w) (cs : Array Value) : TW w0 w b w.heap.size cs bs (w.alloc (.cells cs 35)) :=
  ⟨h.alloc _, hb.alloc h.1 _, (Below.refl _ w).alloc h.1 _, (Lib.OthersKept.refl _ _ w).alloc _, heap_alloc_new w _, by have := h.lt; omega⟩
theorem esc_size {k : Nat} {s : ByteArray} {q : Bool} {e : ByteArray × Int × Int} (h : chars_Escape.f k s q = some e) : e.1.size ≤ 98304 := by
  unfold chars_Escape.f at h
  obtain ⟨t, _, h⟩ := Option.bind_eq_some_iff.mp h
  split at h
  · split at h
    · obtain rfl := Option.some.inj h
      have := escAll_len q s.data.toList
      rw [← Lib.size_eq] at this
      show (escAll q s.data.toList).length ≤ 98304
      omega
    · cases h
  · obtain rfl := Option.some.inj h
    exact Nat.zero_le _
theorem eg33 (args : Array Value) (w : World) : (callFunc 49 args).run Tryz.prog w = .ok (.enter 49 args) w := (enters_of Tryz.func49 (by kernel_rfl) rfl : Enters _ _) args w
theorem contains_calls (A : Option Addr) (c : Nat) (zs : List S35) (w : World) (hr : Kd.C k35 w A zs.length zs) :
    Calls Tryz.prog 48 #[.slice A zs.length c, .func (.func 49) #[] #[]] w fun e w' => e = .returned (.bool (zs.any solid)) ∧ Below w.heap.size w w' := by
  refine ContainsFunc_trees 49 #[] eg33 A c zs solid w hr ?_
  intro W x A2 A4 c2 c4 _ hb
  refine (solid_calls x.f0 x.f1 (.slice A2 x.f2.length c2) x.f3 (.slice A4 x.f4.length c4) W rfl rfl).mono ?_
  rintro e w' ⟨rfl, h⟩
  exact ⟨rfl, hb.trans (h.mono hb.size)⟩
theorem small1 (a : ByteArray) (ha : a.size ≤ 140737488000000) : ∀ s ∈ [a], s.size ≤ 140737488000000 := by
  intro s hs
  rcases List.mem_cons.1 hs with rfl | hs
  · exact ha
  · cases hs
theorem small2 (a b : ByteArray) (ha : a.size ≤ 140737488000000) (hb : b.size ≤ 140737488000000) : ∀ s ∈ [a, b], s.size ≤ 140737488000000 := by
  intro s hs
  rcases List.mem_cons.1 hs with rfl | hs
  · exact ha
  · exact small1 b hb s hs
theorem small3 (a b c : ByteArray) (ha : a.size ≤ 140737488000000) (hb : b.size ≤ 140737488000000) (hc : c.size ≤ 140737488000000) : ∀ s ∈ [a, b, c], s.size ≤ 140737488000000 := by
  intro s hs
  rcases List.mem_cons.1 hs with rfl | hs
  · exact ha
  · exact small2 b c hb hc s hs
theorem rd36_mem (l : List S35) (i : Nat) (h : i < l.length) : rd_T35 l (i : Int) ∈ l := by
  have := drop36 l i h
  exact List.mem_of_mem_drop (this ▸ List.mem_cons_self)
theorem take36 (l : List S35) (i : Nat) (h : i < l.length) : l.take (i + 1) = l.take i ++ [rd_T35 l (i : Int)] := by
  rw [List.take_succ_eq_append_getElem h]
  unfold rd_T35
  rw [Int.toNat_natCast, List.getD_eq_getElem?_getD, List.getElem?_eq_getElem h, Option.getD_some]
theorem size_kids (t : S35) : SizeOf.sizeOf t.f4 < SizeOf.sizeOf t := by
  cases t
  simp only [S35.mk.sizeOf_spec]
  omega
set_option maxHeartbeats 8000000 in
set_option maxRecDepth 100000 in
theorem wtree_calls (k : Nat) (w0 : World) (hG : Glob w0) : ∀ (n : Nat) (t : S35), SizeOf.sizeOf t ≤ n → ∀ (A2 : Option Addr) (c2 : Nat) (A4 : Option Addr) (c4 : Nat) (b : Nat) (bs r : List UInt8) (w : World),
    Kd.C k61 w0 A2 t.f2.length t.f2 → t.f2.length ≤ c2 → Kd.C k35 w0 A4 t.f4.length t.f4 → t.f4.length ≤ c4 → Wri w0.heap.size b bs w → Below w0.heap.size w0 w → treeF k t bs = some r →
    Calls Tryz.prog 29 #[.pointer (some ⟨b, 0, none⟩), .agg #[.int .i64 t.f0, .string t.f1, .slice A2 t.f2.length c2, .string t.f3, .slice A4 t.f4.length c4]] w fun e w' => e = .returned (.tuple #[]) ∧ Wri w0.heap.size b r w' ∧ Below w0.heap.size w w' ∧ Lib.OthersKept 5 (some b) w w' := by
  intro n
  induction n with
  | zero => intro t h; cases t; simp at h
  | succ n ih =>
    intro t hn A2 c2 A4 c4 b bs r w hC2 hl2 hC4 hl4 hW hB hf
    obtain ⟨csT, hcs⟩ : ∃ cs : Array Value, cs = #[.int .i64 t.f0, .string t.f1, .slice A2 t.f2.length c2, .string t.f3, .slice A4 t.f4.length c4] := ⟨_, rfl⟩
    have T0 := Aside0.mk (TW.start hW hB #[.int .i64 t.f0, .string t.f1, .slice A2 t.f2.length c2, .string t.f3, .slice A4 t.f4.length c4])
    clear hcs csT
    have HG := Aside0.mk hG
    have HC2 := Aside0.mk hC2
    have HC4 := Aside0.mk hC4
    have IH := Aside0.mk ih
    have HN := Aside0.mk hn
    clear hW hB hG hC2 hC4 ih hn
    have hf' : treeF k ⟨t.f0, t.f1, t.f2, t.f3, t.f4⟩ bs = some r := by rw [tree_one]; exact hf
    clear hf
    rw [treeF] at hf'
    by_cases h1 : 262144 < bs.length
    · rw [if_pos h1] at hf'
      obtain rfl := Option.some.inj hf'
      have hd : decide (262144 < bs.length) = true := decide_eq_true h1
      go_enter Tryz.func29, Tryz.ntmps29
      go_wp2_with (go_at_call 30; refine (full_calls _ b bs _ T0.out.wri).mono ?_; rintro e w1 ⟨rfl, rfl⟩; rw [hd])
      (try simp only [Exit.inBlock, Exit.then]); refine bodyPost_ret (results_none rfl _ _ _) rfl ?_
      exact ⟨rfl, T0.out.wri, T0.out.bel, T0.out.kept⟩
    rw [if_neg h1] at hf'
    have hd : decide (262144 < bs.length) = false := decide_eq_false h1
    by_cases h2 : t.f0 = 2
    · rw [if_pos h2] at hf'
      obtain ⟨e1, he1, hf2⟩ := Option.bind_eq_some_iff.mp hf'
      obtain rfl := Option.some.inj hf2
      have HE := Aside0.mk he1
      clear hf' hf2 he1
      have hd2 : (t.f0 == 2) = true := beq_iff_eq.mpr h2
      clear h2
      obtain ⟨a0, b0, c0, d0, e0⟩ := T0.out.cells
      go_enter Tryz.func29, Tryz.ntmps29
      go_wp2_with (first
        | (go_at_call 30; refine (full_calls _ b bs _ T0.out.wri).mono ?_; rintro e w1 ⟨rfl, rfl⟩; rw [hd])
        | (go_at_call 46; refine (escaped_calls k _ b bs t.f3 false e1.1 e1.2.1 e1.2.2 _ T0.out.wri HE.out (Nat.le_trans (esc_size HE.out) (by decide)) (Glob.step HG.out T0.out.bel0)).mono ?_; rintro e w2 ⟨rfl, h2, hB2, hK2⟩))
      (try simp only [Exit.inBlock, Exit.then]); refine bodyPost_ret (results_none rfl _ _ _) rfl ?_
      exact ⟨rfl, h2, T0.out.bel.trans hB2, T0.out.kept.trans hK2⟩
    rw [if_neg h2] at hf'
    have hd2 : (t.f0 == 2) = false := beq_eq_false_iff_ne.mpr h2
    clear h2
    by_cases h3 : t.f1.size ≤ 100000
    case neg => rw [if_neg h3] at hf'; cases hf'
    rw [if_pos h3] at hf'
    obtain ⟨b1, hb1, hf2⟩ := Option.bind_eq_some_iff.mp hf'
    have HB1 := Aside0.mk hb1
    have HF := Aside0.mk hf2
    have H3 := Aside0.mk h3
    clear hf' hf2 hb1 h3 h1
    obtain ⟨a0, b0, c0, d0, e0⟩ := T0.out.cells
    go_enter Tryz.func29, Tryz.ntmps29
    have hbig2 : t.f2.length ≤ 9223372036854775807 := HC2.out.2.1
    have hbig4 : t.f4.length ≤ 9223372036854775807 := HC4.out.2.1
    have HP := Aside0.mk (put_built _ b bs [⟨#[60]⟩, t.f1] (w.alloc (.cells #[.int .i64 t.f0, .string t.f1, .slice A2 t.f2.length c2, .string t.f3, .slice A4 t.f4.length c4] 35)) (w.heap.size + 1) (Array.size_push ..).symm T0.out.wri (small2 _ _ (by decide) (Nat.le_trans H3.out (by decide))) (show 2 ≤ 1000000 by decide))
    go_wp2_with (first
      | (go_at_call 30; refine (full_calls _ b bs _ T0.out.wri).mono ?_; rintro e w1 ⟨rfl, rfl⟩; rw [hd])
      | (go_at_call 47; refine HP.out.mono ?_))
    rintro e w2 ⟨rfl, h2, hB2, hK2⟩
    have T1 := Aside0.mk (T0.out.step h2 hB2 hK2)
    obtain ⟨a1, b1', c1, d1, e1⟩ := T1.out.cells
    clear h2 hB2 hK2 HP a0 b0 c0 d0 e0 T0 hd hd2
    go_wp2
    go_loopw [25] (fun v wr => ∃ i : Nat, i ≤ t.f2.length ∧ v = .int .i64 i ∧ Aside0 (∃ bc, attrF k (t.f2.drop i) bc = some b1 ∧ TW w0 w b w.heap.size #[.int .i64 t.f0, .string t.f1, .slice A2 t.f2.length c2, .string t.f3, .slice A4 t.f4.length c4] bc wr)) (fun v _ => t.f2.length - (intOf v).toNat)
    case atStart => exact ⟨0, Nat.zero_le _, rfl, ⟨⟨_, HB1.out, T1.out⟩⟩⟩
    case round =>
      obtain ⟨i, hi, rfl, ⟨bc, hbc, T2⟩⟩ := hrel
      by_cases hlt : i < t.f2.length
      · have hltz : (i : Int) < (t.f2.length : Int) := by omega
        rw [drop54 _ _ hlt, attrF] at hbc
        obtain ⟨ad, rfl, y0, y1⟩ := at_T61 (Kd.C_below HC2.out T2.bel0) (i : Int) (by omega) hltz
        rw [Int.toNat_natCast] at y0 y1
        generalize rd_T61 t.f2 (i : Int) = a at hbc y0 y1
        by_cases ha : a.f0.size ≤ 100000
        case neg => rw [if_neg ha] at hbc; cases hbc
        rw [if_pos ha] at hbc
        obtain ⟨e2, he2, hbc2⟩ := Option.bind_eq_some_iff.mp hbc
        have X0 := Aside0.mk (TX.box T2 #[.string a.f0, .string a.f1] 61 (by decide))
        have HP1 := Aside0.mk (put_built _ b bc [⟨#[32]⟩, a.f0, ⟨#[61, 34]⟩] (wr.alloc (.cells #[.string a.f0, .string a.f1] 61)) (wr.heap.size + 1) (Array.size_push ..).symm X0.out.tw.wri (small3 _ _ _ (by decide) (Nat.le_trans ha (by decide)) (by decide)) (show 3 ≤ 1000000 by decide))
        have HE2 := Aside0.mk he2
        have HF2 := Aside0.mk hbc2
        have q0 := (X0.out.cell 0).trans rfl
        have q1 := (X0.out.cell 1).trans rfl
        clear hbc he2 hbc2 T2 ha
        go_wp2_with (go_at_call 47; refine HP1.out.mono ?_)
        rintro e w3 ⟨rfl, h3, hB3, hK3⟩
        have X1 := Aside0.mk (X0.out.step h3 hB3 hK3)
        have HE3 := Aside0.mk (escaped_calls k _ b _ a.f1 true e2.1 e2.2.1 e2.2.2 _ X1.out.tw.wri HE2.out (Nat.le_trans (esc_size HE2.out) (by decide)) (Glob.step HG.out X1.out.tw.bel0))
        have p1 := (X1.out.cell 1).trans rfl
        clear h3 hB3 hK3 HP1 q0 q1 X0
        go_wp2_with (go_at_call 46; refine HE3.out.mono ?_)
        rintro e w4 ⟨rfl, h4, hB4, hK4⟩
        have X2 := Aside0.mk (X1.out.step h4 hB4 hK4)
        have HP4 := Aside0.mk (put_built _ b _ [⟨#[34]⟩] w4 _ rfl X2.out.tw.wri (small1 _ (by decide)) (show 1 ≤ 1000000 by decide))
        clear h4 hB4 hK4 HE3 p1 X1
        go_wp2_with (go_at_call 47; refine HP4.out.mono ?_)
        rintro e w5 ⟨rfl, h5, hB5, hK5⟩
        have X3 := Aside0.mk (X2.out.step h5 hB5 hK5)
        clear h5 hB5 hK5 HP4 X2
        go_wp2
        go_roundw
        case rel => exact ⟨i + 1, by omega, by go_num, ⟨⟨_, HF2.out, X3.out.tw⟩⟩⟩
        case measure => simp [intOf]; omega
      · rw [List.drop_of_length_le (by omega), attrF] at hbc
        obtain rfl := Option.some.inj hbc
        have T3 := Aside0.mk T2
        obtain ⟨a2, b2, c2', d2, e2⟩ := T2.cells
        have HC := Aside0.mk (contains_calls A4 c4 t.f4 wr (Kd.C_below HC4.out T2.bel0))
        clear T2 T1 a1 b1' c1 d1 e1 HB1 hbc
        go_wp2_with (go_at_call 48; refine HC.out.mono ?_)
        rintro e w3 ⟨rfl, hB3⟩
        have T4 := Aside0.mk (T3.out.move hB3)
        clear T3 HC hB3 a2 b2 c2' d2 e2
        obtain ⟨a3, b3, c3, d3, e3⟩ := T4.out.cells
        by_cases hs : t.f4.any solid = true
        · rw [hs]
          have hf3 := HF.out
          rw [if_pos hs] at hf3
          obtain ⟨r2, hr2, hf4⟩ := Option.bind_eq_some_iff.mp hf3
          obtain rfl := Option.some.inj hf4
          have HR2 := Aside0.mk hr2
          clear hf3 hf4 hr2 HF hs
          have HP5 := Aside0.mk (put_built _ b bc [⟨#[62]⟩] w3 _ rfl T4.out.wri (small1 _ (by decide)) (show 1 ≤ 1000000 by decide))
          go_wp2_with (go_at_call 47; refine HP5.out.mono ?_)
          rintro e w4 ⟨rfl, h4, hB4, hK4⟩
          have T5 := Aside0.mk (T4.out.step h4 hB4 hK4)
          clear h4 hB4 hK4 HP5 a3 b3 c3 d3 e3 T4
          obtain ⟨a4, b4, c4', d4, e4⟩ := T5.out.cells
          go_wp2
          go_loopw [55] (fun v wr => ∃ i : Nat, i ≤ t.f4.length ∧ v = .int .i64 i ∧ Aside0 (∃ bd, kidsF k (t.f4.drop i) bd = some r2 ∧ TW w0 w b w.heap.size #[.int .i64 t.f0, .string t.f1, .slice A2 t.f2.length c2, .string t.f3, .slice A4 t.f4.length c4] bd wr)) (fun v _ => t.f4.length - (intOf v).toNat)
          case atStart => exact ⟨0, Nat.zero_le _, rfl, ⟨⟨_, HR2.out, T5.out⟩⟩⟩
          case round =>
            obtain ⟨i, hi, rfl, ⟨bd, hbd, T6⟩⟩ := hrel
            by_cases hlt : i < t.f4.length
            · have hltz : (i : Int) < (t.f4.length : Int) := by omega
              have hmem : rd_T35 t.f4 (i : Int) ∈ t.f4 := rd36_mem _ _ hlt
              rw [drop36 _ _ hlt, kidsF] at hbd
              obtain ⟨ad, B2, c52, B4, c54, rfl, y0, y1, y2, y3, y4, z2, z3, z4, z5⟩ := at_T35 HC4.out (i : Int) (by omega) hltz
              have y0 := pw_cell_below (T6.bel0) y0
              have y1 := pw_cell_below (T6.bel0) y1
              have y2 := pw_cell_below (T6.bel0) y2
              have y3 := pw_cell_below (T6.bel0) y3
              have y4 := pw_cell_below (T6.bel0) y4
              rw [Int.toNat_natCast] at y0 y1 y2 y3 y4
              have hsz : SizeOf.sizeOf (rd_T35 t.f4 (i : Int)) ≤ n := by
                have h1 := List.sizeOf_lt_of_mem hmem
                have h2 := HN.out
                have h3 := size_kids t
                omega
              generalize rd_T35 t.f4 (i : Int) = a at hbd y0 y1 y2 y3 y4 z2 z3 z4 z5 hsz
              obtain ⟨e5, he5, hbd2⟩ := Option.bind_eq_some_iff.mp hbd
              have X0 := Aside0.mk (TX.box T6 #[.int .i64 a.f0, .string a.f1, .slice B2 a.f2.length c52, .string a.f3, .slice B4 a.f4.length c54] 35 (by decide))
              have HI := Aside0.mk (IH.out a hsz B2 c52 B4 c54 b bd e5 _ z3 z2 z5 z4 X0.out.tw.wri X0.out.tw.bel0 he5)
              have HF2 := Aside0.mk hbd2
              have q0 := (X0.out.cell 0).trans rfl
              have q1 := (X0.out.cell 1).trans rfl
              have q2 := (X0.out.cell 2).trans rfl
              have q3 := (X0.out.cell 3).trans rfl
              have q4 := (X0.out.cell 4).trans rfl
              clear hbd he5 hbd2 T6 hmem hsz z2 z3 z4 z5
              go_wp2_with (go_at_call 29; refine HI.out.mono ?_)
              rintro e w5 ⟨rfl, h5, hB5, hK5⟩
              have X3 := Aside0.mk (X0.out.tw.step h5 hB5 hK5)
              clear h5 hB5 hK5 HI X0 q0 q1 q2 q3 q4
              go_wp2
              go_roundw
              case rel => exact ⟨i + 1, by omega, by go_num, ⟨⟨_, HF2.out, X3.out⟩⟩⟩
              case measure => simp [intOf]; omega
            · rw [List.drop_of_length_le (by omega), kidsF] at hbd
              obtain rfl := Option.some.inj hbd
              have T7 := Aside0.mk T6
              obtain ⟨a5, b5, c5, d5, e5⟩ := T6.cells
              have HP6 := Aside0.mk (put_built _ b bd [⟨#[60, 47]⟩, t.f1, ⟨#[62]⟩] wr _ rfl T6.wri (small3 _ _ _ (by decide) (Nat.le_trans H3.out (by decide)) (by decide)) (show 3 ≤ 1000000 by decide))
              clear T6 hbd
              go_wp2_with (go_at_call 47; refine HP6.out.mono ?_)
              rintro e w5 ⟨rfl, h5, hB5, hK5⟩
              have X3 := T7.out.step h5 hB5 hK5
              go_wp2
              go_end0
              exact ⟨rfl, X3.wri, X3.bel, X3.kept⟩
        · have hs' : t.f4.any solid = false := by simpa using hs
          rw [hs']
          have hf3 := HF.out
          rw [if_neg hs] at hf3
          obtain rfl := Option.some.inj hf3
          clear hf3 HF hs
          have HP5 := Aside0.mk (put_built _ b bc [⟨#[47, 62]⟩] w3 _ rfl T4.out.wri (small1 _ (by decide)) (show 1 ≤ 1000000 by decide))
          go_wp2_with (go_at_call 47; refine HP5.out.mono ?_)
          rintro e w4 ⟨rfl, h4, hB4, hK4⟩
          have T5 := T4.out.step h4 hB4 hK4
          go_wp2
          (try simp only [Exit.inBlock, Exit.then]); refine bodyPost_ret (results_none rfl _ _ _) rfl ?_
          exact ⟨rfl, T5.wri, T5.bel, T5.kept⟩
end Go.Proofs.YtealmfcimoomlaaGreatDoor.PA
