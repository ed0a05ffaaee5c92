/- espalierlaw04.Spoil: the walk. -/
import Derived.Test.YtealmfcimoomlaaDoorUSpoil
namespace Go.Proofs.YtealmfcimoomlaaDoor.PA
open Go.RowKit Go.Proofs.YtealmfcimoomlaaDoorW.PrintWords Go.Proofs.YtealmfcimoomlaaDoorW.PrintLast Go.Proofs.YtealmfcimoomlaaDoorW.PrintMore
set_option linter.unusedVariables false
set_option linter.unusedSimpArgs false
theorem own_some {w : World} {base : Nat} {e : TypeId} {size n c k : Nat} {A : Option Addr} {xs : List Value} (h : w.ownsRow base e size (.slice A n c) n xs) (hk : k < n) : ∃ g cur, A = some ⟨g, 0, none⟩ ∧ base ≤ g ∧ w.heap[g]? = some (.cells cur e (0, 0)) ∧ n ≤ c ∧ cur.size = c * size := by
  rcases h.2 with ⟨_, e0⟩ | ⟨g, cap, cur, e1, hbg, hg, hnc, hcm, hcs, _⟩
  · omega
  · injection e1 with e1 e2 e3
    subst e1 e3
    exact ⟨g, cur, rfl, hbg, hg, hnc, hcs⟩
theorem none_or {c1 cur : Array Value} {j : Nat} {v : Value} (h : c1[j]? = cur[j]? ∨ c1[j]? = some (.slice none 0 0)) (hc : cur[j]? = some v) : ∃ x, c1[j]? = some x ∧ (x = v ∨ x = .slice none 0 0) := by
  rcases h with h | h
  · exact ⟨v, h.trans hc, .inl rfl⟩
  · exact ⟨_, h, .inr rfl⟩
theorem size_nil_le (l : List S36) : SizeOf.sizeOf ([] : List S36) ≤ SizeOf.sizeOf l := by
  cases l
  · exact Nat.le_refl _
  · simp only [List.nil.sizeOf_spec, List.cons.sizeOf_spec]; omega
theorem in_cells {c : Array Value} {j : Nat} (h : j < c.size) : ∃ u, c[j]? = some u := ⟨c[j], Array.getElem?_eq_getElem h⟩
set_option maxHeartbeats 8000000 in
set_option maxRecDepth 100000 in
theorem spoil_calls (base : Nat) (w0 : World) (hw0 : base ≤ w0.heap.size) : ∀ (n : Nat) (l : List S36), SizeOf.sizeOf l ≤ n → l.length ≤ 1599289640390 → copyK l → ∀ (v : Value) (ok : Nat → Prop) (w : World), Kd.R k36 36 w0 base ok v l → Ty base w0 w →
    Calls Tryd.prog 14 #[v] w fun e w' => e = .returned (.tuple #[]) ∧ Ty base w w' := by
  obtain ⟨i0, hi0, hzz⟩ := Option.map_eq_some_iff.1 (info54)
  simp only [Prod.mk.injEq] at hzz
  obtain ⟨hz0, hz1, hz2⟩ := hzz
  obtain ⟨i1, hi1, hyy⟩ := Option.map_eq_some_iff.1 (info36)
  simp only [Prod.mk.injEq] at hyy
  obtain ⟨hy0, hy1, hy2⟩ := hyy
  intro n
  induction n with
  | zero => intro l h; cases l <;> simp at h
  | succ n ih =>
    intro l hn hm hk v ok w hR hT
    obtain ⟨A, c, rfl⟩ := Kd.R_slice hR
    have HOWN := Aside0.mk (show ∃ xs, w0.ownsRow base 36 5 (.slice A l.length c) l.length xs from let ⟨inner, h, _⟩ := hR.2; ⟨inner, h⟩)
    have HR := Aside0.mk hR
    have HT := Aside0.mk hT
    have HN := Aside0.mk hn
    have IH := Aside0.mk ih
    have HK := Aside0.mk hk
    have HW := Aside0.mk hw0
    clear hR hT hn ih hk
    go_enter Tryd.func14, Tryd.ntmps14
    go_wp2
    go_loopw [2] (fun s2 wr => ∃ i : Nat, i ≤ l.length ∧ s2 = .int .i64 i ∧ Aside0 (Ty base w wr)) (fun s2 _ => l.length - (intOf s2).toNat)
    case atStart => exact ⟨0, Nat.zero_le _, rfl, ⟨Ty.refl _ _⟩⟩
    case round =>
      obtain ⟨i, hi, rfl, HT1⟩ := hrel
      by_cases hlt : i < l.length
      case neg =>
        have hltd : decide ((i : Int) < (l.length : Int)) = false := decide_eq_false (by omega)
        obtain ⟨ys, hy⟩ := HOWN.out
        have hbw : base ≤ wr.heap.size := Nat.le_trans HW.out (HT.out.trans HT1.out).size
        have hal := (Below.refl wr.heap.size wr).alloc (Nat.le_refl _) (.cells #[.int .i64 7, .string ⟨#[]⟩, .slice none 0 0, .string ⟨#[]⟩, .slice none 0 0] 36)
        have hnew := heap_alloc_new wr (.cells #[.int .i64 7, .string ⟨#[]⟩, .slice none 0 0, .string ⟨#[]⟩, .slice none 0 0] 36)
        have TW := Ty.below hal hbw
        obtain ⟨zs, hz⟩ := ((HT.out.trans HT1.out).trans TW).own36 hy (Nat.le_refl _)
        obtain ⟨v', w', hrun, hcase⟩ := run_append_drop (P := Tryd.prog) (wr.alloc (.cells #[.int .i64 7, .string ⟨#[]⟩, .slice none 0 0, .string ⟨#[]⟩, .slice none 0 0] 36)) base 22 22 36 i1 _ 5 88 Tryd.underlying22 hi1 hy0 hy1 hy2 (by decide) _ l.length _ hz ⟨wr.heap.size, 0, none⟩ 1 [.int .i64 7, .string ⟨#[]⟩, .slice none 0 0, .string ⟨#[]⟩, .slice none 0 0] rfl
          (by intro j u hu; rw [Addr.add_lit, Nat.zero_add]; exact (blk_cell hnew j).trans (by simpa using hu)) (by intro u hu; simp only [List.mem_cons, List.not_mem_nil, or_false] at hu; rcases hu with rfl | rfl | rfl | rfl | rfl <;> rfl) (by unfold maxLen; omega) (by omega) (Nat.le_trans hbw hal.size)
        have T3 : Ty base (wr.alloc (.cells #[.int .i64 7, .string ⟨#[]⟩, .slice none 0 0, .string ⟨#[]⟩, .slice none 0 0] 36)) w' := by
          rcases hcase with hb | ⟨g', cap', cur', cs', e, hbg', hg', _, _, rfl, hcs', he'⟩
          · exact Ty.below hb (Nat.le_trans hbw hal.size)
          · exact Ty.app36 hg' hbg' hcs' he'
        have T4 := Aside0.mk ((HT1.out.trans TW).trans T3)
        clear hcase hz hy hal TW T3 hnew
        go_wp2_with (at_builtin; refine wpList_append_run _ rfl (.tmp 46) (.tmp 48) 22 rfl _ _ _ _ rfl rfl hrun ?_)
        go_end0
        exact ⟨rfl, T4.out⟩
      have hltz : (i : Int) < (l.length : Int) := by omega
      obtain ⟨xs0, ho0⟩ := HOWN.out
      obtain ⟨g, cur, rfl, hbg, hg, hnc, hcs⟩ := own_some ho0 hlt
      obtain ⟨ce, hcl, hM, hcc, hfr⟩ := Kd.R_elem HR.out z36 (i : Int) (by omega) hltz
      obtain ⟨v2, v4, rfl, g2, g4⟩ := k36_openM hM
      have hcur2 : cur[i * 5 + 2]? = some v2 := (blk_cell hg (i * 5 + 2)).symm.trans (hcc 2 v2 rfl)
      have hcur4 : cur[i * 5 + 4]? = some v4 := (blk_cell hg (i * 5 + 4)).symm.trans (hcc 4 v4 rfl)
      have hmem : l.getD (i : Int).toNat z36 ∈ l := rd36_mem _ _ hlt
      have hsz : SizeOf.sizeOf (l.getD (i : Int).toNat z36).f4 ≤ n := by
        have h1 := List.sizeOf_lt_of_mem hmem
        have h2 := HN.out
        have h3 := size_kids (l.getD (i : Int).toNat z36)
        omega
      obtain ⟨hca, hcb, hcd⟩ := copyT_parts _ (copyK_mem l HK.out _ hmem)
      generalize l.getD (i : Int).toNat z36 = a at g2 g4 hsz hca hcb hcd
      have TA := HT.out.trans HT1.out
      obtain ⟨c1, hc1, hs1, he1⟩ := TA.a36 g cur hbg hg
      obtain ⟨x2, hx2, hx2'⟩ := none_or (he1 (i * 5 + 2) (by omega)) hcur2
      obtain ⟨m, Am, cm, rfl, hmm, HX⟩ : ∃ (m : Nat) (Am : Option Addr) (cm : Nat), x2 = .slice Am m cm ∧ m ≤ 4398046511000 ∧ ∃ ys, wr.ownsRow base 54 2 x2 m ys := by
        rcases hx2' with rfl | rfl
        · obtain ⟨A2, c2, rfl⟩ := Kd.R_slice g2
          obtain ⟨inner, h, _⟩ := g2.2
          exact ⟨_, A2, c2, rfl, hca, TA.own54 h (Nat.le_refl _)⟩
        · exact ⟨0, none, 0, rfl, Nat.zero_le _, [], own_nil _ _ _ _⟩
      have HX := Aside0.mk HX
      have HC1 := Aside0.mk hc1
      have G4 := Aside0.mk g4
      have HG := Aside0.mk hg
      have HBG := Aside0.mk hbg
      have HS1 := Aside0.mk (hs1.trans hcs)
      have HCS := Aside0.mk hcs
      have HNC := Aside0.mk hnc
      clear hnc
      have HX2 := Aside0.mk hx2
      have HCUR := Aside0.mk hcur4
      have HCD := Aside0.mk hcd
      have HSZ := Aside0.mk hsz
      clear hcl hM hcc hfr g2 g4 hcur2 hcur4 hmem hca hcd TA hs1 he1 hx2 hx2' hc1 ho0 hcs hbg hg hsz
      have q2 : wr.cell? ⟨g, i * 5 + 2, none⟩ = some (.slice Am m cm) := (blk_cell HC1.out _).trans HX2.out
      go_wp2
      go_loopw [3] (fun s3 wx => ∃ k : Nat, k ≤ m ∧ s3 = .int .i64 k ∧ Aside0 (Ty base w wx ∧ Ty base wr wx ∧ wx.heap[g]? = some (.cells c1 36 (0, 0)))) (fun s3 _ => m - (intOf s3).toNat)
      case atStart => exact ⟨0, Nat.zero_le _, rfl, ⟨⟨HT1.out, Ty.refl _ _, HC1.out⟩⟩⟩
      case round =>
        obtain ⟨k, hk, rfl, ⟨hT2, hT3, hc2⟩⟩ := hrel
        have q2 := (blk_cell hc2 (i * 5 + 2)).trans HX2.out
        by_cases hkt : k < m
        · have hktz : (k : Int) < (m : Int) := by omega
          obtain ⟨ys, hy⟩ := HX.out
          obtain ⟨zs, hz⟩ := hT3.own54 hy (Nat.le_refl _)
          obtain ⟨g2, d2, rfl, hbg2, hg2, hnc2, hcs2⟩ := own_some hz hkt
          have hne : g ≠ g2 := blk_ne hc2 hg2 (by decide)
          have hg2' := blk_set hg2 (k * 2) (.string ⟨#[115, 112, 111, 105, 108, 116]⟩)
          have S1 := Ty.set54 hg2 hbg2 (k * 2) (.string ⟨#[115, 112, 111, 105, 108, 116]⟩)
          have S2 := S1.trans (Ty.set54 hg2' hbg2 (k * 2 + 1) (.string ⟨#[]⟩))
          have HS := Aside0.mk (And.intro (hT2.trans S2) (And.intro (hT3.trans S2) (blk_far (blk_far hc2 (p := ⟨g2, k * 2, none⟩) hne (.string ⟨#[115, 112, 111, 105, 108, 116]⟩)) (p := ⟨g2, k * 2 + 1, none⟩) hne (.string ⟨#[]⟩))))
          obtain ⟨u0, hu0⟩ := in_cells (c := d2) (j := k * 2) (by omega)
          obtain ⟨u1, hu1⟩ := in_cells (c := d2) (j := k * 2 + 1) (by omega)
          have e0 := (blk_cell hg2 (k * 2)).trans hu0
          have e1 := (blk_cell hg2 (k * 2 + 1)).trans hu1
          have z0 := blk_frozen hg2 (k * 2)
          have z1 := blk_frozen hg2 (k * 2 + 1)
          clear S1 S2 hg2' hg2 hz hy hT2 hT3 hc2 hu0 hu1
          go_wp2
          exact ⟨⟨k + 1, by omega, rfl, HS⟩, by simp [intOf]; omega⟩
        · have hktd : decide ((k : Int) < (m : Int)) = false := decide_eq_false (by omega)
          obtain ⟨ys, hy⟩ := HX.out
          have hbw : base ≤ wr.heap.size := Nat.le_trans HW.out (HT.out.trans hT2).size
          have hal := (Below.refl wr.heap.size wr).alloc (Nat.le_refl _) (.cells #[.string ⟨#[115, 112, 111, 105, 108, 116]⟩, .string ⟨#[]⟩] 54)
          have hnew := heap_alloc_new wr (.cells #[.string ⟨#[115, 112, 111, 105, 108, 116]⟩, .string ⟨#[]⟩] 54)
          have TW := Ty.below hal hbw
          obtain ⟨zs, hz⟩ := (hT3.trans TW).own54 hy (Nat.le_refl _)
          obtain ⟨v', w', hrun, hcase⟩ := run_append_drop (P := Tryd.prog) (wr.alloc (.cells #[.string ⟨#[115, 112, 111, 105, 108, 116]⟩, .string ⟨#[]⟩] 54)) base 34 34 54 i0 _ 2 32 Tryd.underlying34 hi0 hz0 hz1 hz2 (by decide) _ m _ hz ⟨wr.heap.size, 0, none⟩ 1 [.string ⟨#[115, 112, 111, 105, 108, 116]⟩, .string ⟨#[]⟩] rfl
            (by intro j u hu; rw [Addr.add_lit, Nat.zero_add]; exact (blk_cell hnew j).trans (by simpa using hu)) (by intro u hu; rcases List.mem_cons.1 hu with rfl | hu; rfl; rcases List.mem_cons.1 hu with rfl | hu; rfl; cases hu) (by unfold maxLen; omega) (by omega) (Nat.le_trans hbw hal.size)
          have T3 : Ty base (wr.alloc (.cells #[.string ⟨#[115, 112, 111, 105, 108, 116]⟩, .string ⟨#[]⟩] 54)) w' := by
            rcases hcase with hb | ⟨g', cap', cur', cs', e, hbg', hg', _, _, rfl, hcs', _⟩
            · exact Ty.below hb (Nat.le_trans hbw hal.size)
            · exact Ty.app54 hg' hbg' hcs'
          have T4 := Aside0.mk ((hT2.trans TW).trans T3)
          clear hcase hz hy hal TW hT3 hT2 T3 hc2 hnew
          obtain ⟨c5, hc5, hs5, he5⟩ := (HT.out.trans T4.out).a36 g cur HBG.out HG.out
          obtain ⟨x4, hx4, hx4'⟩ := none_or (he5 (i * 5 + 4) (by omega)) HCUR.out
          have q4 := (blk_cell hc5 (i * 5 + 4)).trans hx4
          have HI : Aside0 (Calls Tryd.prog 14 #[x4] w' fun e w6 => e = .returned (.tuple #[]) ∧ Ty base w' w6) := by
            rcases hx4' with rfl | rfl
            · exact ⟨IH.out a.f4 HSZ.out hcb HCD.out x4 _ w' G4.out (HT.out.trans T4.out)⟩
            · exact ⟨IH.out [] (Nat.le_trans (size_nil_le a.f4) HSZ.out) (Nat.zero_le _) trivial _ (fun _ => True) w' (Kd.R_nil _ _ _ _ _) (HT.out.trans T4.out)⟩
          have ho4 : x4.oneCell' = true := by
            rcases hx4' with rfl | rfl
            · obtain ⟨A4, c4, rfl⟩ := Kd.R_slice G4.out
              rfl
            · rfl
          clear hx4 hx4' hs5 he5 hc5
          go_wp2_with (first
            | (at_builtin; refine wpList_append_run _ rfl (.tmp 32) (.tmp 34) 34 rfl _ _ _ _ rfl rfl hrun ?_)
            | (go_at_call 14; refine HI.out.mono ?_))
          rintro e w6 ⟨rfl, hT6⟩
          have T6 := T4.out.trans hT6
          obtain ⟨c6, hc6, hs6, -⟩ := (HT.out.trans T6).a36 g cur HBG.out HG.out
          have hb6 : i * 5 + 4 < c6.size := by rw [hs6, HCS.out]; have := HNC.out; omega
          have S0 := Ty.set36 hc6 HBG.out (i * 5) (.int .i64 7) (fun h => by omega)
          have p0 := blk_set hc6 (i * 5) (.int .i64 7)
          have S1 := Ty.set36 p0 HBG.out (i * 5 + 1) (.string ⟨#[115, 112, 111, 105, 108, 116]⟩) (fun h => by omega)
          have p1 := blk_set p0 (i * 5 + 1) (.string ⟨#[115, 112, 111, 105, 108, 116]⟩)
          have S2 := Ty.set36 p1 HBG.out (i * 5 + 2) (.slice none 0 0) (fun _ => ⟨by simp only [Array.size_setIfInBounds]; omega, rfl⟩)
          have p2 := blk_set p1 (i * 5 + 2) (.slice none 0 0)
          have S3 := Ty.set36 p2 HBG.out (i * 5 + 3) (.string ⟨#[]⟩) (fun h => by omega)
          have p3 := blk_set p2 (i * 5 + 3) (.string ⟨#[]⟩)
          have S4 := Ty.set36 p3 HBG.out (i * 5 + 4) (.slice none 0 0) (fun _ => ⟨by simp only [Array.size_setIfInBounds]; omega, rfl⟩)
          have p4 := blk_set p3 (i * 5 + 4) (.slice none 0 0)
          have HS := Aside0.mk (T6.trans (S0.trans (S1.trans (S2.trans (S3.trans S4)))))
          obtain ⟨u0, hu0⟩ := in_cells (c := c6) (j := i * 5) (by omega)
          have e0 := (blk_cell hc6 (i * 5)).trans hu0
          have z0 := blk_frozen hc6 (i * 5)
          obtain ⟨u1, hu1⟩ := in_cells (c := c6) (j := i * 5 + 1) (by omega)
          have e1 := (blk_cell hc6 (i * 5 + 1)).trans hu1
          have z1 := blk_frozen hc6 (i * 5 + 1)
          obtain ⟨u2, hu2⟩ := in_cells (c := c6) (j := i * 5 + 2) (by omega)
          have e2 := (blk_cell hc6 (i * 5 + 2)).trans hu2
          have z2 := blk_frozen hc6 (i * 5 + 2)
          obtain ⟨u3, hu3⟩ := in_cells (c := c6) (j := i * 5 + 3) (by omega)
          have e3 := (blk_cell hc6 (i * 5 + 3)).trans hu3
          have z3 := blk_frozen hc6 (i * 5 + 3)
          obtain ⟨u4, hu4⟩ := in_cells (c := c6) (j := i * 5 + 4) (by omega)
          have e4 := (blk_cell hc6 (i * 5 + 4)).trans hu4
          have z4 := blk_frozen hc6 (i * 5 + 4)
          clear S0 S1 S2 S3 S4 p0 p1 p2 p3 p4 hc6 T6 hT6 hu0 hu1 hu2 hu3 hu4 hrun q2 q4 HI
          go_wp2
          exact ⟨⟨i + 1, by omega, rfl, HS⟩, by simp [intOf]; omega⟩
def espalierlaw04_Spoil.f (l : List S36) : Prop := l.length ≤ 1599289640390 ∧ copyK l
/-- Only blocks from 'base' on turn. -/
theorem espalierlaw04_Spoil.calls (base : Nat) (ok : Nat → Prop) (v : Value) (l : List S36) (w : World) (hb : base ≤ w.heap.size) (hr : Kd.R k36 36 w base ok v l) (h : espalierlaw04_Spoil.f l) :
    Calls Tryd.prog 14 #[v] w fun e w' => e = .returned (.tuple #[]) ∧ Below base w w' :=
  (spoil_calls base w hb _ l (Nat.le_refl _) h.1 h.2 v ok w hr (Ty.refl _ _)).mono fun _ _ h => ⟨h.1, h.2.bel⟩
end Go.Proofs.YtealmfcimoomlaaDoor.PA
