/- markup.Print. -/
import Derived.Test.YtealmfcimoomlaaDoorUTreeCheck
import Derived.Test.YtealmfcimoomlaaDoorPA5
namespace Go.Proofs.YtealmfcimoomlaaDoor.PA
open Go.RowKit Go.Proofs.YtealmfcimoomlaaDoorW.PrintWords Go.Proofs.YtealmfcimoomlaaDoorW.PrintLast Go.Proofs.YtealmfcimoomlaaDoorW.PrintMore
set_option linter.unusedVariables false
set_option linter.unusedSimpArgs false
theorem attrF_mono (k : Nat) : ∀ (l : List S54) (b : List UInt8), LeO (attrF k l b) (attrF (k + 1) l b)
  | [], b => by rw [attrF, attrF]; exact LeO.refl _
  | a :: l, b => by
    rw [attrF, attrF]
    exact LeO.ite (LeO.bind (chars_Escape.mono _ _ _) fun e => attrF_mono k l _) (LeO.refl _)
mutual
theorem treeF_mono (k : Nat) : ∀ (t : S36) (b : List UInt8), LeO (treeF k t b) (treeF (k + 1) t b)
  | ⟨f0, f1, f2, f3, f4⟩, b => by
    rw [treeF, treeF]
    exact LeO.ite (LeO.refl _) (LeO.ite (LeO.bind (chars_Escape.mono _ _ _) fun e => LeO.refl _) (LeO.ite (LeO.bind (attrF_mono k f2 _) fun b1 => LeO.ite (LeO.bind (kidsF_mono k f4 _) fun b2 => LeO.refl _) (LeO.refl _)) (LeO.refl _)))
theorem kidsF_mono (k : Nat) : ∀ (l : List S36) (b : List UInt8), LeO (kidsF k l b) (kidsF (k + 1) l b)
  | [], b => by rw [kidsF, kidsF]; exact LeO.refl _
  | t :: l, b => by
    rw [kidsF, kidsF]
    exact LeO.bind (treeF_mono k t b) fun b1 => kidsF_mono k l b1
end
def markup_Print.f (k : Nat) (l : List S36) : Option (ByteArray × Int) :=
  (markup_can.f k l).bind fun e => if e = 0 then (kidsF k l []).bind fun b => if 262144 < b.length then some (⟨#[]⟩, 2) else some (⟨b.toArray⟩, 0) else some (⟨#[]⟩, e)
theorem markup_Print.mono : ∀ a0 k, LeO (markup_Print.f k a0) (markup_Print.f (k + 1) a0) := fun a0 k =>
  LeO.bind (markup_can.mono _ _) fun e => LeO.ite (LeO.bind (kidsF_mono k _ _) fun b => LeO.refl _) (LeO.refl _)
theorem Wri.start (B : Nat) (w : World) (hB : B ≤ w.heap.size) : Wri B w.heap.size [] (w.alloc (.cells #[.pointer none, .slice none 0 0] 44)) :=
  ⟨Nat.le_trans hB (by simp), #[.pointer none, .slice none 0 0], rfl, hB, heap_alloc_new w _, .inl rfl, _, rfl, ⟨by simp, .inl ⟨rfl, rfl⟩⟩, by simp [Value.ownBlock]⟩
/-- Under way in 'Print': the writer stands in the block b. -/
structure PW (w0 : World) (b : Nat) (bs : List UInt8) (w : World) : Prop where
  wri : Wri w0.heap.size b bs w
  bel : Below w0.heap.size w0 w
set_option maxHeartbeats 8000000 in
set_option maxRecDepth 100000 in
theorem markup_Print.calls (k : Nat) (A0 : Option Addr) (c0 : Nat) (l0 : List (S36)) (r1 : ByteArray) (r2 : Int) (w : World) (hr0 : Kd.C k36 w A0 l0.length l0) (hc0 : l0.length ≤ c0) (h : markup_Print.f k l0 = some (r1, r2)) (hG : Glob w := by first | exact Glob.step HG.out (by repeat (first | (with_reducible first | exact HB.out | apply below_alloc | apply pw_below_drewN | apply below_drew1) | exact HB.out | (refine below_set ?_ (Aside0.out (by assumption))))) | exact HG.out | assumption) :
    Calls Tryd.prog 5 #[.slice A0 l0.length c0] w fun e w' => e = .returned (.tuple #[.string r1, .int .i64 r2]) ∧ Below w.heap.size w w' := by
  obtain ⟨e1, he1, h2⟩ := Option.bind_eq_some_iff.mp h
  have HCan := Aside0.mk (markup_can.calls k A0 c0 l0 e1 w hr0 hc0 he1 hG)
  have HG := Aside0.mk hG
  have HR := Aside0.mk hr0
  have HC := Aside0.mk hc0
  have hbig : l0.length ≤ 9223372036854775807 := hr0.2.1
  clear h he1 hG hr0 hc0
  by_cases h3 : e1 = 0
  case neg =>
    rw [if_neg h3] at h2
    obtain ⟨rfl, rfl⟩ := Prod.mk.inj (Option.some.inj h2)
    have hd3 : (e1 != 0) = true := bne_iff_ne.mpr h3
    clear h3 h2
    go_enter Tryd.func5, Tryd.ntmps5
    go_wp2_with (go_at_call 15; refine HCan.out.mono ?_; rintro e w2 ⟨rfl, hB2⟩)
    go_ret2
    exact ⟨rfl, hB2⟩
  rw [if_pos h3] at h2
  subst h3
  obtain ⟨bz, hbz, h4⟩ := Option.bind_eq_some_iff.mp h2
  have HZ := Aside0.mk hbz
  have H4 := Aside0.mk h4
  clear h2 hbz h4
  go_enter Tryd.func5, Tryd.ntmps5
  go_wp2_with (go_at_call 15; refine HCan.out.mono ?_; rintro e w2 ⟨rfl, hB2⟩; have P0 := Aside0.mk (PW.mk (Wri.start w.heap.size w2 hB2.size) (hB2.alloc hB2.size _)); clear HCan)
  go_loopw [17] (fun v wr => ∃ i : Nat, i ≤ l0.length ∧ v = .int .i64 i ∧ Aside0 (∃ bd, kidsF k (l0.drop i) bd = some bz ∧ PW w w2.heap.size bd wr)) (fun v _ => l0.length - (intOf v).toNat)
  case atStart => exact ⟨0, Nat.zero_le _, rfl, ⟨⟨_, HZ.out, P0.out⟩⟩⟩
  case round =>
    obtain ⟨i, hi, rfl, ⟨bd, hbd, T6⟩⟩ := hrel
    by_cases hlt : i < l0.length
    · have hltz : (i : Int) < (l0.length : Int) := by omega
      rw [drop36 _ _ hlt, kidsF] at hbd
      obtain ⟨ad, B2, c52, B4, c54, rfl, y0, y1, y2, y3, y4, z2, z3, z4, z5⟩ := at_T36 HR.out (i : Int) (by omega) hltz
      have y0 := pw_cell_below (T6.bel) y0
      have y1 := pw_cell_below (T6.bel) y1
      have y2 := pw_cell_below (T6.bel) y2
      have y3 := pw_cell_below (T6.bel) y3
      have y4 := pw_cell_below (T6.bel) y4
      rw [Int.toNat_natCast] at y0 y1 y2 y3 y4
      generalize rd_T36 l0 (i : Int) = a at hbd y0 y1 y2 y3 y4 z2 z3 z4 z5
      obtain ⟨e5, he5, hbd2⟩ := Option.bind_eq_some_iff.mp hbd
      have hb1 := T6.bel.alloc T6.wri.1 (.cells #[.int .i64 a.f0, .string a.f1, .slice B2 a.f2.length c52, .string a.f3, .slice B4 a.f4.length c54] 36)
      have hq := heap_alloc_new wr (.cells #[.int .i64 a.f0, .string a.f1, .slice B2 a.f2.length c52, .string a.f3, .slice B4 a.f4.length c54] 36)
      have HI := Aside0.mk (wtree_calls k w HG.out _ a (Nat.le_refl _) B2 c52 B4 c54 w2.heap.size bd e5 _ z3 z2 z5 z4 (T6.wri.alloc _) hb1 he5)
      have HB1 := Aside0.mk hb1
      have HF2 := Aside0.mk hbd2
      have q0 := (blk_cell hq 0).trans rfl
      have q1 := (blk_cell hq 1).trans rfl
      have q2 := (blk_cell hq 2).trans rfl
      have q3 := (blk_cell hq 3).trans rfl
      have q4 := (blk_cell hq 4).trans rfl
      clear hbd he5 hbd2 z2 z3 z4 z5 hq hb1 T6
      go_wp2_with (go_at_call 16; refine HI.out.mono ?_)
      rintro e w5 ⟨rfl, h5, hB5, hK5⟩
      have X3 := Aside0.mk (PW.mk h5 (HB1.out.trans hB5))
      clear h5 hB5 hK5 HI q0 q1 q2 q3 q4 HB1
      go_wp2
      go_roundw
      case rel => exact ⟨i + 1, by omega, by go_num, ⟨⟨_, HF2.out, X3.out⟩⟩⟩
      case measure => simp [intOf]; omega
    · rw [List.drop_of_length_le (by omega), kidsF] at hbd
      obtain rfl := Option.some.inj hbd
      have T7 := Aside0.mk T6
      clear T6 hbd P0 HZ HR
      have h4 := H4.out
      by_cases hf : 262144 < bd.length
      · rw [if_pos hf] at h4
        obtain ⟨rfl, rfl⟩ := Prod.mk.inj (Option.some.inj h4)
        have hd : decide (262144 < bd.length) = true := decide_eq_true hf
        clear h4 H4 hf
        go_wp2_with (go_at_call 17; refine (full_calls _ _ bd _ T7.out.wri).mono ?_; rintro e w1 ⟨rfl, rfl⟩; rw [hd])
        go_ret2
        exact ⟨rfl, T7.out.bel⟩
      · rw [if_neg hf] at h4
        obtain ⟨rfl, rfl⟩ := Prod.mk.inj (Option.some.inj h4)
        have hd : decide (262144 < bd.length) = false := decide_eq_false hf
        clear h4 H4 hf
        obtain ⟨hBw, cs, hcs, hb⟩ := T7.out.wri
        go_wp2_with (first
          | (go_at_call 17; refine (full_calls _ _ bd _ T7.out.wri).mono ?_; rintro e w1 ⟨rfl, rfl⟩; rw [hd])
          | (go_at_call 18; refine (String_at 44 _ _ 0 cs bd _ hb hBw).mono ?_; rintro e w5 ⟨rfl, h5, hB5, hK5⟩))
        go_ret2
        exact ⟨rfl, T7.out.bel.trans hB5⟩
end Go.Proofs.YtealmfcimoomlaaDoor.PA
