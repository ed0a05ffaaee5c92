/- scan.Scan. -/
import Derived.Test.YtealmfcimoomlaaGreatDoorUScan21
namespace Go.Proofs.YtealmfcimoomlaaGreatDoor.PA
open Go.RowKit Go.Proofs.YtealmfcimoomlaaGreatDoorW.PrintWords Go.Proofs.YtealmfcimoomlaaGreatDoorW.PrintLast Go.Proofs.YtealmfcimoomlaaGreatDoorW.PrintMore
set_option linter.unusedVariables false
set_option linter.unusedSimpArgs false
/-- Piece by piece. -/
def piecesF (s : ByteArray) : Nat → St → List Evt → List Evt × Res Unit
  | 0, st, l => (l, .bad st.at_ 4)
  | d + 1, st, l => if st.at_ < s.size then match pieceF s st with
    | (ev, .ok _ st1) => piecesF s d st1 (l ++ ev)
    | (ev, .bad a y) => (l ++ ev, .bad a y)
    else (l, .ok () st)
/-- At the end of the pieces. -/
def scanEnd (s : ByteArray) : List Evt × Res Unit → List Evt × Int × Int
  | (l, .bad a y) => (l, a, y)
  | (l, .ok _ st) => (l ++ flushE st, if 0 < st.opn.length then ((s.size : Int), 4) else (0, 0))
/-- What markup tells, and the place of what is wrong, and the reason (0, 0: nothing). -/
def scanF (s : ByteArray) : List Evt × Int × Int :=
  if 262144 < s.size then ([], 0, 2) else scanEnd s (piecesF s (s.size + 1) ⟨0, [], [], 0⟩ [])
/-- Between the pieces. -/
structure SW (B r gp gq : Nat) (Sk : Sink B r) (s : ByteArray) (w0 : World) (st : St) (l : List Evt) (w : World) : Prop where
  rd : Rd B r Sk.tell s st w
  P : Sk.P l w
  bel : Below B w0 w
  env : Env B w
  inv : Inv s st l
  cp : w.heap[gp]? = some (.cells #[.int .i64 0] 3 (0, 0))
  cq : w.heap[gq]? = some (.cells #[.int .i64 0] 23 (0, 0))
  np : gp ≠ r
  nq : gq ≠ r
  npq : gp ≠ gq
  lp : B ≤ gp
  lq : B ≤ gq
section
variable {B r gp gq : Nat} {Sk : Sink B r} {s : ByteArray} {w0 w w' : World} {st st' : St} {l ev : List Evt}
theorem SW.keepT (h : SW B r gp gq Sk s w0 st l w) (hk : KeepT r w w') : w'.heap[gp]? = some (.cells #[.int .i64 0] 3 (0, 0)) ∧ w'.heap[gq]? = some (.cells #[.int .i64 0] 23 (0, 0)) :=
  ⟨hk gp _ _ _ h.cp (.inl rfl) h.np, hk gq _ _ _ h.cq (.inr rfl) h.nq⟩
theorem SW.step (h : SW B r gp gq Sk s w0 st l w) (hb : Below B w w') (hk : KeepT r w w') (hP : Sk.P (l ++ ev) w') (hr : Rd B r Sk.tell s st' w') (hi : Inv s st' (l ++ ev)) : SW B r gp gq Sk s w0 st' (l ++ ev) w' :=
  ⟨hr, hP, h.bel.trans hb, h.env.step hb, hi, (h.keepT hk).1, (h.keepT hk).2, h.np, h.nq, h.npq, h.lp, h.lq⟩
end
/-- The two results, which lie in variables. -/
theorem scan_results (tmps : Array Value) (gp gq : Nat) (x y : Int) (w : World) (h4 : tmps.getD 4 undef = .pointer (some ⟨gp, 0, none⟩)) (h5 : tmps.getD 5 undef = .pointer (some ⟨gq, 0, none⟩)) (c4 : w.cell? ⟨gp, 0, none⟩ = some (.int .i64 x)) (c5 : w.cell? ⟨gq, 0, none⟩ = some (.int .i64 y)) :
    (results Tryz.f25 tmps).run Tryz.prog w = .ok (.tuple #[.int .i64 x, .int .i64 y]) w := by
  have h4' : tmps[4]?.getD undef = .pointer (some ⟨gp, 0, none⟩) := by simpa using h4
  have h5' : tmps[5]?.getD undef = .pointer (some ⟨gq, 0, none⟩) := by simpa using h5
  simp [results, Tryz.results25, h4', h5', c4, c5, go_sem]
/-- Behind a fault: it is caught, and told by the results. -/
theorem scan_caught {B r gp gq : Nat} {Sk : Sink B r} {w0 w : World} {tmps : Array Value} {a y : Int} {l : List Evt} {res : List Evt × Int × Int} (h4 : tmps.getD 4 undef = .pointer (some ⟨gp, 0, none⟩)) (h5 : tmps.getD 5 undef = .pointer (some ⟨gq, 0, none⟩))
    (cp : w.heap[gp]? = some (.cells #[.int .i64 0] 3 (0, 0))) (cq : w.heap[gq]? = some (.cells #[.int .i64 0] 23 (0, 0))) (hne : gp ≠ gq) (hP : Sk.P l w) (hb : Below B w0 w) (lp : B ≤ gp) (lq : B ≤ gq) (hres : res = (l, a, y)) :
    Leaves Tryz.prog Tryz.f25 tmps (fun e w' => e = .returned (.tuple #[.int .i64 res.2.1, .int .i64 res.2.2]) ∧ Sk.P res.1 w' ∧ Below B w0 w') [{ target := .fn (.func 40) #[.pointer (some ⟨gp, 0, none⟩), .pointer (some ⟨gq, 0, none⟩)], args := #[] }] (.panicking [{ v := faultV a y, recovered := false }]) w := by
  subst hres
  refine leaves_cons (f := 40) (args := #[.pointer (some ⟨gp, 0, none⟩), .pointer (some ⟨gq, 0, none⟩)]) (by simp) (by simp [go_sem]) ?_
  refine (caught gp gq a y 0 0 w ((blk_cell cp 0).trans rfl) ((blk_cell cq 0).trans rfl) (blk_frozen cp 0) (blk_frozen cq 0) hne).mono ?_
  rintro e u' w' ⟨rfl, rfl, rfl⟩
  have k1 := heap_set cp 0 (.int .i64 a)
  have k2 : (w.setCell ⟨gp, 0, none⟩ (.int .i64 a)).heap[gq]? = _ := (Below.heap_setCell w ⟨gp, 0, none⟩ (.int .i64 a) gq (Ne.symm hne)).trans cq
  have k3 := heap_set k2 0 (.int .i64 y)
  have k4 : ((w.setCell ⟨gp, 0, none⟩ (.int .i64 a)).setCell ⟨gq, 0, none⟩ (.int .i64 y)).heap[gp]? = _ := (Below.heap_setCell (w.setCell ⟨gp, 0, none⟩ (.int .i64 a)) ⟨gq, 0, none⟩ (.int .i64 y) gp hne).trans k1
  have P1 := Sk.put _ w gp _ _ _ (.int .i64 a) hP cp (.inl rfl)
  have P2 := Sk.put _ _ gq _ _ _ (.int .i64 y) P1 k2 (.inr rfl)
  refine ⟨_, scan_results tmps gp gq a y _ h4 h5 ((blk_cell (w := ((w.setCell ⟨gp, 0, none⟩ (.int .i64 a)).setCell ⟨gq, 0, none⟩ (.int .i64 y)).drew) k4 0).trans rfl) ((blk_cell (w := ((w.setCell ⟨gp, 0, none⟩ (.int .i64 a)).setCell ⟨gq, 0, none⟩ (.int .i64 y)).drew) k3 0).trans rfl), rfl, ?_, ?_⟩
  · exact Sk.grow _ _ _ P2 (Below.drew (Below.refl _ _))
  · exact Below.drew (((hb.setCell (p := ⟨gp, 0, none⟩) lp _).setCell (p := ⟨gq, 0, none⟩) lq _))
/-- Where all went well. -/
theorem scan_idle {B r gp gq : Nat} {Sk : Sink B r} {w0 w : World} {tmps : Array Value} {l : List Evt} {x y : Int} {res : List Evt × Int × Int} (h4 : tmps.getD 4 undef = .pointer (some ⟨gp, 0, none⟩)) (h5 : tmps.getD 5 undef = .pointer (some ⟨gq, 0, none⟩))
    (cp : w.cell? ⟨gp, 0, none⟩ = some (.int .i64 x)) (cq : w.cell? ⟨gq, 0, none⟩ = some (.int .i64 y)) (hP : Sk.P l w) (hb : Below B w0 w) (hres : res = (l, x, y)) :
    Leaves Tryz.prog Tryz.f25 tmps (fun e w' => e = .returned (.tuple #[.int .i64 res.2.1, .int .i64 res.2.2]) ∧ Sk.P res.1 w' ∧ Below B w0 w') [{ target := .fn (.func 40) #[.pointer (some ⟨gp, 0, none⟩), .pointer (some ⟨gq, 0, none⟩)], args := #[] }] .returning w := by
  subst hres
  refine leaves_cons (f := 40) (args := #[.pointer (some ⟨gp, 0, none⟩), .pointer (some ⟨gq, 0, none⟩)]) (by simp) (by simp [go_sem]) ?_
  refine (caught_idle ⟨gp, 0, none⟩ ⟨gq, 0, none⟩ w).mono ?_
  rintro e u' w' ⟨rfl, rfl, rfl⟩
  exact ⟨_, scan_results tmps gp gq x y _ h4 h5 cp cq, rfl, hP, hb⟩
set_option maxHeartbeats 16000000 in
set_option maxRecDepth 100000 in
theorem Scan_calls (B r : Nat) (s : ByteArray) (w : World) (hr : r = w.heap.size + 1 + 1) (Sk : Sink B r) (hP : Sk.P [] w) (hE : Env B w) :
    Calls Tryz.prog 25 #[.string s, Sk.tell] w fun e w' => e = .returned (.tuple #[.int .i64 (scanF s).2.1, .int .i64 (scanF s).2.2]) ∧ Sk.P (scanF s).1 w' ∧ Below B w w' := by
  have hmf : ∀ (fn : Fn) (first cap : Array Value) (w : World), (Instr.makeFunc fn first cap).run Tryz.prog w = .ok (.func fn first cap) w := fun _ _ _ _ => rfl
  have HP := Aside0.mk hP
  have HE := Aside0.mk hE
  generalize hres : scanF s = res
  have HZ := Aside0.mk hres
  clear hres hP hE
  unfold Sink.tell
  have HRE := Aside0.mk hr
  have hle := HE.out.le
  clear hr
  by_cases hbig : 262144 < s.size
  · have d1 : decide ((s.size : Int) > 262144) = true := decide_eq_true (by omega)
    have d2 : decide ((262144 : Int) < (s.size : Int)) = true := decide_eq_true (by omega)
    have d3 : decide (262144 < s.size) = true := decide_eq_true hbig
    have HBIG := Aside0.mk hbig
    clear hbig
    go_enter_defers Tryz.func25, Tryz.ntmps25
    go_wp2_with fail
    have k1 := blk_new w (.cells #[.int .i64 0] 3)
    have k2 : ((w.alloc (.cells #[.int .i64 0] 3)).alloc (.cells #[.int .i64 2] 23)).heap[w.heap.size]? = _ := (Lib.alloc_old _ _ _ (by rw [size_alloc']; omega)).trans k1
    have k3 := blk_new (w.alloc (.cells #[.int .i64 0] 3)) (.cells #[.int .i64 2] 23)
    rw [size_alloc'] at k3
    have hb : Below w.heap.size w ((w.alloc (.cells #[.int .i64 0] 3)).alloc (.cells #[.int .i64 2] 23)) := ((Below.refl _ w).alloc (Nat.le_refl _) _).alloc (by rw [size_alloc']; omega) _
    have hr0 : res = ([], 0, 2) := by rw [← HZ.out, scanF, if_pos HBIG.out]
    subst hr0
    exact ⟨_, scan_results _ w.heap.size (w.heap.size + 1) 0 2 _ rfl rfl ((blk_cell k2 0).trans rfl) ((blk_cell k3 0).trans rfl), rfl, Sk.grow _ _ _ HP.out hb, hb.mono hle⟩
  · have d1 : decide ((s.size : Int) > 262144) = false := decide_eq_false (by omega)
    have d2 : decide ((262144 : Int) < (s.size : Int)) = false := decide_eq_false (by omega)
    have d3 : decide (262144 < s.size) = false := decide_eq_false hbig
    have HBIG := Aside0.mk hbig
    clear hbig
    go_enter_defers Tryz.func25, Tryz.ntmps25
    go_wp2_with fail
    have hsz2 : ((w.alloc (.cells #[.int .i64 0] 3)).alloc (.cells #[.int .i64 0] 23)).heap.size = r := by rw [size_alloc', size_alloc', HRE.out]
    have hal : Below w.heap.size w (((w.alloc (.cells #[.int .i64 0] 3)).alloc (.cells #[.int .i64 0] 23)).alloc (.cells #[.string s, .int .i64 0, .slice none 0 0, .pointer none, .slice none 0 0, .int .i64 0, .func (.func Sk.g) #[] Sk.lb] 86)) :=
      (((Below.refl _ w).alloc (Nat.le_refl _) _).alloc (by rw [size_alloc']; omega) _).alloc (by rw [size_alloc', size_alloc']; omega) _
    have k1 := blk_new w (.cells #[.int .i64 0] 3)
    have k2 : ((w.alloc (.cells #[.int .i64 0] 3)).alloc (.cells #[.int .i64 0] 23)).heap[w.heap.size]? = _ := (Lib.alloc_old _ _ _ (by rw [size_alloc']; omega)).trans k1
    have k3 := blk_new (w.alloc (.cells #[.int .i64 0] 3)) (.cells #[.int .i64 0] 23)
    rw [size_alloc'] at k3
    have k4 := blk_new ((w.alloc (.cells #[.int .i64 0] 3)).alloc (.cells #[.int .i64 0] 23)) (.cells #[.string s, .int .i64 0, .slice none 0 0, .pointer none, .slice none 0 0, .int .i64 0, .func (.func Sk.g) #[] Sk.lb] 86)
    rw [hsz2] at k4
    have X0 := Aside0.mk (show SW B r w.heap.size (w.heap.size + 1) Sk s w ⟨0, [], [], 0⟩ [] _ from
      { rd := ⟨Nat.le_trans hle hal.size, .slice none 0 0, .pointer none, .slice none 0 0, ⟨by rw [HRE.out]; omega, k4, .inl rfl, .slice none 0 0, rfl, ⟨rfl, .inl ⟨rfl, rfl⟩⟩, by simp [Value.ownBlock]⟩, own_nil _ _ _ _⟩
        P := Sk.grow _ _ _ HP.out hal
        bel := hal.mono hle
        env := HE.out.step (hal.mono hle)
        inv := ⟨Nat.zero_le _, Nat.zero_le _, Nat.zero_le _, Nat.zero_le _, rfl, Nat.zero_le _⟩
        cp := (Lib.alloc_old _ _ _ (by rw [hsz2, HRE.out]; omega)).trans k2
        cq := (Lib.alloc_old _ _ _ (by rw [hsz2, HRE.out]; omega)).trans k3
        np := by rw [HRE.out]; omega
        nq := by rw [HRE.out]; omega
        npq := by omega
        lp := hle
        lq := by omega })
    generalize hval : piecesF s (s.size + 1) ⟨0, [], [], 0⟩ [] = val
    have HV := Aside0.mk hval
    have HR := Aside0.mk (show res = scanEnd s val by rw [← HZ.out, scanF, if_neg HBIG.out, hval])
    have HS := Aside0.mk (show s.size ≤ 262144 from Nat.not_lt.mp HBIG.out)
    clear hval hal k1 k2 k3 k4 hsz2
    rw [← HRE.out]
    generalize hw3 : (((w.alloc (.cells #[.int .i64 0] 3)).alloc (.cells #[.int .i64 0] 23)).alloc (.cells #[.string s, .int .i64 0, .slice none 0 0, .pointer none, .slice none 0 0, .int .i64 0, .func (.func Sk.g) #[] Sk.lb] 86)) = w3 at *
    generalize hgp : w.heap.size = gp at *
    generalize hgq : gp + 1 = gq at *
    clear hw3
    go_loopg [] s.size (fun gg wr => ∃ (stx : St) (lx : List Evt), s.size - stx.at_ ≤ gg ∧ Aside0 (SW B r gp gq Sk s w stx lx wr) ∧ Aside0 (piecesF s (gg + 1) stx lx = val))
    case atStart => exact ⟨_, _, Nat.sub_le _ _, X0, HV⟩
    case round =>
      obtain ⟨stx, lx, hgx, HX, HVx⟩ := hrel
      clear X0 HV
      obtain ⟨h0, ov, pv, bv, h1, h2⟩ := HX.out.rd
      obtain ⟨c0, c1, c2, -⟩ := Rd.cells h1
      clear h0 h1
      have hai := HX.out.inv.at_
      have hsl := HS.out
      by_cases hlt : stx.at_ < s.size
      · have g1 : decide ((stx.at_ : Int) < (s.size : Int)) = true := decide_eq_true (by omega)
        have HLT := Aside0.mk hlt
        have CP := Aside0.mk (piece_calls B r Sk s stx lx wr HX.out.rd HX.out.env HX.out.P hlt HS.out HX.out.inv)
        rcases hpf : pieceF s stx with ⟨ev, rs⟩
        rw [hpf] at CP
        cases rs with
        | bad a y =>
          go_wp2_with (go_at_call 41; refine CP.out.mono ?_; rintro e w4 ⟨hb4, hk4, hP4, rfl⟩)
          have hk := HX.out.keepT hk4
          refine scan_caught (B := B) (r := r) (w0 := w) (l := lx ++ ev) rfl rfl hk.1 hk.2 HX.out.npq hP4 (HX.out.bel.trans hb4) HX.out.lp HX.out.lq ?_
          rw [HR.out, ← HVx.out, piecesF, if_pos HLT.out, hpf]
          rfl
        | ok u st4 =>
          have hio := pieceF_ok hpf HX.out.inv hlt
          go_wp2_with (go_at_call 41; refine CP.out.mono ?_; rintro e w4 ⟨hb4, hk4, hP4, rfl, hr4⟩)
          have X4 := HX.out.step hb4 hk4 hP4 hr4 hio.1
          obtain ⟨gk, rfl⟩ : ∃ m, gk = m + 1 := ⟨gk - 1, by omega⟩
          go_roundg gk
          case measure => omega
          case rel =>
            have := hio.2
            refine ⟨st4, lx ++ ev, by omega, ⟨X4⟩, ⟨?_⟩⟩
            rw [← HVx.out]
            conv => rhs; rw [piecesF, if_pos HLT.out, hpf]
      · have g1 : decide ((stx.at_ : Int) < (s.size : Int)) = false := decide_eq_false (by omega)
        have HLT := Aside0.mk hlt
        have CF := Aside0.mk (flush_calls B r Sk s stx lx wr HX.out.rd HX.out.P (by have := HX.out.inv.len; have := HX.out.inv.nodes; omega))
        have hes : val = (lx, .ok () stx) := by rw [← HVx.out, piecesF, if_neg HLT.out]
        have HES := Aside0.mk hes
        have g1n : decide (stx.at_ < s.size) = false := decide_eq_false hlt
        clear hes h2 c2
        by_cases hop : 0 < stx.opn.length
        · have n1 : decide ((stx.opn.length : Int) > 0) = true := decide_eq_true (by omega)
          have n2 : decide ((0 : Int) < (stx.opn.length : Int)) = true := decide_eq_true (by omega)
          have n3 : decide (0 < stx.opn.length) = true := decide_eq_true hop
          have HOP := Aside0.mk hop
          clear hop
          go_wp2_with (first
            | (go_at_call 42; refine CF.out.mono ?_; rintro e w4 ⟨rfl, hR4, hP4, hB4, hK4⟩; have H4 := Aside0.mk (And.intro hP4 (And.intro hB4 hK4)); obtain ⟨y0, ov4, pv4, bv4, y1, y2⟩ := hR4; obtain ⟨Ao, co, rfl⟩ := own_slice y2; have e2 : w4.cell? ⟨r, 2, none⟩ = some (.slice Ao stx.opn.length co) := (blk_cell y1.2.1 2).trans rfl; clear y0 y1 y2 hP4 hB4 hK4)
            | (go_at_call 43; refine (fail_calls r _ 4 _).mono ?_; rintro e w' ⟨rfl, rfl⟩))
          have hk := HX.out.keepT H4.out.2.2
          refine scan_caught (B := B) (r := r) (w0 := w) (l := lx ++ flushE stx) rfl rfl hk.1 hk.2 HX.out.npq H4.out.1 (HX.out.bel.trans H4.out.2.1) HX.out.lp HX.out.lq ?_
          rw [HR.out, HES.out, scanEnd, if_pos HOP.out]
        · have n1 : decide ((stx.opn.length : Int) > 0) = false := decide_eq_false (by omega)
          have n2 : decide ((0 : Int) < (stx.opn.length : Int)) = false := decide_eq_false (by omega)
          have n3 : decide (0 < stx.opn.length) = false := decide_eq_false hop
          have HOP := Aside0.mk hop
          clear hop
          go_wp2_with (first
            | (go_at_call 42; refine CF.out.mono ?_; rintro e w4 ⟨rfl, hR4, hP4, hB4, hK4⟩; have H4 := Aside0.mk (And.intro hP4 (And.intro hB4 hK4)); obtain ⟨y0, ov4, pv4, bv4, y1, y2⟩ := hR4; obtain ⟨Ao, co, rfl⟩ := own_slice y2; have e2 : w4.cell? ⟨r, 2, none⟩ = some (.slice Ao stx.opn.length co) := (blk_cell y1.2.1 2).trans rfl; have hk := HX.out.keepT hK4; have k1 := (blk_cell hk.1 0).trans rfl; have k2 := (blk_cell hk.2 0).trans rfl; have z1 := blk_frozen hk.1 0; have z2 := blk_frozen hk.2 0; have npq := HX.out.npq; clear y0 y1 y2 hP4 hB4 hK4 hk))
          have hk := HX.out.keepT H4.out.2.2
          have kk1 := heap_set hk.1 0 (.int .i64 0)
          have kk2 : (w4.setCell ⟨gp, 0, none⟩ (.int .i64 0)).heap[gq]? = _ := (Below.heap_setCell w4 ⟨gp, 0, none⟩ (.int .i64 0) gq (Ne.symm npq)).trans hk.2
          have kk3 := heap_set kk2 0 (.int .i64 0)
          have kk4 : ((w4.setCell ⟨gp, 0, none⟩ (.int .i64 0)).setCell ⟨gq, 0, none⟩ (.int .i64 0)).heap[gp]? = _ := (Below.heap_setCell (w4.setCell ⟨gp, 0, none⟩ (.int .i64 0)) ⟨gq, 0, none⟩ (.int .i64 0) gp npq).trans kk1
          have P1 := Sk.put _ w4 gp _ _ _ (.int .i64 0) H4.out.1 hk.1 (.inl rfl)
          have P2 := Sk.put _ _ gq _ _ _ (.int .i64 0) P1 kk2 (.inr rfl)
          refine scan_idle (B := B) (r := r) (w0 := w) (l := lx ++ flushE stx) rfl rfl ((blk_cell kk4 0).trans rfl) ((blk_cell kk3 0).trans rfl) P2 (((HX.out.bel.trans H4.out.2.1).setCell (p := ⟨gp, 0, none⟩) HX.out.lp _).setCell (p := ⟨gq, 0, none⟩) HX.out.lq _) ?_
          rw [HR.out, HES.out, scanEnd, if_neg HOP.out]
end Go.Proofs.YtealmfcimoomlaaGreatDoor.PA
