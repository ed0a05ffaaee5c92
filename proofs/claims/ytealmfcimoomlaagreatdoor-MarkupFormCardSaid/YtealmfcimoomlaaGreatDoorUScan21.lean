/- Texts of this claim, one behind the other: UScan19, UScan20, UScan21. Conditions: those of each theorem. -/
import Derived.Test.YtealmfcimoomlaaGreatDoorUScan18
import Derived.Defers
import Derived.Recover
import Derived.Laws.Pointers
/- scan.reader: piece; what holds between the pieces. -/
namespace Go.Proofs.YtealmfcimoomlaaGreatDoor.PA
open Go.RowKit Go.Proofs.YtealmfcimoomlaaGreatDoorW.PrintWords Go.Proofs.YtealmfcimoomlaaGreatDoorW.PrintLast Go.Proofs.YtealmfcimoomlaaGreatDoorW.PrintMore
set_option linter.unusedVariables false
set_option linter.unusedSimpArgs false
/-- A character, a reference, or what stands at a <. -/
def pieceF (s : ByteArray) (st : St) : List Evt × Res Unit :=
  if bt s (st.at_ : Int) = 60 then tagF s st else ([], (if bt s (st.at_ : Int) = 38 then refP s st else charP s st).bind fun t st1 => addsF st1 t (st.at_ : Int))
/-- What holds between the pieces. -/
structure Inv (s : ByteArray) (st : St) (l : List Evt) : Prop where
  at_ : st.at_ ≤ s.size
  text : st.text.length ≤ 16384
  nodes : st.nodes ≤ 4096
  opn : st.opn.length ≤ 64
  deep : deep l = st.opn.length
  len : l.length + st.opn.length + (if st.text = [] then 0 else 1) ≤ 2 * st.nodes
theorem atsF_ok {s : ByteArray} : ∀ (d : Nat) (st : St) (l : List S61) {x : List S61 × Bool} {st' : St}, atsF s d st l = .ok x st' → st.at_ ≤ s.size → st' = { st with at_ := st'.at_ } ∧ st.at_ < st'.at_ ∧ st'.at_ ≤ s.size := by
  intro d
  induction d with
  | zero => intro st l x st' h; cases h
  | succ d ih =>
    intro st l x st' h ha
    rw [atsF_succ] at h
    have hge : st.at_ ≤ skipF s blankV st.at_ := skipF_ge _ _ _
    have hle : skipF s blankV st.at_ ≤ s.size := skipF_le _ _ _ ha
    obtain ⟨c, st1, hn, h'⟩ := Res.bind_ok h
    clear h
    obtain ⟨he, -, hlt⟩ := nextF_ok hn hle
    subst he
    simp only at hlt
    split at h'
    · obtain ⟨u, st2, h2, h3⟩ := Res.bind_ok h'
      injection h3 with _ h3
      subst h3
      obtain ⟨e1, e2⟩ := mustF_ok h2 (by simp only; omega)
      simp only at e2
      rw [e1]
      exact ⟨rfl, by simp only; omega, by simp only; omega⟩
    split at h'
    · injection h' with _ h3
      subst h3
      exact ⟨rfl, by simp only; omega, by simp only; omega⟩
    split at h'
    · obtain ⟨a, st2, h2, h3⟩ := Res.bind_ok h'
      obtain ⟨e1, e2, e3, -⟩ := sAttrF_ok h2 hle
      simp only at e2
      obtain ⟨f1, f2, f3⟩ := ih st2 _ h3 e3
      refine ⟨?_, by omega, f3⟩
      rw [f1, e1]
    · cases h'
theorem flushE_count (st : St) : (flushE st).length = if st.text = [] then 0 else 1 := by
  unfold flushE
  split <;> rfl
theorem opensF_ok {s : ByteArray} {st st' : St} {l ev : List Evt} {u : Unit} (h : opensF s st = (ev, .ok u st')) (hi : Inv s st l) (ha : st.at_ < s.size) : Inv s st' (l ++ ev) ∧ st.at_ < st'.at_ := by
  unfold opensF at h
  split at h
  · cases h
  rename_i u1 st1 hb
  obtain ⟨e1, e2, e3⟩ := beginsF_ok hb
  have e1a : st1.at_ = st.at_ := by rw [e1]; rfl
  have e1o : st1.opn = st.opn := by rw [e1]; rfl
  have e1t : st1.text = [] := by rw [e1]; rfl
  have e1n : st1.nodes = st.nodes + 1 := by rw [e1]; rfl
  have e2' : st.nodes < 4096 := e2
  have e3' : st.opn.length < 64 := e3
  split at h
  · cases h
  rename_i n st2 hn
  obtain ⟨f1, f2, f3, -⟩ := nameP_ok hn (by simp only; omega)
  simp only at f2
  split at h
  · cases h
  · rename_i al st3 hat
    obtain ⟨g1, g2, g3⟩ := atsF_ok _ _ _ hat f3
    obtain ⟨h1, h2⟩ := Prod.mk.inj h
    injection h2 with _ h2
    subst h1; subst h2
    have o3 : st3.opn = st.opn := by rw [g1, f1]; exact e1o
    have t3 : st3.text = [] := by rw [g1, f1]; exact e1t
    have n3 : st3.nodes = st.nodes + 1 := by rw [g1, f1]; exact e1n
    refine ⟨⟨g3, by rw [t3]; exact Nat.zero_le _, by rw [n3]; omega, by rw [o3]; exact hi.opn, ?_, ?_⟩, by omega⟩
    · rw [deep_append, deep_append, deep_append, flushE_deep, hi.deep, o3]
      show _ + (0 + 1 + -1 : Int) = _
      omega
    · rw [List.length_append, List.length_append, List.length_append, flushE_count, o3, t3, n3, if_pos rfl]
      have := hi.len
      simp only [List.length_singleton]
      omega
  · rename_i al st3 hat
    obtain ⟨g1, g2, g3⟩ := atsF_ok _ _ _ hat f3
    obtain ⟨h1, h2⟩ := Prod.mk.inj h
    injection h2 with _ h2
    subst h1; subst h2
    have o3 : st3.opn = st.opn := by rw [g1, f1]; exact e1o
    have t3 : st3.text = [] := by rw [g1, f1]; exact e1t
    have n3 : st3.nodes = st.nodes + 1 := by rw [g1, f1]; exact e1n
    refine ⟨⟨g3, by simp only; rw [t3]; exact Nat.zero_le _, by simp only; rw [n3]; omega, by simp only; rw [o3, List.length_append]; simp only [List.length_singleton]; omega, ?_, ?_⟩, by simp only; omega⟩
    · rw [deep_append, deep_append, flushE_deep, hi.deep]
      simp only
      rw [o3, List.length_append]
      show _ + (0 + 1 : Int) = _
      simp only [List.length_singleton]
      omega
    · simp only
      rw [List.length_append, List.length_append, List.length_append, flushE_count, o3, t3, n3, if_pos rfl]
      have := hi.len
      simp only [List.length_singleton]
      omega
theorem closesF_ok {s : ByteArray} {st st' : St} {l ev : List Evt} {u : Unit} (h : closesF s st = (ev, .ok u st')) (hi : Inv s st l) (ha : st.at_ + 2 ≤ s.size) : Inv s st' (l ++ ev) ∧ st.at_ < st'.at_ := by
  unfold closesF at h
  split at h
  · cases h
  rename_i c st1 hn
  obtain ⟨e1, -, e2⟩ := nextF_ok hn ha
  split at h
  · cases h
  split at h
  · cases h
  rename_i n st2 hnm
  obtain ⟨f1, f2, f3, -⟩ := nameP_ok hnm (by rw [e1]; exact ha)
  split at h
  · cases h
  rename_i hlast
  split at h
  · cases h
  rename_i u3 st3 hm
  have hle : skipF s blankV st2.at_ ≤ s.size := skipF_le _ _ _ f3
  have hge : st2.at_ ≤ skipF s blankV st2.at_ := skipF_ge _ _ _
  obtain ⟨g1, g2⟩ := mustF_ok hm hle
  simp only at g2
  obtain ⟨h1, h2⟩ := Prod.mk.inj h
  injection h2 with _ h2
  subst h1; subst h2
  have ea : st1.at_ = st.at_ + 2 := by rw [e1]
  have o3 : st3.opn = st.opn := by rw [g1, f1, e1]; rfl
  have t3 : st3.text = [] := by rw [g1, f1, e1]; rfl
  have n3 : st3.nodes = st.nodes := by rw [g1, f1, e1]; rfl
  have a3 : st3.at_ = skipF s blankV st2.at_ + 1 := by rw [g1]
  have o2 : st2.opn = st.opn := by rw [f1, e1]; rfl
  have hpos : 0 < st.opn.length := by
    rw [← o2]
    rcases Nat.eq_zero_or_pos st2.opn.length with e | e
    · rw [List.length_eq_zero_iff.mp e] at hlast
      exact absurd hlast (by simp)
    · exact e
  refine ⟨⟨by simp only; omega, by simp only; rw [t3]; exact Nat.zero_le _, by simp only; rw [n3]; exact hi.nodes, by simp only; rw [o3, List.length_dropLast]; have := hi.opn; omega, ?_, ?_⟩, by simp only; omega⟩
  · rw [deep_append, deep_append, flushE_deep, hi.deep]
    simp only
    rw [o3, List.length_dropLast]
    show _ + (0 + -1 : Int) = _
    omega
  · simp only
    rw [List.length_append, List.length_append, flushE_count, o3, t3, n3, if_pos rfl, List.length_dropLast]
    have := hi.len
    simp only [List.length_singleton]
    omega
end Go.Proofs.YtealmfcimoomlaaGreatDoor.PA

/- scan.reader: piece. -/
namespace Go.Proofs.YtealmfcimoomlaaGreatDoor.PA
open Go.RowKit Go.Proofs.YtealmfcimoomlaaGreatDoorW.PrintWords Go.Proofs.YtealmfcimoomlaaGreatDoorW.PrintLast Go.Proofs.YtealmfcimoomlaaGreatDoorW.PrintMore
set_option linter.unusedVariables false
set_option linter.unusedSimpArgs false
/-- Text has been added, or nothing has. -/
structure Adv (st st' : St) : Prop where
  opn : st'.opn = st.opn
  text : st'.text.length ≤ 16384
  nodes : st'.nodes ≤ 4096
  cnt : ∀ N, N + (if st.text = [] then 0 else 1) ≤ 2 * st.nodes → N + (if st'.text = [] then 0 else 1) ≤ 2 * st'.nodes
theorem Adv.trans {a b c : St} (h : Adv a b) (k : Adv b c) : Adv a c := ⟨k.opn.trans h.opn, k.text, k.nodes, fun N hN => k.cnt N (h.cnt N hN)⟩
theorem Adv.at_ {a b : St} (h : Adv a b) (j : Nat) : Adv a { b with at_ := j } := ⟨h.opn, h.text, h.nodes, h.cnt⟩
theorem Adv.self {st : St} (ht : st.text.length ≤ 16384) (hn : st.nodes ≤ 4096) (j : Nat) : Adv st { st with at_ := j } := ⟨rfl, ht, hn, fun _ h => h⟩
theorem Adv.of {st st' : St} (e : st' = { st with at_ := st'.at_ }) (ht : st.text.length ≤ 16384) (hn : st.nodes ≤ 4096) : Adv st st' := by rw [e]; exact Adv.self ht hn _
theorem addsF_adv {st st' : St} {x : ByteArray} {a : Int} {u : Unit} (h : addsF st x a = .ok u st') (hn : st.nodes ≤ 4096) : Adv st st' ∧ st'.at_ = st.at_ := by
  obtain ⟨h1, h2, h3, h4, h5, h6⟩ := addsF_ok h
  refine ⟨⟨h2, h4, ?_, fun N hN => ?_⟩, h1⟩
  · by_cases e : st.text.length = 0
    · exact h6 e
    · rw [h5, if_neg e]; exact hn
  · by_cases e : st.text = []
    · rw [if_pos e] at hN
      have h7 : st'.nodes = st.nodes + 1 := by rw [h5, if_pos (by rw [e]; rfl)]
      split <;> omega
    · rw [if_neg e] at hN
      have e2 : st'.text ≠ [] := by
        rw [h3]
        intro hc
        exact e (List.append_eq_nil_iff.mp hc).1
      have h8 : st.nodes ≤ st'.nodes := by rw [h5]; exact Nat.le_add_right _ _
      rw [if_neg e2]
      omega
theorem cdF_ok {s : ByteArray} {to_ : Nat} (hto : to_ ≤ s.size) : ∀ (d : Nat) (st : St) {st' : St} {u : Unit}, cdF s to_ d st = .ok u st' → st.text.length ≤ 16384 → st.nodes ≤ 4096 → Adv st st' := by
  intro d
  induction d with
  | zero =>
    intro st st' u h ht hn
    injection h with _ h
    subst h
    exact Adv.self ht hn st.at_
  | succ d ih =>
    intro st st' u h ht hn
    rw [cdF_succ] at h
    split at h
    · rename_i hlt
      obtain ⟨t, st1, h1, h⟩ := Res.bind_ok h
      obtain ⟨v, st2, h2, h⟩ := Res.bind_ok h
      obtain ⟨e1, -⟩ := charP_ok h1 (by omega)
      have a1 := Adv.of e1 ht hn
      obtain ⟨a2, -⟩ := addsF_adv h2 a1.nodes
      exact (a1.trans a2).trans (ih st2 h a2.text a2.nodes)
    · injection h with _ h
      subst h
      exact Adv.self ht hn st.at_
theorem Inv.adv {s : ByteArray} {st st' : St} {l : List Evt} (h : Inv s st l) (ha : Adv st st') (hs : st'.at_ ≤ s.size) : Inv s st' (l ++ []) := by
  rw [List.append_nil]
  exact ⟨hs, ha.text, ha.nodes, by rw [ha.opn]; exact h.opn, by rw [ha.opn]; exact h.deep, by rw [ha.opn]; exact ha.cnt _ h.len⟩
theorem tagF_ok {s : ByteArray} {st st' : St} {l ev : List Evt} {u : Unit} (h : tagF s st = (ev, .ok u st')) (hi : Inv s st l) (ha : st.at_ < s.size) : Inv s st' (l ++ ev) ∧ st.at_ < st'.at_ := by
  have past : ∀ (j : Nat) (mark : ByteArray), st.at_ + j ≤ s.size → ([], pastF s st (st.at_ + j) mark) = (ev, Res.ok u st') → 0 < j → Inv s st' (l ++ ev) ∧ st.at_ < st'.at_ := by
    intro j mark hj he hp
    obtain ⟨h1, h2⟩ := Prod.mk.inj he
    subst h1
    obtain ⟨e1, e2, e3⟩ := pastF_ok h2 hj
    exact ⟨hi.adv (Adv.of e1 hi.text hi.nodes) e3, by omega⟩
  have hlen := rest_len s st.at_
  unfold tagF at h
  split at h
  · cases h
  split at h
  · rename_i hp
    have := prefix_len hp
    rw [hlen] at this
    have e : remarkL.length = 4 := rfl
    exact past 4 _ (by omega) h (by omega)
  split at h
  · rename_i hp
    have := prefix_len hp
    rw [hlen] at this
    have e : ([60, 63] : List UInt8).length = 2 := rfl
    exact past 2 _ (by omega) h (by omega)
  split at h
  · rename_i hp
    have := prefix_len hp
    rw [hlen] at this
    have e : rawL.length = 9 := rfl
    obtain ⟨h1, h2⟩ := Prod.mk.inj h
    subst h1
    unfold cdataF at h2
    obtain ⟨v, st1, h3, h4⟩ := Res.bind_ok h2
    obtain ⟨v2, st2, h5, h6⟩ := Res.bind_ok h4
    injection h6 with _ h6
    subst h6
    obtain ⟨e1, e2, e3⟩ := pastF_ok h3 (by omega)
    have a1 := Adv.of e1 hi.text hi.nodes
    have a2 := cdF_ok e3 _ _ h5 a1.text a1.nodes
    exact ⟨hi.adv (((a1.at_ _).trans a2).at_ _) e3, by simp only; omega⟩
  split at h
  · rename_i hp
    have := prefix_len hp
    rw [hlen] at this
    have e : ([60, 47] : List UInt8).length = 2 := rfl
    exact closesF_ok h hi (by omega)
  split at h
  · exact opensF_ok h hi ha
  · cases h
theorem pieceF_ok {s : ByteArray} {st st' : St} {l ev : List Evt} {u : Unit} (h : pieceF s st = (ev, .ok u st')) (hi : Inv s st l) (ha : st.at_ < s.size) : Inv s st' (l ++ ev) ∧ st.at_ < st'.at_ := by
  unfold pieceF at h
  split at h
  · exact tagF_ok h hi ha
  · obtain ⟨h1, h2⟩ := Prod.mk.inj h
    subst h1
    obtain ⟨t, st1, h3, h4⟩ := Res.bind_ok h2
    have hx : st1 = { st with at_ := st1.at_ } ∧ st.at_ < st1.at_ ∧ st1.at_ ≤ s.size := by
      split at h3
      · obtain ⟨a, b, c, -⟩ := refP_ok h3 ha; exact ⟨a, b, c⟩
      · obtain ⟨a, b, c, -⟩ := charP_ok h3 ha; exact ⟨a, b, c⟩
    have a1 := Adv.of hx.1 hi.text hi.nodes
    obtain ⟨a2, e2⟩ := addsF_adv h4 a1.nodes
    exact ⟨hi.adv (a1.trans a2) (by rw [e2]; exact hx.2.2), by rw [e2]; exact hx.2.1⟩
set_option maxHeartbeats 8000000 in
set_option maxRecDepth 100000 in
theorem piece_calls (B r : Nat) (Sk : Sink B r) (s : ByteArray) (st : St) (l0 : List Evt) (w : World) (h : Rd B r Sk.tell s st w) (hE : Env B w) (hP : Sk.P l0 w) (ha : st.at_ < s.size) (hs : s.size ≤ 262144) (hi : Inv s st l0) :
    Calls Tryz.prog 41 #[.pointer (some ⟨r, 0, none⟩)] w (EndsE Sk s l0 w (pieceF s st)) := by
  have W0 := Aside0.mk (Way.start h hE)
  have HP0 := Aside0.mk hP
  have HS := Aside0.mk hs
  have HI := Aside0.mk hi
  obtain ⟨h0, ov, pv, bv, h1, h2⟩ := h
  obtain ⟨c0, c1, -⟩ := Rd.cells h1
  clear h1 h2 h0 hE hP hi
  have hbt := Aside0.mk (show ((s[st.at_]'ha).toNat : Int) = bt s (st.at_ : Int) by have := bt_at s (st.at_ : Int) (by simpa using ha); simpa using this)
  have p6 := eq_true (show (0 : Int) ≤ (st.at_ : Int) by omega)
  have q6 := eq_true (show (st.at_ : Int) < (s.size : Int) by omega)
  generalize hres : pieceF s st = res
  have HZ := Aside0.mk hres
  clear hres
  by_cases h60 : bt s (st.at_ : Int) = 60
  · have f1 : (((s[st.at_]'ha).toNat : Int) == 60) = true := beq_iff_eq.mpr (by rw [hbt.out, h60])
    have H60 := Aside0.mk h60
    clear h60
    have CP := Aside0.mk (tag_calls B r Sk s st l0 w W0.out.rd W0.out.env HP0.out ha H60.out HS.out (by have := HI.out.len; have := HI.out.nodes; omega) HI.out.deep HI.out.opn HI.out.nodes HI.out.text)
    rcases hpf : tagF s st with ⟨ev, rs⟩
    rw [hpf] at CP
    cases rs with
    | bad a y =>
      go_enter Tryz.func41, Tryz.ntmps41
      go_wp2_with (go_at_call 66; refine CP.out.mono ?_; rintro e w2 ⟨hb2, hk2, hP2, rfl⟩)
      rw [← HZ.out, pieceF, if_pos H60.out, hpf]
      exact ⟨rfl, hb2, hk2, hP2, rfl⟩
    | ok u st2 =>
      go_enter Tryz.func41, Tryz.ntmps41
      go_wp2_with (go_at_call 66; refine CP.out.mono ?_; rintro e w2 ⟨hb2, hk2, hP2, rfl, hr2⟩)
      go_end0
      rw [← HZ.out, pieceF, if_pos H60.out, hpf]
      exact ⟨hb2, hk2, hP2, rfl, hr2⟩
  have f1 : (((s[st.at_]'ha).toNat : Int) == 60) = false := beq_eq_false_iff_ne.mpr (by rw [hbt.out]; exact h60)
  have H60 := Aside0.mk h60
  clear h60
  have HTX := Aside0.mk HI.out.text
  have HNX := Aside0.mk HI.out.nodes
  by_cases h38 : bt s (st.at_ : Int) = 38
  · have f2 : (((s[st.at_]'ha).toNat : Int) == 38) = true := beq_iff_eq.mpr (by rw [hbt.out, h38])
    have H38 := Aside0.mk h38
    clear h38
    have CC := Aside0.mk (refP_calls B r Sk.tell s st w W0.out.rd W0.out.env (by omega) HS.out)
    cases hT : refP s st with
    | bad a y =>
      rw [hT] at CC
      go_enter Tryz.func41, Tryz.ntmps41
      go_wp2_with (go_at_call 68; refine CC.out.mono ?_; rintro e w4 ⟨hb4, hk4, rfl⟩)
      rw [← HZ.out, pieceF, if_neg H60.out, if_pos H38.out, hT]
      exact ⟨rfl, W0.out.R.bad W0.out.r0.rb HP0.out hb4 hk4.R⟩
    | ok t st4 =>
      rw [hT] at CC
      have HT := Aside0.mk hT
      obtain ⟨ht1, ht2, ht3, ht4⟩ := refP_ok hT ha
      have HT1 := Aside0.mk ht1
      clear hT
      go_enter Tryz.func41, Tryz.ntmps41
      go_wp2_with (go_at_call 68; refine CC.out.mono ?_; rintro e w4 ⟨hb4, hk4, rfl, hr4⟩; have W4 := Aside0.mk (W0.out.R.step hb4 hk4.R hr4); clear hb4 hk4 hr4)
      have CA := Aside0.mk (adds_calls B r Sk.tell s t st4 (st.at_ : Int) w4 W4.out.rd (by rw [HT1.out]; exact HTX.out) (by omega) (by rw [HT1.out]; have := HNX.out; simp only; omega))
      cases hAd : addsF st4 t (st.at_ : Int) with
      | bad a y =>
        rw [hAd] at CA
        refine CA.out.mono ?_
        rintro e w5 ⟨hb5, hk5, rfl⟩
        go_wp2_with fail
        rw [← HZ.out, pieceF, if_neg H60.out, if_pos H38.out, HT.out]
        simp only [Res.bind]
        rw [hAd]
        exact ⟨rfl, W4.out.bad W0.out.r0.rb HP0.out hb5 hk5⟩
      | ok u5 st5 =>
        rw [hAd] at CA
        refine CA.out.mono ?_
        rintro e w5 ⟨hb5, hk5, rfl, hr5⟩
        have W5 := W4.out.step hb5 hk5 hr5
        go_wp2_with fail
        go_end0
        rw [← HZ.out, pieceF, if_neg H60.out, if_pos H38.out, HT.out]
        simp only [Res.bind]
        rw [hAd]
        exact W5.good W0.out.r0.rb HP0.out ()
  · have f2 : (((s[st.at_]'ha).toNat : Int) == 38) = false := beq_eq_false_iff_ne.mpr (by rw [hbt.out]; exact h38)
    have H38 := Aside0.mk h38
    clear h38
    have CC := Aside0.mk (charP_calls B r Sk.tell s st w W0.out.rd W0.out.env ha HS.out)
    cases hT : charP s st with
    | bad a y =>
      rw [hT] at CC
      go_enter Tryz.func41, Tryz.ntmps41
      go_wp2_with (go_at_call 69; refine CC.out.mono ?_; rintro e w4 ⟨hb4, hk4, rfl⟩)
      rw [← HZ.out, pieceF, if_neg H60.out, if_neg H38.out, hT]
      exact ⟨rfl, W0.out.R.bad W0.out.r0.rb HP0.out hb4 hk4.R⟩
    | ok t st4 =>
      rw [hT] at CC
      have HT := Aside0.mk hT
      obtain ⟨ht1, ht2, ht3, ht4⟩ := charP_ok hT ha
      have HT1 := Aside0.mk ht1
      clear hT
      go_enter Tryz.func41, Tryz.ntmps41
      go_wp2_with (go_at_call 69; refine CC.out.mono ?_; rintro e w4 ⟨hb4, hk4, rfl, hr4⟩; have W4 := Aside0.mk (W0.out.R.step hb4 hk4.R hr4); clear hb4 hk4 hr4)
      have CA := Aside0.mk (adds_calls B r Sk.tell s t st4 (st.at_ : Int) w4 W4.out.rd (by rw [HT1.out]; exact HTX.out) (by omega) (by rw [HT1.out]; have := HNX.out; simp only; omega))
      cases hAd : addsF st4 t (st.at_ : Int) with
      | bad a y =>
        rw [hAd] at CA
        refine CA.out.mono ?_
        rintro e w5 ⟨hb5, hk5, rfl⟩
        go_wp2_with fail
        rw [← HZ.out, pieceF, if_neg H60.out, if_neg H38.out, HT.out]
        simp only [Res.bind]
        rw [hAd]
        exact ⟨rfl, W4.out.bad W0.out.r0.rb HP0.out hb5 hk5⟩
      | ok u5 st5 =>
        rw [hAd] at CA
        refine CA.out.mono ?_
        rintro e w5 ⟨hb5, hk5, rfl, hr5⟩
        have W5 := W4.out.step hb5 hk5 hr5
        go_wp2_with fail
        go_end0
        rw [← HZ.out, pieceF, if_neg H60.out, if_neg H38.out, HT.out]
        simp only [Res.bind]
        rw [hAd]
        exact W5.good W0.out.r0.rb HP0.out ()
end Go.Proofs.YtealmfcimoomlaaGreatDoor.PA

/- scan.Scan: what is deferred. -/
namespace Go.Proofs.YtealmfcimoomlaaGreatDoor.PA
open Go.RowKit Go.Proofs.YtealmfcimoomlaaGreatDoorW.PrintWords Go.Proofs.YtealmfcimoomlaaGreatDoorW.PrintLast Go.Proofs.YtealmfcimoomlaaGreatDoorW.PrintMore
set_option linter.unusedVariables false
set_option linter.unusedSimpArgs false
set_option maxHeartbeats 4000000 in
set_option maxRecDepth 100000 in
theorem caught_idle (p q : Addr) (w : World) :
    CallsD Tryz.prog 40 #[.pointer (some p), .pointer (some q)] .returning w fun e u' w' => e = .returned (.tuple #[]) ∧ u' = .returning ∧ w' = w := by
  refine callsD_of_wpS Tryz.func40 rfl fun c₀ cs hu => ?_
  apply wpS_seq
  apply wpS_region
  simp [wpOpsS, go_sem, recoverD, hu, Tryz.ntmps40, Exit.thenS]
  refine wpS_of_wp ?_
  simp only [Array.replicate_succ, Array.replicate_zero, List.push_toArray, List.append_toArray, List.nil_append, List.cons_append, List.setIfInBounds_toArray, List.set_cons_zero, List.set_cons_succ]
  go_wp2_with fail
  cases c₀
  simp_all [bodyPostS, results, Tryz.results40]
theorem assert_fault (v : Value) (w : World) : (Instr.typeAssert (.iface 88 v) 20 88 false).run Tryz.prog w = .ok v w := by kernel_rfl
theorem fault_at (a y : Int) (w : World) : (Instr.field 88 (.agg #[.int .i64 a, .int .i64 y]) 0).run Tryz.prog w = .ok (.int .i64 a) w := by kernel_rfl
theorem fault_why (a y : Int) (w : World) : (Instr.field 88 (.agg #[.int .i64 a, .int .i64 y]) 1).run Tryz.prog w = .ok (.int .i64 y) w := by kernel_rfl
set_option maxHeartbeats 4000000 in
set_option maxRecDepth 100000 in
theorem caught (gp gq : Nat) (a y x0 y0 : Int) (w : World) (h1 : w.cell? ⟨gp, 0, none⟩ = some (.int .i64 x0)) (h2 : w.cell? ⟨gq, 0, none⟩ = some (.int .i64 y0)) (z1 : w.frozen? ⟨gp, 0, none⟩ = false) (z2 : w.frozen? ⟨gq, 0, none⟩ = false) (hne : gp ≠ gq) :
    CallsD Tryz.prog 40 #[.pointer (some ⟨gp, 0, none⟩), .pointer (some ⟨gq, 0, none⟩)] (.panicking [{ v := faultV a y, recovered := false }]) w fun e u' w' => e = .returned (.tuple #[]) ∧ u' = .panicking [{ v := faultV a y, recovered := true }] ∧ w' = ((w.setCell ⟨gp, 0, none⟩ (.int .i64 a)).setCell ⟨gq, 0, none⟩ (.int .i64 y)).drew := by
  refine callsD_of_wpS Tryz.func40 rfl fun c₀ cs hu => ?_
  apply wpS_seq
  apply wpS_region
  unfold faultV at *
  have hTA := assert_fault
  have hF0 := fault_at
  have hF1 := fault_why
  simp [wpOpsS, go_sem, recoverD, hu, Tryz.ntmps40, Exit.thenS]
  refine wpS_of_wp ?_
  simp only [Array.replicate_succ, Array.replicate_zero, List.push_toArray, List.append_toArray, List.nil_append, List.cons_append, List.setIfInBounds_toArray, List.set_cons_zero, List.set_cons_succ]
  go_wp2_with fail
  go_region_held3 (fun _ => True) (trivial) (fail)
  all_goals
    refine ⟨rfl, .panicking [{ v := .iface 88 (.agg #[.int .i64 a, .int .i64 y]), recovered := true }], ?_, .tuple #[], by simp [results, Tryz.results40], rfl, rfl, rfl⟩
    cases c₀
    simp_all
end Go.Proofs.YtealmfcimoomlaaGreatDoor.PA
