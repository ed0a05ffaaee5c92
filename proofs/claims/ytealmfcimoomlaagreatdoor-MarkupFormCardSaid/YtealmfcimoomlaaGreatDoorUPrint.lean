/- Texts of this claim, one behind the other: PM2, UPrint. Conditions: those of each theorem. -/
import Derived.Test.YtealmfcimoomlaaGreatDoorUScan11
import Derived.Test.YtealmfcimoomlaaGreatDoorPOk
import Derived.Test.YtealmfcimoomlaaGreatDoorPA7
/- What is wrong with a tree, how many nodes it has, what is wrong with a forest: the program's and the reference's are one. -/
namespace Go.Proofs.YtealmfcimoomlaaGreatDoor.PA
open Go.RowKit Go.Proofs.YtealmfcimoomlaaGreatDoorW.PrintWords Go.Proofs.YtealmfcimoomlaaGreatDoorW.PrintLast Go.Proofs.YtealmfcimoomlaaGreatDoorW.PrintMore
set_option linter.unusedVariables false
set_option linter.unusedSimpArgs false
theorem Ev.map_ {α β : Type} {g : Nat → Option α} {a : α} (f : α → β) (h : Ev g a) : Ev (fun k => (g k).map f) (f a) := by
  obtain ⟨K, hK⟩ := h
  exact ⟨K, fun k hk => by show (g k).map f = _; rw [hK k hk]; rfl⟩
theorem rd_app (pre l : List S35) (t : S35) : rd_T35 (pre ++ t :: l) ((pre.length : Nat) : Int) = t := by
  unfold rd_T35
  rw [Int.toNat_natCast, List.getD_eq_getElem?_getD, List.getElem?_append_right (Nat.le_refl _), Nat.sub_self]
  rfl
theorem app_step (pre l : List S35) (t : S35) : pre ++ t :: l = (pre ++ [t]) ++ l := by simp
mutual
def lookE : S35 → Int → Int → Int × Int
  | ⟨f0, f1, f2, f3, f4⟩, d, n =>
    if 64 < d then (2, n) else if 4096 ≤ n then (2, n)
    else if ownE f0 f1 f2 f3 = 0 then (if f0 = 2 then (0, wrap64 (n + 1)) else lookKE f4 (wrap64 (d + 1)) (wrap64 (n + 1))) else (ownE f0 f1 f2 f3, n)
def lookKE : List S35 → Int → Int → Int × Int
  | [], _, n => (0, n)
  | t :: l, d, n => if (lookE t d n).1 = 0 then lookKE l d (lookE t d n).2 else lookE t d n
end
mutual
theorem look_evP : ∀ (t : S35) (d n : Int), okT t → Ev (fun k => lookF k t d n) (lookE t d n)
  | ⟨f0, f1, f2, f3, f4⟩, d, n, h => by
    refine Ev.congr (fun k => by rw [lookF]) ?_
    rw [lookE]
    by_cases h1 : 64 < d
    · simp only [if_pos h1]; exact Ev.now _
    simp only [if_neg h1]
    by_cases h2 : 4096 ≤ n
    · simp only [if_pos h2]; exact Ev.now _
    simp only [if_neg h2]
    refine Ev.bind (ownE_P f0 f1 f2 f3 f4 h.2.1 h.2.2.1.1 h.2.2.2.1) ?_
    by_cases h3 : ownE f0 f1 f2 f3 = 0
    · simp only [if_pos h3]
      by_cases h4 : f0 = 2
      · simp only [if_pos h4]; exact Ev.now _
      · simp only [if_neg h4]; exact lookK_evP f4 _ _ h.2.2.2.2.1
    · simp only [if_neg h3]; exact Ev.now _
theorem lookK_evP : ∀ (l : List S35) (d n : Int), okK l → Ev (fun k => lookK k l d n) (lookKE l d n)
  | [], d, n, _ => by
    refine Ev.congr (fun k => by rw [lookK]) ?_
    rw [lookKE]
    exact Ev.now _
  | t :: l, d, n, h => by
    refine Ev.congr (fun k => by rw [lookK]) ?_
    rw [lookKE]
    refine Ev.bind (look_evP t d n h.1) ?_
    by_cases h3 : (lookE t d n).1 = 0
    · simp only [if_pos h3]; exact lookK_evP l d _ h.2
    · simp only [if_neg h3]; exact Ev.now _
end
mutual
def nodT : S35 → Nat
  | ⟨f0, _, _, _, f4⟩ => if f0 = 1 then 1 + nodK f4 else 1
def nodK : List S35 → Nat
  | [] => 0
  | t :: l => nodT t + nodK l
end
mutual
def goodT : S35 → Prop
  | ⟨f0, f1, f2, f3, f4⟩ => (f0 = 1 ∧ nameB f1 = true ∧ f2.length ≤ 32 ∧ (∀ a ∈ f2, nameB a.f0 = true ∧ textE a.f1 = 0) ∧ goodK f4) ∨ (f0 = 2 ∧ textE f3 = 0)
def goodK : List S35 → Prop
  | [] => True
  | t :: l => goodT t ∧ goodK l
end
mutual
theorem look_nodes : ∀ (t : S35) (d n : Int), 0 ≤ n → (lookE t d n).1 = 0 → (lookE t d n).2 = n + nodT t ∧ n + nodT t ≤ 4096 ∧ goodT t
  | ⟨f0, f1, f2, f3, f4⟩, d, n, h0, he => by
    rw [lookE] at he ⊢
    by_cases h1 : 64 < d
    · rw [if_pos h1] at he; cases he
    rw [if_neg h1] at he ⊢
    by_cases h2 : 4096 ≤ n
    · rw [if_pos h2] at he; cases he
    rw [if_neg h2] at he ⊢
    by_cases h3 : ownE f0 f1 f2 f3 = 0
    case neg => rw [if_neg h3] at he; exact absurd he h3
    rw [if_pos h3] at he ⊢
    have hw : wrap64 (n + 1) = n + 1 := by unfold wrap64; omega
    rw [nodT]
    by_cases h4 : f0 = 2
    · rw [if_pos h4, if_neg (show ¬ f0 = 1 by omega)]
      refine ⟨by simp only [hw]; omega, by omega, .inr ⟨h4, ?_⟩⟩
      unfold ownE at h3
      rw [if_neg (show ¬ f0 = 1 by omega), if_pos h4] at h3
      exact h3
    · rw [if_neg h4] at he ⊢
      have h5 : f0 = 1 := by
        unfold ownE at h3
        by_cases h6 : f0 = 1
        · exact h6
        · rw [if_neg h6, if_neg h4] at h3; cases h3
      rw [if_pos h5]
      rw [hw] at he ⊢
      obtain ⟨e1, e2, e3⟩ := lookK_nodes f4 (wrap64 (d + 1)) (n + 1) (by omega) (by omega) he
      refine ⟨by omega, by omega, .inl ⟨h5, ?_⟩⟩
      unfold ownE at h3
      rw [if_pos h5] at h3
      by_cases h7 : nameB f1 = true
      · rw [if_pos h7] at h3
        exact ⟨h7, (attrsE_ok h3).1, (attrsE_ok h3).2, e3⟩
      · rw [if_neg h7] at h3; cases h3
theorem lookK_nodes : ∀ (l : List S35) (d n : Int), 0 ≤ n → n ≤ 4096 → (lookKE l d n).1 = 0 → (lookKE l d n).2 = n + nodK l ∧ n + nodK l ≤ 4096 ∧ goodK l
  | [], d, n, h0, h1, he => by
    rw [lookKE, nodK]
    exact ⟨by simp, by omega, trivial⟩
  | t :: l, d, n, h0, h1, he => by
    rw [lookKE] at he ⊢
    rw [nodK]
    by_cases h3 : (lookE t d n).1 = 0
    · rw [if_pos h3] at he ⊢
      obtain ⟨e1, e2, e3⟩ := look_nodes t d n h0 h3
      obtain ⟨g1, g2, g3⟩ := lookK_nodes l d (lookE t d n).2 (by omega) (by omega) he
      exact ⟨by omega, by omega, e3, g3⟩
    · rw [if_neg h3] at he; exact absurd he h3
end
mutual
def cntT : S35 → Int
  | ⟨f0, _, _, _, f4⟩ => if f0 = 1 then cntK f4 1 else 1
def cntK : List S35 → Int → Int
  | [], n => n
  | t :: l, n => cntK l (wrap64 (n + cntT t))
end
theorem nodT_pos (t : S35) : 1 ≤ nodT t := by cases t; rw [nodT]; split <;> omega
mutual
theorem cnt_nod : ∀ (t : S35), nodT t ≤ 4096 → cntT t = nodT t
  | ⟨f0, f1, f2, f3, f4⟩, h => by
    rw [nodT] at h ⊢
    rw [cntT]
    by_cases h1 : f0 = 1
    · rw [if_pos h1] at h ⊢
      rw [if_pos h1, cntK_nod f4 1 (by omega) (by omega)]
      omega
    · rw [if_neg h1, if_neg h1]; rfl
theorem cntK_nod : ∀ (l : List S35) (n : Int), 0 ≤ n → n + nodK l ≤ 4096 → cntK l n = n + nodK l
  | [], n, h0, h => by rw [cntK, nodK]; simp
  | t :: l, n, h0, h => by
    rw [nodK] at h ⊢
    rw [cntK, cnt_nod t (by omega), show wrap64 (n + (nodT t : Int)) = n + nodT t by unfold wrap64; omega, cntK_nod l _ (by omega) (by omega)]
    omega
end
mutual
theorem count_ev : ∀ (t : S35), okT t → Ev (fun k => markup_count.f k t.f0 t.f1 t.f2 t.f3 t.f4) (cntT t)
  | ⟨f0, f1, f2, f3, f4⟩, h => by
    rw [cntT]
    by_cases h1 : f0 = 1
    · refine Ev.step (fun k => by rw [markup_count.f.eq_2, if_pos h1]) ?_
      rw [if_pos h1]
      exact countK_ev f4 [] 1 h.2.2.2.2.1 (by have := h.2.2.2.2.2; simp only [List.nil_append]; omega)
    · rw [if_neg h1]
      exact Ev.step (f := fun _ => some 1) (fun k => by rw [markup_count.f.eq_2, if_neg h1]) (Ev.now _)
theorem countK_ev : ∀ (l pre : List S35) (n : Int), okK l → (pre ++ l).length ≤ 9000000000000000 → Ev (fun k => markup_count.l0 k n (pre ++ l) ((pre ++ l).length : Int) ((pre.length : Nat) : Int)) (cntK l n)
  | [], pre, n, _, hb => by
    rw [cntK]
    exact Ev.step (f := fun _ => some n) (fun k => by rw [markup_count.l0.eq_2, if_neg (by simp)]) (Ev.now _)
  | t :: l, pre, n, h, hb => by
    have hw : wrap64 ((pre.length : Int) + 1) = (((pre ++ [t]).length : Nat) : Int) := by simp only [List.length_append, List.length_cons, List.length_nil] at hb ⊢; unfold wrap64; omega
    rw [cntK]
    refine Ev.step (fun k => by rw [markup_count.l0.eq_2, if_pos (by simp only [List.length_append, List.length_cons]; omega), if_pos (by omega), if_pos (by simp only [List.length_append, List.length_cons]; omega), rd_app]) (Ev.bind (count_ev t h.1) ?_)
    simp only [hw]
    have := countK_ev l (pre ++ [t]) (wrap64 (n + cntT t)) h.2 (by rw [← app_step]; exact hb)
    rw [← app_step] at this
    exact this
end
def firstE : List S35 → Int
  | [] => 0
  | t :: l => if (lookE t 1 0).1 = 0 then firstE l else (lookE t 1 0).1
theorem firstE_app : ∀ (a b : List S35), firstE a = 0 → firstE (a ++ b) = firstE b
  | [], b, _ => rfl
  | t :: a, b, h => by
    rw [firstE] at h
    rw [List.cons_append, firstE]
    by_cases h1 : (lookE t 1 0).1 = 0
    · rw [if_pos h1] at h ⊢; exact firstE_app a b h
    · rw [if_neg h1] at h; exact absurd h h1
theorem nodK_app : ∀ (a b : List S35), nodK (a ++ b) = nodK a + nodK b
  | [], b => by rw [List.nil_append, nodK]; omega
  | t :: a, b => by rw [List.cons_append, nodK, nodK, nodK_app a b]; omega
theorem nodK_one (t : S35) : nodK [t] = nodT t := by rw [nodK, nodK]; omega
def canE (l : List S35) : Int := if firstE l = 0 then (if 4096 < nodK l then 2 else 0) else firstE l
theorem Check_evP (t : S35) (h : okT t) : Ev (fun k => tree_Check.f k t.f0 t.f1 t.f2 t.f3 t.f4) (lookE t 1 0).1 := by
  unfold tree_Check.f
  rw [tree_one]
  exact Ev.map_ (·.1) (look_evP t 1 0 h)
theorem can_l1 : ∀ (l pre : List S35), okK l → (pre ++ l).length ≤ 9000000000000000 → Ev (fun k => markup_can.l1 k (pre ++ l) ((pre ++ l).length : Int) ((pre.length : Nat) : Int)) (if firstE l = 0 then 2 else firstE l)
  | [], pre, _, hb => Ev.step (f := fun _ => some 2) (fun k => by rw [markup_can.l1.eq_2, if_neg (by simp)]) (Ev.now _)
  | t :: l, pre, h, hb => by
    have hw : wrap64 ((pre.length : Int) + 1) = (((pre ++ [t]).length : Nat) : Int) := by simp only [List.length_append, List.length_cons, List.length_nil] at hb ⊢; unfold wrap64; omega
    refine Ev.step (fun k => by rw [markup_can.l1.eq_2, if_pos (by simp only [List.length_append, List.length_cons]; omega), if_pos (by omega), if_pos (by simp only [List.length_append, List.length_cons]; omega), rd_app]) (Ev.bind (Check_evP t h.1) ?_)
    rw [firstE]
    by_cases h3 : (lookE t 1 0).1 = 0
    · simp only [if_pos h3, hw]
      have := can_l1 l (pre ++ [t]) h.2 (by rw [← app_step]; exact hb)
      rw [← app_step] at this
      exact this
    · simp only [if_neg h3]; exact Ev.now _
theorem can_l0 (x0 : List S35) (h0 : okK x0) (hx : x0.length ≤ 9000000000000000) : ∀ (l pre : List S35), x0 = pre ++ l → okK l → firstE pre = 0 → nodK pre ≤ 4096 → Ev (fun k => markup_can.l0 k x0 (nodK pre : Int) x0 (x0.length : Int) ((pre.length : Nat) : Int)) (canE x0)
  | [], pre, hp, _, hf, hn => by
    rw [List.append_nil] at hp
    subst hp
    refine Ev.step (f := fun k => markup_can.j1 k x0 (nodK x0 : Int)) (fun k => by rw [markup_can.l0.eq_2, if_neg (by omega)]) ?_
    unfold canE
    rw [if_pos hf, if_neg (by omega)]
    exact Ev.step (f := fun _ => some 0) (fun k => by rw [markup_can.j1.eq_2, if_pos (by omega)]) (Ev.now _)
  | t :: l, pre, hp, h, hf, hn => by
    have hlen : x0.length = pre.length + (l.length + 1) := by rw [hp, List.length_append, List.length_cons]
    have hw : wrap64 ((pre.length : Int) + 1) = (((pre ++ [t]).length : Nat) : Int) := by simp only [List.length_append, List.length_cons, List.length_nil]; unfold wrap64; omega
    have hrd : rd_T35 x0 ((pre.length : Nat) : Int) = t := by rw [hp]; exact rd_app pre l t
    refine Ev.step (fun k => by rw [markup_can.l0.eq_2, if_pos (by omega), if_pos (by omega), if_pos (by omega), hrd]) (Ev.bind (Check_evP t h.1) ?_)
    have hfx : firstE x0 = if (lookE t 1 0).1 = 0 then firstE l else (lookE t 1 0).1 := by rw [hp, firstE_app pre _ hf, firstE]
    by_cases h3 : (lookE t 1 0).1 = 0
    · simp only [if_pos h3]
      obtain ⟨n1, n2, n3⟩ := look_nodes t 1 0 (by omega) h3
      have hc := cnt_nod t (by omega)
      refine Ev.bind (count_ev t h.1) ?_
      rw [hc]
      have hw2 : wrap64 ((nodK pre : Int) + (nodT t : Int)) = ((nodK (pre ++ [t]) : Nat) : Int) := by rw [nodK_app, nodK_one]; unfold wrap64; omega
      simp only [hw2]
      by_cases h5 : ((nodK (pre ++ [t]) : Nat) : Int) > 4096
      · simp only [if_pos h5]
        refine Ev.step (f := fun k => markup_can.l1 k x0 (x0.length : Int) 0) (fun k => by rw [markup_can.j1.eq_2, if_neg (by omega)]) ?_
        have hr := can_l1 x0 [] h0 (by simpa using hx)
        simp only [List.nil_append] at hr
        unfold canE
        by_cases h6 : firstE x0 = 0
        · rw [if_pos h6] at hr ⊢
          rw [if_pos (by rw [hp, app_step, nodK_app]; omega)]
          exact hr
        · rw [if_neg h6] at hr ⊢
          exact hr
      · simp only [if_neg h5, hw]
        refine can_l0 x0 h0 hx l (pre ++ [t]) (by rw [hp, app_step]) h.2 ?_ (by omega)
        rw [firstE_app pre _ hf, firstE, if_pos h3, firstE]
    · simp only [if_neg h3]
      unfold canE
      rw [hfx, if_neg h3, if_neg h3]
      exact Ev.now _
theorem can_evP (l : List S35) (h : okK l) (hl : l.length ≤ 9000000000000000) : Ev (fun k => markup_can.f k l) (canE l) := can_l0 l h hl l [] rfl h rfl (by rw [nodK]; omega)
theorem firstE_good : ∀ (l : List S35), firstE l = 0 → goodK l
  | [], _ => trivial
  | t :: l, h => by
    rw [firstE] at h
    by_cases h1 : (lookE t 1 0).1 = 0
    · rw [if_pos h1] at h
      exact ⟨(look_nodes t 1 0 (by omega) h1).2.2, firstE_good l h⟩
    · rw [if_neg h1] at h; exact absurd h h1
theorem canE_good {l : List S35} (h : canE l = 0) : goodK l ∧ nodK l ≤ 4096 := by
  unfold canE at h
  by_cases h1 : firstE l = 0
  · rw [if_pos h1] at h
    refine ⟨firstE_good l h1, ?_⟩
    by_cases h2 : 4096 < nodK l
    · rw [if_pos h2] at h; cases h
    · omega
  · rw [if_neg h1] at h; exact absurd h h1
end Go.Proofs.YtealmfcimoomlaaGreatDoor.PA

/- markup.Print. -/
namespace Go.Proofs.YtealmfcimoomlaaGreatDoor.PA
open Go.RowKit Go.Proofs.YtealmfcimoomlaaGreatDoorW.PrintWords Go.Proofs.YtealmfcimoomlaaGreatDoorW.PrintLast Go.Proofs.YtealmfcimoomlaaGreatDoorW.PrintMore
set_option linter.unusedVariables false
set_option linter.unusedSimpArgs false
theorem attrF_mono (k : Nat) : ∀ (l : List S61) (b : List UInt8), LeO (attrF k l b) (attrF (k + 1) l b)
  | [], b => by rw [attrF, attrF]; exact LeO.refl _
  | a :: l, b => by
    rw [attrF, attrF]
    exact LeO.ite (LeO.bind (chars_Escape.mono _ _ _) fun e => attrF_mono k l _) (LeO.refl _)
mutual
theorem treeF_mono (k : Nat) : ∀ (t : S35) (b : List UInt8), LeO (treeF k t b) (treeF (k + 1) t b)
  | ⟨f0, f1, f2, f3, f4⟩, b => by
    rw [treeF, treeF]
    exact LeO.ite (LeO.refl _) (LeO.ite (LeO.bind (chars_Escape.mono _ _ _) fun e => LeO.refl _) (LeO.ite (LeO.bind (attrF_mono k f2 _) fun b1 => LeO.ite (LeO.bind (kidsF_mono k f4 _) fun b2 => LeO.refl _) (LeO.refl _)) (LeO.refl _)))
theorem kidsF_mono (k : Nat) : ∀ (l : List S35) (b : List UInt8), LeO (kidsF k l b) (kidsF (k + 1) l b)
  | [], b => by rw [kidsF, kidsF]; exact LeO.refl _
  | t :: l, b => by
    rw [kidsF, kidsF]
    exact LeO.bind (treeF_mono k t b) fun b1 => kidsF_mono k l b1
end
def markup_Print.f (k : Nat) (l : List S35) : Option (ByteArray × Int) :=
  (markup_can.f k l).bind fun e => if e = 0 then (kidsF k l []).bind fun b => if 262144 < b.length then some (⟨#[]⟩, 2) else some (⟨b.toArray⟩, 0) else some (⟨#[]⟩, e)
theorem markup_Print.mono : ∀ a0 k, LeO (markup_Print.f k a0) (markup_Print.f (k + 1) a0) := fun a0 k =>
  LeO.bind (markup_can.mono _ _) fun e => LeO.ite (LeO.bind (kidsF_mono k _ _) fun b => LeO.refl _) (LeO.refl _)
theorem Wri.start (B : Nat) (w : World) (hB : B ≤ w.heap.size) : Wri B w.heap.size [] (w.alloc (.cells #[.pointer none, .slice none 0 0] 72)) :=
  ⟨Nat.le_trans hB (by simp), #[.pointer none, .slice none 0 0], rfl, hB, heap_alloc_new w _, .inl rfl, _, rfl, ⟨by simp, .inl ⟨rfl, rfl⟩⟩, by simp [Value.ownBlock]⟩
/-- Under way in 'Print': the writer stands in the block b. -/
structure PW (w0 : World) (b : Nat) (bs : List UInt8) (w : World) : Prop where
  wri : Wri w0.heap.size b bs w
  bel : Below w0.heap.size w0 w
set_option maxHeartbeats 8000000 in
set_option maxRecDepth 100000 in
theorem markup_Print.calls (k : Nat) (A0 : Option Addr) (c0 : Nat) (l0 : List (S35)) (r1 : ByteArray) (r2 : Int) (w : World) (hr0 : Kd.C k35 w A0 l0.length l0) (hc0 : l0.length ≤ c0) (h : markup_Print.f k l0 = some (r1, r2)) (hG : Glob w := by first | exact Glob.step HG.out (by repeat (first | (with_reducible first | exact HB.out | apply below_alloc | apply pw_below_drewN | apply below_drew1) | exact HB.out | (refine below_set ?_ (Aside0.out (by assumption))))) | exact HG.out | assumption) :
    Calls Tryz.prog 17 #[.slice A0 l0.length c0] w fun e w' => e = .returned (.tuple #[.string r1, .int .i64 r2]) ∧ Below w.heap.size w w' := by
  obtain ⟨e1, he1, h2⟩ := Option.bind_eq_some_iff.mp h
  have HCan := Aside0.mk (markup_can.calls k A0 c0 l0 e1 w hr0 hc0 he1 hG)
  have HG := Aside0.mk hG
  have HR := Aside0.mk hr0
  have HC := Aside0.mk hc0
  have hbig : l0.length ≤ 9223372036854775807 := hr0.2.1
  clear h he1 hG hr0 hc0
  by_cases h3 : e1 = 0
  case neg =>
    rw [if_neg h3] at h2
    obtain ⟨rfl, rfl⟩ := Prod.mk.inj (Option.some.inj h2)
    have hd3 : (e1 != 0) = true := bne_iff_ne.mpr h3
    clear h3 h2
    go_enter Tryz.func17, Tryz.ntmps17
    go_wp2_with (go_at_call 28; refine HCan.out.mono ?_; rintro e w2 ⟨rfl, hB2⟩)
    go_ret2
    exact ⟨rfl, hB2⟩
  rw [if_pos h3] at h2
  subst h3
  obtain ⟨bz, hbz, h4⟩ := Option.bind_eq_some_iff.mp h2
  have HZ := Aside0.mk hbz
  have H4 := Aside0.mk h4
  clear h2 hbz h4
  go_enter Tryz.func17, Tryz.ntmps17
  go_wp2_with (go_at_call 28; refine HCan.out.mono ?_; rintro e w2 ⟨rfl, hB2⟩; have P0 := Aside0.mk (PW.mk (Wri.start w.heap.size w2 hB2.size) (hB2.alloc hB2.size _)); clear HCan)
  go_loopw [17] (fun v wr => ∃ i : Nat, i ≤ l0.length ∧ v = .int .i64 i ∧ Aside0 (∃ bd, kidsF k (l0.drop i) bd = some bz ∧ PW w w2.heap.size bd wr)) (fun v _ => l0.length - (intOf v).toNat)
  case atStart => exact ⟨0, Nat.zero_le _, rfl, ⟨⟨_, HZ.out, P0.out⟩⟩⟩
  case round =>
    obtain ⟨i, hi, rfl, ⟨bd, hbd, T6⟩⟩ := hrel
    by_cases hlt : i < l0.length
    · have hltz : (i : Int) < (l0.length : Int) := by omega
      rw [drop36 _ _ hlt, kidsF] at hbd
      obtain ⟨ad, B2, c52, B4, c54, rfl, y0, y1, y2, y3, y4, z2, z3, z4, z5⟩ := at_T35 HR.out (i : Int) (by omega) hltz
      have y0 := pw_cell_below (T6.bel) y0
      have y1 := pw_cell_below (T6.bel) y1
      have y2 := pw_cell_below (T6.bel) y2
      have y3 := pw_cell_below (T6.bel) y3
      have y4 := pw_cell_below (T6.bel) y4
      rw [Int.toNat_natCast] at y0 y1 y2 y3 y4
      generalize rd_T35 l0 (i : Int) = a at hbd y0 y1 y2 y3 y4 z2 z3 z4 z5
      obtain ⟨e5, he5, hbd2⟩ := Option.bind_eq_some_iff.mp hbd
      have hb1 := T6.bel.alloc T6.wri.1 (.cells #[.int .i64 a.f0, .string a.f1, .slice B2 a.f2.length c52, .string a.f3, .slice B4 a.f4.length c54] 35)
      have hq := heap_alloc_new wr (.cells #[.int .i64 a.f0, .string a.f1, .slice B2 a.f2.length c52, .string a.f3, .slice B4 a.f4.length c54] 35)
      have HI := Aside0.mk (wtree_calls k w HG.out _ a (Nat.le_refl _) B2 c52 B4 c54 w2.heap.size bd e5 _ z3 z2 z5 z4 (T6.wri.alloc _) hb1 he5)
      have HB1 := Aside0.mk hb1
      have HF2 := Aside0.mk hbd2
      have q0 := (blk_cell hq 0).trans rfl
      have q1 := (blk_cell hq 1).trans rfl
      have q2 := (blk_cell hq 2).trans rfl
      have q3 := (blk_cell hq 3).trans rfl
      have q4 := (blk_cell hq 4).trans rfl
      clear hbd he5 hbd2 z2 z3 z4 z5 hq hb1 T6
      go_wp2_with (go_at_call 29; refine HI.out.mono ?_)
      rintro e w5 ⟨rfl, h5, hB5, hK5⟩
      have X3 := Aside0.mk (PW.mk h5 (HB1.out.trans hB5))
      clear h5 hB5 hK5 HI q0 q1 q2 q3 q4 HB1
      go_wp2
      go_roundw
      case rel => exact ⟨i + 1, by omega, by go_num, ⟨⟨_, HF2.out, X3.out⟩⟩⟩
      case measure => simp [intOf]; omega
    · rw [List.drop_of_length_le (by omega), kidsF] at hbd
      obtain rfl := Option.some.inj hbd
      have T7 := Aside0.mk T6
      clear T6 hbd P0 HZ HR
      have h4 := H4.out
      by_cases hf : 262144 < bd.length
      · rw [if_pos hf] at h4
        obtain ⟨rfl, rfl⟩ := Prod.mk.inj (Option.some.inj h4)
        have hd : decide (262144 < bd.length) = true := decide_eq_true hf
        clear h4 H4 hf
        go_wp2_with (go_at_call 30; refine (full_calls _ _ bd _ T7.out.wri).mono ?_; rintro e w1 ⟨rfl, rfl⟩; rw [hd])
        go_ret2
        exact ⟨rfl, T7.out.bel⟩
      · rw [if_neg hf] at h4
        obtain ⟨rfl, rfl⟩ := Prod.mk.inj (Option.some.inj h4)
        have hd : decide (262144 < bd.length) = false := decide_eq_false hf
        clear h4 H4 hf
        obtain ⟨hBw, cs, hcs, hb⟩ := T7.out.wri
        go_wp2_with (first
          | (go_at_call 30; refine (full_calls _ _ bd _ T7.out.wri).mono ?_; rintro e w1 ⟨rfl, rfl⟩; rw [hd])
          | (go_at_call 31; refine (String_at 72 _ _ 0 cs bd _ hb hBw).mono ?_; rintro e w5 ⟨rfl, h5, hB5, hK5⟩))
        go_ret2
        exact ⟨rfl, T7.out.bel.trans hB5⟩
end Go.Proofs.YtealmfcimoomlaaGreatDoor.PA
