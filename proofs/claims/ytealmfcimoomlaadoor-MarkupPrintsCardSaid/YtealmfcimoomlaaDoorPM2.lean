/- What is wrong with a tree, how many nodes it has, what is wrong with a forest: the program's and the reference's are one. -/
import Derived.Test.YtealmfcimoomlaaDoorPM1
import Derived.Test.YtealmfcimoomlaaDoorPOk
import Derived.Test.YtealmfcimoomlaaDoorPA5
import Derived.Test.YtealmfcimoomlaaDoorPA10
namespace Go.Proofs.YtealmfcimoomlaaDoor.PA
open Go.RowKit Go.Proofs.YtealmfcimoomlaaDoorW.PrintWords Go.Proofs.YtealmfcimoomlaaDoorW.PrintLast Go.Proofs.YtealmfcimoomlaaDoorW.PrintMore
set_option linter.unusedVariables false
set_option linter.unusedSimpArgs false
theorem Ev.map_ {α β : Type} {g : Nat → Option α} {a : α} (f : α → β) (h : Ev g a) : Ev (fun k => (g k).map f) (f a) := by
  obtain ⟨K, hK⟩ := h
  exact ⟨K, fun k hk => by show (g k).map f = _; rw [hK k hk]; rfl⟩
theorem rd_app (pre l : List S36) (t : S36) : rd_T36 (pre ++ t :: l) ((pre.length : Nat) : Int) = t := by
  unfold rd_T36
  rw [Int.toNat_natCast, List.getD_eq_getElem?_getD, List.getElem?_append_right (Nat.le_refl _), Nat.sub_self]
  rfl
theorem app_step (pre l : List S36) (t : S36) : pre ++ t :: l = (pre ++ [t]) ++ l := by simp
mutual
def lookE : S36 → Int → Int → Int × Int
  | ⟨f0, f1, f2, f3, f4⟩, d, n =>
    if 64 < d then (2, n) else if 4096 ≤ n then (2, n)
    else if ownE f0 f1 f2 f3 = 0 then (if f0 = 2 then (0, wrap64 (n + 1)) else lookKE f4 (wrap64 (d + 1)) (wrap64 (n + 1))) else (ownE f0 f1 f2 f3, n)
def lookKE : List S36 → Int → Int → Int × Int
  | [], _, n => (0, n)
  | t :: l, d, n => if (lookE t d n).1 = 0 then lookKE l d (lookE t d n).2 else lookE t d n
end
mutual
theorem look_evP : ∀ (t : S36) (d n : Int), okT t → Ev (fun k => lookF k t d n) (lookE t d n)
  | ⟨f0, f1, f2, f3, f4⟩, d, n, h => by
    refine Ev.congr (fun k => by rw [lookF]) ?_
    rw [lookE]
    by_cases h1 : 64 < d
    · simp only [if_pos h1]; exact Ev.now _
    simp only [if_neg h1]
    by_cases h2 : 4096 ≤ n
    · simp only [if_pos h2]; exact Ev.now _
    simp only [if_neg h2]
    refine Ev.bind (ownE_P f0 f1 f2 f3 f4 h.2.1 h.2.2.1.1 h.2.2.2.1) ?_
    by_cases h3 : ownE f0 f1 f2 f3 = 0
    · simp only [if_pos h3]
      by_cases h4 : f0 = 2
      · simp only [if_pos h4]; exact Ev.now _
      · simp only [if_neg h4]; exact lookK_evP f4 _ _ h.2.2.2.2.1
    · simp only [if_neg h3]; exact Ev.now _
theorem lookK_evP : ∀ (l : List S36) (d n : Int), okK l → Ev (fun k => lookK k l d n) (lookKE l d n)
  | [], d, n, _ => by
    refine Ev.congr (fun k => by rw [lookK]) ?_
    rw [lookKE]
    exact Ev.now _
  | t :: l, d, n, h => by
    refine Ev.congr (fun k => by rw [lookK]) ?_
    rw [lookKE]
    refine Ev.bind (look_evP t d n h.1) ?_
    by_cases h3 : (lookE t d n).1 = 0
    · simp only [if_pos h3]; exact lookK_evP l d _ h.2
    · simp only [if_neg h3]; exact Ev.now _
end
mutual
theorem check_ev : ∀ (t : S36) (d n : Int), okT t → Ev (fun k => espalierref03_check.f k t.f0 t.f1 t.f2 t.f3 t.f4 d n) ((lookE t d n).2, (lookE t d n).1)
  | ⟨f0, f1, f2, f3, f4⟩, d, n, h => by
    have hj : ∀ b : Bool, Ev (fun k => espalierref03_check.j0 k d n b f0 f1 f2 f3 f4) (if b = true then (n, 2) else if ownE f0 f1 f2 f3 = 0 then (if f0 = 2 then (wrap64 (n + 1), 0) else ((lookKE f4 (wrap64 (d + 1)) (wrap64 (n + 1))).2, (lookKE f4 (wrap64 (d + 1)) (wrap64 (n + 1))).1)) else (n, ownE f0 f1 f2 f3)) := by
      intro b
      cases b with
      | true => exact Ev.step (f := fun _ => some (n, 2)) (fun k => by rw [espalierref03_check.j0.eq_2, if_pos rfl]) (Ev.now _)
      | false =>
        refine Ev.step (fun k => by rw [espalierref03_check.j0.eq_2, if_neg (by decide)]) (Ev.bind (ownE_R f0 f1 f2 f3 f4 h.2.1 h.2.2.1.1 h.2.2.2.1) ?_)
        rw [if_neg (by decide)]
        by_cases h3 : ownE f0 f1 f2 f3 = 0
        · simp only [if_pos h3]
          unfold espalierref03_kids.f
          by_cases h4 : f0 = 2
          · simp only [if_pos h4, if_neg (show ¬ f0 = 1 by omega), Option.bind_some]
            exact Ev.step (f := fun _ => some (wrap64 (n + 1), 0)) (fun k => by rw [espalierref03_check.l0.eq_2, if_neg (by simp)]) (Ev.now _)
          · have h5 : f0 = 1 := by
              unfold ownE at h3
              by_cases h6 : f0 = 1
              · exact h6
              · rw [if_neg h6, if_neg h4] at h3; cases h3
            simp only [if_neg h4, if_pos h5, Option.bind_some]
            exact checkK_ev f4 [] d (wrap64 (n + 1)) h.2.2.2.2.1 (by have := h.2.2.2.2.2; simp only [List.nil_append]; omega)
        · simp only [if_neg h3]; exact Ev.now _
    rw [lookE]
    by_cases h1 : 64 < d
    · refine Ev.step (fun k => by rw [espalierref03_check.f.eq_2, if_pos (show d > 64 from h1)]) ?_
      have := hj true
      simp only [if_true] at this
      simp only [if_pos h1]
      exact this
    · refine Ev.step (fun k => by rw [espalierref03_check.f.eq_2, if_neg (show ¬ d > 64 from h1)]) ?_
      simp only [if_neg h1]
      by_cases h2 : 4096 ≤ n
      · have := hj (decide (n ≥ 4096))
        rw [decide_eq_true (show n ≥ 4096 from h2)] at this ⊢
        simp only [if_true] at this
        simp only [if_pos h2]
        exact this
      · have := hj (decide (n ≥ 4096))
        rw [decide_eq_false (show ¬ n ≥ 4096 from h2)] at this ⊢
        simp only [if_neg (show ¬ (false = true) by decide)] at this
        simp only [if_neg h2]
        by_cases h3 : ownE f0 f1 f2 f3 = 0
        · simp only [if_pos h3] at this ⊢
          by_cases h4 : f0 = 2
          · simp only [if_pos h4] at this ⊢; exact this
          · simp only [if_neg h4] at this ⊢; exact this
        · simp only [if_neg h3] at this ⊢; exact this
theorem checkK_ev : ∀ (l pre : List S36) (d n : Int), okK l → (pre ++ l).length ≤ 9000000000000000 → Ev (fun k => espalierref03_check.l0 k d n (pre ++ l) ((pre.length : Nat) : Int)) ((lookKE l (wrap64 (d + 1)) n).2, (lookKE l (wrap64 (d + 1)) n).1)
  | [], pre, d, n, _, hb => by
    rw [lookKE]
    exact Ev.step (f := fun _ => some (n, 0)) (fun k => by rw [espalierref03_check.l0.eq_2, if_neg (by simp)]) (Ev.now _)
  | t :: l, pre, d, n, h, hb => by
    have hw : wrap64 ((pre.length : Int) + 1) = (((pre ++ [t]).length : Nat) : Int) := by simp only [List.length_append, List.length_cons, List.length_nil] at hb ⊢; unfold wrap64; omega
    rw [lookKE]
    refine Ev.step (fun k => by rw [espalierref03_check.l0.eq_2, if_pos (by simp only [List.length_append, List.length_cons]; omega), if_pos (by omega), rd_app]) (Ev.bind (check_ev t (wrap64 (d + 1)) n h.1) ?_)
    by_cases h3 : (lookE t (wrap64 (d + 1)) n).1 = 0
    · simp only [if_pos h3, hw]
      have := checkK_ev l (pre ++ [t]) d (lookE t (wrap64 (d + 1)) n).2 h.2 (by rw [← app_step]; exact hb)
      rw [← app_step] at this
      exact this
    · simp only [if_neg h3]; exact Ev.now _
end
mutual
def nodT : S36 → Nat
  | ⟨f0, _, _, _, f4⟩ => if f0 = 1 then 1 + nodK f4 else 1
def nodK : List S36 → Nat
  | [] => 0
  | t :: l => nodT t + nodK l
end
mutual
def goodT : S36 → Prop
  | ⟨f0, f1, f2, f3, f4⟩ => (f0 = 1 ∧ nameB f1 = true ∧ f2.length ≤ 32 ∧ (∀ a ∈ f2, nameB a.f0 = true ∧ textE a.f1 = 0) ∧ goodK f4) ∨ (f0 = 2 ∧ textE f3 = 0)
def goodK : List S36 → Prop
  | [] => True
  | t :: l => goodT t ∧ goodK l
end
mutual
theorem look_nodes : ∀ (t : S36) (d n : Int), 0 ≤ n → (lookE t d n).1 = 0 → (lookE t d n).2 = n + nodT t ∧ n + nodT t ≤ 4096 ∧ goodT t
  | ⟨f0, f1, f2, f3, f4⟩, d, n, h0, he => by
    rw [lookE] at he ⊢
    by_cases h1 : 64 < d
    · rw [if_pos h1] at he; cases he
    rw [if_neg h1] at he ⊢
    by_cases h2 : 4096 ≤ n
    · rw [if_pos h2] at he; cases he
    rw [if_neg h2] at he ⊢
    by_cases h3 : ownE f0 f1 f2 f3 = 0
    case neg => rw [if_neg h3] at he; exact absurd he h3
    rw [if_pos h3] at he ⊢
    have hw : wrap64 (n + 1) = n + 1 := by unfold wrap64; omega
    rw [nodT]
    by_cases h4 : f0 = 2
    · rw [if_pos h4, if_neg (show ¬ f0 = 1 by omega)]
      refine ⟨by simp only [hw]; omega, by omega, .inr ⟨h4, ?_⟩⟩
      unfold ownE at h3
      rw [if_neg (show ¬ f0 = 1 by omega), if_pos h4] at h3
      exact h3
    · rw [if_neg h4] at he ⊢
      have h5 : f0 = 1 := by
        unfold ownE at h3
        by_cases h6 : f0 = 1
        · exact h6
        · rw [if_neg h6, if_neg h4] at h3; cases h3
      rw [if_pos h5]
      rw [hw] at he ⊢
      obtain ⟨e1, e2, e3⟩ := lookK_nodes f4 (wrap64 (d + 1)) (n + 1) (by omega) (by omega) he
      refine ⟨by omega, by omega, .inl ⟨h5, ?_⟩⟩
      unfold ownE at h3
      rw [if_pos h5] at h3
      by_cases h7 : nameB f1 = true
      · rw [if_pos h7] at h3
        exact ⟨h7, (attrsE_ok h3).1, (attrsE_ok h3).2, e3⟩
      · rw [if_neg h7] at h3; cases h3
theorem lookK_nodes : ∀ (l : List S36) (d n : Int), 0 ≤ n → n ≤ 4096 → (lookKE l d n).1 = 0 → (lookKE l d n).2 = n + nodK l ∧ n + nodK l ≤ 4096 ∧ goodK l
  | [], d, n, h0, h1, he => by
    rw [lookKE, nodK]
    exact ⟨by simp, by omega, trivial⟩
  | t :: l, d, n, h0, h1, he => by
    rw [lookKE] at he ⊢
    rw [nodK]
    by_cases h3 : (lookE t d n).1 = 0
    · rw [if_pos h3] at he ⊢
      obtain ⟨e1, e2, e3⟩ := look_nodes t d n h0 h3
      obtain ⟨g1, g2, g3⟩ := lookK_nodes l d (lookE t d n).2 (by omega) (by omega) he
      exact ⟨by omega, by omega, e3, g3⟩
    · rw [if_neg h3] at he; exact absurd he h3
end
mutual
def cntT : S36 → Int
  | ⟨f0, _, _, _, f4⟩ => if f0 = 1 then cntK f4 1 else 1
def cntK : List S36 → Int → Int
  | [], n => n
  | t :: l, n => cntK l (wrap64 (n + cntT t))
end
theorem nodT_pos (t : S36) : 1 ≤ nodT t := by cases t; rw [nodT]; split <;> omega
mutual
theorem cnt_nod : ∀ (t : S36), nodT t ≤ 4096 → cntT t = nodT t
  | ⟨f0, f1, f2, f3, f4⟩, h => by
    rw [nodT] at h ⊢
    rw [cntT]
    by_cases h1 : f0 = 1
    · rw [if_pos h1] at h ⊢
      rw [if_pos h1, cntK_nod f4 1 (by omega) (by omega)]
      omega
    · rw [if_neg h1, if_neg h1]; rfl
theorem cntK_nod : ∀ (l : List S36) (n : Int), 0 ≤ n → n + nodK l ≤ 4096 → cntK l n = n + nodK l
  | [], n, h0, h => by rw [cntK, nodK]; simp
  | t :: l, n, h0, h => by
    rw [nodK] at h ⊢
    rw [cntK, cnt_nod t (by omega), show wrap64 (n + (nodT t : Int)) = n + nodT t by unfold wrap64; omega, cntK_nod l _ (by omega) (by omega)]
    omega
end
mutual
theorem count_ev : ∀ (t : S36), okT t → Ev (fun k => markup_count.f k t.f0 t.f1 t.f2 t.f3 t.f4) (cntT t)
  | ⟨f0, f1, f2, f3, f4⟩, h => by
    rw [cntT]
    by_cases h1 : f0 = 1
    · refine Ev.step (fun k => by rw [markup_count.f.eq_2, if_pos h1]) ?_
      rw [if_pos h1]
      exact countK_ev f4 [] 1 h.2.2.2.2.1 (by have := h.2.2.2.2.2; simp only [List.nil_append]; omega)
    · rw [if_neg h1]
      exact Ev.step (f := fun _ => some 1) (fun k => by rw [markup_count.f.eq_2, if_neg h1]) (Ev.now _)
theorem countK_ev : ∀ (l pre : List S36) (n : Int), okK l → (pre ++ l).length ≤ 9000000000000000 → Ev (fun k => markup_count.l0 k n (pre ++ l) ((pre ++ l).length : Int) ((pre.length : Nat) : Int)) (cntK l n)
  | [], pre, n, _, hb => by
    rw [cntK]
    exact Ev.step (f := fun _ => some n) (fun k => by rw [markup_count.l0.eq_2, if_neg (by simp)]) (Ev.now _)
  | t :: l, pre, n, h, hb => by
    have hw : wrap64 ((pre.length : Int) + 1) = (((pre ++ [t]).length : Nat) : Int) := by simp only [List.length_append, List.length_cons, List.length_nil] at hb ⊢; unfold wrap64; omega
    rw [cntK]
    refine Ev.step (fun k => by rw [markup_count.l0.eq_2, if_pos (by simp only [List.length_append, List.length_cons]; omega), if_pos (by omega), if_pos (by simp only [List.length_append, List.length_cons]; omega), rd_app]) (Ev.bind (count_ev t h.1) ?_)
    simp only [hw]
    have := countK_ev l (pre ++ [t]) (wrap64 (n + cntT t)) h.2 (by rw [← app_step]; exact hb)
    rw [← app_step] at this
    exact this
end
mutual
theorem size_ev : ∀ (t : S36), okT t → Ev (fun k => espalierref04_Size.f k t.f0 t.f1 t.f2 t.f3 t.f4) (cntT t)
  | ⟨f0, f1, f2, f3, f4⟩, h => by
    rw [cntT]
    refine Ev.step (fun k => by rw [espalierref04_Size.f.eq_2]) ?_
    by_cases h1 : f0 = 1
    · rw [if_pos h1]
      exact sizeK_ev f4 [] 1 f0 f1 f2 f3 h1 h.2.2.2.2.1 (by have := h.2.2.2.2.2; simp only [List.nil_append]; omega)
    · rw [if_neg h1]
      refine Ev.step (f := fun _ => some 1) (fun k => ?_) (Ev.now _)
      rw [espalierref04_Size.l0.eq_2]
      split <;> first | rfl | rw [if_neg h1]
theorem sizeK_ev : ∀ (l pre : List S36) (n : Int) (f0 : Int) (f1 : ByteArray) (f2 : List S54) (f3 : ByteArray), f0 = 1 → okK l → (pre ++ l).length ≤ 9000000000000000 → Ev (fun k => espalierref04_Size.l0 k n ((pre.length : Nat) : Int) f0 f1 f2 f3 (pre ++ l)) (cntK l n)
  | [], pre, n, f0, f1, f2, f3, h1, _, hb => by
    rw [cntK]
    exact Ev.step (f := fun _ => some n) (fun k => by rw [espalierref04_Size.l0.eq_2, if_neg (by simp)]) (Ev.now _)
  | t :: l, pre, n, f0, f1, f2, f3, h1, h, hb => by
    have hw : wrap64 ((pre.length : Int) + 1) = (((pre ++ [t]).length : Nat) : Int) := by simp only [List.length_append, List.length_cons, List.length_nil] at hb ⊢; unfold wrap64; omega
    rw [cntK]
    refine Ev.step (fun k => by rw [espalierref04_Size.l0.eq_2, if_pos (by simp only [List.length_append, List.length_cons]; omega), if_pos h1, if_pos (by omega), rd_app]) (Ev.bind (size_ev t h.1) ?_)
    simp only [hw]
    have := sizeK_ev l (pre ++ [t]) (wrap64 (n + cntT t)) f0 f1 f2 f3 h1 h.2 (by rw [← app_step]; exact hb)
    rw [← app_step] at this
    exact this
end
def firstE : List S36 → Int
  | [] => 0
  | t :: l => if (lookE t 1 0).1 = 0 then firstE l else (lookE t 1 0).1
theorem firstE_app : ∀ (a b : List S36), firstE a = 0 → firstE (a ++ b) = firstE b
  | [], b, _ => rfl
  | t :: a, b, h => by
    rw [firstE] at h
    rw [List.cons_append, firstE]
    by_cases h1 : (lookE t 1 0).1 = 0
    · rw [if_pos h1] at h ⊢; exact firstE_app a b h
    · rw [if_neg h1] at h; exact absurd h h1
theorem nodK_app : ∀ (a b : List S36), nodK (a ++ b) = nodK a + nodK b
  | [], b => by rw [List.nil_append, nodK]; omega
  | t :: a, b => by rw [List.cons_append, nodK, nodK, nodK_app a b]; omega
theorem nodK_one (t : S36) : nodK [t] = nodT t := by rw [nodK, nodK]; omega
def canE (l : List S36) : Int := if firstE l = 0 then (if 4096 < nodK l then 2 else 0) else firstE l
theorem Check_evP (t : S36) (h : okT t) : Ev (fun k => tree_Check.f k t.f0 t.f1 t.f2 t.f3 t.f4) (lookE t 1 0).1 := by
  unfold tree_Check.f
  rw [tree_one]
  exact Ev.map_ (·.1) (look_evP t 1 0 h)
theorem Check_evR (t : S36) (h : okT t) : Ev (fun k => espalierref03_Check.f k t.f0 t.f1 t.f2 t.f3 t.f4) (lookE t 1 0).1 := by
  unfold espalierref03_Check.f
  exact Ev.bind (check_ev t 1 0 h) (Ev.now _)
theorem can_l1 : ∀ (l pre : List S36), okK l → (pre ++ l).length ≤ 9000000000000000 → Ev (fun k => markup_can.l1 k (pre ++ l) ((pre ++ l).length : Int) ((pre.length : Nat) : Int)) (if firstE l = 0 then 2 else firstE l)
  | [], pre, _, hb => Ev.step (f := fun _ => some 2) (fun k => by rw [markup_can.l1.eq_2, if_neg (by simp)]) (Ev.now _)
  | t :: l, pre, h, hb => by
    have hw : wrap64 ((pre.length : Int) + 1) = (((pre ++ [t]).length : Nat) : Int) := by simp only [List.length_append, List.length_cons, List.length_nil] at hb ⊢; unfold wrap64; omega
    refine Ev.step (fun k => by rw [markup_can.l1.eq_2, if_pos (by simp only [List.length_append, List.length_cons]; omega), if_pos (by omega), if_pos (by simp only [List.length_append, List.length_cons]; omega), rd_app]) (Ev.bind (Check_evP t h.1) ?_)
    rw [firstE]
    by_cases h3 : (lookE t 1 0).1 = 0
    · simp only [if_pos h3, hw]
      have := can_l1 l (pre ++ [t]) h.2 (by rw [← app_step]; exact hb)
      rw [← app_step] at this
      exact this
    · simp only [if_neg h3]; exact Ev.now _
theorem can_l0 (x0 : List S36) (h0 : okK x0) (hx : x0.length ≤ 9000000000000000) : ∀ (l pre : List S36), x0 = pre ++ l → okK l → firstE pre = 0 → nodK pre ≤ 4096 → Ev (fun k => markup_can.l0 k x0 (nodK pre : Int) x0 (x0.length : Int) ((pre.length : Nat) : Int)) (canE x0)
  | [], pre, hp, _, hf, hn => by
    rw [List.append_nil] at hp
    subst hp
    refine Ev.step (f := fun k => markup_can.j1 k x0 (nodK x0 : Int)) (fun k => by rw [markup_can.l0.eq_2, if_neg (by omega)]) ?_
    unfold canE
    rw [if_pos hf, if_neg (by omega)]
    exact Ev.step (f := fun _ => some 0) (fun k => by rw [markup_can.j1.eq_2, if_pos (by omega)]) (Ev.now _)
  | t :: l, pre, hp, h, hf, hn => by
    have hlen : x0.length = pre.length + (l.length + 1) := by rw [hp, List.length_append, List.length_cons]
    have hw : wrap64 ((pre.length : Int) + 1) = (((pre ++ [t]).length : Nat) : Int) := by simp only [List.length_append, List.length_cons, List.length_nil]; unfold wrap64; omega
    have hrd : rd_T36 x0 ((pre.length : Nat) : Int) = t := by rw [hp]; exact rd_app pre l t
    refine Ev.step (fun k => by rw [markup_can.l0.eq_2, if_pos (by omega), if_pos (by omega), if_pos (by omega), hrd]) (Ev.bind (Check_evP t h.1) ?_)
    have hfx : firstE x0 = if (lookE t 1 0).1 = 0 then firstE l else (lookE t 1 0).1 := by rw [hp, firstE_app pre _ hf, firstE]
    by_cases h3 : (lookE t 1 0).1 = 0
    · simp only [if_pos h3]
      obtain ⟨n1, n2, n3⟩ := look_nodes t 1 0 (by omega) h3
      have hc := cnt_nod t (by omega)
      refine Ev.bind (count_ev t h.1) ?_
      rw [hc]
      have hw2 : wrap64 ((nodK pre : Int) + (nodT t : Int)) = ((nodK (pre ++ [t]) : Nat) : Int) := by rw [nodK_app, nodK_one]; unfold wrap64; omega
      simp only [hw2]
      by_cases h5 : ((nodK (pre ++ [t]) : Nat) : Int) > 4096
      · simp only [if_pos h5]
        refine Ev.step (f := fun k => markup_can.l1 k x0 (x0.length : Int) 0) (fun k => by rw [markup_can.j1.eq_2, if_neg (by omega)]) ?_
        have hr := can_l1 x0 [] h0 (by simpa using hx)
        simp only [List.nil_append] at hr
        unfold canE
        by_cases h6 : firstE x0 = 0
        · rw [if_pos h6] at hr ⊢
          rw [if_pos (by rw [hp, app_step, nodK_app]; omega)]
          exact hr
        · rw [if_neg h6] at hr ⊢
          exact hr
      · simp only [if_neg h5, hw]
        refine can_l0 x0 h0 hx l (pre ++ [t]) (by rw [hp, app_step]) h.2 ?_ (by omega)
        rw [firstE_app pre _ hf, firstE, if_pos h3, firstE]
    · simp only [if_neg h3]
      unfold canE
      rw [hfx, if_neg h3, if_neg h3]
      exact Ev.now _
theorem canR_l0 (x0 : List S36) (hx : x0.length ≤ 9000000000000000) : ∀ (l pre : List S36), x0 = pre ++ l → okK l → firstE pre = 0 → Ev (fun k => espalierref04_Can.l0 k x0 (if 4096 < nodK pre then 4097 else (nodK pre : Int)) ((pre.length : Nat) : Int)) (canE x0)
  | [], pre, hp, _, hf => by
    rw [List.append_nil] at hp
    subst hp
    unfold canE
    rw [if_pos hf]
    by_cases h1 : 4096 < nodK x0
    · rw [if_pos h1, if_pos h1]
      exact Ev.step (f := fun _ => some 2) (fun k => by rw [espalierref04_Can.l0.eq_2, if_neg (by omega), if_pos (by decide)]) (Ev.now _)
    · rw [if_neg h1, if_neg h1]
      exact Ev.step (f := fun _ => some 0) (fun k => by rw [espalierref04_Can.l0.eq_2, if_neg (by omega), if_neg (by omega)]) (Ev.now _)
  | t :: l, pre, hp, h, hf => by
    have hlen : x0.length = pre.length + (l.length + 1) := by rw [hp, List.length_append, List.length_cons]
    have hw : wrap64 ((pre.length : Int) + 1) = (((pre ++ [t]).length : Nat) : Int) := by simp only [List.length_append, List.length_cons, List.length_nil]; unfold wrap64; omega
    have hrd : rd_T36 x0 ((pre.length : Nat) : Int) = t := by rw [hp]; exact rd_app pre l t
    refine Ev.step (fun k => by rw [espalierref04_Can.l0.eq_2, if_pos (by omega), if_pos (by omega), hrd]) (Ev.bind (Check_evR t h.1) ?_)
    have hfx : firstE x0 = if (lookE t 1 0).1 = 0 then firstE l else (lookE t 1 0).1 := by rw [hp, firstE_app pre _ hf, firstE]
    by_cases h3 : (lookE t 1 0).1 = 0
    · simp only [if_pos h3]
      obtain ⟨n1, n2, n3⟩ := look_nodes t 1 0 (by omega) h3
      have hc := cnt_nod t (by omega)
      have hpos := nodT_pos t
      refine Ev.bind (size_ev t h.1) ?_
      rw [hc]
      have hnp : nodK (pre ++ [t]) = nodK pre + nodT t := by rw [nodK_app, nodK_one]
      have ih := canR_l0 x0 hx l (pre ++ [t]) (by rw [hp, app_step]) h.2 (by rw [firstE_app pre _ hf, firstE, if_pos h3, firstE])
      by_cases h5 : 4096 < nodK (pre ++ [t])
      · rw [if_pos h5] at ih
        have : wrap64 ((if 4096 < nodK pre then (4097 : Int) else (nodK pre : Int)) + (nodT t : Int)) > 4096 := by
          unfold wrap64
          split <;> omega
        simp only [if_pos this, hw]
        exact ih
      · rw [if_neg h5] at ih
        have h6 : ¬ 4096 < nodK pre := by omega
        have h7 : wrap64 ((if 4096 < nodK pre then (4097 : Int) else (nodK pre : Int)) + (nodT t : Int)) = ((nodK (pre ++ [t]) : Nat) : Int) := by rw [if_neg h6, hnp]; unfold wrap64; omega
        simp only [h7, if_neg (show ¬ ((nodK (pre ++ [t]) : Nat) : Int) > 4096 by omega), hw]
        exact ih
    · simp only [if_neg h3]
      unfold canE
      rw [hfx, if_neg h3, if_neg h3]
      exact Ev.now _
theorem can_evP (l : List S36) (h : okK l) (hl : l.length ≤ 9000000000000000) : Ev (fun k => markup_can.f k l) (canE l) := can_l0 l h hl l [] rfl h rfl (by rw [nodK]; omega)
theorem can_evR (l : List S36) (h : okK l) (hl : l.length ≤ 9000000000000000) : Ev (fun k => espalierref04_Can.f k l) (canE l) := canR_l0 l hl l [] rfl h rfl
theorem firstE_good : ∀ (l : List S36), firstE l = 0 → goodK l
  | [], _ => trivial
  | t :: l, h => by
    rw [firstE] at h
    by_cases h1 : (lookE t 1 0).1 = 0
    · rw [if_pos h1] at h
      exact ⟨(look_nodes t 1 0 (by omega) h1).2.2, firstE_good l h⟩
    · rw [if_neg h1] at h; exact absurd h h1
theorem canE_good {l : List S36} (h : canE l = 0) : goodK l ∧ nodK l ≤ 4096 := by
  unfold canE at h
  by_cases h1 : firstE l = 0
  · rw [if_pos h1] at h
    refine ⟨firstE_good l h1, ?_⟩
    by_cases h2 : 4096 < nodK l
    · rw [if_pos h2] at h; cases h
    · omega
  · rw [if_neg h1] at h; exact absurd h h1
end Go.Proofs.YtealmfcimoomlaaDoor.PA
