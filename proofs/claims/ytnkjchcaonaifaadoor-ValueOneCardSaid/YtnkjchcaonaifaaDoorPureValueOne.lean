/- The pure statement of the law ValueOne: nodes are held against something just as one of their texts is; count is how many. -/
import Derived.Test.YtnkjchcaonaifaaDoorPValue
import Derived.Test.YtnkjchcaonaifaaDoorUOne
namespace Go.Proofs.YtnkjchcaonaifaaDoor.Pure
open Go.RowKit Go.Proofs.YtnkjchcaonaifaaDoor.PA Go.Proofs.YtnkjchcaonaifaaDoorW.PrintWords Go.Proofs.YtnkjchcaonaifaaDoorW.PrintLast
theorem compare_l1 (k : Nat) (op : ByteArray) (a b : Val) (ha : a.In) (hb : b.In) (hk : 140737488351242 ≤ k) :
    value_Compare.l0 (k + 3) op [⟨a.k, a.b, a.n, a.o, a.s, a.l⟩, ⟨b.k, b.b, b.n, b.o, b.s, b.l⟩] 2 0 a.k a.b a.n a.o a.s a.l b.k b.b b.n b.o b.s b.l = some (if checkV a = 0 then (if checkV b = 0 then (holdsV op a b, 0) else (false, 141)) else (false, 141)) := by
  rw [value_Compare.l0.eq_2, if_pos (by decide), if_pos (by decide), if_pos (by show (0 : Int) < (2 : Nat); decide)]
  show ((value_check.f (k + 2) a.k a.b a.n a.o a.s a.l).bind _) = _
  rw [check_eq (k + 2) a ha (by omega), Option.bind_some]
  by_cases ca : checkV a = 0
  · rw [if_pos ca, if_pos ca, show wrap64 (0 + 1) = 1 from by unfold wrap64; omega, value_Compare.l0.eq_2, if_pos (by decide), if_pos (by decide), if_pos (by show (1 : Int) < (2 : Nat); decide)]
    show ((value_check.f (k + 1) b.k b.b b.n b.o b.s b.l).bind _) = _
    rw [check_eq (k + 1) b hb (by omega), Option.bind_some]
    by_cases cb : checkV b = 0
    · rw [if_pos cb, if_pos cb, show wrap64 (1 + 1) = 2 from by unfold wrap64; omega, value_Compare.l0.eq_2, if_neg (by decide)]
      unfold value_holds.f
      rw [if_pos (by rw [Bool.and_eq_true]; exact ⟨check_okB ha ca, check_okB hb cb⟩), Option.bind_some]
    · rw [if_neg cb, if_neg cb, (check_or b).resolve_left cb]
  · rw [if_neg ca, if_neg ca, (check_or a).resolve_left ca]
theorem compare_eq1 (k : Nat) (op : ByteArray) (a b : Val) (ha : a.In) (hb : b.In) (hk : 140737488351242 ≤ k) (hs : value_sign.f op = some true) :
    value_Compare.f (k + 3) op a.k a.b a.n a.o a.s a.l b.k b.b b.n b.o b.s b.l = some (if checkV a = 0 then (if checkV b = 0 then (holdsV op a b, 0) else (false, 141)) else (false, 141)) := by
  unfold value_Compare.f
  rw [hs, Option.bind_some, if_pos rfl, Option.bind_some]
  exact compare_l1 k op a b ha hb hk
theorem bool_eq (k : Nat) (v : Val) (h : v.In) (hk : 140737488351242 ≤ k) : value_Bool.f k v.k v.b v.n v.o v.s v.l = some (if checkV v = 0 then (asBoolV v, 0) else (false, checkV v)) := by
  unfold value_Bool.f
  rw [check_eq k v h hk, Option.bind_some]
  by_cases hc : checkV v = 0
  · rw [if_pos hc, if_pos hc, asBool_eq]; rfl
  · rw [if_neg hc, if_neg hc]
def nodesV (l : List ByteArray) : Val := ⟨4, false, 0, false, ⟨#[]⟩, l⟩
theorem nodes_check {l : List ByteArray} (h : ∀ s ∈ l, tOk s = true) (hl : l.length ≤ 4096) : checkV (nodesV l) = 0 := by
  unfold checkV nodesV
  rw [if_neg (show ¬ (4 : Int) = 3 by decide), if_pos rfl, if_pos hl, if_pos (List.all_eq_true.mpr h)]
theorem nodes_in {l : List ByteArray} (h : ∀ s ∈ l, s.size ≤ 140737488351232) : (nodesV l).In := ⟨by show _ ≤ (0 : Int); omega, by show (0 : Int) ≤ _; omega, by show 0 ≤ _; omega, h⟩
theorem takes_count (k : Nat) : value_takes.f (k + 5) ⟨#[99, 111, 117, 110, 116]⟩ = some 1 := by
  have e : (⟨#[99, 111, 117, 110, 116]⟩ : ByteArray).toList = ([99, 111, 117, 110, 116] : List UInt8) := by decide +kernel
  unfold value_takes.f
  rw [e]
  simp [value_takes.j0, value_takes.j1, e]
theorem count_eq (k : Nat) (l : List ByteArray) (hi : (nodesV l).In) (hc : checkV (nodesV l) = 0) (hk : 140737488351242 ≤ k) :
    value_Call.f (k + 9) ⟨#[99, 111, 117, 110, 116]⟩ 0 0 ⟨#[]⟩ ⟨#[]⟩ [] [⟨4, false, 0, false, ⟨#[]⟩, l⟩] = some (2, false, (l.length : Int), false, ⟨#[]⟩, [], 0) := by
  have e : (⟨#[99, 111, 117, 110, 116]⟩ : ByteArray).toList = ([99, 111, 117, 110, 116] : List UInt8) := by decide +kernel
  have hck : value_check.f (k + 8) 4 false 0 false ⟨#[]⟩ l = some 0 := by rw [← hc]; exact check_eq (k + 8) (nodesV l) hi (by omega)
  unfold value_Call.f value_call.f
  rw [takes_count (k + 4), Option.bind_some, if_pos (by show (1 : Int) = ((1 : Nat) : Int); rfl), value_call.l0.eq_2, if_pos (by show (0 : Int) < ((1 : Nat) : Int); decide), if_pos (by decide), if_pos (by show (0 : Int) < ((1 : Nat) : Int); decide)]
  show Option.bind ((value_check.f (k + 8) 4 false 0 false ⟨#[]⟩ l).bind _) _ = _
  rw [hck, Option.bind_some, if_pos rfl, show wrap64 (0 + 1) = 1 from by unfold wrap64; omega, value_call.l0.eq_2, if_neg (by show ¬ (1 : Int) < ((1 : Nat) : Int); decide), e, if_neg (by decide)]
  rw [value_call.j1.eq_2, if_neg (by decide), e, if_neg (by decide), if_neg (by decide), if_neg (by decide), if_neg (by decide), if_neg (by decide), if_neg (by decide), if_pos rfl, if_pos (by show (0 : Int) < ((1 : Nat) : Int); decide)]
  rfl
theorem ValueOne (l : List ByteArray) (v : S49) (which : Int) (hl : (∀ s ∈ l, s.size ≤ 140737488351232) ∧ l.length * 16 ≤ 140737488351232) (hv : (Lit.int .i64 v.f0).wf = true ∧ True ∧ (Lit.int .i64 v.f2).wf = true ∧ True ∧ v.f4.size ≤ 140737488351232 ∧ (∀ s ∈ v.f5, s.size ≤ 140737488351232) ∧ v.f5.length * 16 ≤ 140737488351232) (hw : (Lit.int .u8 which).wf = true) :
    true = true ∧ ∃ k T C eb op, OneP k l v.f0 v.f1 v.f2 v.f3 v.f4 v.f5 which T C eb op := by
  have hV : (⟨v.f0, v.f1, v.f2, v.f3, v.f4, v.f5⟩ : Val).In := Val.In.of hv
  generalize hB : (⟨v.f0, v.f1, v.f2, v.f3, v.f4, v.f5⟩ : Val) = b at hV
  have hm : IntKind.u8.max = 255 := rfl
  have hm2 : IntKind.u8.min = 0 := rfl
  simp only [Lit.wf, Bool.and_eq_true, decide_eq_true_eq] at hw
  have sg : ∀ op ∈ [(⟨#[61]⟩ : ByteArray), ⟨#[33, 61]⟩, ⟨#[60]⟩, ⟨#[60, 61]⟩, ⟨#[62]⟩, ⟨#[62, 61]⟩], value_sign.f op = some true := by
    intro op hop
    simp only [List.mem_cons, List.mem_nil_iff, or_false] at hop
    rcases hop with rfl | rfl | rfl | rfl | rfl | rfl <;> decide +kernel
  have hs : value_sign.f (rdOf ByteArray.empty [⟨#[61]⟩, ⟨#[33, 61]⟩, ⟨#[60]⟩, ⟨#[60, 61]⟩, ⟨#[62]⟩, ⟨#[62, 61]⟩] (which % 6)) = some true := by
    apply sg
    have h6 : (which % 6).toNat < 6 := by omega
    show List.getD _ (which % 6).toNat _ ∈ _
    rw [List.getD_eq_getElem?_getD, List.getElem?_eq_getElem (by exact h6), Option.getD_some]
    exact List.getElem_mem _
  generalize hop : rdOf ByteArray.empty [⟨#[61]⟩, ⟨#[33, 61]⟩, ⟨#[60]⟩, ⟨#[60, 61]⟩, ⟨#[62]⟩, ⟨#[62, 61]⟩] (which % 6) = op at hs
  have main : ∀ k, 140737488351242 ≤ k → OneP (k + 9) l v.f0 v.f1 v.f2 v.f3 v.f4 v.f5 which (fun s => (textR s).2) (fun s => holdsV1 op (textV s) b) (checkV b) op := by
    intro k hk
    refine ⟨by omega, by omega, hop, fun s hs => ⟨(textR s).1, ?_⟩, ?_, fun h1 h2 h3 h4 => ?_⟩
    · unfold chars_Text.f
      have := hl.1 s hs
      rw [text_eq s (by omega) (k + 9) (by omega)]
      rfl
    · have := bool_eq (k + 9) b hV (by omega)
      subst hB
      by_cases hc : checkV ⟨v.f0, v.f1, v.f2, v.f3, v.f4, v.f5⟩ = 0
      · rw [if_pos hc] at this
        exact ⟨_, by rw [hc]; exact this⟩
      · rw [if_neg hc] at this
        exact ⟨_, this⟩
    have hT : ∀ s ∈ l, tOk s = true := by
      intro s hs
      obtain ⟨j, hj, rfl⟩ := List.getElem_of_mem hs
      have := h1 j hj
      rw [getElem!_pos l j hj] at this
      exact beq_iff_eq.mpr this
    have hk1 : b.k ≠ 1 := by
      rw [← hB]
      exact fun h => by rw [show v.f0 = 1 from h] at h4; exact absurd h4 (by decide)
    have hnc := nodes_check hT h3
    refine ⟨fun s hs' => ?_, ?_, count_eq k l (nodes_in hl.1) hnc hk, ?_⟩
    · have := compare_eq1 (k + 6) op (textV s) b (textV_in (hT s hs')) hV (by omega) hs
      rw [if_pos (textV_check (hT s hs')), if_pos h2] at this
      have e : holdsV op (textV s) b = holdsV1 op (textV s) b := by unfold holdsV; rw [if_neg (by simp [textV])]
      rw [e] at this
      subst hB
      exact this
    · have := compare_eq1 (k + 6) op (nodesV l) b (nodes_in hl.1) hV (by omega) hs
      rw [if_pos hnc, if_pos h2] at this
      have e : holdsV op (nodesV l) b = l.any fun s => holdsV1 op (textV s) b := by unfold holdsV; rw [if_pos (show (nodesV l).k = 4 from rfl), if_neg hk1]; rfl
      rw [e] at this
      subst hB
      exact this
    · have := bool_eq (k + 9) (nodesV l) (nodes_in hl.1) (by omega)
      rw [if_pos hnc] at this
      exact this
  exact ⟨rfl, _, _, _, _, _, main 140737488351242 (Nat.le_refl _)⟩
end Go.Proofs.YtnkjchcaonaifaaDoor.Pure
