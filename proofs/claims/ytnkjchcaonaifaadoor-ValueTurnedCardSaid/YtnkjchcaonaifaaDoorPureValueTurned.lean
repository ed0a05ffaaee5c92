/- The pure statement of the law ValueTurned: two values held against each other, turned about. -/
import Derived.Test.YtnkjchcaonaifaaDoorPValue
import Derived.Test.YtnkjchcaonaifaaDoorPA9
namespace Go.Proofs.YtnkjchcaonaifaaDoor.Pure
open Go.RowKit Go.Proofs.YtnkjchcaonaifaaDoor.PA Go.Proofs.YtnkjchcaonaifaaDoorW.PrintWords Go.Proofs.YtnkjchcaonaifaaDoorW.PrintLast
theorem beqB (a b : Bool) : (a == b) = (b == a) := by cases a <;> cases b <;> rfl
theorem beqL (a b : List UInt8) : (a == b) = (b == a) := by rw [Bool.eq_iff_iff, beq_iff_eq, beq_iff_eq]; exact eq_comm
/-- Two signs, of which one is the other turned about. -/
structure Turn (op op' : ByteArray) : Prop where
  eq : isEq op = isEq op'
  ne : isNe op = isNe op'
  cmp : ∀ m n, cmpV op m n = cmpV op' n m
theorem nums_turn {op op' : ByteArray} (h : Turn op op') (a b : Val) : numsV op a b = numsV op' b a := by
  unfold numsV
  rw [h.cmp, h.ne, Bool.and_comm]
theorem core_turn {op op' : ByteArray} (h : Turn op op') (a b : Val) : core op a b = core op' b a := by
  unfold core
  rw [h.eq, h.ne, nums_turn h a b, beqB (asBoolV a), beqL a.s.toList]
  by_cases he : (isEq op' || isNe op') = true
  · rw [if_pos he, if_pos he]
    by_cases k : a.k = 1 ∨ b.k = 1
    · rw [if_pos k, if_pos (show b.k = 1 ∨ a.k = 1 from k.symm)]
    · rw [if_neg k, if_neg (show ¬ (b.k = 1 ∨ a.k = 1) from fun z => k z.symm)]
      by_cases k3 : a.k = 3 ∧ b.k = 3
      · rw [if_pos k3, if_pos (show b.k = 3 ∧ a.k = 3 from k3.symm)]
      · rw [if_neg k3, if_neg (show ¬ (b.k = 3 ∧ a.k = 3) from fun z => k3 z.symm)]
  · rw [if_neg he, if_neg he]
theorem any_swap {α β : Type} (p : α → β → Bool) (a : List α) (b : List β) : (a.any fun s => b.any fun t => p s t) = (b.any fun t => a.any fun s => p s t) := by
  rw [Bool.eq_iff_iff, List.any_eq_true, List.any_eq_true]
  constructor
  · rintro ⟨s, hs, h⟩
    obtain ⟨t, ht, h⟩ := List.any_eq_true.mp h
    exact ⟨t, ht, List.any_eq_true.mpr ⟨s, hs, h⟩⟩
  · rintro ⟨t, ht, h⟩
    obtain ⟨s, hs, h⟩ := List.any_eq_true.mp h
    exact ⟨s, hs, List.any_eq_true.mpr ⟨t, ht, h⟩⟩
theorem holds_turn {op op' : ByteArray} (h : Turn op op') (a b : Val) : holdsV op a b = holdsV op' b a := by
  unfold holdsV
  by_cases ha : a.k = 4
  · rw [if_pos ha]
    by_cases hb : b.k = 4
    · rw [if_neg (by omega), if_pos hb, if_neg (by omega)]
      have e1 : ∀ s, holdsV1 op (textV s) b = b.l.any fun t => core op (textV s) (textV t) := fun s => by unfold holdsV1; rw [if_pos hb, if_neg (by simp [textV])]
      have e2 : ∀ s, holdsV1 op' (textV s) a = a.l.any fun t => core op' (textV s) (textV t) := fun s => by unfold holdsV1; rw [if_pos ha, if_neg (by simp [textV])]
      simp only [e1, e2]
      rw [any_swap]
      congr 1
      funext t
      congr 1
      funext s
      exact core_turn h _ _
    · rw [if_neg hb]
      unfold holdsV1
      rw [if_pos ha]
      by_cases k1 : b.k = 1
      · rw [if_pos k1, if_pos k1]; exact core_turn h _ _
      · rw [if_neg k1, if_neg k1]
        congr 1
        funext s
        rw [if_neg hb]
        exact core_turn h _ _
  · rw [if_neg ha]
    unfold holdsV1
    by_cases hb : b.k = 4
    · rw [if_pos hb, if_pos hb]
      by_cases k1 : a.k = 1
      · rw [if_pos k1, if_pos k1]; exact core_turn h _ _
      · rw [if_neg k1, if_neg k1]
        congr 1
        funext s
        rw [if_neg ha]
        exact core_turn h _ _
    · rw [if_neg hb, if_neg hb, if_neg ha]; exact core_turn h _ _
theorem compare_l (k : Nat) (op : ByteArray) (a b : Val) (ha : a.In) (hb : b.In) (hk : 140737488351242 ≤ k) :
    value_Compare.l0 (k + 3) op [⟨a.k, a.b, a.n, a.o, a.s, a.l⟩, ⟨b.k, b.b, b.n, b.o, b.s, b.l⟩] 2 0 a.k a.b a.n a.o a.s a.l b.k b.b b.n b.o b.s b.l = some (if checkV a = 0 then (if checkV b = 0 then (holdsV op a b, 0) else (false, 141)) else (false, 141)) := by
  rw [value_Compare.l0.eq_2, if_pos (by decide), if_pos (by decide), if_pos (by show (0 : Int) < (2 : Nat); decide)]
  show ((value_check.f (k + 2) a.k a.b a.n a.o a.s a.l).bind _) = _
  rw [check_eq (k + 2) a ha (by omega), Option.bind_some]
  by_cases ca : checkV a = 0
  · rw [if_pos ca, if_pos ca, show wrap64 (0 + 1) = 1 from by unfold wrap64; omega, value_Compare.l0.eq_2, if_pos (by decide), if_pos (by decide), if_pos (by show (1 : Int) < (2 : Nat); decide)]
    show ((value_check.f (k + 1) b.k b.b b.n b.o b.s b.l).bind _) = _
    rw [check_eq (k + 1) b hb (by omega), Option.bind_some]
    by_cases cb : checkV b = 0
    · rw [if_pos cb, if_pos cb, show wrap64 (1 + 1) = 2 from by unfold wrap64; omega, value_Compare.l0.eq_2, if_neg (by decide)]
      unfold value_holds.f
      rw [if_pos (by rw [Bool.and_eq_true]; exact ⟨check_okB ha ca, check_okB hb cb⟩), Option.bind_some]
    · rw [if_neg cb, if_neg cb, (check_or b).resolve_left cb]
  · rw [if_neg ca, if_neg ca, (check_or a).resolve_left ca]
theorem compare_eq (k : Nat) (op : ByteArray) (a b : Val) (ha : a.In) (hb : b.In) (hk : 140737488351242 ≤ k) (hs : value_sign.f op = some true) :
    value_Compare.f (k + 3) op a.k a.b a.n a.o a.s a.l b.k b.b b.n b.o b.s b.l = some (if checkV a = 0 then (if checkV b = 0 then (holdsV op a b, 0) else (false, 141)) else (false, 141)) := by
  unfold value_Compare.f
  rw [hs, Option.bind_some, if_pos rfl, Option.bind_some]
  exact compare_l k op a b ha hb hk
theorem ValueTurned (v u : S49) (hv : (Lit.int .i64 v.f0).wf = true ∧ True ∧ (Lit.int .i64 v.f2).wf = true ∧ True ∧ v.f4.size ≤ 140737488351232 ∧ (∀ s ∈ v.f5, s.size ≤ 140737488351232) ∧ v.f5.length * 16 ≤ 140737488351232)
    (hu : (Lit.int .i64 u.f0).wf = true ∧ True ∧ (Lit.int .i64 u.f2).wf = true ∧ True ∧ u.f4.size ≤ 140737488351232 ∧ (∀ s ∈ u.f5, s.size ≤ 140737488351232) ∧ u.f5.length * 16 ≤ 140737488351232) :
    ∃ k, espalierlaw14_ValueTurned.f k v.f0 v.f1 v.f2 v.f3 v.f4 v.f5 u.f0 u.f1 u.f2 u.f3 u.f4 u.f5 = some true := by
  have hV : (⟨v.f0, v.f1, v.f2, v.f3, v.f4, v.f5⟩ : Val).In := Val.In.of hv
  have hU : (⟨u.f0, u.f1, u.f2, u.f3, u.f4, u.f5⟩ : Val).In := Val.In.of hu
  generalize hA : (⟨v.f0, v.f1, v.f2, v.f3, v.f4, v.f5⟩ : Val) = a at hV
  generalize hB : (⟨u.f0, u.f1, u.f2, u.f3, u.f4, u.f5⟩ : Val) = b at hU
  have both : ∀ k, 140737488351242 ≤ k → ∀ op op', Turn op op' → value_sign.f op = some true → value_sign.f op' = some true → ∃ r, value_Compare.f (k + 3) op a.k a.b a.n a.o a.s a.l b.k b.b b.n b.o b.s b.l = some r ∧ value_Compare.f (k + 3) op' b.k b.b b.n b.o b.s b.l a.k a.b a.n a.o a.s a.l = some r := by
    intro k hk op op' ht h1 h2
    refine ⟨_, compare_eq k op a b hV hU hk h1, ?_⟩
    rw [compare_eq k op' b a hU hV hk h2, holds_turn ht a b]
    by_cases ca : checkV a = 0 <;> by_cases cb : checkV b = 0 <;> simp [ca, cb]
  have step : ∀ k, 140737488351242 ≤ k → ∀ (l m : List ByteArray) (i : Nat), i < 6 → l.length = 6 → m.length = 6 → Turn (rdOf ByteArray.empty l i) (rdOf ByteArray.empty m i) → value_sign.f (rdOf ByteArray.empty l i) = some true → value_sign.f (rdOf ByteArray.empty m i) = some true →
      espalierlaw14_ValueTurned.l0 (k + 4) l m i a.k a.b a.n a.o a.s a.l b.k b.b b.n b.o b.s b.l = espalierlaw14_ValueTurned.l0 (k + 3) l m ((i + 1 : Nat) : Int) a.k a.b a.n a.o a.s a.l b.k b.b b.n b.o b.s b.l := by
    intro k hk l m i hi hl hm ht h1 h2
    obtain ⟨r, e1, e2⟩ := both k hk _ _ ht h1 h2
    rw [espalierlaw14_ValueTurned.l0.eq_2, if_pos (by omega), if_pos (by omega), e1, Option.bind_some, if_pos (by omega), e2, Option.bind_some, if_neg (by simp), if_pos rfl]
    congr 1
    unfold wrap64
    omega
  subst hA hB
  have sg : ∀ op ∈ [(⟨#[61]⟩ : ByteArray), ⟨#[33, 61]⟩, ⟨#[60]⟩, ⟨#[60, 61]⟩, ⟨#[62]⟩, ⟨#[62, 61]⟩], value_sign.f op = some true := by
    intro op hop
    simp only [List.mem_cons, List.mem_nil_iff, or_false] at hop
    rcases hop with rfl | rfl | rfl | rfl | rfl | rfl <;> decide +kernel
  have tn : ∀ op op' : ByteArray, (op.toList, op'.toList) ∈ [(([61] : List UInt8), ([61] : List UInt8)), ([33, 61], [33, 61]), ([60], [62]), ([60, 61], [62, 61]), ([62], [60]), ([62, 61], [60, 61])] → Turn op op' := by
    intro op op' h
    simp only [List.mem_cons, List.mem_nil_iff, or_false, Prod.mk.injEq] at h
    rcases h with ⟨h, h'⟩ | ⟨h, h'⟩ | ⟨h, h'⟩ | ⟨h, h'⟩ | ⟨h, h'⟩ | ⟨h, h'⟩
    all_goals
      refine ⟨by unfold isEq; simp [h, h'], by unfold isNe; simp [h, h'], fun m n => ?_⟩
      unfold cmpV
      rw [h, h']
      simp
      try (rw [Bool.eq_iff_iff]; simp; try omega)
  have main : ∀ k, 140737488351242 ≤ k → espalierlaw14_ValueTurned.f (k + 10) v.f0 v.f1 v.f2 v.f3 v.f4 v.f5 u.f0 u.f1 u.f2 u.f3 u.f4 u.f5 = some true := by
    intro k hk
    unfold espalierlaw14_ValueTurned.f
    show ((some true).bind _) = _
    rw [Option.bind_some, if_pos rfl]
    have s0 := step (k + 6) (by omega) [⟨#[61]⟩, ⟨#[33, 61]⟩, ⟨#[60]⟩, ⟨#[60, 61]⟩, ⟨#[62]⟩, ⟨#[62, 61]⟩] [⟨#[61]⟩, ⟨#[33, 61]⟩, ⟨#[62]⟩, ⟨#[62, 61]⟩, ⟨#[60]⟩, ⟨#[60, 61]⟩] 0 (by omega) rfl rfl (tn _ _ (by decide +kernel)) (sg _ (by simp [rdOf])) (sg _ (by simp [rdOf]))
    have s1 := step (k + 5) (by omega) [⟨#[61]⟩, ⟨#[33, 61]⟩, ⟨#[60]⟩, ⟨#[60, 61]⟩, ⟨#[62]⟩, ⟨#[62, 61]⟩] [⟨#[61]⟩, ⟨#[33, 61]⟩, ⟨#[62]⟩, ⟨#[62, 61]⟩, ⟨#[60]⟩, ⟨#[60, 61]⟩] 1 (by omega) rfl rfl (tn _ _ (by decide +kernel)) (sg _ (by simp [rdOf])) (sg _ (by simp [rdOf]))
    have s2 := step (k + 4) (by omega) [⟨#[61]⟩, ⟨#[33, 61]⟩, ⟨#[60]⟩, ⟨#[60, 61]⟩, ⟨#[62]⟩, ⟨#[62, 61]⟩] [⟨#[61]⟩, ⟨#[33, 61]⟩, ⟨#[62]⟩, ⟨#[62, 61]⟩, ⟨#[60]⟩, ⟨#[60, 61]⟩] 2 (by omega) rfl rfl (tn _ _ (by decide +kernel)) (sg _ (by simp [rdOf])) (sg _ (by simp [rdOf]))
    have s3 := step (k + 3) (by omega) [⟨#[61]⟩, ⟨#[33, 61]⟩, ⟨#[60]⟩, ⟨#[60, 61]⟩, ⟨#[62]⟩, ⟨#[62, 61]⟩] [⟨#[61]⟩, ⟨#[33, 61]⟩, ⟨#[62]⟩, ⟨#[62, 61]⟩, ⟨#[60]⟩, ⟨#[60, 61]⟩] 3 (by omega) rfl rfl (tn _ _ (by decide +kernel)) (sg _ (by simp [rdOf])) (sg _ (by simp [rdOf]))
    have s4 := step (k + 2) (by omega) [⟨#[61]⟩, ⟨#[33, 61]⟩, ⟨#[60]⟩, ⟨#[60, 61]⟩, ⟨#[62]⟩, ⟨#[62, 61]⟩] [⟨#[61]⟩, ⟨#[33, 61]⟩, ⟨#[62]⟩, ⟨#[62, 61]⟩, ⟨#[60]⟩, ⟨#[60, 61]⟩] 4 (by omega) rfl rfl (tn _ _ (by decide +kernel)) (sg _ (by simp [rdOf])) (sg _ (by simp [rdOf]))
    have s5 := step (k + 1) (by omega) [⟨#[61]⟩, ⟨#[33, 61]⟩, ⟨#[60]⟩, ⟨#[60, 61]⟩, ⟨#[62]⟩, ⟨#[62, 61]⟩] [⟨#[61]⟩, ⟨#[33, 61]⟩, ⟨#[62]⟩, ⟨#[62, 61]⟩, ⟨#[60]⟩, ⟨#[60, 61]⟩] 5 (by omega) rfl rfl (tn _ _ (by decide +kernel)) (sg _ (by simp [rdOf])) (sg _ (by simp [rdOf]))
    refine s0.trans (s1.trans (s2.trans (s3.trans (s4.trans (s5.trans ?_)))))
    rw [espalierlaw14_ValueTurned.l0.eq_2, if_neg (by show ¬ ((6 : Nat) : Int) < ((6 : Nat) : Int); omega)]
  exact ⟨_, main 140737488351242 (Nat.le_refl _)⟩
end Go.Proofs.YtnkjchcaonaifaaDoor.Pure
