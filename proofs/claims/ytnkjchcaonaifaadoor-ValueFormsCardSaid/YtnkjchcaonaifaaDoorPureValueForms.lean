/- The pure statement of the law ValueForms: a value as a text, and that again as a value. -/
import Derived.Test.YtnkjchcaonaifaaDoorPValue
import Derived.Test.YtnkjchcaonaifaaDoorPA8
namespace Go.Proofs.YtnkjchcaonaifaaDoor.Pure
open Go.RowKit Go.Proofs.YtnkjchcaonaifaaDoor.PA Go.Proofs.YtnkjchcaonaifaaDoorW.PrintWords Go.Proofs.YtnkjchcaonaifaaDoorW.PrintLast
theorem Text_eq (k : Nat) (v : Val) (h : v.In) (hk : 140737488351242 ≤ k) : value_Text.f k v.k v.b v.n v.o v.s v.l = some (if checkV v = 0 then (asTextV v, 0) else (⟨#[]⟩, checkV v)) := by
  unfold value_Text.f
  rw [check_eq k v h hk, Option.bind_some]
  by_cases hc : checkV v = 0
  · rw [if_pos hc, if_pos hc, asText_eq v h]; rfl
  · rw [if_neg hc, if_neg hc]
theorem Number_eq (k : Nat) (v : Val) (h : v.In) (hk : 140737488351242 ≤ k) : value_Number.f k v.k v.b v.n v.o v.s v.l = some (if checkV v = 0 then ((numV v).1, (numV v).2, 0) else (0, false, checkV v)) := by
  unfold value_Number.f
  rw [check_eq k v h hk, Option.bind_some]
  by_cases hc : checkV v = 0
  · rw [if_pos hc, if_pos hc, asNumber_eq v (check_okB h hc)]; rfl
  · rw [if_neg hc, if_neg hc]
theorem forms_j (k : Nat) (v : Val) (h : v.In) (hk : 140737488351242 ≤ k) : espalierlaw14_ValueForms.j0 (k + 1) false v.k v.b v.n v.o v.s v.l = some true := by
  rw [espalierlaw14_ValueForms.j0.eq_2, if_neg (by simp), Text_eq k v h hk, Option.bind_some]
  by_cases hc : checkV v = 0
  · rw [if_pos hc, if_pos rfl, Number_eq k v h hk, if_pos hc, Option.bind_some]
    have ht := asText_ok h hc
    have e1 : value_Number.f k 3 false 0 false (asTextV v) [] = some ((readR (asTextV v)).1, (readR (asTextV v)).2, 0) := by
      have := Number_eq k (textV (asTextV v)) (textV_in ht) hk
      rw [if_pos (textV_check ht)] at this
      exact this
    have e2 : value_Text.f k 3 false 0 false (asTextV v) [] = some (asTextV v, 0) := by
      have := Text_eq k (textV (asTextV v)) (textV_in ht) hk
      rw [if_pos (textV_check ht)] at this
      exact this
    show ((espalierlaw14_text.f (asTextV v)).bind _) = _
    rw [espalierlaw14_text.f, Option.bind_some]
    show ((value_Number.f k 3 false 0 false (asTextV v) []).bind _) = _
    rw [e1, Option.bind_some]
    show ((value_Text.f k 3 false 0 false (asTextV v) []).bind _) = _
    rw [e2, Option.bind_some, if_pos rfl, if_pos rfl, if_pos rfl, if_pos rfl]
    by_cases h1 : v.k = 1
    · rw [if_pos h1]
    · rw [if_neg h1]
      have := num_text h hc h1
      show (if (numV v).1 = (readR (asTextV v)).1 then some ((numV v).2 == (readR (asTextV v)).2) else some false) = some true
      rw [this, if_pos rfl]
      simp
  · have h141 := (check_or v).resolve_left hc
    rw [if_neg hc, h141, if_neg (show ¬ (141 : Int) = 0 by decide), if_pos rfl]
    simp
theorem ValueForms (v : S49) (n : Int) (hv : (Lit.int .i64 v.f0).wf = true ∧ True ∧ (Lit.int .i64 v.f2).wf = true ∧ True ∧ v.f4.size ≤ 140737488351232 ∧ (∀ s ∈ v.f5, s.size ≤ 140737488351232) ∧ v.f5.length * 16 ≤ 140737488351232) (hn : (Lit.int .i64 n).wf = true) :
    ∃ k, espalierlaw14_ValueForms.f k v.f0 v.f1 v.f2 v.f3 v.f4 v.f5 n = some true := by
  have hV : (⟨v.f0, v.f1, v.f2, v.f3, v.f4, v.f5⟩ : Val).In := Val.In.of hv
  have hm : IntKind.i64.max = 9223372036854775807 := rfl
  have hm2 : IntKind.i64.min = -9223372036854775808 := rfl
  simp only [Lit.wf, Bool.and_eq_true, decide_eq_true_eq] at hn
  have hN : (⟨2, false, n, false, ⟨#[]⟩, []⟩ : Val).In := ⟨by show _ ≤ n; omega, by show n ≤ _; omega, by show 0 ≤ _; omega, fun x hx => (List.not_mem_nil hx).elim⟩
  have main : ∀ k, 140737488351242 ≤ k → espalierlaw14_ValueForms.f (k + 1) v.f0 v.f1 v.f2 v.f3 v.f4 v.f5 n = some true := by
    intro k hk
    have ht : tOk ⟨(Lib.itoa n).toArray⟩ = true := beq_iff_eq.mpr (itoa_text n hN.n0 hN.n1)
    have e0 : value_Text.f (k + 1) 2 false n false ⟨#[]⟩ [] = some (⟨(Lib.itoa n).toArray⟩, 0) := Text_eq (k + 1) _ hN (by omega)
    have e1 : value_Number.f (k + 1) 3 false 0 false ⟨(Lib.itoa n).toArray⟩ [] = some (n, true, 0) := by
      have := Number_eq (k + 1) (textV ⟨(Lib.itoa n).toArray⟩) (textV_in ht) (by omega)
      rw [if_pos (textV_check ht)] at this
      have e : numV (textV ⟨(Lib.itoa n).toArray⟩) = (n, true) := read_itoa n hN.n0 hN.n1
      rw [e] at this
      exact this
    unfold espalierlaw14_ValueForms.f
    show ((some true).bind _) = _
    rw [Option.bind_some, if_pos rfl, espalierlaw14_number.f, Option.bind_some]
    show ((value_Text.f (k + 1) 2 false n false ⟨#[]⟩ []).bind _) = _
    rw [e0, Option.bind_some]
    show ((espalierlaw14_text.f ⟨(Lib.itoa n).toArray⟩).bind _) = _
    rw [espalierlaw14_text.f, Option.bind_some]
    show ((value_Number.f (k + 1) 3 false 0 false ⟨(Lib.itoa n).toArray⟩ []).bind _) = _
    rw [e1, Option.bind_some, if_pos rfl, if_pos rfl, if_pos rfl]
    have : (n != n) = false := by simp
    show espalierlaw14_ValueForms.j0 (k + 1) (n != n) _ _ _ _ _ _ = _
    rw [this]
    exact forms_j k _ hV hk
  exact ⟨_, main 140737488351242 (Nat.le_refl _)⟩
end Go.Proofs.YtnkjchcaonaifaaDoor.Pure
