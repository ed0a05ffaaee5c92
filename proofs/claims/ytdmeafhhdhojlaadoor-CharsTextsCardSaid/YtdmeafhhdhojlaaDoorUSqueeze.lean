/- chars.Squeeze: what it answers, over chars.text, strings.FieldsFunc and strings.Join. -/
import Derived.Test.YtdmeafhhdhojlaaDoorUContains
import Derived.Shelf.Abstract
namespace Go.Proofs.YtdmeafhhdhojlaaDoor.PB
open Go.RowKit Go.Proofs.YtdmeafhhdhojlaaDoorW.PrintWords Go.Proofs.YtdmeafhhdhojlaaDoorW.PrintLast Go.Proofs.YtdmeafhhdhojlaaDoorW.PrintMore
set_option linter.unusedVariables false
set_option linter.unusedSimpArgs false
set_option maxHeartbeats 4000000 in
set_option maxRecDepth 1000000 in
theorem IndexRune_not (r : Nat) (h0 : 128 ≤ r) (h1 : r ≤ 1114111) (hv : Lib.validRune (r : Int) = false) (w : World) :
    Calls Tryd.prog 65 #[.string blanksB, .int .i32 r] w fun e w' => e = .returned (.int .i64 (-1)) ∧ Below w.heap.size w w' := by
  have h6 : (r : Int) ≠ 65533 := fun e => by rw [e] at hv; exact absurd hv (by decide)
  have hr3 : ((r : Int) == 65533) = false := beq_eq_false_iff_ne.mpr h6
  have hr4 : decide ((r : Int) < 128) = false := decide_eq_false (by omega)
  clear h6
  go_enter Tryd.func65, Tryd.ntmps65
  go_wp2_with (go_at_call 75; refine (Tryd.utf8_ValidRune _ _).mono ?_; rintro e w5 ⟨rfl, rfl⟩)
  go_ret
  exact ⟨rfl, Below.refl _ _⟩
theorem IndexRune_none (r : Nat) (h0 : 128 ≤ r) (h1 : r ≤ 1114111) (w : World) :
    Calls Tryd.prog 65 #[.string blanksB, .int .i32 r] w fun e w' => e = .returned (.int .i64 (-1)) ∧ Below w.heap.size w w' := by
  by_cases e : r = 65533
  · subst e; exact IndexRune_err w
  by_cases hv : r < 55296 ∨ 57344 ≤ r
  · have hl : Lib.validRune (r : Int) = true := by unfold Lib.validRune; rw [decide_eq_true_iff]; omega
    have hu := valid_of r (by omega)
    by_cases c2 : r < 2048
    · exact IndexRune_two r h0 (by omega) hl (enc_two r h0 c2) w
    by_cases c3 : r < 65536
    · exact IndexRune_three r h0 (by omega) hl (enc_three r (by omega) c3 hu) w
    · exact IndexRune_four r h0 (by omega) hl (enc_four r (by omega) hu) w
  · exact IndexRune_not r h0 h1 (by unfold Lib.validRune; rw [decide_eq_false_iff_not]; omega) w
theorem blank_ascii : ∀ r : Fin 128, decide (0 ≤ Lib.indexByte [9, 10, 13, 32] r.val.toUInt8) = isBlank r.val := by decide +kernel
set_option maxHeartbeats 4000000 in
set_option maxRecDepth 1000000 in
theorem ContainsRune_blank (r : Nat) (h1 : r ≤ 1114111) (w : World) :
    Calls Tryd.prog 49 #[.string blanksB, .int .i32 r] w fun e w' => e = .returned (.bool (isBlank r)) ∧ Below w.heap.size w w' := by
  by_cases h0 : r < 128
  · refine (Tryd.strings_ContainsRune_ascii blanksB (r : Int) w (by omega) (by omega)).mono ?_
    rintro e w' ⟨rfl, rfl⟩
    refine ⟨?_, Below.refl _ _⟩
    have := blank_ascii ⟨r, h0⟩
    simp only at this
    rw [← this]
    rfl
  · have hb : isBlank r = false := by unfold isBlank; simp; omega
    rw [hb]
    have HI := Lib.hid (IndexRune_none r (by omega) h1)
    go_enter Tryd.func49, Tryd.ntmps49
    go_wp2_with (go_at_call 65; refine (HI.out _).mono ?_; rintro e w5 ⟨rfl, hb5⟩)
    go_ret
    exact ⟨rfl, hb5⟩
set_option maxHeartbeats 4000000 in
set_option maxRecDepth 1000000 in
theorem squeeze_pred (r : Nat) (h1 : r ≤ 1114111) (w : World) :
    Calls Tryd.prog 48 #[.int .i32 r] w fun e w' => e = .returned (.bool (isBlank r)) ∧ Below w.heap.size w w' := by
  have HI := Lib.hid (ContainsRune_blank r h1)
  unfold blanksB at HI
  go_enter Tryd.func48, Tryd.ntmps48
  go_wp2_with (go_at_call 49; refine (HI.out _).mono ?_; rintro e w5 ⟨rfl, hb5⟩)
  go_ret
  exact ⟨rfl, hb5⟩
def sqList (s : ByteArray) : List (List UInt8) := (Lib.goFieldsP isBlank s).map (·.data.toList)
def sqR (s : ByteArray) : ByteArray := ⟨(Lib.join (sqList s) [32]).toArray⟩
def chars_Squeeze.f (k : Nat) (a0 : ByteArray) : Option (ByteArray × Int) :=
  (chars_text.f k a0).bind fun t => if t.2 = 0 then (if a0.size ≤ 4294967296 ∧ (Lib.goFieldsP isBlank a0).length ≤ 140737488355328 ∧ (Lib.join (sqList a0) [32]).length ≤ 140737488355328 then some (sqR a0, 0) else none) else some ((⟨#[]⟩ : ByteArray), t.2)
theorem chars_Squeeze.mono : ∀ a0 k, LeO (chars_Squeeze.f k a0) (chars_Squeeze.f (k + 1) a0) := by
  intro a0 k
  unfold chars_Squeeze.f
  exact LeO.bind (chars_text.mono _ _) (fun _ => LeO.refl _)
theorem join_any (A n : Nat) (xs : List ByteArray) (hn : xs.length = n) (w W : World) (hcells : W.ownsRow w.heap.size 9 1 (.slice (some ⟨A, 0, none⟩) n n) n (xs.map Value.string)) (h1 : n ≤ 140737488355328) (h2 : (Lib.join (xs.map (·.data.toList)) [32]).length ≤ 140737488355328) :
    Calls Tryd.prog 50 #[.slice (some ⟨A, 0, none⟩) n n, .string ⟨#[32]⟩] W fun e w' => e = .returned (.string ⟨(Lib.join (xs.map (·.data.toList)) [32]).toArray⟩) ∧ Below W.heap.size W w' := by
  subst hn
  cases xs with
  | nil =>
    refine (Tryd.strings_Join_none (some ⟨A, 0, none⟩) 0 ⟨#[32]⟩ W).mono ?_
    rintro e w' ⟨rfl, rfl⟩
    exact ⟨rfl, Below.refl _ _⟩
  | cons x xs =>
    have hc : ∀ (j : Nat) y, (x :: xs)[j]? = some y → W.cell? ⟨A, 0 + j, none⟩ = some (.string y) := by
      intro j y hj
      have := hcells.cells (g := A) rfl j (.string y) (by rw [List.getElem?_map, hj]; rfl)
      rw [add_plain] at this
      rw [Nat.zero_add]
      exact this
    have hA : A < W.heap.size := by
      have := hc 0 x rfl
      rcases Nat.lt_or_ge A W.heap.size with h | h
      · exact h
      · simp [World.cell?, Array.getElem?_eq_none h] at this
    exact (Tryd.strings_Join A 0 _ (x :: xs) ⟨#[32]⟩ W hc hA h1 (Nat.le_refl _) h2)
set_option maxHeartbeats 4000000 in
set_option maxRecDepth 1000000 in
theorem chars_Squeeze.calls (k : Nat) (a0 : ByteArray) (r1 : ByteArray) (r2 : Int) (w : World) (h : chars_Squeeze.f k a0 = some (r1, r2)) (hG : Glob w := by first | exact Glob.step HG.out (by repeat (first | (with_reducible first | exact HB.out | apply below_alloc | apply pw_below_drewN | apply below_drew1) | exact HB.out)) | exact HG.out | assumption) :
    Calls Tryd.prog 26 #[.string a0] w fun e w' => e = .returned (.tuple #[.string r1, .int .i64 r2]) ∧ Below w.heap.size w w' := by
  have HG := Aside0.mk hG
  clear hG
  unfold chars_Squeeze.f at h
  obtain ⟨⟨t1, t2⟩, ht, h⟩ := Option.bind_eq_some_iff.mp h
  have HT := Aside0.mk ht
  clear ht
  replace h : (if t2 = 0 then (if a0.size ≤ 4294967296 ∧ (Lib.goFieldsP isBlank a0).length ≤ 140737488355328 ∧ (Lib.join (sqList a0) [32]).length ≤ 140737488355328 then some (sqR a0, (0 : Int)) else none) else some ((⟨#[]⟩ : ByteArray), t2)) = some (r1, r2) := h
  by_cases c2 : t2 = 0
  case neg =>
    rw [if_neg c2] at h
    simp only [Option.some.injEq, Prod.mk.injEq] at h
    obtain ⟨rfl, rfl⟩ := h
    have c2b : (t2 != 0) = true := bne_iff_ne.mpr c2
    clear c2
    go_enter Tryd.func26, Tryd.ntmps26
    go_wp2_with (go_at_call 31; refine (chars_text.calls k a0 t1 t2 _ HT.out HG.out).mono ?_; rintro e w5 ⟨rfl, hb5⟩)
    go_ret2
    exact ⟨rfl, hb5⟩
  rw [if_pos c2] at h
  have c2b : (t2 != 0) = false := bne_eq_false_iff_eq.mpr c2
  clear c2
  by_cases hs : a0.size ≤ 4294967296 ∧ (Lib.goFieldsP isBlank a0).length ≤ 140737488355328 ∧ (Lib.join (sqList a0) [32]).length ≤ 140737488355328
  case neg => rw [if_neg hs] at h; exact absurd h (by simp)
  rw [if_pos hs] at h
  simp only [Option.some.injEq, Prod.mk.injEq] at h
  obtain ⟨hr, rfl⟩ := h
  have HR := Aside0.mk hr
  clear hr
  have HS := Aside0.mk hs
  clear hs
  obtain ⟨cB, hB⟩ := Option.isSome_iff_exists.mp (show Tryd.f48.body.isSome = true by kernel_rfl)
  have HF : Hid (∀ W, Calls Tryd.prog 47 #[.string a0, .func (.func 48) #[] #[]] W fun e w' => ∃ A, e = .returned (.slice (some ⟨A, 0, none⟩) (Lib.goFieldsP isBlank a0).length (Lib.goFieldsP isBlank a0).length) ∧ W.heap.size ≤ A ∧
      w'.ownsRow W.heap.size 9 1 (.slice (some ⟨A, 0, none⟩) (Lib.goFieldsP isBlank a0).length (Lib.goFieldsP isBlank a0).length) (Lib.goFieldsP isBlank a0).length ((Lib.goFieldsP isBlank a0).map Value.string) ∧ Below W.heap.size W w') :=
    Lib.hid (fun W => Tryd.strings_FieldsFunc_grows 48 #[] (Go.Proofs.enters_of Tryd.func48 (by kernel_rfl) hB) isBlank a0 W HS.out.1 (fun W' x hx _ => squeeze_pred x hx W'))
  clear hB
  generalize hn : (Lib.goFieldsP isBlank a0).length = n at HF
  have HN := Aside0.mk hn
  clear hn h
  go_enter Tryd.func26, Tryd.ntmps26
  go_wp2_with (first | (go_at_call 31; refine (chars_text.calls k a0 t1 t2 _ HT.out HG.out).mono ?_; rintro e w5 ⟨rfl, hb5⟩) | (go_at_call 47; refine (HF.out _).mono ?_; rintro e w6 ⟨A, rfl, hA, hrow, hb6⟩; have HW := Aside0.mk hrow; clear hrow) | (go_at_call 50; refine (join_any A n (Lib.goFieldsP isBlank a0) HN.out _ _ HW.out (by rw [← HN.out]; exact HS.out.2.1) HS.out.2.2).mono ?_; rintro e w7 ⟨rfl, hb7⟩))
  go_ret2
  refine ⟨?_, ?_⟩
  · have hr := HR.out
    rw [← hr]
    rfl
  · exact below_step (below_step hb5 hb6) hb7
end Go.Proofs.YtdmeafhhdhojlaaDoor.PB
