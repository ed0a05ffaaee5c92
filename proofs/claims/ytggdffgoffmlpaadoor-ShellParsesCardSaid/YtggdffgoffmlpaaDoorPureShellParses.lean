/- The pure statement of the law ShellParses: the text's lines, one by one, by the program and by the reference. -/
import Derived.Test.YtggdffgoffmlpaaDoorPSh7
import Derived.Test.YtggdffgoffmlpaaDoorPA14
namespace Go.Proofs.YtggdffgoffmlpaaDoor.Pure
open Go.RowKit Go.Proofs.YtggdffgoffmlpaaDoor.PA Go.Proofs.YtggdffgoffmlpaaDoorW.PrintWords Go.Proofs.YtggdffgoffmlpaaDoorW.PrintLast Go.Proofs.YtggdffgoffmlpaaDoorW.PrintMore
set_option linter.unusedVariables false
set_option linter.unusedSimpArgs false
theorem open_eq (w : List UInt8) : ((mkB w).toList == ([111, 112, 101, 110] : List UInt8)) = (w == [111, 112, 101, 110]) := by rw [toL, Lb_mk]
theorem pre_len (c : UInt8) (l : List UInt8) : (pre c l).length ≤ l.length := (List.takeWhile_sublist _).length_le
def Kp (o : Option (List ByteArray × Bool)) : Prop := ∀ r, o = some r → r.1.length ≤ 8796093022209
theorem Kp.ite {c : Prop} [Decidable c] {a b : Option (List ByteArray × Bool)} (h : c → Kp a) (g : ¬ c → Kp b) : Kp (if c then a else b) := by
  by_cases hc : c
  · rw [if_pos hc]; exact h hc
  · rw [if_neg hc]; exact g hc
theorem Kp.bind {β : Type} {o : Option β} {g : β → Option (List ByteArray × Bool)} (h : ∀ x, Kp (g x)) : Kp (o.bind g) := by
  cases o with
  | none => intro r h; cases h
  | some x => exact h x
theorem Kp.none : Kp .none := fun r h => by cases h
theorem Kp.some {a : List ByteArray} {b : Bool} (h : a.length ≤ 8796093022209) : Kp (.some (a, b)) := fun r e => by cases e; exact h
theorem args_kp : ∀ k, (∀ x0 x1 (x6 : List ByteArray) x7, x6.length ≤ 8796093022209 → Kp (espalierref30_args.l0 k x0 x1 x6 x7)) ∧ (∀ x0 (x6 : List ByteArray), x6.length ≤ 8796093022209 → Kp (espalierref30_args.l1 k x0 x6)) ∧ (∀ x0 x1 (x6 : List ByteArray) x7 b, x6.length ≤ 8796093022209 → Kp (espalierref30_args.j2 k x0 x1 x6 x7 b))
  | 0 => ⟨fun _ _ _ _ _ => Kp.none, fun _ _ _ => Kp.none, fun _ _ _ _ _ _ => Kp.none⟩
  | k + 1 => by
    obtain ⟨i0, i1, i2⟩ := args_kp k
    refine ⟨fun x0 x1 x6 x7 h => ?_, fun x0 x6 h => ?_, fun x0 x1 x6 x7 b h => ?_⟩
    · rw [espalierref30_args.l0.eq_2]
      repeat' first | exact Kp.none | exact i0 _ _ _ _ h | exact i1 _ _ h | exact i2 _ _ _ _ _ h | exact Kp.some h | refine Kp.ite (fun _ => ?_) (fun _ => ?_) | refine Kp.bind (fun _ => ?_)
    · rw [espalierref30_args.l1.eq_2]
      repeat' first | exact Kp.none | exact Kp.some h | refine Kp.ite (fun _ => ?_) (fun _ => ?_) | refine Kp.bind (fun _ => ?_) | refine i1 _ _ ?_
      rename_i hh
      rw [List.length_append]; simp only [List.length_cons, List.length_nil]; omega
    · rw [espalierref30_args.j2.eq_2]
      repeat' first | exact Kp.none | exact Kp.some h | exact Kp.some (Nat.zero_le _) | refine Kp.ite (fun _ => ?_) (fun _ => ?_) | refine Kp.bind (fun _ => ?_) | refine Kp.some ?_ | refine i0 _ _ _ _ ?_
      all_goals (rename_i hh; rw [List.length_append]; simp only [List.length_cons, List.length_nil]; omega)
def Few (l : List S28) : Prop := l.length ≤ 300 ∧ ∀ z ∈ l, z.f2.length ≤ 8796093022209
theorem parse_loop : ∀ (f : Nat) (s : ByteArray) (i : Nat) (ls : List ByteArray) (l : List S28) (k : Nat), s.size ≤ f → f ≤ 140000 → ls.drop i = (linesF (f + 1) (Lb s)).map mkB → i + f ≤ 500000 → Few l → 2 * f + 1000103 ≤ k →
    ∃ r, shell_parse.l0 k s l ((i + 1 : Nat) : Int) = some r ∧ espalierref30_Parse.l0 k l ls (i : Int) = some r ∧ Few r.1 := by
  have hdone : ∀ (f : Nat) (s : ByteArray) (i : Nat) (ls : List ByteArray) (l : List S28) (k : Nat), Lb s = [] → ls.drop i = (linesF (f + 1) (Lb s)).map mkB → Few l → 1 ≤ k →
      ∃ r, shell_parse.l0 k s l ((i + 1 : Nat) : Int) = some r ∧ espalierref30_Parse.l0 k l ls (i : Int) = some r ∧ Few r.1 := by
    intro f s i ls l k h0 hls hfew hk
    obtain ⟨k, rfl⟩ : ∃ z, k = z + 1 := ⟨k - 1, by omega⟩
    rw [h0, linesF, if_pos rfl, List.map_nil] at hls
    have := List.drop_eq_nil_iff.mp hls
    refine ⟨(l, 0, 0), ?_, ?_, hfew⟩
    · rw [shell_parse.l0.eq_2, if_pos (by rw [toL]; exact h0)]
    · rw [espalierref30_Parse.l0.eq_2, if_neg (by omega)]
  have few0 : Few [] := ⟨Nat.zero_le _, fun z hz => by cases hz⟩
  intro f
  induction f with
  | zero =>
    intro s i ls l k h1 h2 hls h3 h4 hk
    exact hdone 0 s i ls l k (List.eq_nil_of_length_eq_zero (by rw [← size_Lb]; omega)) hls h4 (by omega)
  | succ f ih =>
    intro s i ls l k h1 h2 hls h3 h4 hk
    by_cases h0 : Lb s = []
    · exact hdone (f + 1) s i ls l k h0 hls h4 (by omega)
    obtain ⟨k, rfl⟩ : ∃ z, k = z + 2 := ⟨k - 2, by omega⟩
    rw [linesF, if_neg h0, List.map_cons] at hls
    have hil : i < ls.length := by
      have := congrArg List.length hls
      rw [List.length_drop, List.length_cons] at this
      omega
    have hget : ls.getD i ByteArray.empty = mkB (pre 10 (Lb s)) := by
      have := congrArg (fun z => z.head?) hls
      simp only [List.head?_drop, List.head?_cons] at this
      rw [List.getD_eq_getElem?_getD, this]; rfl
    have hnext : ls.drop (i + 1) = (linesF (f + 1) (Lb (mkB (aft 10 (Lb s))))).map mkB := by
      have := congrArg List.tail hls
      rw [List.tail_drop, List.tail_cons] at this
      rw [this, Lb_mk]
    have haz : (mkB (aft 10 (Lb s))).size ≤ f := by
      have := aft_lt (Lb s) h0
      rw [size_Lb, Lb_mk]
      rw [size_Lb] at h1
      omega
    have hpz : (mkB (pre 10 (Lb s))).size ≤ 140000 := by
      have := pre_len 10 (Lb s)
      rw [size_Lb, Lb_mk]
      rw [size_Lb] at h1
      omega
    have hcut : strings_Cut.f s (⟨#[10]⟩ : ByteArray) = some (mkB (pre 10 (Lb s)), mkB (aft 10 (Lb s)), (Lb s).contains 10) := cut_at 10 s (by omega)
    have hw : wrap64 (((i + 1 : Nat) : Int) + 1) = ((i + 1 + 1 : Nat) : Int) := w64 (i + 1) (by omega)
    have hw' : wrap64 ((i : Int) + 1) = ((i + 1 : Nat) : Int) := w64 i (by omega)
    have hrd : rdOf ByteArray.empty ls (i : Int) = mkB (pre 10 (Lb s)) := by unfold rdOf; rw [Int.toNat_natCast]; exact hget
    have hfirst : espalierref30_first.f (k + 1) (mkB (pre 10 (Lb s))) = some (mkB (wrd (pre 10 (Lb s))), mkB (rst (pre 10 (Lb s)))) := by rw [first_eq _ (by omega) (k + 1) (by omega), Lb_mk]
    generalize hq : pre 10 (Lb s) = q at *
    have hq2 : Lb (mkB q) = q := Lb_mk q
    have P0 : ∀ y0 y1 y2 y3, shell_parsed.f (k + 1) (mkB q) = some (y0, y1, y2, y3) → shell_parse.l0 (k + 2) s l ((i + 1 : Nat) : Int) = (if y3 = true then (shell_parse.j1 (k + 1) (mkB (aft 10 (Lb s))) l ((i + 1 : Nat) : Int) y3 (y1.toList == ([] : List UInt8)) y0 y1 y2) else (shell_parse.j1 (k + 1) (mkB (aft 10 (Lb s))) l ((i + 1 : Nat) : Int) y3 false y0 y1 y2)) := by
      intro y0 y1 y2 y3 hx
      rw [shell_parse.l0.eq_2, if_neg (by rw [toL]; exact h0), hcut, Option.bind_some, hx, Option.bind_some]
    have R0 : ∀ b, (wrd q = [] ∧ b = true ∨ wrd q ≠ [] ∧ b = ((wrd q).head? == some 35)) → espalierref30_Parse.l0 (k + 2) l ls (i : Int) = espalierref30_Parse.j1 (k + 1) l ls (i : Int) (mkB (wrd q)) (mkB (rst q)) b := by
      intro b hb
      rw [espalierref30_Parse.l0.eq_2, if_pos (by omega), if_pos (by omega), hrd, hfirst, Option.bind_some]
      simp only
      rcases hb with ⟨e, rfl⟩ | ⟨e, rfl⟩
      · rw [if_pos ((mkn _).mpr e)]
      · have hb0 : (bt (mkB (wrd q)) 0 == 35) = ((wrd q).head? == some 35) := by
          cases hc : wrd q with
          | nil => exact absurd hc e
          | cons c r =>
            have := btK (c :: r) 0 (by simp)
            rw [show ((0 : Nat) : Int) = 0 from rfl] at this
            rw [this]
            by_cases hc35 : c = 35
            · subst hc35; rfl
            · have e1 : (some c == some (35 : UInt8)) = false := by rw [beq_eq_false_iff_ne]; exact fun h => hc35 (Option.some.inj h)
              rw [List.head?_cons, e1, beq_eq_false_iff_ne]
              intro h
              apply hc35
              apply UInt8.toNat_inj.mp
              show c.toNat = 35
              simp at h
              omega
        have hz : 0 < (mkB (wrd q)).size := by
          rw [size_Lb, Lb_mk]
          exact List.length_pos_iff.mpr e
        rw [if_neg (fun h => e ((mkn _).mp h)), if_pos (by omega), hb0]
    rcases line_eq (mkB q) (by rw [← hq]; rw [← hq] at hpz; omega) with ⟨e1, e2⟩ | ⟨e1, x0, x1, a, a', ok, ok', fK, g1, g2, g3, g4, g5⟩
    · rw [hq2] at e1
      obtain ⟨r, r1, r2, r3⟩ := ih (mkB (aft 10 (Lb s))) (i + 1) ls l k haz (by omega) hnext (by omega) h4 (by omega)
      refine ⟨r, ?_, ?_, r3⟩
      · rw [P0 _ _ _ _ (e2 (k + 1) (by omega)), if_pos rfl, shell_parse.j1.eq_2, if_pos (show ((⟨#[]⟩ : ByteArray).toList == ([] : List UInt8)) = true by decide +kernel), hw]
        exact r1
      · have hj : espalierref30_Parse.l0 (k + 2) l ls (i : Int) = espalierref30_Parse.j1 (k + 1) l ls (i : Int) (mkB (wrd q)) (mkB (rst q)) true := by
          by_cases hwq : wrd q = []
          · exact R0 true (.inl ⟨hwq, rfl⟩)
          · exact R0 true (.inr ⟨hwq, by rw [e1.resolve_left hwq]; rfl⟩)
        rw [hj, espalierref30_Parse.j1.eq_2, if_pos rfl, hw']
        exact r2
    · rw [hq2] at e1 g2 g3 g5
      have hwq : wrd q ≠ [] := fun h => e1 (.inl h)
      have hj : espalierref30_Parse.l0 (k + 2) l ls (i : Int) = espalierref30_Parse.j1 (k + 1) l ls (i : Int) (mkB (wrd q)) (mkB (rst q)) false :=
        R0 false (.inr ⟨hwq, by
          have : ¬ (wrd q).head? = some 35 := fun h => e1 (.inr h)
          exact (beq_eq_false_iff_ne.mpr this).symm⟩)
      rw [hj, espalierref30_Parse.j1.eq_2, if_neg (by decide), g2 k (by omega), Option.bind_some, g3 k (by omega), Option.bind_some, hw', P0 _ _ _ _ (g1 (k + 1) (by omega))]
      have h33' : ((mkB fK).toList = ([33] : List UInt8)) ↔ fK = [33] := by rw [toL, Lb_mk]
      by_cases h33 : fK = [33]
      · have hok : ok = false := by rw [g4, h33]; rfl
        refine ⟨([], ((i + 1 : Nat) : Int), 300), ?_, by rw [if_pos (h33'.mpr h33)], few0⟩
        rw [hok, if_neg (by decide), shell_parse.j1.eq_2, if_neg (by decide), if_neg (by decide)]
      rw [if_neg (fun h => h33 (h33'.mp h))]
      have hok : ok = ok' := by rw [g4, beq_eq_false_iff_ne.mpr h33]; rfl
      cases ok' with
      | false =>
        refine ⟨([], ((i + 1 : Nat) : Int), 300), ?_, by rw [if_neg (by simp)], few0⟩
        rw [hok, if_neg (by decide), shell_parse.j1.eq_2, if_neg (by decide), if_neg (by decide)]
      | true =>
        obtain ⟨rfl, rfl, rfl⟩ := g5 hok
        rw [hok, if_pos rfl, if_pos rfl, shell_parse.j1.eq_2]
        have hne : ((mkB (wrd q)).toList == ([] : List UInt8)) = false := beq_eq_false_iff_ne.mpr (fun h => hwq ((mkn _).mp h))
        rw [hne, if_neg (by decide), if_pos rfl]
        by_cases ho : ((mkB (wrd q)).toList == ([111, 112, 101, 110] : List UInt8)) != ((l.length : Int) == 0)
        · exact ⟨_, by rw [if_pos ho], by rw [if_pos ho], few0⟩
        rw [if_neg ho, if_neg ho]
        have hl0 := h4.1
        by_cases hl : l.length = 300
        · exact ⟨_, by rw [if_pos (by omega)], by rw [if_pos (by omega)], few0⟩
        have hl0 := h4.1
        rw [if_neg (by omega), if_pos (by omega), if_neg (by omega), if_pos (by omega), hw]
        refine ih (mkB (aft 10 (Lb s))) (i + 1) ls _ k haz (by omega) hnext (by omega) ⟨by rw [List.length_append]; simp only [List.length_cons, List.length_nil]; omega, fun z hz => ?_⟩ (by omega)
        rcases List.mem_append.mp hz with hz | hz
        · exact h4.2 z hz
        · rw [List.mem_singleton.mp hz]
          exact (args_kp k).1 _ _ [] 0 (Nat.zero_le _) _ (g3 k (by omega))
theorem loop_in (xs : List S28) (hx : Few xs) (i : Nat) (hi : i < xs.length) (M : Nat) (hR : ∀ k, M ≤ k → espalierlaw30_ShellParses.l0 k xs xs ((i + 1 : Nat) : Int) = some true) :
    ∀ (m j k : Nat), j ≤ (rd_T28 xs (i : Int)).f2.length → (rd_T28 xs (i : Int)).f2.length - j = m → m + 1 + M ≤ k → espalierlaw30_ShellParses.l1 k xs xs (i : Int) (j : Int) = some true := by
  have hb : (rd_T28 xs (i : Int)).f2.length ≤ 8796093022209 := hx.2 _ (by
    unfold rd_T28
    rw [Int.toNat_natCast, List.getD_eq_getElem?_getD, List.getElem?_eq_getElem hi]
    exact List.getElem_mem hi)
  have h300 := hx.1
  intro m
  induction m with
  | zero =>
    intro j k h1 h2 h3
    obtain ⟨k, rfl⟩ : ∃ z, k = z + 1 := ⟨k - 1, by omega⟩
    rw [espalierlaw30_ShellParses.l1.eq_2, if_pos (by omega), if_pos (by omega), if_neg (by omega), w64 i (by omega)]
    exact hR k (by omega)
  | succ m ih =>
    intro j k h1 h2 h3
    obtain ⟨k, rfl⟩ : ∃ z, k = z + 1 := ⟨k - 1, by omega⟩
    rw [espalierlaw30_ShellParses.l1.eq_2, if_pos (by omega), if_pos (by omega), if_pos (by omega), if_pos (by omega), if_pos (by omega), if_pos (by omega), if_pos rfl, w64 j (by omega)]
    exact ih (j + 1) k (by omega) (by omega) (by omega)
theorem loop_out (xs : List S28) (hx : Few xs) : ∀ (m i k : Nat), i ≤ xs.length → xs.length - i = m → m * 8796093022299 + 1 ≤ k → espalierlaw30_ShellParses.l0 k xs xs (i : Int) = some true := by
  have h300 := hx.1
  intro m
  induction m with
  | zero =>
    intro i k h1 h2 h3
    obtain ⟨k, rfl⟩ : ∃ z, k = z + 1 := ⟨k - 1, by omega⟩
    rw [espalierlaw30_ShellParses.l0.eq_2, if_neg (by omega)]
  | succ m ih =>
    intro i k h1 h2 h3
    obtain ⟨k, rfl⟩ : ∃ z, k = z + 2 := ⟨k - 2, by omega⟩
    have hi : i < xs.length := by omega
    have hb : (rd_T28 xs (i : Int)).f2.length ≤ 8796093022209 := hx.2 _ (by
      unfold rd_T28
      rw [Int.toNat_natCast, List.getD_eq_getElem?_getD, List.getElem?_eq_getElem hi]
      exact List.getElem_mem hi)
    have hne : ((((rd_T28 xs (i : Int)).f2).length : Int) != (((rd_T28 xs (i : Int)).f2).length : Int)) = false := by simp
    rw [espalierlaw30_ShellParses.l0.eq_2, if_pos (by omega), if_pos (by omega), if_pos (by omega), if_pos rfl, if_pos rfl, hne, espalierlaw30_ShellParses.j2.eq_2, if_neg (by decide)]
    have := loop_in xs hx i hi (m * 8796093022299 + 1) (fun k hk => ih (i + 1) k (by omega) (by omega) hk) ((rd_T28 xs (i : Int)).f2.length) 0 k (by omega) (by omega) (by omega)
    exact this
theorem parses_same (s : ByteArray) (k : Nat) (hk : 2000000 ≤ k) : ∃ r, shell_Parse.f k s = some r ∧ espalierref30_Parse.f k s = some r ∧ Few r.1 := by
  unfold shell_Parse.f shell_parse.f espalierref30_Parse.f
  by_cases hs : (s.size : Int) > 131072
  · rw [if_pos hs, if_pos hs]
    exact ⟨_, rfl, rfl, Nat.zero_le _, fun z hz => by cases hz⟩
  · rw [if_neg hs, if_neg hs]
    have hL : espalierref30_Lines.f k s = some ((linesF (s.size + 1) (Lb s)).map mkB) := by
      have := lines_l0 s.size s [] k (by omega) (by omega) (by simp only [List.length_nil]; omega) (by omega)
      rw [List.nil_append] at this
      exact this
    obtain ⟨r, r1, r2, r3⟩ := parse_loop s.size s 0 ((linesF (s.size + 1) (Lb s)).map mkB) [] k (by omega) (by omega) rfl (by omega) ⟨Nat.zero_le _, fun z hz => by cases hz⟩ (by omega)
    refine ⟨r, ?_, ?_, r3⟩
    · rw [show ((0 + 1 : Nat) : Int) = 1 from rfl] at r1
      rw [r1]; rfl
    · rw [hL, Option.bind_some]; exact r2
theorem ShellParses : espalierlaw30_ShellParses.Pure := by
  intro a0 _
  suffices h : ∀ k, 9000000000000000 ≤ k → espalierlaw30_ShellParses.f k a0 = some true from ⟨_, h _ (Nat.le_refl _)⟩
  intro k hk
  obtain ⟨k, rfl⟩ : ∃ z, k = z + 1 := ⟨k - 1, by omega⟩
  obtain ⟨r, r1, r2, r3⟩ := parses_same a0 (k + 1) (by omega)
  have h300 := r3.1
  have hne : ((r.1.length : Int) != (r.1.length : Int)) = false := by simp
  unfold espalierlaw30_ShellParses.f
  rw [r1, Option.bind_some, r2, Option.bind_some, if_pos rfl, if_pos rfl, hne, espalierlaw30_ShellParses.j0.eq_2, if_neg (by decide)]
  exact loop_out r.1 r3 r.1.length 0 k (by omega) (by omega) (by omega)
end Go.Proofs.YtggdffgoffmlpaaDoor.Pure
