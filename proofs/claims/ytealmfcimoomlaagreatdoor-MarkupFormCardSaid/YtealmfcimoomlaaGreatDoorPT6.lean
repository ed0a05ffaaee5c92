/- Parse: a normal forest that can be, or a place within the text. -/
import Derived.Test.YtealmfcimoomlaaGreatDoorPT5
namespace Go.Proofs.YtealmfcimoomlaaGreatDoor.PA
open Go.RowKit Go.Proofs.YtealmfcimoomlaaGreatDoorW.PrintWords Go.Proofs.YtealmfcimoomlaaGreatDoorW.PrintLast Go.Proofs.YtealmfcimoomlaaGreatDoorW.PrintMore
set_option linter.unusedVariables false
set_option linter.unusedSimpArgs false
/-- Where it fails there is a reason, and a place within the text. -/
def BadOk {α : Type} (s : ByteArray) (r : Res α) : Prop := ∀ a y, r = .bad a y → y ≠ 0 ∧ 0 ≤ a ∧ a ≤ (s.size : Int)
section
variable {α β : Type} {s : ByteArray}
theorem BadOk.ok {v : α} {st : St} : BadOk s (.ok v st) := fun _ _ h => by cases h
theorem BadOk.at_ {i : Nat} {y : Int} (h : i ≤ s.size) (hy : y ≠ 0) : BadOk s (.bad (i : Int) y : Res α) := fun _ _ h => by
  injection h with h1 h2
  subst h1
  subst h2
  exact ⟨hy, by omega, by omega⟩
theorem BadOk.bind {x : Res α} {f : α → St → Res β} (h : BadOk s x) (k : ∀ v st1, x = .ok v st1 → BadOk s (f v st1)) : BadOk s (x.bind f) := by
  cases x with
  | bad a y => intro a' y' e; exact h a' y' (by injection e with e1 e2; subst e1; subst e2; rfl)
  | ok v st => exact k v st rfl
theorem BadOk.ite {c : Prop} [Decidable c] {x y : Res α} (h : c → BadOk s x) (k : ¬ c → BadOk s y) : BadOk s (if c then x else y) := by
  split
  · exact h ‹_›
  · exact k ‹_›
end
theorem nextF_bad {s : ByteArray} {st : St} (h : st.at_ ≤ s.size) : BadOk s (nextF s st) := BadOk.ite (fun _ => .at_ h (by decide)) (fun _ => .ok)
theorem mustF_bad {s : ByteArray} {st : St} {c : Int} (h : st.at_ ≤ s.size) : BadOk s (mustF s st c) := (nextF_bad h).bind fun v st1 e => by
  obtain ⟨rfl, -, hlt⟩ := nextF_ok e h
  exact BadOk.ite (fun _ => .ok) (fun _ => .at_ h (by decide))
theorem nameP_bad {s : ByteArray} {st : St} (h : st.at_ ≤ s.size) : BadOk s (nameP s st) := BadOk.ite (fun _ => .ok) (fun _ => .at_ h (by decide))
theorem charP_bad {s : ByteArray} {st : St} (h : st.at_ ≤ s.size) : BadOk s (charP s st) := BadOk.ite (fun _ => .at_ h (by decide)) (fun _ => .ok)
theorem refP_bad {s : ByteArray} {st : St} (h : st.at_ ≤ s.size) : BadOk s (refP s st) := by
  unfold refP refF
  exact BadOk.ite (fun _ => .ok) (fun e => .at_ h e)
theorem read_bad {s : ByteArray} {st : St} {c : Int} (h : st.at_ ≤ s.size) : BadOk s (if c = 38 then refP s st else charP s st) := BadOk.ite (fun _ => refP_bad h) (fun _ => charP_bad h)
theorem read_at {s : ByteArray} {st st' : St} {v : ByteArray} {c : Int} (h : (if c = 38 then refP s st else charP s st) = .ok v st') (ha : st.at_ < s.size) : st' = { st with at_ := st'.at_ } ∧ st.at_ < st'.at_ ∧ st'.at_ ≤ s.size := by
  split at h
  · have := refP_ok h ha; exact ⟨this.1, this.2.1, this.2.2.1⟩
  · have := charP_ok h ha; exact ⟨this.1, this.2.1, this.2.2.1⟩
theorem valF_bad {s : ByteArray} {q : Int} : ∀ (d : Nat) (st : St) (acc : List UInt8), st.at_ ≤ s.size → BadOk s (valF s q d st acc) := by
  intro d
  induction d with
  | zero => intro st acc h; exact .at_ h (by decide)
  | succ d ih =>
    intro st acc h
    rw [valF_succ]
    refine (nextF_bad h).bind fun c st1 e => ?_
    obtain ⟨rfl, -, hlt⟩ := nextF_ok e h
    refine BadOk.ite (fun _ => .ok) fun _ => BadOk.ite (fun _ => .at_ h (by decide)) fun _ => (read_bad h).bind fun t st2 e2 => ?_
    obtain ⟨-, -, h3⟩ := read_at e2 hlt
    exact BadOk.ite (fun _ => .at_ h (by decide)) fun _ => ih _ _ h3
theorem sAttrF_bad {s : ByteArray} {st : St} {l : List AttrS} (h : st.at_ ≤ s.size) : BadOk s (sAttrF s st l) := by
  unfold sAttrF
  refine (nameP_bad h).bind fun n st1 e1 => ?_
  obtain ⟨-, -, a1, -⟩ := nameP_ok e1 h
  refine BadOk.ite (fun _ => .at_ h (by decide)) fun _ => BadOk.ite (fun _ => .at_ h (by decide)) fun _ => (mustF_bad a1).bind fun u st2 e2 => ?_
  obtain ⟨b2, a2⟩ := mustF_ok e2 a1
  have a2' : st2.at_ ≤ s.size := by rw [b2]; simp only; omega
  refine (nextF_bad a2').bind fun q st3 e3 => ?_
  obtain ⟨rfl, -, a3⟩ := nextF_ok e3 a2'
  exact BadOk.ite (fun _ => (valF_bad _ _ _ (by simp only; omega)).bind fun _ _ _ => .ok) fun _ => .at_ a2' (by decide)
theorem atsF_bad {s : ByteArray} : ∀ (d : Nat) (st : St) (l : List AttrS), st.at_ ≤ s.size → BadOk s (atsF s d st l) := by
  intro d
  induction d with
  | zero => intro st l h; exact .at_ h (by decide)
  | succ d ih =>
    intro st l h
    rw [atsF_succ]
    have hle : skipF s blankV st.at_ ≤ s.size := skipF_le _ _ _ h
    refine (nextF_bad hle).bind fun c st1 e => ?_
    obtain ⟨he, -, hlt⟩ := nextF_ok e hle
    have h1 : st1.at_ < s.size := by rw [he]; exact hlt
    refine BadOk.ite (fun _ => (mustF_bad (by simp only; omega)).bind fun _ _ _ => .ok) fun _ => BadOk.ite (fun _ => .ok) fun _ => BadOk.ite (fun _ => (sAttrF_bad (by omega)).bind fun a st2 e2 => ?_) fun _ => .at_ (by omega) (by decide)
    exact ih _ _ (sAttrF_ok e2 (by omega)).2.2.1
theorem beginsF_bad {s : ByteArray} {st : St} {i : Nat} (h : i ≤ s.size) : BadOk s (beginsF st (i : Int)) := BadOk.ite (fun _ => .at_ h (by decide)) fun _ => BadOk.ite (fun _ => .at_ h (by decide)) fun _ => .ok
theorem addsF_bad {s : ByteArray} {st : St} {x : ByteArray} {i : Nat} (h : i ≤ s.size) : BadOk s (addsF st x (i : Int)) := by
  have hw : ∀ st', BadOk s (writeF st' x (i : Int)) := fun st' => BadOk.ite (fun _ => .at_ h (by decide)) fun _ => .ok
  unfold addsF
  exact BadOk.ite (fun _ => (beginsF_bad h).bind fun _ st1 _ => hw st1) fun _ => hw st
theorem pastF_bad {s mark : ByteArray} {st : St} {fr : Nat} (h : st.at_ ≤ s.size) : BadOk s (pastF s st fr mark) := by
  unfold pastF
  exact BadOk.ite (fun _ => .at_ h (by decide)) fun _ => .ok
theorem cdF_bad {s : ByteArray} {to_ : Nat} (hto : to_ ≤ s.size) : ∀ (d : Nat) (st : St), BadOk s (cdF s to_ d st) := by
  intro d
  induction d with
  | zero => intro st; exact .ok
  | succ d ih =>
    intro st
    rw [cdF_succ]
    refine BadOk.ite (fun hlt => (charP_bad (by omega)).bind fun t st1 e1 => (addsF_bad (by omega)).bind fun _ st2 _ => ih st2) fun _ => .ok
theorem snd_bad {s : ByteArray} {l ev : List Evt} {r : Res Unit} (h : BadOk s r) {a y : Int} (e : (l, r) = (ev, .bad a y)) : y ≠ 0 ∧ 0 ≤ a ∧ a ≤ (s.size : Int) := by
  injection e with _ e
  exact h a y e
theorem opensF_bad {s : ByteArray} {st : St} {ev : List Evt} {a y : Int} (h : opensF s st = (ev, .bad a y)) (ha : st.at_ < s.size) : y ≠ 0 ∧ 0 ≤ a ∧ a ≤ (s.size : Int) := by
  unfold opensF at h
  split at h
  · rename_i a' y' e
    have := beginsF_bad (s := s) (st := flushS st) (i := st.at_) (by omega) a' y' e
    simp only [Prod.mk.injEq, Res.bad.injEq] at h
    obtain ⟨-, rfl, rfl⟩ := h
    exact this
  rename_i u1 st1 hb
  obtain ⟨e1, b1, b2⟩ := beginsF_ok hb
  have ha1 : ({ st1 with at_ := st1.at_ + 1 } : St).at_ ≤ s.size := by rw [e1]; simp only [flushS]; omega
  split at h
  · rename_i a' y' e
    have := nameP_bad ha1 a' y' e
    simp only [Prod.mk.injEq, Res.bad.injEq] at h
    obtain ⟨-, rfl, rfl⟩ := h
    exact this
  rename_i n st2 hn
  obtain ⟨e2, -, a2, -⟩ := nameP_ok hn ha1
  split at h
  · rename_i a' y' e
    have := atsF_bad _ _ _ a2 a' y' e
    simp only [Prod.mk.injEq, Res.bad.injEq] at h
    obtain ⟨-, rfl, rfl⟩ := h
    exact this
  · simp at h
  · simp at h
theorem closesF_bad {s : ByteArray} {st : St} {ev : List Evt} {a y : Int} (h : closesF s st = (ev, .bad a y)) (ha : st.at_ + 2 ≤ s.size) : y ≠ 0 ∧ 0 ≤ a ∧ a ≤ (s.size : Int) := by
  unfold closesF at h
  split at h
  · rename_i a' y' e
    have := nextF_bad (st := { flushS st with at_ := st.at_ + 2 }) ha a' y' e
    simp only [Prod.mk.injEq, Res.bad.injEq] at h
    obtain ⟨-, rfl, rfl⟩ := h
    exact this
  rename_i c st1 hnx
  obtain ⟨e1, -, a1⟩ := nextF_ok hnx ha
  have ha1 : st1.at_ ≤ s.size := by rw [e1]; exact ha
  split at h
  · simp only [Prod.mk.injEq, Res.bad.injEq] at h
    obtain ⟨-, rfl, rfl⟩ := h
    exact ⟨by decide, by omega, by omega⟩
  split at h
  · rename_i a' y' e
    have := nameP_bad ha1 a' y' e
    simp only [Prod.mk.injEq, Res.bad.injEq] at h
    obtain ⟨-, rfl, rfl⟩ := h
    exact this
  rename_i n st2 hn
  obtain ⟨e2, -, a2, -⟩ := nameP_ok hn ha1
  split at h
  · simp only [Prod.mk.injEq, Res.bad.injEq] at h
    obtain ⟨-, rfl, rfl⟩ := h
    exact ⟨by decide, by omega, by omega⟩
  split at h
  · rename_i a' y' e
    have := mustF_bad (st := { st2 with at_ := skipF s blankV st2.at_ }) (skipF_le _ _ _ a2) a' y' e
    simp only [Prod.mk.injEq, Res.bad.injEq] at h
    obtain ⟨-, rfl, rfl⟩ := h
    exact this
  · simp at h
theorem tagF_bad {s : ByteArray} {st : St} {ev : List Evt} {a y : Int} (h : tagF s st = (ev, .bad a y)) (ha : st.at_ < s.size) : y ≠ 0 ∧ 0 ≤ a ∧ a ≤ (s.size : Int) := by
  have hlen := restL_len s st.at_
  unfold tagF at h
  split at h
  · exact snd_bad (BadOk.at_ (by omega) (by decide)) h
  split at h
  · exact snd_bad (pastF_bad (by omega)) h
  split at h
  · exact snd_bad (pastF_bad (by omega)) h
  split at h
  · rename_i hp
    have := pref_len hp
    refine snd_bad (s := s) ?_ h
    unfold cdataF
    refine (pastF_bad (by omega)).bind fun _ st1 e1 => ?_
    obtain ⟨-, -, a1⟩ := pastF_ok e1 (by have e : rawL.length = 9 := rfl; omega)
    exact (cdF_bad a1 _ _).bind fun _ _ _ => .ok
  split at h
  · rename_i hp
    have := pref_len hp
    exact closesF_bad h (by simp only [List.length_cons, List.length_nil] at this; omega)
  split at h
  · exact opensF_bad h ha
  · exact snd_bad (BadOk.at_ (by omega) (by decide)) h
theorem pieceF_bad {s : ByteArray} {st : St} {ev : List Evt} {a y : Int} (h : pieceF s st = (ev, .bad a y)) (ha : st.at_ < s.size) : y ≠ 0 ∧ 0 ≤ a ∧ a ≤ (s.size : Int) := by
  unfold pieceF at h
  split at h
  · exact tagF_bad h ha
  · exact snd_bad ((read_bad (by omega)).bind fun t st1 _ => addsF_bad (by omega)) h
theorem pieces_bad {s : ByteArray} : ∀ (d : Nat) (st : St) (acc : List Evt) {l : List Evt} {a y : Int}, piecesF s d st acc = (l, .bad a y) → Inv s st acc → s.size < d + st.at_ → y ≠ 0 ∧ 0 ≤ a ∧ a ≤ (s.size : Int) := by
  intro d
  induction d with
  | zero => intro st acc l a y h hi hd; have := hi.at_; omega
  | succ d ih =>
    intro st acc l a y h hi hd
    rw [piecesF] at h
    split at h
    · rename_i hlt
      split at h
      · rename_i ev u1 st1 hp
        obtain ⟨h1, h2⟩ := pieceF_ok hp hi hlt
        exact ih _ _ h h1 (by omega)
      · rename_i ev a' y' hp
        simp only [Prod.mk.injEq, Res.bad.injEq] at h
        obtain ⟨-, rfl, rfl⟩ := h
        exact pieceF_bad hp hlt
    · simp at h
theorem Inv.start (s : ByteArray) : Inv s ⟨0, [], [], 0⟩ [] := ⟨Nat.zero_le _, Nat.zero_le _, Nat.zero_le _, Nat.zero_le _, rfl, Nat.le_refl _⟩
theorem parseF_of {s : ByteArray} {l : List Evt} {a e : Int} (h : scanF s = (l, a, e)) : parseF s = if e = 0 then ((rootOf (stackOf l)).f4, 0, 0) else ([], a, e) := by
  unfold parseF
  rw [h]
/-- What Parse answers. -/
theorem parse_cases (s : ByteArray) : ((parseF s).2.2 = 0 ∧ (parseF s).2.1 = 0 ∧ nrmK (parseF s).1 1 ∧ nodK (parseF s).1 ≤ 4096) ∨ ((parseF s).2.2 ≠ 0 ∧ (parseF s).1 = [] ∧ 0 ≤ (parseF s).2.1 ∧ (parseF s).2.1 ≤ (s.size : Int)) := by
  by_cases hs : 262144 < s.size
  · have hsc : scanF s = ([], 0, 2) := by unfold scanF; rw [if_pos hs]
    rw [parseF_of hsc, if_neg (by decide)]
    exact .inr ⟨by decide, rfl, by decide, by simp only; omega⟩
  rcases hp : piecesF s (s.size + 1) ⟨0, [], [], 0⟩ [] with ⟨l, r⟩
  have hs0 : scanF s = scanEnd s (l, r) := by unfold scanF; rw [if_neg hs, hp]
  cases r with
  | bad a y =>
    obtain ⟨h1, h2, h3⟩ := pieces_bad _ _ _ hp (Inv.start s) (by simp only; omega)
    have hsc : scanF s = (l, a, y) := hs0
    rw [parseF_of hsc, if_neg h1]
    exact .inr ⟨h1, rfl, h2, h3⟩
  | ok u st =>
    have hg := pieces_good _ _ _ hp Good.start
    have hs1 : scanF s = (l ++ flushE st, if 0 < st.opn.length then ((s.size : Int), 4) else (0, 0)) := hs0
    by_cases ho : 0 < st.opn.length
    · rw [if_pos ho] at hs1
      rw [parseF_of hs1, if_neg (by decide)]
      exact .inr ⟨(show (4 : Int) ≠ 0 by decide), rfl, by simp only; omega, Int.le_refl _⟩
    · rw [if_neg ho] at hs1
      obtain ⟨f1, f2, f3⟩ := hg.flush
      rw [parseF_of hs1, if_pos rfl, stackOf_app]
      cases hS : (flushE st).foldl stackStep (stackOf l) with
      | nil => rw [hS] at f1; exact f1.elim
      | cons t r =>
        cases r with
        | cons v r => rw [hS] at f2; simp only [List.length_cons] at f2; omega
        | nil =>
          rw [hS] at f1 f3
          have h1 : nrmK t.f4 1 := f1
          have h2 : nodK t.f4 = st.nodes := f3
          exact .inl ⟨rfl, rfl, h1, by show nodK t.f4 ≤ 4096; rw [h2]; exact hg.nodes⟩
end Go.Proofs.YtealmfcimoomlaaGreatDoor.PA
