/- What Parse answers is a normal forest that can be. -/
import Derived.Test.YtealmfcimoomlaaGreatDoorPT4
namespace Go.Proofs.YtealmfcimoomlaaGreatDoor.PA
open Go.RowKit Go.Proofs.YtealmfcimoomlaaGreatDoorW.PrintWords Go.Proofs.YtealmfcimoomlaaGreatDoorW.PrintLast Go.Proofs.YtealmfcimoomlaaGreatDoorW.PrintMore
set_option linter.unusedVariables false
set_option linter.unusedSimpArgs false
/-- The bytes of characters that can be. -/
def isText (b : List UInt8) : Prop := ∃ cs : List Nat, (∀ c ∈ cs, okC c) ∧ b = encs cs
theorem isText.nil : isText [] := ⟨[], fun _ h => (List.not_mem_nil h).elim, rfl⟩
theorem isText.app {a b : List UInt8} (h : isText a) (k : isText b) : isText (a ++ b) := by
  obtain ⟨cs, h1, rfl⟩ := h
  obtain ⟨ds, h2, rfl⟩ := k
  refine ⟨cs ++ ds, fun c hc => ?_, (encs_app cs ds).symm⟩
  rcases List.mem_append.mp hc with h | h
  · exact h1 c h
  · exact h2 c h
theorem isText.one {c : Nat} (h : okC c) : isText (enc c) := ⟨[c], fun z hz => by rw [List.mem_singleton.mp hz]; exact h, (encs_one c).symm⟩
theorem isText.ok {b : List UInt8} (h : isText b) (hl : b.length ≤ 16384) : textE ⟨b.toArray⟩ = 0 := by
  obtain ⟨cs, h1, rfl⟩ := h
  exact (textR_iff _).mpr ⟨hl, cs, h1, rfl⟩
theorem chr_text {s : ByteArray} {i : Nat} (hi : i < s.size) (h : (chr s i).2 ≠ 0) : isText (s.extract i (i + (chr s i).2)).data.toList ∧ 0 < (s.extract i (i + (chr s i).2)).data.toList.length := by
  obtain ⟨h1, h2⟩ := enc_chr s i hi h
  have hle := (chr_le s i hi).1
  have hl := congrArg List.length h2
  rw [List.length_drop, List.length_append, List.length_drop, size_list] at hl
  have e : (s.extract i (i + (chr s i).2)).data.toList = enc (chr s i).1 := by
    rw [Lib.extract_data, h2, show i + (chr s i).2 - i = (enc (chr s i).1).length by omega, List.take_left]
  rw [e]
  exact ⟨isText.one h1, (enc_pos _ h1).1⟩
theorem charP_text {s : ByteArray} {st st' : St} {v : ByteArray} (h : charP s st = .ok v st') (ha : st.at_ < s.size) : isText v.data.toList ∧ 0 < v.data.toList.length := by
  unfold charP at h
  by_cases h0 : (chr s st.at_).2 = 0
  · rw [if_pos h0] at h; cases h
  · rw [if_neg h0] at h
    injection h with h1 _
    subst h1
    exact chr_text ha h0
theorem okC_nat {r : Int} (h : canB r = true) : ∃ c : Nat, r = (c : Int) ∧ okC c := by
  have := canB_range h
  exact ⟨r.toNat, by omega, by unfold okC; rw [Int.toNat_of_nonneg (by omega)]; exact h⟩
theorem unR_text {s : ByteArray} {i : Nat} (hi : i < s.size) (h : (unR s i).2.2 = 0) : isText (unR s i).1.data.toList ∧ 0 < (unR s i).1.data.toList.length := by
  unfold unR at h ⊢
  by_cases h1 : s.get! i = 38
  · rw [if_pos h1] at h ⊢
    have hok := @refRes_ok (s.extract i s.size)
    generalize refRes (s.extract i s.size) = x at h hok ⊢
    unfold encR at h ⊢
    by_cases h2 : x.2.2 = 0
    · rw [if_pos h2]
      obtain ⟨c, hc, hokc⟩ := okC_nat (hok h2).1
      rw [hc]
      have e : (Utf8.encode (c : Int)).data.toList = enc c := (enc.eq_1 c).symm
      simp only [e]
      exact ⟨isText.one hokc, (enc_pos c hokc).1⟩
    · rw [if_neg h2] at h
      exact absurd h h2
  · rw [if_neg h1] at h ⊢
    by_cases h2 : (chr s i).2 = 0
    · rw [if_pos h2] at h; cases h
    · rw [if_neg h2]
      exact chr_text hi h2
theorem unAll_text (s : ByteArray) : ∀ (f : Nat) (acc : List UInt8) (i : Nat), isText acc → (unAll s f acc i).2.2 = 0 → isText (unAll s f acc i).1.data.toList ∧ acc.length ≤ (unAll s f acc i).1.data.toList.length ∧ (0 < f → i < s.size → acc.length < (unAll s f acc i).1.data.toList.length)
  | 0, acc, i, h, _ => ⟨h, Nat.le_refl _, fun h => absurd h (Nat.lt_irrefl _)⟩
  | f + 1, acc, i, h, he => by
    rw [unAll] at he ⊢
    by_cases h1 : i < s.size
    · rw [if_pos h1] at he ⊢
      by_cases h2 : (unR s i).2.2 = 0
      · rw [if_pos h2] at he ⊢
        by_cases h3 : (acc.length : Int) + (unR s i).1.size > 16384
        · rw [if_pos h3] at he; cases he
        · rw [if_neg h3] at he ⊢
          obtain ⟨t1, t2⟩ := unR_text h1 h2
          obtain ⟨r1, r2, -⟩ := unAll_text s f (acc ++ (unR s i).1.data.toList) _ (h.app t1) he
          rw [List.length_append] at r2
          exact ⟨r1, by omega, fun _ _ => by omega⟩
      · rw [if_neg h2] at he
        exact absurd he h2
    · rw [if_neg h1]
      exact ⟨h, Nat.le_refl _, fun _ h => absurd h h1⟩
theorem refP_text {s : ByteArray} {st st' : St} {v : ByteArray} (h : refP s st = .ok v st') (ha : st.at_ < s.size) : isText v.data.toList ∧ 0 < v.data.toList.length := by
  unfold refP refF at h
  by_cases h0 : (unAll (refS s st.at_) (refS s st.at_).size [] 0).2.2 = 0
  · rw [if_pos h0] at h
    injection h with h1 _
    subst h1
    obtain ⟨r1, -, r3⟩ := unAll_text _ _ _ _ isText.nil h0
    exact ⟨r1, r3 (refS_pos _ _ ha).1 (refS_pos _ _ ha).1⟩
  · rw [if_neg h0] at h; cases h
theorem read_text {s : ByteArray} {st st' : St} {v : ByteArray} {c : Int} (h : (if c = 38 then refP s st else charP s st) = .ok v st') (ha : st.at_ < s.size) : isText v.data.toList ∧ 0 < v.data.toList.length := by
  split at h
  · exact refP_text h ha
  · exact charP_text h ha
theorem valF_text {s : ByteArray} {q : Int} : ∀ (d : Nat) (st : St) (acc : List UInt8) {st' : St} {v : List UInt8}, valF s q d st acc = .ok v st' → st.at_ ≤ s.size → isText acc → isText v := by
  intro d
  induction d with
  | zero => intro st acc st' v h; cases h
  | succ d ih =>
    intro st acc st' v h ha hl
    rw [valF_succ] at h
    obtain ⟨c, st1, hn, h'⟩ := Res.bind_ok h
    obtain ⟨rfl, rfl, hlt⟩ := nextF_ok hn ha
    split at h'
    · injection h' with h1 _
      subst h1
      exact hl
    split at h'
    · cases h'
    obtain ⟨t, st2, h2, h3⟩ := Res.bind_ok h'
    split at h3
    · cases h3
    have hle : st2.at_ ≤ s.size := by
      split at h2
      · exact (refP_ok h2 hlt).2.2.1
      · exact (charP_ok h2 hlt).2.2.1
    exact ih _ _ h3 hle (hl.app (read_text h2 hlt).1)
theorem nameP_name {s : ByteArray} {st st' : St} {v : ByteArray} (h : nameP s st = .ok v st') : nameB v = true := by
  unfold nameP nameF at h
  split at h
  · rename_i h1
    injection h with h2 _
    subst h2
    exact h1
  · cases h
theorem sAttrF_fine {s : ByteArray} {st st' : St} {l : List AttrS} {a : AttrS} (h : sAttrF s st l = .ok a st') (ha : st.at_ ≤ s.size) : nameB a.f0 = true ∧ textE a.f1 = 0 := by
  unfold sAttrF at h
  obtain ⟨n, st1, h1, h⟩ := Res.bind_ok h
  obtain ⟨-, -, a1, -⟩ := nameP_ok h1 ha
  split at h
  · cases h
  split at h
  · cases h
  obtain ⟨u, st2, h2, h⟩ := Res.bind_ok h
  obtain ⟨e2, a2⟩ := mustF_ok h2 a1
  obtain ⟨q, st3, h3, h⟩ := Res.bind_ok h
  obtain ⟨e3, -, a3⟩ := nextF_ok h3 (by rw [e2]; simp only; omega)
  split at h
  · obtain ⟨v, st4, h4, h⟩ := Res.bind_ok h
    injection h with h5 _
    subst h5
    have hv := valF_text _ _ _ h4 (by rw [e3]; simp only; omega) isText.nil
    have hl := (valF_ok _ _ _ h4 (by rw [e3]; simp only; omega) (Nat.zero_le _)).2.2.2
    exact ⟨nameP_name h1, hv.ok hl⟩
  · cases h
theorem hasName_ne {l : List AttrS} {n : ByteArray} (h : hasName l n = false) : ∀ b ∈ l, b.f0 ≠ n := by
  unfold hasName at h
  rw [List.any_eq_false] at h
  intro b hb
  simpa using h b hb
theorem atsF_fine {s : ByteArray} : ∀ (d : Nat) (st : St) (l : List AttrS) {x : List AttrS × Bool} {st' : St}, atsF s d st l = .ok x st' → st.at_ ≤ s.size → (∀ a ∈ l, nameB a.f0 = true ∧ textE a.f1 = 0) → l.Pairwise (fun a b => a.f0 ≠ b.f0) → l.length ≤ 32 →
    (∀ a ∈ x.1, nameB a.f0 = true ∧ textE a.f1 = 0) ∧ x.1.Pairwise (fun a b => a.f0 ≠ b.f0) ∧ x.1.length ≤ 32 := by
  intro d
  induction d with
  | zero => intro st l x st' h; cases h
  | succ d ih =>
    intro st l x st' h ha h1 h2 h3
    rw [atsF_succ] at h
    have hle : skipF s blankV st.at_ ≤ s.size := skipF_le _ _ _ ha
    obtain ⟨c, st1, hn, h'⟩ := Res.bind_ok h
    obtain ⟨he, -, hlt⟩ := nextF_ok hn hle
    split at h'
    · obtain ⟨u, st2, h4, h5⟩ := Res.bind_ok h'
      injection h5 with h6 _
      subst h6
      exact ⟨h1, h2, h3⟩
    split at h'
    · injection h' with h6 _
      subst h6
      exact ⟨h1, h2, h3⟩
    split at h'
    · obtain ⟨a, st2, h4, h5⟩ := Res.bind_ok h'
      have ha1 : st1.at_ ≤ s.size := by rw [he]; exact hle
      obtain ⟨-, -, b1, b2, b3⟩ := sAttrF_ok h4 ha1
      refine ih st2 _ h5 b1 (fun z hz => ?_) ?_ (by rw [List.length_append, List.length_singleton]; omega)
      · rcases List.mem_append.mp hz with hz | hz
        · exact h1 z hz
        · rw [List.mem_singleton.mp hz]; exact sAttrF_fine h4 ha1
      · rw [List.pairwise_append]
        refine ⟨h2, List.pairwise_singleton _ _, fun z hz y hy => ?_⟩
        rw [List.mem_singleton.mp hy]
        exact hasName_ne b3 z hz
    · cases h'
theorem sortA_fine {l : List AttrS} (h1 : ∀ a ∈ l, nameB a.f0 = true ∧ textE a.f1 = 0) (h2 : l.Pairwise (fun a b => a.f0 ≠ b.f0)) (h3 : l.length ≤ 32) : fineA (sortA l) :=
  ⟨by rw [(sortA_perm l).length_eq]; exact h3, fun a ha => h1 a ((sortA_perm l).mem_iff.mp ha), sortA_up h2⟩
theorem nrmK_snoc : ∀ (l : List TreeS) (x : TreeS) (d : Nat), nrmK (l ++ [x]) d ↔ nrmK l d ∧ nrmT x d ∧ (x.f0 = 2 → ∀ z, l.getLast? = some z → z.f0 ≠ 2)
  | [], x, d => by
    rw [List.nil_append, nrmK, nrmK]
    simp [nrmK]
  | t :: l, x, d => by
    have ih := nrmK_snoc l x d
    rw [List.cons_append, nrmK, nrmK, ih]
    cases l with
    | nil =>
      simp only [List.nil_append, List.getLast?_nil, List.getLast?_singleton]
      constructor
      · rintro ⟨h1, h2, h3, h4, h5⟩
        exact ⟨⟨h1, fun _ u r e => by simp at e, trivial⟩, h4, fun e z hz => by
          injection hz with hz
          subst hz
          intro c
          exact h2 c x [] rfl e⟩
      · rintro ⟨⟨h1, h2, h3⟩, h4, h5⟩
        exact ⟨h1, fun c u r e => by
          injection e with e _
          subst e
          exact fun c2 => h5 c2 t rfl c, trivial, h4, fun _ z hz => by cases hz⟩
    | cons u l =>
      have e : (t :: u :: l).getLast? = (u :: l).getLast? := by simp [List.getLast?_cons_cons]
      rw [e]
      constructor
      · rintro ⟨h1, h2, h3, h4, h5⟩
        exact ⟨⟨h1, fun c v r e => h2 c v (r ++ [x]) (by rw [e]; rfl), h3⟩, h4, h5⟩
      · rintro ⟨⟨h1, h2, h3⟩, h4, h5⟩
        exact ⟨h1, fun c v r e => by
          injection e with e1 e2
          subst e1
          exact h2 c u l rfl, h3, h4, h5⟩
/-- The elements that are open, the last one first, with what they hold. -/
def framesOk : List TreeS → Prop
  | [] => False
  | [t] => nrmK t.f4 1
  | t :: u :: r => t.f0 = 1 ∧ nameB t.f1 = true ∧ fineA t.f2 ∧ t.f3 = ⟨#[]⟩ ∧ r.length + 1 ≤ 64 ∧ nrmK t.f4 (r.length + 2) ∧ framesOk (u :: r)
def cntS : List TreeS → Nat
  | [] => 0
  | [t] => nodK t.f4
  | t :: u :: r => 1 + nodK t.f4 + cntS (u :: r)
theorem framesOk.kids {t : TreeS} {r : List TreeS} (h : framesOk (t :: r)) : nrmK t.f4 (r.length + 1) := by
  cases r with
  | nil => exact h
  | cons u r => exact h.2.2.2.2.2.1
theorem framesOk.put {t : TreeS} {r : List TreeS} {k : List TreeS} (h : framesOk (t :: r)) (hk : nrmK k (r.length + 1)) : framesOk ({ t with f4 := k } :: r) := by
  cases r with
  | nil => exact hk
  | cons u r => exact ⟨h.1, h.2.1, h.2.2.1, h.2.2.2.1, h.2.2.2.2.1, hk, h.2.2.2.2.2.2⟩
theorem cntS_put (t : TreeS) (r k : List TreeS) : cntS ({ t with f4 := k } :: r) + nodK t.f4 = cntS (t :: r) + nodK k := by
  cases r with
  | nil => simp only [cntS]; omega
  | cons u r => simp only [cntS]; omega
theorem framesOk.pop {t u : TreeS} {r : List TreeS} (h : framesOk (t :: u :: r)) : framesOk ({ u with f4 := u.f4 ++ [t] } :: r) := by
  obtain ⟨h0, h1, h2, h3, h4, h5, h6⟩ := h
  refine h6.put ((nrmK_snoc _ _ _).mpr ⟨h6.kids, ?_, fun e => by rw [h0] at e; cases e⟩)
  obtain ⟨f0, f1, f2, f3, f4⟩ := t
  rw [nrmT]
  exact ⟨h4, .inl ⟨h0, h1, h2, h3, h5⟩⟩
theorem cntS_pop {t u : TreeS} {r : List TreeS} (h : t.f0 = 1) : cntS ({ u with f4 := u.f4 ++ [t] } :: r) = cntS (t :: u :: r) := by
  have h1 := cntS_put u r (u.f4 ++ [t])
  rw [nodK_app, nodK_one] at h1
  have h2 : nodT t = 1 + nodK t.f4 := by
    obtain ⟨f0, f1, f2, f3, f4⟩ := t
    rw [nodT, if_pos h]
  simp only [cntS]
  omega
/-- What holds between the pieces. -/
structure Good (st : St) (S : List TreeS) : Prop where
  fr : framesOk S
  len : S.length = st.opn.length + 1
  cnt : cntS S + (if st.text = [] then 0 else 1) = st.nodes
  nodes : st.nodes ≤ 4096
  text : isText st.text
  tlen : st.text.length ≤ 16384
  last : ∀ t r, S = t :: r → ∀ z, t.f4.getLast? = some z → z.f0 ≠ 2
  room : st.text ≠ [] → st.opn.length < 64
theorem Good.at_ {st : St} {S : List TreeS} (h : Good st S) (a : Nat) : Good { st with at_ := a } S := ⟨h.fr, h.len, h.cnt, h.nodes, h.text, h.tlen, h.last, h.room⟩
theorem Good.at_of {st st' : St} {S : List TreeS} (h : Good st S) (e : st' = { st with at_ := st'.at_ }) : Good st' S := by rw [e]; exact h.at_ _
theorem Good.flush {st : St} {S : List TreeS} (h : Good st S) : framesOk ((flushE st).foldl stackStep S) ∧ ((flushE st).foldl stackStep S).length = st.opn.length + 1 ∧ cntS ((flushE st).foldl stackStep S) = st.nodes := by
  by_cases h0 : st.text = []
  · rw [flush_none h0]
    have := h.cnt
    rw [if_pos h0] at this
    exact ⟨h.fr, h.len, this⟩
  · rw [flush_some h0]
    have hc := h.cnt
    rw [if_neg h0] at hc
    cases hS : S with
    | nil => have := h.fr; rw [hS] at this; exact this.elim
    | cons t r =>
      have hf := h.fr
      have hl := h.len
      rw [hS] at hf hl hc
      have hr := h.room h0
      rw [List.length_cons] at hl
      have e : List.foldl stackStep (t :: r) [⟨2, ⟨#[]⟩, [], ⟨st.text.toArray⟩⟩] = { t with f4 := t.f4 ++ [text0 ⟨st.text.toArray⟩] } :: r := rfl
      rw [e]
      refine ⟨hf.put ((nrmK_snoc _ _ _).mpr ⟨hf.kids, ?_, fun _ => h.last t r hS⟩), by rw [List.length_cons]; omega, ?_⟩
      · unfold text0
        rw [nrmT]
        exact ⟨by omega, .inr ⟨rfl, rfl, rfl, h.text.ok h.tlen, h0, rfl⟩⟩
      · have := cntS_put t r (t.f4 ++ [text0 ⟨st.text.toArray⟩])
        rw [nodK_app, nodK_one, nod_text] at this
        omega
theorem addsF_good {st st' : St} {x : ByteArray} {a : Int} {S : List TreeS} {u : Unit} (h : addsF st x a = .ok u st') (hg : Good st S) (hx : isText x.data.toList) (hp : 0 < x.data.toList.length) : Good st' S := by
  obtain ⟨h1, h2, h3, h4, h5, h6⟩ := addsF_ok h
  have hne : st'.text ≠ [] := fun e => by
    have := congrArg List.length (h3.symm.trans e)
    rw [List.length_append, List.length_nil] at this
    omega
  have hc := hg.cnt
  have hroom : st'.opn.length < 64 := by
    rw [h2]
    by_cases e : st.text = []
    · unfold addsF at h
      rw [if_pos (by rw [e]; rfl)] at h
      obtain ⟨v, st1, hb, -⟩ := Res.bind_ok h
      exact (beginsF_ok hb).2.2
    · exact hg.room e
  refine ⟨hg.fr, by rw [h2]; exact hg.len, ?_, ?_, by rw [h3]; exact hg.text.app hx, h4, hg.last, fun _ => hroom⟩
  · rw [if_neg hne, h5]
    by_cases e : st.text = []
    · rw [if_pos e] at hc
      rw [if_pos (by rw [e]; rfl)]
      omega
    · rw [if_neg e] at hc
      rw [if_neg (fun c => e (List.length_eq_zero_iff.mp c))]
      omega
  · by_cases e : st.text.length = 0
    · exact h6 e
    · rw [h5, if_neg e]
      exact hg.nodes
theorem cdF_good {s : ByteArray} {to_ : Nat} (hto : to_ ≤ s.size) {S : List TreeS} : ∀ (d : Nat) (st : St) {st' : St} {u : Unit}, cdF s to_ d st = .ok u st' → Good st S → Good st' S := by
  intro d
  induction d with
  | zero =>
    intro st st' u h hg
    injection h with _ h
    subst h
    exact hg
  | succ d ih =>
    intro st st' u h hg
    rw [cdF_succ] at h
    split at h
    · rename_i hlt
      obtain ⟨t, st1, h1, h2⟩ := Res.bind_ok h
      obtain ⟨v, st2, h3, h4⟩ := Res.bind_ok h2
      obtain ⟨e1, -, -, -⟩ := charP_ok h1 (by omega)
      have ht := charP_text h1 (by omega)
      exact ih _ h4 (addsF_good h3 (hg.at_of e1) ht.1 ht.2)
    · injection h with _ h
      subst h
      exact hg
theorem opensF_good {s : ByteArray} {st st' : St} {ev : List Evt} {u : Unit} {S : List TreeS} (h : opensF s st = (ev, .ok u st')) (hg : Good st S) (ha : st.at_ < s.size) : Good st' (ev.foldl stackStep S) := by
  obtain ⟨f1, f2, f3⟩ := hg.flush
  unfold opensF at h
  split at h
  · simp at h
  rename_i u1 st1 hb
  obtain ⟨e1, b1, b2⟩ := beginsF_ok hb
  split at h
  · simp at h
  rename_i n st2 hn
  have ha1 : ({ st1 with at_ := st1.at_ + 1 } : St).at_ ≤ s.size := by rw [e1]; simp only [flushS]; omega
  obtain ⟨e2, -, a2, -⟩ := nameP_ok hn ha1
  have hname := nameP_name hn
  have o2 : st2.opn = st.opn := by rw [e2, e1]; rfl
  have t2 : st2.text = [] := by rw [e2, e1]; rfl
  have n2 : st2.nodes = st.nodes + 1 := by rw [e2, e1]; rfl
  have b1' : st.nodes < 4096 := b1
  have b2' : st.opn.length < 64 := b2
  cases hS : (flushE st).foldl stackStep S with
  | nil => rw [hS] at f1; exact f1.elim
  | cons t r =>
    rw [hS] at f1 f2 f3
    rw [List.length_cons] at f2
    have key : ∀ (l : List AttrS), (∀ a ∈ l, nameB a.f0 = true ∧ textE a.f1 = 0) → l.Pairwise (fun a b => a.f0 ≠ b.f0) → l.length ≤ 32 → framesOk (elem0 n (sortA l) :: t :: r) ∧ cntS (elem0 n (sortA l) :: t :: r) = st.nodes + 1 := fun l g1 g2 g3 =>
      ⟨⟨rfl, hname, sortA_fine g1 g2 g3, rfl, by omega, trivial, f1⟩, by simp only [cntS, elem0, nodK]; omega⟩
    split at h
    · simp at h
    · rename_i l st3 hats
      obtain ⟨e3, -, a3⟩ := atsF_ok _ _ _ hats a2
      obtain ⟨g1, g2, g3⟩ := atsF_fine _ _ _ hats a2 (fun _ h => (List.not_mem_nil h).elim) List.Pairwise.nil (Nat.zero_le _)
      obtain ⟨k1, k2⟩ := key l g1 g2 g3
      simp only [Prod.mk.injEq, Res.ok.injEq] at h
      obtain ⟨rfl, -, rfl⟩ := h
      rw [List.foldl_append, List.foldl_append, hS]
      show Good st3 (popS (elem0 n (sortA l) :: t :: r))
      rw [popS]
      have o3 : st3.opn = st.opn := by rw [e3]; exact o2
      have t3 : st3.text = [] := by rw [e3]; exact t2
      have n3 : st3.nodes = st.nodes + 1 := by rw [e3]; exact n2
      refine ⟨k1.pop, by rw [List.length_cons, o3]; omega, by rw [if_pos t3, cntS_pop rfl, k2, n3], by rw [n3]; omega, by rw [t3]; exact isText.nil, by rw [t3]; exact Nat.zero_le _, (fun t' r' e z hz => ?_), fun c => absurd t3 c⟩
      injection e with e _
      subst e
      simp only [List.getLast?_append, List.getLast?_singleton, Option.some_or, Option.some.injEq] at hz
      subst hz
      show (1 : Int) ≠ 2
      decide
    · rename_i l st3 hats
      obtain ⟨e3, -, a3⟩ := atsF_ok _ _ _ hats a2
      obtain ⟨g1, g2, g3⟩ := atsF_fine _ _ _ hats a2 (fun _ h => (List.not_mem_nil h).elim) List.Pairwise.nil (Nat.zero_le _)
      obtain ⟨k1, k2⟩ := key l g1 g2 g3
      simp only [Prod.mk.injEq, Res.ok.injEq] at h
      obtain ⟨rfl, -, rfl⟩ := h
      rw [List.foldl_append, hS]
      show Good { st3 with opn := st3.opn ++ [n] } (elem0 n (sortA l) :: t :: r)
      have o3 : st3.opn = st.opn := by rw [e3]; exact o2
      have t3 : st3.text = [] := by rw [e3]; exact t2
      have n3 : st3.nodes = st.nodes + 1 := by rw [e3]; exact n2
      refine ⟨k1, by simp only [List.length_cons, List.length_append, List.length_nil, o3]; omega, by simp only [t3, if_true, k2, n3], by simp only [n3]; omega, by simp only [t3]; exact isText.nil, by simp only [t3]; exact Nat.zero_le _, (fun t' r' e z hz => ?_), fun c => absurd t3 c⟩
      injection e with e _
      subst e
      cases hz
theorem closesF_good {s : ByteArray} {st st' : St} {ev : List Evt} {u : Unit} {S : List TreeS} (h : closesF s st = (ev, .ok u st')) (hg : Good st S) (ha : st.at_ + 2 ≤ s.size) : Good st' (ev.foldl stackStep S) := by
  obtain ⟨f1, f2, f3⟩ := hg.flush
  unfold closesF at h
  split at h
  · simp at h
  rename_i c st1 hnx
  obtain ⟨e1, -, a1⟩ := nextF_ok hnx ha
  split at h
  · simp at h
  split at h
  · simp at h
  rename_i n st2 hn
  obtain ⟨e2, -, a2, -⟩ := nameP_ok hn (by rw [e1]; exact ha)
  split at h
  · simp at h
  rename_i hlast
  split at h
  · simp at h
  rename_i u3 st3 hm
  obtain ⟨e3, a3⟩ := mustF_ok hm (skipF_le _ _ _ a2)
  have o3 : st3.opn = st.opn := by rw [e3]; simp only; rw [e2, e1]; rfl
  have t3 : st3.text = [] := by rw [e3]; simp only; rw [e2, e1]; rfl
  have n3 : st3.nodes = st.nodes := by rw [e3]; simp only; rw [e2, e1]; rfl
  have o2 : st2.opn = st.opn := by rw [e2, e1]; rfl
  have hne : st.opn ≠ [] := by
    rintro e
    rw [o2, e] at hlast
    exact hlast (by simp)
  simp only [Prod.mk.injEq, Res.ok.injEq] at h
  obtain ⟨rfl, -, rfl⟩ := h
  have hpos := List.length_pos_iff.mpr hne
  rw [List.foldl_append]
  cases hS : (flushE st).foldl stackStep S with
  | nil => rw [hS] at f1; exact f1.elim
  | cons t r =>
    cases r with
    | nil => rw [hS] at f2; simp only [List.length_cons, List.length_nil] at f2; omega
    | cons v r =>
      rw [hS] at f1 f2 f3
      simp only [List.length_cons] at f2
      show Good { st3 with opn := st3.opn.dropLast } (popS (t :: v :: r))
      rw [popS]
      refine ⟨f1.pop, by simp only [List.length_cons, List.length_dropLast, o3]; omega, by simp only [t3, if_true, n3, cntS_pop f1.1]; exact f3, by simp only [n3]; exact hg.nodes, by simp only [t3]; exact isText.nil, by simp only [t3]; exact Nat.zero_le _, (fun t' r' e z hz => ?_), fun c => absurd t3 c⟩
      injection e with e _
      subst e
      simp only [List.getLast?_append, List.getLast?_singleton, Option.some_or, Option.some.injEq] at hz
      subst hz
      rw [f1.1]
      decide
theorem pref_len {t p : List UInt8} (h : Lib.hasPrefix t p = true) : p.length ≤ t.length := (List.isPrefixOf_iff_prefix.mp h).length_le
theorem restL_len (s : ByteArray) (i : Nat) : (restL s i).length = s.size - i := by
  unfold restL
  rw [Lib.extract_to_end, List.length_drop, size_list]
theorem tagF_good {s : ByteArray} {st st' : St} {ev : List Evt} {u : Unit} {S : List TreeS} (h : tagF s st = (ev, .ok u st')) (hg : Good st S) (ha : st.at_ < s.size) : Good st' (ev.foldl stackStep S) := by
  have hlen := restL_len s st.at_
  unfold tagF at h
  split at h
  · simp at h
  split at h
  · rename_i hp
    have := pref_len hp
    simp only [Prod.mk.injEq] at h
    obtain ⟨rfl, h⟩ := h
    exact hg.at_of (pastF_ok h (by have e : remarkL.length = 4 := rfl; omega)).1
  split at h
  · rename_i hp
    have := pref_len hp
    simp only [Prod.mk.injEq] at h
    obtain ⟨rfl, h⟩ := h
    exact hg.at_of (pastF_ok h (by simp only [List.length_cons, List.length_nil] at this; omega)).1
  split at h
  · rename_i hp
    have := pref_len hp
    simp only [Prod.mk.injEq] at h
    obtain ⟨rfl, h⟩ := h
    unfold cdataF at h
    obtain ⟨v, st1, h1, h2⟩ := Res.bind_ok h
    obtain ⟨w, st2, h3, h4⟩ := Res.bind_ok h2
    injection h4 with _ h4
    subst h4
    obtain ⟨e1, -, a1⟩ := pastF_ok h1 (by have e : rawL.length = 9 := rfl; omega)
    have g1 : Good { st1 with at_ := st.at_ + 9 } S := (hg.at_of e1).at_ _
    exact (cdF_good a1 _ _ h3 g1).at_ _
  split at h
  · rename_i hp
    have := pref_len hp
    exact closesF_good h hg (by simp only [List.length_cons, List.length_nil] at this; omega)
  split at h
  · exact opensF_good h hg ha
  · simp at h
theorem pieceF_good {s : ByteArray} {st st' : St} {ev : List Evt} {u : Unit} {S : List TreeS} (h : pieceF s st = (ev, .ok u st')) (hg : Good st S) (ha : st.at_ < s.size) : Good st' (ev.foldl stackStep S) := by
  unfold pieceF at h
  split at h
  · exact tagF_good h hg ha
  · simp only [Prod.mk.injEq] at h
    obtain ⟨rfl, h⟩ := h
    obtain ⟨t, st1, h1, h2⟩ := Res.bind_ok h
    have ht := read_text h1 ha
    have e1 : st1 = { st with at_ := st1.at_ } := by
      split at h1
      · exact (refP_ok h1 ha).1
      · exact (charP_ok h1 ha).1
    exact addsF_good h2 (hg.at_of e1) ht.1 ht.2
theorem stackOf_app (l m : List Evt) : stackOf (l ++ m) = m.foldl stackStep (stackOf l) := by unfold stackOf; rw [List.foldl_append]
theorem pieces_good {s : ByteArray} : ∀ (d : Nat) (st : St) (acc : List Evt) {l : List Evt} {st' : St} {u : Unit}, piecesF s d st acc = (l, .ok u st') → Good st (stackOf acc) → Good st' (stackOf l) := by
  intro d
  induction d with
  | zero => intro st acc l st' u h; simp [piecesF] at h
  | succ d ih =>
    intro st acc l st' u h hg
    rw [piecesF] at h
    split at h
    · rename_i hlt
      split at h
      · rename_i ev u1 st1 hp
        exact ih _ _ h (by rw [stackOf_app]; exact pieceF_good hp hg hlt)
      · simp at h
    · simp only [Prod.mk.injEq, Res.ok.injEq] at h
      obtain ⟨rfl, -, rfl⟩ := h
      exact hg
theorem Good.start : Good ⟨0, [], [], 0⟩ (stackOf []) :=
  ⟨trivial, rfl, rfl, by decide, isText.nil, Nat.zero_le _, (fun t r e z hz => by
    injection e with e _
    subst e
    cases hz), fun c => absurd rfl c⟩
end Go.Proofs.YtealmfcimoomlaaGreatDoor.PA
