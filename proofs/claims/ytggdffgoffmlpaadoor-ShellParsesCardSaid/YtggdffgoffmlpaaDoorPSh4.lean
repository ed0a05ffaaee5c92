/- Handles, and shell.fits against the reference's fits: in plain Lean. -/
import Derived.Test.YtggdffgoffmlpaaDoorPSh3
namespace Go.Proofs.YtggdffgoffmlpaaDoor.PA
open Go.RowKit Go.Proofs.YtggdffgoffmlpaaDoorW.PrintWords Go.Proofs.YtggdffgoffmlpaaDoorW.PrintLast Go.Proofs.YtggdffgoffmlpaaDoorW.PrintMore
set_option linter.unusedVariables false
set_option linter.unusedSimpArgs false
def nvA (acc : Nat) (l : List UInt8) : Nat := l.foldl (fun n c => 10 * n + (c.toNat - 48)) acc
theorem nvA_ge : ∀ (l : List UInt8) (acc : Nat), acc ≤ nvA acc l
  | [], acc => Nat.le_refl _
  | c :: r, acc => by
    have := nvA_ge r (10 * acc + (c.toNat - 48))
    show acc ≤ nvA (10 * acc + (c.toNat - 48)) r
    omega
theorem parse_val : ∀ (l : List UInt8) (acc u : Nat), acc ≤ 4294967295 → Lib.parseUintM 4294967295 acc l = .ok u → l.all dg = true ∧ u = nvA acc l ∧ u ≤ 4294967295
  | [], acc, u, h0, h => by
    simp only [Lib.parseUintM, Lib.NumEnd.ok.injEq] at h
    subst h
    exact ⟨rfl, rfl, h0⟩
  | c :: r, acc, u, h0, h => by
    rw [Lib.parseUintM] at h
    by_cases h1 : 48 ≤ c.toNat ∧ c.toNat ≤ 57
    · rw [if_pos h1] at h
      by_cases h2 : 1844674407370955162 ≤ acc
      · rw [if_pos h2] at h; cases h
      · rw [if_neg h2] at h
        by_cases h3 : 4294967295 < acc * 10 + (c.toNat - 48)
        · rw [if_pos h3] at h; cases h
        · rw [if_neg h3] at h
          obtain ⟨a1, a2, a3⟩ := parse_val r _ u (by omega) h
          refine ⟨?_, ?_, a3⟩
          · rw [List.all_cons, a1, Bool.and_true]; exact decide_eq_true h1
          · rw [a2, Nat.mul_comm acc 10]; rfl
    · rw [if_neg h1] at h; cases h
theorem parse_ok : ∀ (l : List UInt8) (acc : Nat), l.all dg = true → nvA acc l ≤ 4294967295 → Lib.parseUintM 4294967295 acc l = .ok (nvA acc l)
  | [], acc, _, _ => rfl
  | c :: r, acc, hd, h => by
    rw [List.all_cons, Bool.and_eq_true] at hd
    have h1 := of_decide_eq_true (show decide (48 ≤ c.toNat ∧ c.toNat ≤ 57) = true from hd.1)
    have hv : nvA acc (c :: r) = nvA (acc * 10 + (c.toNat - 48)) r := by rw [Nat.mul_comm acc 10]; rfl
    rw [hv] at h ⊢
    have hge := nvA_ge r (acc * 10 + (c.toNat - 48))
    rw [Lib.parseUintM, if_pos h1, if_neg (by omega), if_neg (by omega)]
    exact parse_ok r _ hd.2 h
theorem dec_step (u : Nat) (h : ¬ u < 10) : Lib.decDigits u = Lib.decDigits (u / 10) ++ [UInt8.ofNat (48 + u % 10)] := by rw [Lib.decDigits, dif_neg h]
theorem ofNat_dig (c : UInt8) (h : 48 ≤ c.toNat ∧ c.toNat ≤ 57) : UInt8.ofNat (48 + (c.toNat - 48)) = c := by
  rw [show 48 + (c.toNat - 48) = c.toNat by omega]
  simp
theorem dec_nv : ∀ (n : Nat) (l : List UInt8), l.length = n → l ≠ [] → l.all dg = true → l.head? ≠ some 48 → Lib.decDigits (nv l) = l ∧ 0 < nv l := by
  intro n
  induction n with
  | zero => intro l h hne; exact absurd (List.eq_nil_of_length_eq_zero h) hne
  | succ n ih =>
    intro l h hne hd hh
    have e := List.dropLast_concat_getLast hne
    generalize l.getLast hne = c at e
    have hl : l.dropLast.length = n := by rw [List.length_dropLast]; omega
    generalize l.dropLast = q at e hl
    subst e
    rw [List.all_append, Bool.and_eq_true] at hd
    have hc : dg c = true := by simpa using hd.2
    have hc' := of_decide_eq_true (show decide (48 ≤ c.toNat ∧ c.toNat ≤ 57) = true from hc)
    rw [nv_snoc]
    by_cases hq : q = []
    · subst hq
      have h48 : c.toNat ≠ 48 := fun e => hh (by
        have : c = 48 := UInt8.toNat_inj.mp (by rw [e]; rfl)
        rw [this]; rfl)
      have e0 : nv [] = 0 := rfl
      rw [e0]
      refine ⟨?_, by omega⟩
      rw [Lib.decDigits_one (by omega), show 10 * 0 + (c.toNat - 48) = c.toNat - 48 by omega, ofNat_dig c hc']
      rfl
    · have hh' : q.head? ≠ some 48 := by
        intro e
        apply hh
        cases q with
        | nil => exact absurd rfl hq
        | cons a q => exact e
      obtain ⟨i1, i2⟩ := ih q hl hq hd.1 hh'
      refine ⟨?_, by omega⟩
      rw [dec_step _ (by omega), show (10 * nv q + (c.toNat - 48)) / 10 = nv q by omega, show (10 * nv q + (c.toNat - 48)) % 10 = c.toNat - 48 by omega, i1, ofNat_dig c hc']
theorem dec_head (u : Nat) : 0 < u → (Lib.decDigits u).head? ≠ some 48 ∧ Lib.decDigits u ≠ [] := by
  induction u using Nat.strongRecOn with
  | _ u ih =>
    intro hu
    by_cases h : u < 10
    · rw [Lib.decDigits_one h]
      refine ⟨fun e => ?_, by simp⟩
      simp only [List.head?_cons, Option.some.injEq] at e
      have := congrArg UInt8.toNat e
      simp only [UInt8.toNat_ofNat'] at this
      have h48 : (48 : UInt8).toNat = 48 := rfl
      omega
    · obtain ⟨a, b⟩ := ih (u / 10) (by omega) (by omega)
      rw [dec_step u h]
      refine ⟨?_, by simp⟩
      cases e : Lib.decDigits (u / 10) with
      | nil => exact absurd e b
      | cons x r => rw [e] at a; exact a
theorem dec_len : ∀ (n u : Nat), u < 10 ^ (n + 1) → (Lib.decDigits u).length ≤ n + 1 := by
  intro n
  induction n with
  | zero => intro u h; rw [Lib.decDigits_one (by simpa using h)]; exact Nat.le_refl _
  | succ n ih =>
    intro u h
    by_cases h10 : u < 10
    · rw [Lib.decDigits_one h10]; simp
    · rw [dec_step u h10, List.length_append]
      have := ih (u / 10) (by rw [Nat.pow_succ] at h; omega)
      simp only [List.length_cons, List.length_nil]
      omega
theorem dec_part (s : ByteArray) (hs : s.size ≤ 4294967296) (k : Nat) (hk : 40 ≤ k) : ∃ x y : Int, ∃ b : Bool, shell_decimal.f s = some (x, b) ∧ espalierref30_part.f k s = some (y, b) ∧ (Lb s = [] → b = false) := by
  obtain ⟨y, hy, hyv⟩ := digits_eq s 10 (by omega) (by omega) k hk
  have hd : shell_decimal.f s = some ((decN s : Int), decOk s) := by
    unfold shell_decimal.f
    rw [if_pos (by omega)]
  have hb : ∃ y2, espalierref30_part.f k s = some (y2, decide (1 ≤ s.size ∧ s.size ≤ 10) && ((Lb s).all dg && (decide ((Lb s).head? ≠ some 48) && decide (nv (Lb s) < 4294967296)))) := by
    unfold espalierref30_part.f
    rw [show (10 : Int) = ((10 : Nat) : Int) from rfl, hy, Option.bind_some]
    simp only
    cases ok : (decide (1 ≤ s.size ∧ s.size ≤ 10) && (Lb s).all dg) with
    | false =>
      rw [if_neg (by decide), ← Bool.and_assoc, ok, Bool.false_and]
      exact ⟨_, rfl⟩
    | true =>
      have hyv := hyv ok
      rw [if_pos rfl, ← Bool.and_assoc, ok, Bool.true_and]
      rw [Bool.and_eq_true, decide_eq_true_eq] at ok
      have h0 : 0 < s.size := by omega
      rw [if_pos (by omega), show bt s 0 = ((s.get! 0).toNat : Int) from bt_byte s 0 h0]
      have hh : (Lb s).head? = some (s.get! 0) := by
        have := drop_at s 0 h0
        rw [List.drop_zero] at this
        rw [this]; rfl
      rw [hh]
      by_cases h48 : s.get! 0 = 48
      · rw [h48, if_pos (by rfl), decide_eq_false (by simp), Bool.false_and]
        exact ⟨_, rfl⟩
      · rw [if_neg (fun e => h48 (UInt8.toNat_inj.mp (by show (s.get! 0).toNat = 48; omega))), show decide (some (s.get! 0) ≠ some 48) = true from decide_eq_true (by simpa using h48), Bool.true_and, hyv]
        have e : decide (((nv (Lb s) : Nat) : Int) < 4294967296) = decide (nv (Lb s) < 4294967296) := decide_eq_decide.mpr (by omega)
        exact ⟨_, by rw [e]⟩
  obtain ⟨y2, hb⟩ := hb
  have e : decOk s = (decide (1 ≤ s.size ∧ s.size ≤ 10) && ((Lb s).all dg && (decide ((Lb s).head? ≠ some 48) && decide (nv (Lb s) < 4294967296)))) := by
    rw [Bool.eq_iff_iff]
    simp only [Bool.and_eq_true, decide_eq_true_eq]
    have hM : (2 : Nat) ^ 32 - 1 = 4294967295 := by decide
    constructor
    · intro h
      unfold decOk at h
      cases hp : Lib.parseUintB 32 s.data.toList with
      | ok u =>
        rw [hp] at h
        simp only [Bool.and_eq_true, decide_eq_true_eq, beq_iff_eq] at h
        obtain ⟨h0, hL⟩ := h
        unfold Lib.parseUintB at hp
        by_cases hn : s.data.toList = []
        · rw [if_pos hn] at hp; cases hp
        rw [if_neg hn, hM] at hp
        obtain ⟨a1, a2, a3⟩ := parse_val _ 0 u (by omega) hp
        have hlen := dec_len 9 u (by have : (10 : Nat) ^ (9 + 1) = 10000000000 := by decide
                                     omega)
        have hhd := dec_head u h0
        rw [hL] at hlen hhd
        have hsz : s.size = s.data.toList.length := Lib.size_eq s
        have hpos : 0 < s.data.toList.length := by cases e : s.data.toList with
          | nil => exact absurd e hn
          | cons b r => simp
        exact ⟨⟨by omega, by omega⟩, a1, hhd.1, by show nvA 0 s.data.toList < _; omega⟩
      | range => rw [hp] at h; cases h
      | _ => rw [hp] at h; cases h
    · rintro ⟨⟨h1, h2⟩, h3, h4, h5⟩
      have hn : ¬ s.data.toList = [] := fun e => by rw [Lib.size_eq, e] at h1; exact absurd h1 (by decide)
      obtain ⟨d1, d2⟩ := dec_nv _ (Lb s) rfl hn h3 h4
      have hp : Lib.parseUintB 32 s.data.toList = .ok (nv (Lb s)) := by
        unfold Lib.parseUintB
        rw [if_neg hn, hM]
        exact parse_ok _ 0 h3 (by show nv (Lb s) ≤ _; omega)
      unfold decOk
      rw [hp]
      simp only [Bool.and_eq_true, decide_eq_true_eq, beq_iff_eq]
      exact ⟨d2, d1⟩
  refine ⟨_, y2, _, hd, by rw [hb, e], fun h0 => ?_⟩
  rw [e, decide_eq_false (by rw [size_Lb, h0]; simp), Bool.false_and]
/-! handles -/
theorem take_first (c : UInt8) : ∀ (l : List UInt8) (t : Nat), t ≤ l.length → (∀ j, (h : j < l.length) → j < t → l[j] ≠ c) → ((h : t < l.length) → l[t] = c) →
    l.takeWhile (fun b => !(b == c)) = l.take t ∧ l.dropWhile (fun b => !(b == c)) = l.drop t
  | [], t, h0, _, _ => by
    obtain rfl : t = 0 := by simpa using h0
    exact ⟨rfl, rfl⟩
  | b :: l, 0, _, _, h => by
    have hb : b = c := h (by simp)
    subst hb
    exact ⟨by simp [List.takeWhile_cons], by simp [List.dropWhile_cons]⟩
  | b :: l, t + 1, h0, h1, h2 => by
    have hb : b ≠ c := h1 0 (by simp) (by omega)
    have hb' : (!(b == c)) = true := by rw [beq_eq_false_iff_ne.mpr hb]; rfl
    obtain ⟨i1, i2⟩ := take_first c l t (by simpa using h0) (fun j h hj => h1 (j + 1) (by simpa using h) (by omega)) (fun h => h2 (by simpa using h))
    rw [List.takeWhile_cons, if_pos hb', List.dropWhile_cons, if_pos hb', i1, i2]
    exact ⟨rfl, rfl⟩
theorem handle_l0 (s : ByteArray) (hn : s.size ≤ 140737488355328) (t : Nat) (ht : t ≤ s.size) (R : Int × Bool) (M : Nat) (hR : ∀ k, M ≤ k → espalierref30_Handle.j1 k s (t : Int) = some R) (hl : t < s.size → s.get! t = 46) :
    ∀ (m k i : Nat), i ≤ t → t - i = m → (∀ j, i ≤ j → j < t → s.get! j ≠ 46) → m + 1 + M ≤ k → espalierref30_Handle.l0 k s (i : Int) = some R := by
  have b46 : ∀ b : UInt8, ((b.toNat : Int) = 46) ↔ b = 46 := fun b => ⟨fun h => UInt8.toNat_inj.mp (by show b.toNat = 46; omega), fun h => by subst h; rfl⟩
  intro m
  induction m with
  | zero =>
    intro k i h1 h3 h4 h5
    obtain rfl : i = t := by omega
    obtain ⟨k, rfl⟩ : ∃ j, k = j + 1 := ⟨k - 1, by omega⟩
    rw [espalierref30_Handle.l0.eq_2]
    by_cases hft : i < s.size
    · rw [if_pos (by omega), if_pos (by omega), bt_byte s i hft, if_pos ((b46 _).mpr (hl hft))]
      exact hR k (by omega)
    · rw [if_neg (by omega)]
      exact hR k (by omega)
  | succ m ih =>
    intro k i h1 h3 h4 h5
    obtain ⟨k, rfl⟩ : ∃ j, k = j + 1 := ⟨k - 1, by omega⟩
    rw [espalierref30_Handle.l0.eq_2, if_pos (by omega), if_pos (by omega), bt_byte s i (by omega), if_neg (fun h => h4 i (by omega) (by omega) ((b46 _).mp h)), w64 i (by omega)]
    exact ih k (i + 1) (by omega) (by omega) (fun j a b => h4 j (by omega) b) (by omega)
theorem prefix_at (w : ByteArray) : strings_CutPrefix.f w ⟨#[64]⟩ = some (match Lb w with | [] => (w, false) | c :: r => if c = 64 then (mkB r, true) else (w, false)) := by
  have hsz : (⟨#[64]⟩ : ByteArray).size = 1 := rfl
  unfold strings_CutPrefix.f stringslite_CutPrefix.f stringslite_HasPrefix.f
  rw [hsz]
  cases h : Lb w with
  | nil =>
    have : w.size = 0 := by rw [size_Lb, h]; rfl
    rw [if_neg (by omega)]
    rfl
  | cons c r =>
    have hs : w.size = r.length + 1 := by rw [size_Lb, h]; rfl
    rw [if_pos (by omega), if_pos (by decide), if_pos (by omega), Option.bind_some, ext_L, ext_end, h, toL, toL]
    show Option.bind (if ([c] == ([64] : List UInt8)) = true then _ else _) _ = _
    by_cases hc : c = 64
    · subst hc
      rw [if_pos (by decide), if_pos (by decide), if_pos (by omega)]
      simp only [if_true]
      rfl
    · rw [if_neg (by simpa using hc)]
      simp only [hc, if_false]
      rfl
theorem cut_at (c : UInt8) (s : ByteArray) (hs : s.size < 4294967281) : strings_Cut.f s (mkB [c]) = some (mkB (pre c (Lb s)), mkB (aft c (Lb s)), (Lb s).contains c) := by
  unfold strings_Cut.f
  rw [if_pos hs, show (mkB [c]).data.toList = [c] from rfl, cut_one]
  rfl
theorem handle_eq (w : ByteArray) (hs : w.size ≤ 4000000000) (k : Nat) (hk : w.size + 60 ≤ k) : ∃ x y : Int, ∃ b : Bool, shell_handle.f w = some (x, b) ∧ espalierref30_Handle.f k w = some (y, b) ∧ (Lb w = [] → b = false) := by
  unfold shell_handle.f espalierref30_Handle.f
  by_cases h0 : w.toList = ([64, 48] : List UInt8)
  · rw [if_pos h0, if_pos h0]
    exact ⟨_, _, _, rfl, rfl, fun h => by rw [toL, h] at h0; cases h0⟩
  rw [if_neg h0, if_neg h0, prefix_at, Option.bind_some]
  obtain ⟨t, t1, t2, t3⟩ := first_not (fun j => !(w.get! j == 46)) w.size
  have t2' : ∀ j, j < t → w.get! j ≠ 46 := fun j hj e => by have := t2 j hj; rw [e] at this; exact absurd this (by decide)
  have t3' : t < w.size → w.get! t = 46 := fun h => by
    have := t3 h
    cases e : (w.get! t == 46) with
    | true => exact beq_iff_eq.mp e
    | false => rw [e] at this; exact absurd this (by decide)
  have href : ∀ R : Int × Bool, (∀ k, 50 ≤ k → espalierref30_Handle.j1 k w (t : Int) = some R) → espalierref30_Handle.l0 k w 0 = some R := fun R hR =>
    handle_l0 w (by omega) t t1 R 50 hR t3' t k 0 (by omega) (by omega) (fun j _ h => t2' j h) (by omega)
  have no : (t < 2 ∨ t = w.size ∨ (0 < w.size ∧ (bt w 0 != 64) = true)) → espalierref30_Handle.l0 k w 0 = some (0, false) := fun h => href _ (fun k hk => by
    obtain ⟨k, rfl⟩ : ∃ j, k = j + 2 := ⟨k - 2, by omega⟩
    rw [espalierref30_Handle.j1.eq_2]
    by_cases h2 : t < 2
    · rw [if_pos (by omega), espalierref30_Handle.j2.eq_2, if_pos rfl]
    · rw [if_neg (by omega)]
      by_cases h3 : t = w.size
      · rw [if_pos (by omega), espalierref30_Handle.j2.eq_2, if_pos rfl]
      · obtain ⟨h4, h5⟩ := (h.resolve_left h2).resolve_left h3
        rw [if_neg (by omega), if_pos (by omega), h5, espalierref30_Handle.j2.eq_2, if_pos rfl])
  have dp : ∀ l : List UInt8, l.length ≤ w.size → ∃ x y : Int, ∃ b : Bool, shell_decimal.f (mkB l) = some (x, b) ∧ (∀ k, 40 ≤ k → ∃ y : Int, espalierref30_part.f k (mkB l) = some (y, b)) ∧ (l = [] → b = false) := fun l hl => by
    have hz : (mkB l).size ≤ 4294967296 := by rw [size_Lb, Lb_mk]; omega
    obtain ⟨x, y, b, e1, e2, e3⟩ := dec_part (mkB l) hz 40 (by omega)
    refine ⟨x, y, b, e1, fun k hk => ?_, e3⟩
    obtain ⟨x', y', b', e1', e2', _⟩ := dec_part (mkB l) hz k hk
    rw [e1] at e1'
    simp only [Option.some.injEq, Prod.mk.injEq] at e1'
    exact ⟨y', by rw [e2', e1'.2]⟩
  have c46 : ∀ s : ByteArray, s.size ≤ w.size → strings_Cut.f s ⟨#[46]⟩ = some (mkB (pre 46 (Lb s)), mkB (aft 46 (Lb s)), (Lb s).contains 46) := fun s h => cut_at 46 s (by omega)
  have pl : ∀ l : List UInt8, (pre 46 l).length ≤ l.length ∧ (aft 46 l).length ≤ l.length := fun l => ⟨(List.takeWhile_sublist _).length_le, by unfold aft; rw [List.length_drop]; have := (List.dropWhile_sublist (fun b => !(b == 46)) (l := l)).length_le; omega⟩
  cases hL : Lb w with
  | nil =>
    obtain ⟨x1, _, b1, e1, _, _⟩ := dp (pre 46 (Lb w)) (by rw [size_Lb]; exact (pl _).1)
    obtain ⟨x2, _, b2, e2, _, _⟩ := dp (aft 46 (Lb w)) (by rw [size_Lb]; exact (pl _).2)
    simp only
    rw [c46 w (Nat.le_refl _), Option.bind_some]
    simp only
    rw [e1, Option.bind_some, e2, Option.bind_some, no (.inl (by have : w.size = 0 := by rw [size_Lb, hL]; rfl
                                                                 omega))]
    simp only [Bool.false_eq_true, if_false]
    exact ⟨_, _, _, rfl, rfl, fun _ => rfl⟩
  | cons c r =>
    have hsz : w.size = r.length + 1 := by rw [size_Lb, hL]; rfl
    have hg0 : w.get! 0 = c := by
      have := drop_at w 0 (by omega)
      rw [List.drop_zero, hL] at this
      injection this with e1 e2
      exact e1.symm
    by_cases hc : c = 64
    · subst hc
      simp only [if_true]
      have hr1 : (mkB r).size ≤ w.size := by rw [size_Lb, Lb_mk]; omega
      obtain ⟨x1, _, b1, e1, p1, n1⟩ := dp (pre 46 r) (by have := (pl r).1; omega)
      obtain ⟨x2, _, b2, e2, p2, n2⟩ := dp (aft 46 r) (by have := (pl r).2; omega)
      rw [c46 (mkB r) hr1, Option.bind_some, Lb_mk]
      simp only
      rw [e1, Option.bind_some, e2, Option.bind_some]
      have tf := take_first 46 (Lb w) t (by rw [← size_Lb]; exact t1) (fun j h hj => by rw [← get_at w j (by rw [size_Lb]; exact h)]; exact t2' j hj) (fun h => by rw [← get_at w t (by rw [size_Lb]; exact h)]; exact t3' (by rw [size_Lb]; exact h))
      have tp : 1 ≤ t := by
        rcases Nat.eq_zero_or_pos t with h | h
        · exfalso
          have := t3' (by omega)
          rw [h, hg0] at this
          exact absurd this (by decide)
        · exact h
      have epre : pre 46 r = ((Lb w).drop 1).take (t - 1) := by
        have := tf.1
        rw [hL, List.takeWhile_cons, if_pos (by decide)] at this
        obtain ⟨t', rfl⟩ : ∃ q, t = q + 1 := ⟨t - 1, by omega⟩
        rw [List.take_succ_cons] at this
        injection this with _ e
        rw [hL]
        exact e
      have eaft : aft 46 r = (Lb w).drop (t + 1) := by
        have := tf.2
        rw [hL, List.dropWhile_cons, if_pos (by decide)] at this
        unfold aft
        rw [this, List.drop_drop, hL]
      have econt : r.contains 46 = decide (t < w.size) := by
        cases h : r.contains 46 with
        | true =>
          symm
          rw [decide_eq_true_iff]
          rcases Nat.lt_or_ge t w.size with h2 | h2
          · exact h2
          · exfalso
            have hd : (Lb w).dropWhile (fun b => !(b == 46)) = [] := by rw [tf.2]; exact List.drop_of_length_le (by rw [← size_Lb]; exact h2)
            rw [hL, List.dropWhile_cons, if_pos (by decide)] at hd
            have key : ∀ q : List UInt8, q.contains 46 = true → q.dropWhile (fun b => !(b == 46)) ≠ [] := by
              intro q
              induction q with
              | nil => intro h; simp at h
              | cons b q ih =>
                intro h
                rw [List.dropWhile_cons]
                by_cases hb : b = 46
                · subst hb; rw [if_neg (by decide)]; simp
                · rw [if_pos (by rw [beq_eq_false_iff_ne.mpr hb]; rfl)]
                  rw [List.contains_cons, beq_eq_false_iff_ne.mpr (fun e => hb e.symm), Bool.false_or] at h
                  exact ih h
            exact key r h hd
        | false =>
          symm
          rw [decide_eq_false_iff_not]
          intro h2
          have hd := (take_all 46 r h).2
          have h3 := tf.2
          rw [hL, List.dropWhile_cons, if_pos (by decide), hd] at h3
          have h4 := congrArg List.length h3
          rw [List.length_drop, ← hL, ← size_Lb, List.length_nil] at h4
          omega
      rw [econt]
      by_cases hts : t < w.size
      · by_cases ht2 : t < 2
        · have : pre 46 r = [] := by rw [epre, show t - 1 = 0 by omega, List.take_zero]
          have hb1 := n1 this
          subst hb1
          rw [no (.inl ht2), decide_eq_true hts]
          simp only [Bool.false_eq_true, if_false, if_true]
          exact ⟨_, _, _, rfl, rfl, fun h => by cases h⟩
        · rw [decide_eq_true hts]
          simp only [if_true]
          have main : ∃ y : Int, espalierref30_Handle.l0 k w 0 = some (y, b1 && b2) := by
            have hj : ∃ y : Int, ∀ k, 50 ≤ k → espalierref30_Handle.j1 k w (t : Int) = some (y, b1 && b2) := by
              obtain ⟨y1, q1⟩ := p1 40 (by omega)
              obtain ⟨y2, q2⟩ := p2 40 (by omega)
              have m1 : ∀ k, 40 ≤ k → espalierref30_part.f k (mkB (pre 46 r)) = some (y1, b1) := fun k hk => at_rounds (g := fun k => espalierref30_part.f k (mkB (pre 46 r))) (fun k => espalierref30_part.mono _ k) hk q1
              have m2 : ∀ k, 40 ≤ k → espalierref30_part.f k (mkB (aft 46 r)) = some (y2, b2) := fun k hk => at_rounds (g := fun k => espalierref30_part.f k (mkB (aft 46 r))) (fun k => espalierref30_part.mono _ k) hk q2
              refine ⟨Go.bits .or .u64 (IntKind.u64.wrap ((IntKind.u64.wrap y2) * 4294967296)) (IntKind.u64.wrap y1), fun k hk => ?_⟩
              obtain ⟨k, rfl⟩ : ∃ j, k = j + 2 := ⟨k - 2, by omega⟩
              have hb0 : (bt w 0 != 64) = false := by
                rw [show bt w 0 = ((w.get! 0).toNat : Int) from bt_byte w 0 (by omega), hg0]
                rfl
              rw [espalierref30_Handle.j1.eq_2, if_neg (by omega), if_neg (by omega), if_pos (by omega), hb0, espalierref30_Handle.j2.eq_2, if_neg (by decide), if_pos (by omega), if_pos (by omega), Int.toNat_natCast, w64 t (by omega), Int.toNat_natCast, ext_L, ext_end, ← epre, ← eaft, m1 k (by omega), Option.bind_some, if_pos (by omega), if_pos (by omega), m2 k (by omega), Option.bind_some]
              cases b1 with
              | true => rfl
              | false => rfl
            obtain ⟨y, hj⟩ := hj
            exact ⟨y, href _ hj⟩
          obtain ⟨y, main⟩ := main
          rw [main]
          cases b1 with
          | true => simp only [if_true]; exact ⟨_, _, _, rfl, rfl, fun h => by cases h⟩
          | false => simp only [Bool.false_eq_true, if_false]; exact ⟨_, _, _, rfl, rfl, fun h => by cases h⟩
      · rw [decide_eq_false hts, no (.inr (.inl (by omega)))]
        simp only [Bool.false_eq_true, if_false, if_true]
        exact ⟨_, _, _, rfl, rfl, fun h => by cases h⟩
    · simp only [hc, if_false]
      obtain ⟨x1, _, b1, e1, _, _⟩ := dp (pre 46 (Lb w)) (by rw [size_Lb]; exact (pl _).1)
      obtain ⟨x2, _, b2, e2, _, _⟩ := dp (aft 46 (Lb w)) (by rw [size_Lb]; exact (pl _).2)
      rw [c46 w (Nat.le_refl _), Option.bind_some]
      simp only
      have hb0 : (bt w 0 != 64) = true := by
        rw [show bt w 0 = ((w.get! 0).toNat : Int) from bt_byte w 0 (by omega), hg0, bne_iff_ne]
        exact fun e => hc (UInt8.toNat_inj.mp (by show c.toNat = 64; omega))
      rw [e1, Option.bind_some, e2, Option.bind_some, no (.inr (.inr ⟨by omega, hb0⟩))]
      simp only [Bool.false_eq_true, if_false]
      exact ⟨_, _, _, rfl, rfl, fun h => by cases h⟩
end Go.Proofs.YtggdffgoffmlpaaDoor.PA
