/- chars.Cut: what it answers, over chars.text and the characters of a text. -/
import Derived.Test.YtdmeafhhdhojlaaDoorPB3
import Derived.Laws.IdiomStrings
import Derived.Laws.Cover4
import Derived.Laws.RangeAny
import Derived.BigCall
import Derived.Outline
namespace Go.Proofs.YtdmeafhhdhojlaaDoor.PB
open Go.RowKit Go.Proofs.YtdmeafhhdhojlaaDoorW.PrintWords Go.Proofs.YtdmeafhhdhojlaaDoorW.PrintLast Go.Proofs.YtdmeafhhdhojlaaDoorW.PrintMore
theorem min2_mn (k k' : IntKind) (x y : Int) : Builtin.min2 (.int k x) (.int k' y) = pure (.int k (mn x y)) := by rw [min2_int]; rfl
attribute [local go_sem] min2_mn min_two
set_option linter.unusedVariables false
set_option linter.unusedSimpArgs false
/-- The characters of a text, one by one. -/
def runesI (s : ByteArray) : Nat → Nat → List Int
  | 0, _ => []
  | f + 1, i => if i < s.size then ((Utf8.decode s i).1 : Int) :: runesI s f (i + (Utf8.decode s i).2) else []
theorem runesFrom_eq (s : ByteArray) : ∀ (f i : Nat) (acc : Array Value), (Conv.runesFrom s f i acc) = acc ++ ((runesI s f i).map (Value.int .i32)).toArray
  | 0, i, acc => by simp [Conv.runesFrom, runesI]
  | f + 1, i, acc => by
    unfold Conv.runesFrom runesI
    by_cases h : i < s.size
    · rw [if_pos h, if_pos h]
      simp only
      rw [runesFrom_eq s f]
      apply Array.ext'
      simp
    · rw [if_neg h, if_neg h]
      simp
def runesOf (s : ByteArray) : List Int := runesI s s.size 0
theorem runesI_len (s : ByteArray) : ∀ f i, (runesI s f i).length ≤ f
  | 0, _ => by simp [runesI]
  | f + 1, i => by
    unfold runesI
    split
    · have := runesI_len s f (i + (Utf8.decode s i).2)
      simp; omega
    · simp
theorem runesOf_len (s : ByteArray) : (runesOf s).length ≤ s.size := runesI_len s _ _
def runesW (W : World) (e : TypeId) (s : ByteArray) : World := W.drew.alloc (.cells (((runesOf s).map (Value.int .i32)).toArray ++ Array.replicate (grownCap W (runesOf s).length 0 e - (runesOf s).length) (.int .i32 0)) e)
theorem runes_conv {P : Program} (src dst e : TypeId) (hs : P.underlying src = some .string) (hd : P.underlying dst = some (.slice e)) (he : P.underlying e = some (.int .i32)) (s : ByteArray) (h46 : s.size ≤ 70368744177664) (W : World) :
    (convert src dst (.string s)).run P W = .ok (.slice (some ⟨W.heap.size, 0, none⟩) (runesOf s).length (grownCap W (runesOf s).length 0 e)) (runesW W e s) := by
  have hz : Conv.runesFrom s s.size 0 #[] = ((runesOf s).map (Value.int .i32)).toArray := by rw [runesFrom_eq]; simp [runesOf]
  have hl := runesOf_len s
  have := run_runes_of_string (P := P) W src dst e s hs hd he (by rw [hz]; simp; omega)
  rw [hz] at this
  simp only [List.size_toArray, List.length_map] at this
  exact this
theorem runesW_below (W : World) (e : TypeId) (s : ByteArray) : Below W.heap.size W (runesW W e s) := by
  unfold runesW
  have h := (Below.refl W.heap.size W).alloc (Nat.le_refl _) (.cells (((runesOf s).map (Value.int .i32)).toArray ++ Array.replicate (grownCap W (runesOf s).length 0 e - (runesOf s).length) (.int .i32 0)) e)
  exact (Below.refl W.heap.size W).trans (by
    have := (Below.refl W.heap.size W.drew).alloc (by simp) (.cells (((runesOf s).map (Value.int .i32)).toArray ++ Array.replicate (grownCap W (runesOf s).length 0 e - (runesOf s).length) (.int .i32 0)) e)
    exact ⟨this.1, this.2, this.3, this.4, this.5⟩)
theorem runesW_reads (W : World) (e : TypeId) (s : ByteArray) (hs : s.size ≤ 9223372036854775807) : ReadsInt (runesW W e s) .i32 (some ⟨W.heap.size, 0, none⟩) (runesOf s).length (runesOf s) := by
  refine ⟨rfl, by have := runesOf_len s; omega, fun _ => ⟨_, rfl, fun j hj => ?_⟩⟩
  rw [add_plain]
  simp [runesW, World.cell?, World.drew, World.alloc, -World.alloc_eq, -World.drew_eq, Array.getElem?_append, hj, List.getD_eq_getElem?_getD]
theorem string_of_runes {P : Program} {w : World} {src dst e : TypeId} {A : Option Addr} {n c : Nat} {xs : List Int} (hs : P.underlying src = some (.slice e)) (he : P.underlying e = some (.int .i32)) (hd : P.underlying dst = some .string)
    (h : ReadsInt w .i32 A n xs) : (convert src dst (.slice A n c)).run P w = .ok (.string (runesBytes xs)) w := by
  have hn : xs.length = n := h.1
  rcases A with _ | ad
  · have h0 : n = 0 := by
      rcases Nat.eq_zero_or_pos n with h0 | h0
      · exact h0
      · obtain ⟨ad, h', _⟩ := h.2.2 h0
        cases h'
    subst h0
    obtain rfl : xs = [] := List.eq_nil_of_length_eq_zero hn
    exact run_convert_runes_nil w src dst e 0 c hs he hd
  · have := run_convert_runes (P := P) w src dst e ad n c xs (by omega) hs he hd (fun j hj => by
      obtain ⟨ad', he', hc⟩ := h.2.2 (by omega)
      injection he' with he'
      subst he'
      exact hc j (by omega))
    rw [List.take_of_length_le (by omega)] at this
    exact this
def cutR (s : ByteArray) (a b : Int) : ByteArray := runesBytes (((runesOf s).drop a.toNat).take b.toNat)
def chars_Cut.f (k : Nat) (a0 : ByteArray) (a1 a2 : Int) : Option (ByteArray × Int) :=
  (chars_text.f k a0).bind fun t => if t.2 = 0 then (if a0.size ≤ 70368744177664 then (if a1 < 0 ∨ a2 < 0 then some ((⟨#[]⟩ : ByteArray), 1) else some (cutR a0 a1 a2, 0)) else none) else some ((⟨#[]⟩ : ByteArray), t.2)
theorem chars_Cut.mono : ∀ a0 a1 a2 k, LeO (chars_Cut.f k a0 a1 a2) (chars_Cut.f (k + 1) a0 a1 a2) := by
  intro a0 a1 a2 k
  unfold chars_Cut.f
  exact LeO.bind (chars_text.mono _ _) (fun _ => LeO.refl _)
theorem mn_in (n : Nat) (a : Int) (h : 0 ≤ a) : 0 ≤ mn a n ∧ mn a n ≤ n := by unfold mn; split <;> omega
theorem drop_mn (xs : List Int) (a : Int) : xs.drop (mn a xs.length).toNat = xs.drop a.toNat := by
  unfold mn
  split
  · rw [Int.toNat_natCast, List.drop_length, List.drop_eq_nil_of_le (by omega)]
  · rfl
theorem take_mn (xs : List Int) (a : Int) : xs.take (mn a xs.length).toNat = xs.take a.toNat := by
  unfold mn
  split
  · rw [Int.toNat_natCast, List.take_length, List.take_of_length_le (by omega)]
  · rfl
set_option maxHeartbeats 4000000 in
set_option maxRecDepth 1000000 in
theorem chars_Cut.calls (k : Nat) (a0 : ByteArray) (a1 a2 : Int) (r1 : ByteArray) (r2 : Int) (w : World) (h : chars_Cut.f k a0 a1 a2 = some (r1, r2)) (hG : Glob w := by first | exact Glob.step HG.out (by repeat (first | (with_reducible first | exact HB.out | apply below_alloc | apply pw_below_drewN | apply below_drew1) | exact HB.out)) | exact HG.out | assumption) :
    Calls Tryd.prog 24 #[.string a0, .int .i64 a1, .int .i64 a2] w fun e w' => e = .returned (.tuple #[.string r1, .int .i64 r2]) ∧ Below w.heap.size w w' := by
  have HG := Aside0.mk hG
  clear hG
  unfold chars_Cut.f at h
  obtain ⟨⟨t1, t2⟩, ht, h⟩ := Option.bind_eq_some_iff.mp h
  have HT := Aside0.mk ht
  clear ht
  replace h : (if t2 = 0 then (if a0.size ≤ 70368744177664 then (if a1 < 0 ∨ a2 < 0 then some ((⟨#[]⟩ : ByteArray), (1 : Int)) else some (cutR a0 a1 a2, 0)) else none) else some ((⟨#[]⟩ : ByteArray), t2)) = some (r1, r2) := h
  by_cases c2 : t2 = 0
  case neg =>
    rw [if_neg c2] at h
    simp only [Option.some.injEq, Prod.mk.injEq] at h
    obtain ⟨rfl, rfl⟩ := h
    have c2b : (t2 != 0) = true := bne_iff_ne.mpr c2
    clear c2
    go_enter Tryd.func24, Tryd.ntmps24
    go_wp2_with (go_at_call 31; refine (chars_text.calls k a0 t1 t2 _ HT.out HG.out).mono ?_; rintro e w5 ⟨rfl, hb5⟩)
    go_ret2
    exact ⟨rfl, hb5⟩
  rw [if_pos c2] at h
  have c2b : (t2 != 0) = false := bne_eq_false_iff_eq.mpr c2
  clear c2
  by_cases hs : a0.size ≤ 70368744177664
  case neg => rw [if_neg hs] at h; exact absurd h (by simp)
  rw [if_pos hs] at h
  by_cases ha : a1 < 0
  · rw [if_pos (.inl ha)] at h
    simp only [Option.some.injEq, Prod.mk.injEq] at h
    obtain ⟨rfl, rfl⟩ := h
    have ha' : decide (a1 < 0) = true := decide_eq_true ha
    go_enter Tryd.func24, Tryd.ntmps24
    go_wp2_with (go_at_call 31; refine (chars_text.calls k a0 t1 t2 _ HT.out HG.out).mono ?_; rintro e w5 ⟨rfl, hb5⟩)
    go_ret2
    exact ⟨rfl, hb5⟩
  by_cases hb : a2 < 0
  · rw [if_pos (.inr hb)] at h
    simp only [Option.some.injEq, Prod.mk.injEq] at h
    obtain ⟨rfl, rfl⟩ := h
    have ha' : decide (a1 < 0) = false := decide_eq_false ha
    have hb' : decide (a2 < 0) = true := decide_eq_true hb
    go_enter Tryd.func24, Tryd.ntmps24
    go_wp2_with (go_at_call 31; refine (chars_text.calls k a0 t1 t2 _ HT.out HG.out).mono ?_; rintro e w5 ⟨rfl, hb5⟩)
    go_ret2
    exact ⟨rfl, hb5⟩
  rw [if_neg (by omega)] at h
  simp only [Option.some.injEq, Prod.mk.injEq] at h
  obtain ⟨hr, rfl⟩ := h
  have ha' : decide (a1 < 0) = false := decide_eq_false ha
  have hb' : decide (a2 < 0) = false := decide_eq_false hb
  have HR := Aside0.mk hr
  clear hr
  have h1 := Lib.hid (show 0 ≤ a1 by omega)
  have h2 := Lib.hid (show 0 ≤ a2 by omega)
  clear ha hb
  have kr := fun W => runes_conv (P := Tryd.prog) 9 58 21 Tryd.underlying9 Tryd.underlying58 Tryd.underlying21 a0 hs W
  have hI : (Tryd.prog.info? 21).map (fun i => (i.zero, i.size, i.bytes)) = some (some (.int .i32 0), 1, 4) := by kernel_rfl
  obtain ⟨i0, hi0, _, hsz0, _⟩ := info_parts hI
  clear hI
  have hm1 := mn_in (runesOf a0).length a1 h1.out
  obtain ⟨j1, hj1⟩ : ∃ j1, j1 = mn a1 (runesOf a0).length := ⟨_, rfl⟩
  rw [← hj1] at hm1
  obtain ⟨ys, hys⟩ : ∃ ys, ys = (runesOf a0).drop j1.toNat := ⟨_, rfl⟩
  have hm2 := mn_in ys.length a2 h2.out
  obtain ⟨j2, hj2⟩ : ∃ j2, j2 = mn a2 ys.length := ⟨_, rfl⟩
  rw [← hj2] at hm2
  obtain ⟨zs, hzs⟩ : ∃ zs, zs = ys.take j2.toNat := ⟨_, rfl⟩
  have HD : Hid (zs = ((runesOf a0).drop a1.toNat).take a2.toNat) := Lib.hid (by rw [hzs, hj2, take_mn, hys, hj1, drop_mn])
  have HY := Aside0.mk hys
  have HZ := Aside0.mk hzs
  clear hys hzs
  have e1 := hj1.symm
  have e2 := hj2.symm
  clear hj1 hj2
  have M1 := Aside0.mk hm1
  have M2 := Aside0.mk hm2
  clear hm1 hm2
  have hsr := Lib.hid (show a0.size ≤ 9223372036854775807 by omega)
  clear h1 h2
  have KR := Aside0.mk kr
  clear kr hs h
  have HI0 := Aside0.mk hi0
  clear hi0
  have HZ0 := Aside0.mk hsz0
  clear hsz0
  go_enter Tryd.func24, Tryd.ntmps24
  go_wp2_with (go_at_call 31; refine (chars_text.calls k a0 t1 t2 _ HT.out HG.out).mono ?_; rintro e w5 ⟨rfl, hb5⟩; have kr5 := KR.out w5; have hcc := grownCap_ge w5 (runesOf a0).length 0 21; have rd := runesW_reads w5 21 a0 hsr.out; have hb6 := Lib.hid (hb5.trans ((runesW_below w5 21 a0).mono hb5.size)); generalize grownCap w5 (runesOf a0).length 0 21 = c5 at kr5 hcc; generalize runesW w5 21 a0 = w6 at kr5 rd hb6; obtain ⟨A1, k1, rd1, l1⟩ := print_drop_of (P := Tryd.prog) (Value.int .i32) (0 : Int) 58 21 .i64 Tryd.underlying58 HI0.out HZ0.out (some ⟨w5.heap.size, 0, none⟩) c5 (runesOf a0) j1 M1.out.1 M1.out.2 hcc; rw [← HY.out] at k1 rd1 l1; obtain ⟨k2, rd2, l2⟩ := print_take_of (P := Tryd.prog) (Value.int .i32) (0 : Int) 58 21 .i64 Tryd.underlying58 HI0.out HZ0.out A1 (c5 - j1.toNat) ys j2 M2.out.1 M2.out.2 l1; rw [← HZ.out] at k2 rd2 l2; have kv := string_of_runes (P := Tryd.prog) (c := c5 - j1.toNat) Tryd.underlying58 Tryd.underlying21 Tryd.underlying9 (rd2 w6 (rd1 w6 rd)); clear hcc rd1 rd2 l1 l2 rd)
  go_ret2
  refine ⟨?_, hb6.out⟩
  have hz := HD.out
  have hr := HR.out
  rw [← hr, hz]
  rfl
end Go.Proofs.YtdmeafhhdhojlaaDoor.PB
