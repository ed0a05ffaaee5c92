/- Texts of this claim, one behind the other: UParse7, UCopied, POk. Conditions: those of each theorem. -/
import Derived.Test.YtealmfcimoomlaaGreatDoorUParse6
import Derived.Test.YtealmfcimoomlaaGreatDoorUWtree
import Derived.Laws.MakeOwn
import Derived.BigCall
import Derived.BigGuard
import Derived.Deep.QuietTactic
import Derived.BigQuiet
import Derived.Outline
/- markup.Parse: its closure as one to whom the reader tells. -/
namespace Go.Proofs.YtealmfcimoomlaaGreatDoor.PA
open Go.RowKit Go.Proofs.YtealmfcimoomlaaGreatDoorW.PrintWords Go.Proofs.YtealmfcimoomlaaGreatDoorW.PrintLast Go.Proofs.YtealmfcimoomlaaGreatDoorW.PrintMore
set_option linter.unusedVariables false
set_option linter.unusedSimpArgs false
theorem told_calls (B vo r : Nat) (l : List Evt) (e : Evt) (w0 w : World) (v : Value) (hP : OpenP B vo l w0) (hok : okEv l e) (hr : RB r w0) (hk : KeepR r w0 w) (hbl : Below B w0 w) (hB : B ≤ w0.heap.size) (hv : Kd.R k61 61 w w0.heap.size (fun _ => True) v e.attrs) :
    Calls Tryz.prog 26 #[e.val v, .pointer (some ⟨vo, 0, none⟩)] w fun x w' => x = .returned (.tuple #[]) ∧ OpenP B vo (l ++ [e]) w' ∧ KeepS w0.heap.size w w' ∧ Below B w w' := by
  obtain ⟨bs, ov, lv, hT⟩ := told_start hP hr hk hbl hB hv
  have h0 := hP.1
  have hsn := OkS.snoc h0 hok
  have hle := h0.le
  have hlk := h0.lk
  have hls := h0.ls
  have hst := stackOf_snoc l e
  cases hs : stackOf l with
  | nil => exact absurd hs (stackOf_ne l)
  | cons t ts =>
    rw [hs] at hT hle hlk hls hst
    obtain ⟨ek, en, ea, et⟩ := e
    obtain ⟨hl, hk3⟩ := hok
    simp only [List.length_cons] at hle hls
    rcases hk3 with hk3 | hk3 | ⟨hk3, hd⟩
    · simp only at hk3
      subst hk3
      refine (told1 B vo _ t ts en et ea w v bs ov lv hT (by omega)).mono ?_
      rintro x w' ⟨rfl, ⟨bs', ov', lv', h1⟩, h2, h3⟩
      exact ⟨rfl, ⟨hsn, bs', ov', lv', by rw [hst]; exact h1⟩, h2, h3⟩
    · simp only at hk3
      subst hk3
      refine (told2 B vo _ t ts en et ea w v bs ov lv hT (by omega) (by have := hlk t List.mem_cons_self; omega)).mono ?_
      rintro x w' ⟨rfl, ⟨bs', ov', lv', h1⟩, h2, h3⟩
      exact ⟨rfl, ⟨hsn, bs', ov', lv', by rw [hst]; exact h1⟩, h2, h3⟩
    · simp only at hk3
      subst hk3
      cases hts : ts with
      | nil => rw [hts] at hle; simp only [List.length_nil] at hle; omega
      | cons u us =>
        rw [hts] at hT hle hlk hls hst
        simp only [List.length_cons] at hle hls
        refine (told3 B vo _ t u us en et ea w v bs ov lv hT (by omega) (by have := hlk u (List.mem_cons_of_mem _ List.mem_cons_self); omega)).mono ?_
        rintro x w' ⟨rfl, ⟨bs', ov', lv', h1⟩, h2, h3⟩
        exact ⟨rfl, ⟨hsn, bs', ov', lv', by rw [hst]; exact h1⟩, h2, h3⟩
/-- markup.Parse's closure. -/
def parseSink (B r vo : Nat) : Sink B r where
  P := OpenP B vo
  g := 26
  lb := #[.pointer (some ⟨vo, 0, none⟩)]
  eg := fun args w => by kernel_rfl
  keep := fun l w w' h hr hk _ => h.keep hr hk
  grow := fun l w w' h hb => h.grow hb
  put := fun l w g c t fz u h hg ht => h.put hg ht u
  call := fun l e w0 w v hP hok hr hk hbl hB hv => told_calls B vo r l e w0 w v hP hok hr hk hbl hB hv
/-- markup.Parse's answer. -/
def rootOf : List TreeS → TreeS
  | [] => ⟨0, ⟨#[]⟩, [], ⟨#[]⟩, []⟩
  | [t] => t
  | _ :: u :: r => rootOf (u :: r)
def parseF (s : ByteArray) : List TreeS × Int × Int := if (scanF s).2.2 = 0 then ((rootOf (stackOf (scanF s).1)).f4, 0, 0) else ([], (scanF s).2.1, (scanF s).2.2)
theorem Frames.root {B : Nat} {lv : Nat → Nat} {w : World} : ∀ {bs : List Nat} {ts : List TreeS}, Frames B lv w bs ts → ts ≠ [] → ∃ b va vk, (ptrs bs.reverse)[0]? = some (.pointer (some ⟨b, 0, none⟩)) ∧ w.heap[b]? = some (.cells (tcells (rootOf ts) va vk) 35 (0, 0)) ∧ Kd.R k35 35 w B (fun _ => True) vk (rootOf ts).f4
  | [], [], _, h => absurd rfl h
  | [b], [t], h, _ => by
    obtain ⟨⟨h1, h2, va, vk, h3, h4, h5⟩, _, _⟩ := h
    exact ⟨b, va, vk, rfl, h3, Kd.R_mono h5 (fun _ _ => trivial)⟩
  | b :: c :: bs, t :: u :: r, h, _ => by
    obtain ⟨c', va, vk, h1, h2, h3⟩ := Frames.root h.2.2 (List.cons_ne_nil _ _)
    refine ⟨c', va, vk, ?_, h2, h3⟩
    have e : ptrs (b :: c :: bs).reverse = ptrs (c :: bs).reverse ++ [.pointer (some ⟨b, 0, none⟩)] := by
      unfold ptrs
      rw [List.reverse_cons, List.map_append]
      rfl
    rw [e, List.getElem?_append_left (by simp [ptrs])]
    exact h1
  | b :: c :: bs, [t], h, _ => h.2.2.elim
  | [b], t :: u :: r, h, _ => h.2.2.elim
  | [], _ :: _, h, _ => h.elim
  | _ :: _, [], h, _ => h.elim
set_option maxHeartbeats 16000000 in
set_option maxRecDepth 100000 in
theorem Parse_calls (s : ByteArray) (w : World) (hE : Env w.heap.size w) :
    Calls Tryz.prog 10 #[.string s] w fun x w' => ∃ v, x = .returned (.tuple #[v, .int .i64 (parseF s).2.1, .int .i64 (parseF s).2.2]) ∧ Kd.R k35 35 w' w.heap.size (fun _ => True) v (parseF s).1 ∧ Below w.heap.size w w' := by
  have hmf : ∀ (fn : Fn) (first cap : Array Value) (w : World), (Instr.makeFunc fn first cap).run Tryz.prog w = .ok (.func fn first cap) w := fun _ _ _ _ => rfl
  have s1 : (w.alloc (.cells #[.int .i64 0, .string ⟨#[]⟩, .slice none 0 0, .string ⟨#[]⟩, .slice none 0 0] 35)).heap.size = w.heap.size + 1 := by simp only [World.alloc, Array.size_push]
  have s2 : ((w.alloc (.cells #[.int .i64 0, .string ⟨#[]⟩, .slice none 0 0, .string ⟨#[]⟩, .slice none 0 0] 35)).alloc (.cells #[.pointer (some ⟨w.heap.size, 0, none⟩)] 53)).heap.size = w.heap.size + 1 + 1 := by simp only [World.alloc, Array.size_push]
  have b1 := (Below.refl w.heap.size w).alloc (Nat.le_refl _) (.cells #[.int .i64 0, .string ⟨#[]⟩, .slice none 0 0, .string ⟨#[]⟩, .slice none 0 0] 35)
  have b2 := b1.alloc (by rw [s1]; omega) (.cells #[.pointer (some ⟨w.heap.size, 0, none⟩)] 53)
  have b3 := b2.alloc (by rw [s2]; omega) (.cells #[.slice (some ⟨w.heap.size + 1, 0, none⟩) 1 1] 54)
  have n1 := blk_new w (.cells #[.int .i64 0, .string ⟨#[]⟩, .slice none 0 0, .string ⟨#[]⟩, .slice none 0 0] 35)
  have n2 := blk_new (w.alloc (.cells #[.int .i64 0, .string ⟨#[]⟩, .slice none 0 0, .string ⟨#[]⟩, .slice none 0 0] 35)) (.cells #[.pointer (some ⟨w.heap.size, 0, none⟩)] 53)
  have n3 := blk_new ((w.alloc (.cells #[.int .i64 0, .string ⟨#[]⟩, .slice none 0 0, .string ⟨#[]⟩, .slice none 0 0] 35)).alloc (.cells #[.pointer (some ⟨w.heap.size, 0, none⟩)] 53)) (.cells #[.slice (some ⟨w.heap.size + 1, 0, none⟩) 1 1] 54)
  rw [s1] at n2
  rw [s2] at n3
  have k2 := (Below.heap_alloc ((w.alloc (.cells #[.int .i64 0, .string ⟨#[]⟩, .slice none 0 0, .string ⟨#[]⟩, .slice none 0 0] 35)).alloc (.cells #[.pointer (some ⟨w.heap.size, 0, none⟩)] 53)) (.cells #[.slice (some ⟨w.heap.size + 1, 0, none⟩) 1 1] 54) (w.heap.size + 1) (by rw [s2]; omega)).trans n2
  have k1 := (Below.heap_alloc ((w.alloc (.cells #[.int .i64 0, .string ⟨#[]⟩, .slice none 0 0, .string ⟨#[]⟩, .slice none 0 0] 35)).alloc (.cells #[.pointer (some ⟨w.heap.size, 0, none⟩)] 53)) (.cells #[.slice (some ⟨w.heap.size + 1, 0, none⟩) 1 1] 54) w.heap.size (by rw [s2]; omega)).trans ((Below.heap_alloc (w.alloc (.cells #[.int .i64 0, .string ⟨#[]⟩, .slice none 0 0, .string ⟨#[]⟩, .slice none 0 0] 35)) (.cells #[.pointer (some ⟨w.heap.size, 0, none⟩)] 53) w.heap.size (by rw [s1]; omega)).trans n1)
  have hO : OpenP w.heap.size (w.heap.size + 1 + 1) [] (((w.alloc (.cells #[.int .i64 0, .string ⟨#[]⟩, .slice none 0 0, .string ⟨#[]⟩, .slice none 0 0] 35)).alloc (.cells #[.pointer (some ⟨w.heap.size, 0, none⟩)] 53)).alloc (.cells #[.slice (some ⟨w.heap.size + 1, 0, none⟩) 1 1] 54)) := by
    refine ⟨OkS.nil, [w.heap.size], .slice (some ⟨w.heap.size + 1, 0, none⟩) 1 1, fun k => 0, by omega, n3, ?_, ⟨⟨Nat.le_refl _, rfl, .slice none 0 0, .slice none 0 0, k1, Kd.R_nil _ _ _ _ _, Kd.R_nil _ _ _ _ _⟩, List.not_mem_nil, trivial⟩⟩
    exact ⟨rfl, .inr ⟨w.heap.size + 1, 1, #[.pointer (some ⟨w.heap.size, 0, none⟩)], rfl, by omega, k2, Nat.le_refl _, by decide, rfl, rfl⟩⟩
  have HB3 := Aside0.mk b3
  have HSC := Aside0.mk (Scan_calls w.heap.size ((((w.alloc (.cells #[.int .i64 0, .string ⟨#[]⟩, .slice none 0 0, .string ⟨#[]⟩, .slice none 0 0] 35)).alloc (.cells #[.pointer (some ⟨w.heap.size, 0, none⟩)] 53)).alloc (.cells #[.slice (some ⟨w.heap.size + 1, 0, none⟩) 1 1] 54)).heap.size + 1 + 1) s (((w.alloc (.cells #[.int .i64 0, .string ⟨#[]⟩, .slice none 0 0, .string ⟨#[]⟩, .slice none 0 0] 35)).alloc (.cells #[.pointer (some ⟨w.heap.size, 0, none⟩)] 53)).alloc (.cells #[.slice (some ⟨w.heap.size + 1, 0, none⟩) 1 1] 54)) rfl (parseSink w.heap.size ((((w.alloc (.cells #[.int .i64 0, .string ⟨#[]⟩, .slice none 0 0, .string ⟨#[]⟩, .slice none 0 0] 35)).alloc (.cells #[.pointer (some ⟨w.heap.size, 0, none⟩)] 53)).alloc (.cells #[.slice (some ⟨w.heap.size + 1, 0, none⟩) 1 1] 54)).heap.size + 1 + 1) (w.heap.size + 1 + 1)) hO (hE.step b3))
  unfold parseF
  generalize hres : scanF s = res at *
  obtain ⟨l, at_, ee⟩ := res
  have HO := Aside0.mk hO
  clear s1 s2 b1 b2 b3 n1 n2 n3 k1 k2 hO hres
  simp only
  go_enter Tryz.func10, Tryz.ntmps10
  have HSD := Aside0.mk (show Calls Tryz.prog 25 #[.string s, .func (.func 26) #[] #[.pointer (some ⟨w.heap.size + 1 + 1, 0, none⟩)]] _ (fun e w' => e = .returned (.tuple #[.int .i64 at_, .int .i64 ee]) ∧ OpenP w.heap.size (w.heap.size + 1 + 1) l w' ∧ Below w.heap.size _ w') from HSC.out)
  clear HSC
  by_cases hee : ee = 0
  · rw [if_pos hee]
    subst hee
    have hz : ((0 : Int) != 0) = false := rfl
    go_wp2_with (go_at_call 25; refine HSD.out.mono ?_)
    rintro e w2 ⟨rfl, hP2, hB2⟩
    have HB2 := Aside0.mk hB2
    obtain ⟨hok, bs, ov, lv, hs⟩ := hP2
    have hlen := hs.fr.len
    obtain ⟨b, va, vk, h1, h2, h3⟩ := hs.fr.root (stackOf_ne l)
    generalize hrt : rootOf (stackOf l) = rt at h2 h3
    have HRT := Aside0.mk hrt
    clear hrt
    have hro := hs.ro
    obtain ⟨ho1, ⟨ho2, ho3⟩ | ⟨g, cap, cur, ho2, ho4, ho5, ho6, ho7, ho8, ho9⟩⟩ := hro
    · rw [List.length_eq_zero_iff.mp ho3] at h1; simp [ptrs] at h1
    have hvo := hs.ho
    have hpos : 0 < bs.length := by
      rcases Nat.eq_zero_or_pos bs.length with h | h
      · have := hok.le
        have e := stackOf_ne l
        rw [h] at hlen
        exact absurd (List.length_eq_zero_iff.mp hlen.symm) e
      · exact h
    have hcg : w2.cell? ⟨g, 0, none⟩ = some (.pointer (some ⟨b, 0, none⟩)) := by
      rw [blk_cell ho5]
      rw [← ho9, List.getElem?_take, if_pos (by omega), Array.getElem?_toList] at h1
      exact h1
    have hpl : (ptrs bs.reverse).length = bs.length := by simp [ptrs]
    subst ho2
    obtain ⟨Ak, ck, rfl⟩ := Kd.R_slice h3
    have cv := (blk_cell hvo 0).trans rfl
    have cb : w2.cell? ⟨b, 4, none⟩ = some (.slice Ak rt.f4.length ck) := (blk_cell h2 4).trans rfl
    have HR3 := Aside0.mk h3
    have q1 := eq_true (show (0 : Int) < (bs.length : Int) by omega)
    have q2 := eq_true hpos
    generalize bs.length = N at *
    clear hB2 hok hs hlen h1 h2 h3 ho1 ho4 ho5 ho6 ho7 ho8 ho9 hvo hpos hpl HSD HO
    go_wp2_with fail
    go_ret3
    rw [HRT.out]
    exact ⟨.slice Ak rt.f4.length ck, rfl, HR3.out, HB3.out.trans HB2.out⟩
  · rw [if_neg hee]
    have f0 : (ee != 0) = true := bne_iff_ne.mpr hee
    have f1 : (ee == 0) = false := beq_eq_false_iff_ne.mpr hee
    clear hee
    go_wp2_with (go_at_call 25; refine HSD.out.mono ?_; rintro e w2 ⟨rfl, hP2, hB2⟩; have HP2 := Aside0.mk hP2; have HB2 := Aside0.mk hB2; clear hP2 hB2)
    go_ret3
    exact ⟨_, rfl, Kd.R_nil _ _ _ _ _, HB3.out.trans HB2.out⟩
end Go.Proofs.YtealmfcimoomlaaGreatDoor.PA

/- espalierlaw04.Copied. Written by wip/gen/copied.py. -/
namespace Go.Proofs.YtealmfcimoomlaaGreatDoor.PA
open Go.RowKit Go.Proofs.YtealmfcimoomlaaGreatDoorW.PrintWords Go.Proofs.YtealmfcimoomlaaGreatDoorW.PrintLast Go.Proofs.YtealmfcimoomlaaGreatDoorW.PrintMore
set_option linter.unusedVariables false
set_option linter.unusedSimpArgs false
theorem infoACo : (Tryz.prog.info? 61).map (fun i => (i.zero, i.size, i.bytes)) = some (some (.agg #[(.string ⟨#[]⟩), (.string ⟨#[]⟩)]), 2, 32) := by kernel_rfl
theorem infoC_tree : (Tryz.prog.info? 35).map (fun i => (i.zero, i.size, i.bytes)) = some (some (.agg #[(.int .i64 0), (.string ⟨#[]⟩), (.slice none 0 0), (.string ⟨#[]⟩), (.slice none 0 0)]), 5, 88) := by kernel_rfl
mutual
def copyT : S35 → Prop
  | ⟨_, _, f2, _, f4⟩ => f2.length ≤ 4398046511000 ∧ f4.length ≤ 1599289640390 ∧ copyK f4
def copyK : List S35 → Prop
  | [] => True
  | t :: l => copyT t ∧ copyK l
end
theorem copyK_mem : ∀ (l : List S35), copyK l → ∀ a ∈ l, copyT a
  | [], _, a, ha => by cases ha
  | t :: l, h, a, ha => by
    rw [copyK] at h
    rcases List.mem_cons.1 ha with rfl | ha
    · exact h.1
    · exact copyK_mem l h.2 a ha
theorem copyT_parts (a : S35) (h : copyT a) : a.f2.length ≤ 4398046511000 ∧ a.f4.length ≤ 1599289640390 ∧ copyK a.f4 := by
  cases a; rw [copyT] at h; exact h
theorem room_R {α : Type} (d : Kd α) (e : TypeId) (base : Nat) (W : World) (hb : base ≤ W.heap.size) (z : Array Value) (cap : Nat) (hc : cap ≤ maxLen) (ok : Nat → Prop) (hok : ∀ k, W.heap.size ≤ k → ok k) :
    Kd.R d e (W.alloc (.cells (madeCells z (cap * d.sz)) e)) base ok (.slice (some ⟨W.heap.size, 0, none⟩) 0 cap) [] := by
  refine ⟨fun k hk => hok k (Nat.le_of_eq (by simpa [Value.ownBlock] using hk)), [], ⟨by simp, .inr ⟨W.heap.size, cap, _, rfl, hb, heap_alloc_new W _, Nat.zero_le _, hc, by rw [size_madeCells], by simp⟩⟩, Reps.none _ _⟩
set_option maxRecDepth 100000 in
theorem room_attr (m : Nat) (hm : m ≤ 4398046511000) (W : World) :
    (Instr.makeSlice 33 (.int .i64 0) (.int .i64 (wrap64 ((m : Int) + 1)))).run Tryz.prog W = .ok (.slice (some ⟨W.heap.size, 0, none⟩) 0 (m + 1)) (W.alloc (.cells (madeCells #[.string ByteArray.empty, .string ByteArray.empty] ((m + 1) * 2)) 61)) := by
  obtain ⟨i0, hi, hzz⟩ := Option.map_eq_some_iff.1 (infoACo)
  simp only [Prod.mk.injEq] at hzz
  obtain ⟨hz0, hz1, hz2⟩ := hzz
  have hw : wrap64 ((m : Int) + 1) = ((m + 1 : Nat) : Int) := by unfold wrap64; omega
  have hr := run_make (P := Tryz.prog) W 33 61 i0 _ Tryz.underlying33 hi hz0 .i64 .i64 0 ((m + 1 : Nat) : Int) (by omega) (by omega) (by rw [hz2]; omega) (by omega)
  rw [hw, hr, hz1, Int.toNat_natCast]
  rfl
set_option maxRecDepth 100000 in
theorem room_tree (m : Nat) (hm : m ≤ 1599289640390) (W : World) :
    (Instr.makeSlice 22 (.int .i64 0) (.int .i64 ((m : Int) + 2))).run Tryz.prog W = .ok (.slice (some ⟨W.heap.size, 0, none⟩) 0 (m + 2)) (W.alloc (.cells (madeCells #[.int .i64 0, .string ByteArray.empty, .slice none 0 0, .string ByteArray.empty, .slice none 0 0] ((m + 2) * 5)) 35)) := by
  obtain ⟨i0, hi, hzz⟩ := Option.map_eq_some_iff.1 (infoC_tree)
  simp only [Prod.mk.injEq] at hzz
  obtain ⟨hz0, hz1, hz2⟩ := hzz
  have hw : ((m : Int) + 2) = ((m + 2 : Nat) : Int) := by omega
  have hr := run_make (P := Tryz.prog) W 22 35 i0 _ Tryz.underlying22 hi hz0 .i64 .i64 0 ((m + 2 : Nat) : Int) (by omega) (by omega) (by rw [hz2]; omega) (by omega)
  rw [hw, hr, hz1, Int.toNat_natCast]
  rfl
set_option maxHeartbeats 8000000 in
set_option maxRecDepth 1000000 in
theorem copied_calls : ∀ (n : Nat) (l : List S35), SizeOf.sizeOf l ≤ n → ∀ (A : Option Addr) (c : Nat) (w : World), Kd.C k35 w A l.length l → l.length ≤ c → l.length ≤ 1599289640390 → copyK l →
    Calls Tryz.prog 19 #[.slice A l.length c] w fun e w' => ∃ v, e = .returned v ∧ Kd.R k35 35 w' w.heap.size (fun _ => True) v l ∧ Below w.heap.size w w' := by
  intro n
  induction n with
  | zero => intro l h; cases l <;> simp at h
  | succ n ih =>
    intro l hn A c w hC hc hm hk
    have HC := Aside0.mk hC
    have HN := Aside0.mk hn
    have IH := Aside0.mk ih
    have HK := Aside0.mk hk
    have hmt := room_tree l.length hm
    clear hC hn ih hk
    have HR0 := Aside0.mk (room_R k35 35 w.heap.size w (Nat.le_refl _) #[.int .i64 0, .string ByteArray.empty, .slice none 0 0, .string ByteArray.empty, .slice none 0 0] (l.length + 2) (by unfold maxLen; omega) (fun _ => True) (fun _ _ => trivial))
    have HB0 := Aside0.mk ((Below.refl w.heap.size w).alloc (Nat.le_refl _) (.cells (madeCells #[.int .i64 0, .string ByteArray.empty, .slice none 0 0, .string ByteArray.empty, .slice none 0 0] ((l.length + 2) * 5)) 35))
    go_enter Tryz.func19, Tryz.ntmps19
    go_wp2
    go_loopw [3, 4] (fun s3 s4 wr => ∃ (i : Nat) (Ax : Option Addr) (cx : Nat), i ≤ l.length ∧ s4 = .int .i64 i ∧ s3 = .slice Ax i cx ∧ Aside0 (Kd.R k35 35 wr w.heap.size (fun _ => True) (.slice Ax i cx) (l.take i) ∧ Below w.heap.size w wr)) (fun _ s4 _ => l.length - (intOf s4).toNat)
    case atStart => exact ⟨0, _, _, Nat.zero_le _, rfl, rfl, ⟨⟨HR0.out, HB0.out⟩⟩⟩
    case round =>
      obtain ⟨i, Ax, cx, hi, rfl, rfl, ⟨hR, hB⟩⟩ := hrel
      have HR := Aside0.mk hR
      have HB := Aside0.mk hB
      clear hR hB HR0 HB0 hmt
      by_cases hlt : i < l.length
      case neg =>
        have : i = l.length := by omega
        subst this
        rw [List.take_length] at HR
        go_wp2
        go_ret
        exact ⟨_, rfl, HR.out, HB.out⟩
      have hltz : (i : Int) < (l.length : Int) := by omega
      obtain ⟨ad, A2, c2, A4, c4, rfl, y0, y1, y2, y3, y4, z2, z3, z4, z5⟩ := at_T35 HC.out (i : Int) (by omega) hltz
      have y0 := pw_cell_below HB.out y0
      have y1 := pw_cell_below HB.out y1
      have y2 := pw_cell_below HB.out y2
      have y3 := pw_cell_below HB.out y3
      have y4 := pw_cell_below HB.out y4
      rw [Int.toNat_natCast] at y0 y1 y2 y3 y4
      have hmem : rd_T35 l (i : Int) ∈ l := rd36_mem _ _ hlt
      have hsz : SizeOf.sizeOf (rd_T35 l (i : Int)).f4 ≤ n := by
        have h1 := List.sizeOf_lt_of_mem hmem
        have h2 := HN.out
        have h3 := size_kids (rd_T35 l (i : Int))
        omega
      have htk := Aside0.mk (take36 l i hlt)
      obtain ⟨hca, hcb, hcc⟩ := copyT_parts _ (copyK_mem l HK.out _ hmem)
      generalize rd_T35 l (i : Int) = a at y0 y1 y2 y3 y4 z2 z3 z4 z5 hsz htk hca hcb hcc
      have hmk := room_attr a.f2.length hca
      have HCA := Aside0.mk hca
      clear hca
      have hal := (Below.refl wr.heap.size wr).alloc (Nat.le_refl _) (.cells #[.int .i64 a.f0, .string a.f1, .slice A2 a.f2.length c2, .string a.f3, .slice A4 a.f4.length c4] 35)
      have B1 := Aside0.mk (heap_alloc_new wr (.cells #[.int .i64 a.f0, .string a.f1, .slice A2 a.f2.length c2, .string a.f3, .slice A4 a.f4.length c4] 35))
      have HR1 := Aside0.mk (Kd.R_below (Kd.R_elderB HR.out wr.heap.size (Nat.le_refl _)) hal)
      have HB1 := Aside0.mk (HB.out.trans (hal.mono HB.out.size))
      have G1 := Aside0.mk HB.out.size
      have Z3 := Aside0.mk (Kd.C_below z3 HB1.out)
      have Z5 := Aside0.mk z5
      have Z4 := Aside0.mk z4
      have HCC := Aside0.mk hcc
      have HSZ := Aside0.mk hsz
      clear HR HB z2 z3 z4 z5 hmem hal hcc hsz
      go_wp2
      generalize hw2 : wr.alloc (.cells #[.int .i64 a.f0, .string a.f1, .slice A2 a.f2.length c2, .string a.f3, .slice A4 a.f4.length c4] 35) = w2 at *
      generalize hg1 : wr.heap.size = g1 at *
      clear hw2 hg1 y0 y1 y2 y3 y4
      refine start_ (n := 10) (S := fun w' => w'.cell? ⟨g1, 2, none⟩ = some (.slice A2 a.f2.length c2)) (ds := [9]) #[false, false, false, false, false, false, false, false, false, false] (by kernel_rfl) rfl rfl ((blk_cell B1.out 2).trans rfl) (fun hHeld => ?_)
      refine pure_ (i := 0) (N := some 20) (v := ?_) (a' := ?_) #[true, false, false, false, false, false, false, false, false, false] rfl rfl (by kernel_rfl) (fun _ _ _ h => h) (Or.inl ⟨by rfl, ?_⟩) ?_ ?_
      rotate_left
      · intro w'
        go_simp
        with_reducible rfl
      rotate_left
      · simp only [Act.put, List.setIfInBounds_toArray, List.set_cons_zero, List.set_cons_succ, i64_w, i32_w]
        rfl
      refine pure_ (i := 5) (N := some 25) (v := ?_) (a' := ?_) #[true, false, false, false, false, true, false, false, false, false] rfl rfl (by kernel_rfl) (fun _ _ _ h => h) (Or.inl ⟨by rfl, ?_⟩) ?_ ?_
      rotate_left
      · intro w'
        go_simp
        with_reducible rfl
      rotate_left
      · simp only [Act.put, List.setIfInBounds_toArray, List.set_cons_zero, List.set_cons_succ, i64_w, i32_w]
        rfl
      refine take_ (i := 1) (N := some 21) (v := ?_) (a' := ?_) #[true, true, false, false, false, true, false, false, false, false] rfl rfl (by kernel_rfl) (fun _ _ _ h => h) (Or.inl ⟨by rfl, ?_⟩) hHeld ?_ ?_
      rotate_left
      · intro w' s0
        go_simp
        with_reducible rfl
      rotate_left
      · simp only [Act.put, List.setIfInBounds_toArray, List.set_cons_zero, List.set_cons_succ, i64_w, i32_w]
        rfl
      refine pure_ (i := 2) (N := some 22) (v := ?_) (a' := ?_) #[true, true, true, false, false, true, false, false, false, false] rfl rfl (by kernel_rfl) (fun _ _ _ h => h) (Or.inl ⟨by rfl, ?_⟩) ?_ ?_
      rotate_left
      · intro w'
        go_simp
        with_reducible rfl
      rotate_left
      · simp only [Act.put, List.setIfInBounds_toArray, List.set_cons_zero, List.set_cons_succ, i64_w, i32_w]
        rfl
      refine pure_ (i := 3) (N := some 23) (v := ?_) (a' := ?_) #[true, true, true, true, false, true, false, false, false, false] rfl rfl (by kernel_rfl) (fun _ _ _ h => h) (Or.inl ⟨by rfl, ?_⟩) ?_ ?_
      rotate_left
      · intro w'
        go_simp
        with_reducible rfl
      rotate_left
      · simp only [Act.put, List.setIfInBounds_toArray, List.set_cons_zero, List.set_cons_succ, i64_w, i32_w]
        rfl
      refine take_ (i := 6) (N := some 26) (v := ?_) (a' := ?_) #[true, true, true, true, false, true, true, false, false, false] rfl rfl (by kernel_rfl) (fun _ _ _ h => h) (Or.inl ⟨by rfl, ?_⟩) hHeld ?_ ?_
      rotate_left
      · intro w' s0
        go_simp
        with_reducible rfl
      rotate_left
      · simp only [Act.put, List.setIfInBounds_toArray, List.set_cons_zero, List.set_cons_succ, i64_w, i32_w]
        rfl
      refine one_ (i := 4) (N := some 24) #[true, true, true, true, true, true, true, false, false, false] rfl rfl (by kernel_rfl) (by decide) (fun K hK => ?_)
      refine value_ (w1 := ?_) (v := ?_) (by rfl) rfl ?_ ?_
      rotate_left 2
      · go_simp
        constructor
        · rfl
        · rfl
      have HB3 := Aside0.mk (show Below w2.heap.size w2 (w2.alloc (.cells (madeCells #[.string ByteArray.empty, .string ByteArray.empty] ((a.f2.length + 1) * 2)) 61)).drew from Below.drew (show Below w2.heap.size w2 (w2.alloc (.cells (madeCells #[.string ByteArray.empty, .string ByteArray.empty] ((a.f2.length + 1) * 2)) 61)) from below_alloc (Below.refl _ _) (.cells (madeCells #[.string ByteArray.empty, .string ByteArray.empty] ((a.f2.length + 1) * 2)) 61)))
      have B13 := Aside0.mk (show (w2.alloc (.cells (madeCells #[.string ByteArray.empty, .string ByteArray.empty] ((a.f2.length + 1) * 2)) 61)).drew.heap[g1]? = _ from blk_below B1.out HB3.out)
      have HO := Aside0.mk (show Kd.R k61 61 (w2.alloc (.cells (madeCells #[.string ByteArray.empty, .string ByteArray.empty] ((a.f2.length + 1) * 2)) 61)).drew w2.heap.size (fun k => w2.heap.size ≤ k) _ _ from room_R k61 61 w2.heap.size w2.drew (Nat.le_refl _) _ (a.f2.length + 1) (by have := HCA.out; unfold maxLen; omega) (fun k => w2.heap.size ≤ k) (fun k hk => hk))
      have HF := Aside0.mk (show ∀ k, (w2.alloc (.cells (madeCells #[.string ByteArray.empty, .string ByteArray.empty] ((a.f2.length + 1) * 2)) 61)).drew.heap.size ≤ k → w2.heap.size ≤ k from fun k hk => Nat.le_trans HB3.out.size hk)
      generalize hw3 : (w2.alloc (.cells (madeCells #[.string ByteArray.empty, .string ByteArray.empty] ((a.f2.length + 1) * 2)) 61)).drew = w3 at *
      clear hw3 hmk
      refine hK.out _ _ ((blk_cell B13.out 2).trans rfl) (fun hHeld => ?_)
      clear hK K
      refine norm_ (a' := ?_) ?_ ?_
      rotate_left
      · show Act.put _ (some 24) _ = _
        simp only [Act.put, List.setIfInBounds_toArray, List.set_cons_zero, List.set_cons_succ, i64_w, i32_w]
        rfl
      refine one_ (i := 7) (N := some 27) #[true, true, true, true, true, true, true, true, false, false] rfl rfl (by kernel_rfl) (by decide) (fun K hK => ?_)
      refine Kd.R_append_rows_step k61 (w0 := w2) w2.heap.size (by rfl) (.tmp 24) (.tmp 26) 33 61 (.agg #[(.string ⟨#[]⟩), (.string ⟨#[]⟩)]) 32 rfl Tryz.underlying33 infoACo rfl (by decide) (by decide) _ ([] : List S61) a.f2 A2 a.f2.length c2 (fun k => w2.heap.size ≤ k) (fun _ => False) (by rfl) (by rfl) HO.out ?aR (fun _ _ h => h) (fun k h => h.elim) HF.out HB3.out HB3.out.size (by have := HCA.out; simp only [List.length_nil]; omega) ?_
      case aR => exact Kd.C_below Z3.out HB3.out
      intro v1 w5 hR hb hg hat
      rw [List.nil_append] at hR
      obtain ⟨Ao, co, rfl⟩ := Kd.R_slice hR
      have B15 := Aside0.mk ((hb.block g1 (blk_lt B1.out)).trans B1.out)
      have HR5 := Aside0.mk hR
      have HB5 := Aside0.mk hb
      have z5 := blk_frozen B15.out 2
      clear hR hb hg hat B13 HO HF HB3
      refine hK.out _ _ ((blk_cell B15.out 2).trans rfl) (fun hHeld => ?_)
      clear hK K
      refine norm_ (a' := ?_) ?_ ?_
      rotate_left
      · show Act.put _ (some 27) _ = _
        simp only [Act.put, List.setIfInBounds_toArray, List.set_cons_zero, List.set_cons_succ, i64_w, i32_w]
        rfl
      refine pure_ (i := 8) (N := some 28) (v := ?_) (a' := ?_) #[true, true, true, true, true, true, true, true, true, false] rfl rfl (by kernel_rfl) (fun _ _ _ h => h) (Or.inl ⟨by rfl, ?_⟩) ?_ ?_
      rotate_left
      · intro w'
        go_simp
        with_reducible rfl
      rotate_left
      · simp only [Act.put, List.setIfInBounds_toArray, List.set_cons_zero, List.set_cons_succ, i64_w, i32_w]
        rfl
      refine last_ (i := 9) (N := none) #[true, true, true, true, true, true, true, true, true, true] rfl rfl (by kernel_rfl) (by decide) (fun K hK => ?_)
      refine skip_ (w1 := ?_) (by rfl) rfl ?_ ?_
      rotate_left
      · go_simp
        rfl
      refine hK.out _ _ ?_
      clear hK K
      refine done_ (by kernel_rfl) ?_

      have L1 := Aside0.mk (blk_lt B1.out)
      have B16 := Aside0.mk (show (w5.setCell ⟨g1, 2, none⟩ (.slice Ao a.f2.length co)).heap[g1]? = some (.cells #[.int .i64 a.f0, .string a.f1, .slice Ao a.f2.length co, .string a.f3, .slice A4 a.f4.length c4] 35 (0, 0)) from blk_set B15.out 2 _)
      have HB6 := Aside0.mk (below_set (j := 2) (v := .slice Ao a.f2.length co) (HB1.out.trans (HB5.out.mono HB1.out.size)) G1.out)
      have HR6 := Aside0.mk (Kd.R_far (Kd.R_below HR1.out HB5.out) (p := ⟨g1, 2, none⟩) (fun k hk => hk.2) (.slice Ao a.f2.length co))
      have HA6 := Aside0.mk (Kd.R_far HR5.out (p := ⟨g1, 2, none⟩) (fun k hk => show k ≠ g1 by have := L1.out; omega) (.slice Ao a.f2.length co))
      have S6 := Aside0.mk (show w2.heap.size ≤ (w5.setCell ⟨g1, 2, none⟩ (.slice Ao a.f2.length co)).heap.size by have := HB5.out.size; simpa using this)
      have O1 := Aside0.mk (Kd.R_lt HR1.out)
      generalize hw6 : w5.setCell ⟨g1, 2, none⟩ (.slice Ao a.f2.length co) = w6 at *
      clear hw6 B15 HR5 HB5 z5 hHeld B1 HR1 HB1
      have HI := Aside0.mk (IH.out a.f4 HSZ.out A4 c4 w6 (Kd.C_below Z5.out HB6.out) Z4.out hcb HCC.out)
      have q0 := (blk_cell B16.out 0).trans rfl
      have q1 := (blk_cell B16.out 1).trans rfl
      have q2 := (blk_cell B16.out 2).trans rfl
      have q3 := (blk_cell B16.out 3).trans rfl
      have q4 := (blk_cell B16.out 4).trans rfl
      go_wp2_with (go_at_call 19; refine HI.out.mono ?_)
      rintro e w7 ⟨v7, rfl, hR7, hB7⟩
      obtain ⟨A7, c7, rfl⟩ := Kd.R_slice hR7
      have B17 := (hB7.block g1 (blk_lt B16.out)).trans B16.out
      have B18 := Aside0.mk (show (w7.setCell ⟨g1, 4, none⟩ (.slice A7 a.f4.length c7)).heap[g1]? = some (.cells #[.int .i64 a.f0, .string a.f1, .slice Ao a.f2.length co, .string a.f3, .slice A7 a.f4.length c7] 35 (0, 0)) from blk_set B17 4 _)
      have HB8 := Aside0.mk (below_set (j := 4) (v := .slice A7 a.f4.length c7) (HB6.out.trans (hB7.mono HB6.out.size)) G1.out)
      have HR8 := Aside0.mk (Kd.R_far (Kd.R_below HR6.out hB7) (p := ⟨g1, 4, none⟩) (fun k hk => hk.2) (.slice A7 a.f4.length c7))
      have HA8 := Aside0.mk (Kd.R_far (Kd.R_below HA6.out hB7) (p := ⟨g1, 4, none⟩) (fun k hk => show k ≠ g1 by have := L1.out; omega) (.slice A7 a.f4.length c7))
      have HK8 := Aside0.mk (Kd.R_far (Kd.R_mono (ok' := fun k => w6.heap.size ≤ k) (Kd.R_bound hR7) (fun k hk => hk.2.1)) (p := ⟨g1, 4, none⟩) (fun k hk => show k ≠ g1 by have := L1.out; have := S6.out; omega) (.slice A7 a.f4.length c7))
      have z74 := blk_frozen B17 4
      have x4 := (blk_cell B17 4).trans rfl
      have q0 := (blk_cell B18.out 0).trans rfl
      have q1 := (blk_cell B18.out 1).trans rfl
      have q2 := (blk_cell B18.out 2).trans rfl
      have q3 := (blk_cell B18.out 3).trans rfl
      have q4 := (blk_cell B18.out 4).trans rfl
      clear hR7 hB7 B17 B16 HR6 HA6 HB6 HI
      go_wp2_with (at_builtin; (refine Kd.R_append k35 (w0 := w) w.heap.size rfl (.tmp 33) (.tmp 35) 22 35 (.agg #[(.int .i64 0), (.string ⟨#[]⟩), (.slice none 0 0), (.string ⟨#[]⟩), (.slice none 0 0)]) 88 rfl Tryz.underlying22 infoC_tree rfl (by decide) (by decide) (.slice Ax i cx) (l.take i) a [.int .i64 a.f0, .string a.f1, .slice Ao a.f2.length co, .string a.f3, .slice A7 a.f4.length c7] (fun _ => True) (fun k => True ∧ some k ≠ (.slice Ax i cx : Value).ownBlock) rfl (show Value.slice (some ⟨w7.heap.size, 0, none⟩) 1 1 = .slice (some ⟨(w7.setCell ⟨g1, 4, none⟩ (.slice A7 a.f4.length c7)).heap.size, 0, none⟩) 1 1 by simp [World.setCell]) ?aP (fun _ hk => hk) (fun _ _ => trivial) (Kd.R_mono HR8.out (fun _ _ => trivial)) HB8.out HB8.out.size ?aL ?_))
      case aP =>
        have n1 : ∀ k, w2.heap.size ≤ k → some k ≠ (Value.slice Ax i cx).ownBlock := fun k hk e => by have := O1.out k e.symm; omega
        have n2 : ∀ k, w6.heap.size ≤ k → some k ≠ (Value.slice Ax i cx).ownBlock := fun k hk e => by have := O1.out k e.symm; have := S6.out; omega
        have b1 : w.heap.size ≤ w2.heap.size := by have := L1.out; have := G1.out; omega
        have b2 : w.heap.size ≤ w6.heap.size := by have := S6.out; omega
        exact k35_mkM _ _ _ a (Kd.R_lower (Kd.R_mono HA8.out (fun k hk => ⟨trivial, n1 k hk⟩)) b1) (Kd.R_lower (Kd.R_mono HK8.out (fun k hk => ⟨trivial, n2 k hk⟩)) b2)
      case aL => rw [List.length_take]; omega
      intro v1 w9 ho hb hg hat
      rw [← htk.out] at ho
      have hl9 : (l.take (i + 1)).length = i + 1 := by rw [List.length_take]; omega
      obtain ⟨A9, c9, e9⟩ := Kd.R_slice ho
      rw [hl9] at e9
      subst e9
      have HO9 := Aside0.mk ho
      have HB9 := Aside0.mk hb
      clear ho hb hg hat hl9 HR8 HA8 HK8 B18 z74 x4 q0 q1 q2 q3 q4
      go_wp2
      go_roundw
      case rel => exact ⟨i + 1, A9, c9, by omega, rfl, rfl, ⟨⟨HO9.out, HB9.out⟩⟩⟩
      case measure => simp [intOf]; omega
def espalierlaw04_Copied.f (l : List S35) : Prop := l.length ≤ 1599289640390 ∧ copyK l
theorem espalierlaw04_Copied.calls (A : Option Addr) (c : Nat) (l : List S35) (w : World) (hr : Kd.C k35 w A l.length l) (hc : l.length ≤ c) (h : espalierlaw04_Copied.f l) :
    Calls Tryz.prog 19 #[.slice A l.length c] w fun e w' => ∃ v, e = .returned v ∧ Kd.R k35 35 w' w.heap.size (fun _ => True) v l ∧ Below w.heap.size w w' :=
  copied_calls _ l (Nat.le_refl _) A c w hr hc h.1 h.2
end Go.Proofs.YtealmfcimoomlaaGreatDoor.PA

/- Trees whose parts are within the reach. -/
namespace Go.Proofs.YtealmfcimoomlaaGreatDoor.PA
open Go.RowKit Go.Proofs.YtealmfcimoomlaaGreatDoorW.PrintWords Go.Proofs.YtealmfcimoomlaaGreatDoorW.PrintLast Go.Proofs.YtealmfcimoomlaaGreatDoorW.PrintMore
set_option linter.unusedVariables false
set_option linter.unusedSimpArgs false
mutual
def okT : S35 → Prop
  | ⟨f0, f1, f2, f3, f4⟩ => (Lit.int .i64 f0).wf = true ∧ f1.size ≤ 140737488351232 ∧ ((∀ a ∈ f2, a.f0.size ≤ 140737488351232 ∧ a.f1.size ≤ 140737488351232) ∧ f2.length * 32 ≤ 140737488351232) ∧ f3.size ≤ 140737488351232 ∧ okK f4 ∧ f4.length * 88 ≤ 140737488351232
def okK : List S35 → Prop
  | [] => True
  | t :: l => okT t ∧ okK l
end
theorem okK_of : ∀ (l : List S35), (∀ a ∈ l, okT a) → okK l
  | [], _ => trivial
  | t :: l, h => ⟨h t List.mem_cons_self, okK_of l fun a ha => h a (List.mem_cons_of_mem _ ha)⟩
mutual
theorem copyT_ok : ∀ (t : S35), okT t → copyT t
  | ⟨f0, f1, f2, f3, f4⟩, h => ⟨by have := h.2.2.1.2; omega, by have := h.2.2.2.2.2; omega, copyK_ok f4 h.2.2.2.2.1⟩
theorem copyK_ok : ∀ (l : List S35), okK l → copyK l
  | [], _ => trivial
  | t :: l, h => ⟨copyT_ok t h.1, copyK_ok l h.2⟩
end
end Go.Proofs.YtealmfcimoomlaaGreatDoor.PA
