/- Texts of this claim, one behind the other: ShelfS, ShelfG, PSort, USort. Conditions: those of each theorem. -/
import Derived.Shelf.SlLaysF0
import Derived.Test.YtealmfcimoomlaaGreatDoorProg
import Derived.KernelRfl
import Derived.Test.YtealmfcimoomlaaGreatDoorPA4
import Derived.Test.YtealmfcimoomlaaGreatDoorUScan12
import Derived.Shelf.SlSortCmp.Insertion
import Derived.Sort.LotA
import Derived.Shelf.SlSortCmp.InsertionK
/- slices.SortFunc over attributes, laid at this translation in plain words: written by the kit's lay-plain.mjs through wip/tools/shelfs.py. -/
set_option linter.unusedVariables false
namespace Go.Proofs
open Go.Shelf
def Tryz.sortAttr_ren : Go.Shelf.Ren := ⟨fun | 6 => 131 | 15 => 141 | 14 => 140 | 28 => 155 | 29 => 156 | 20 => 147 | 21 => 148 | 22 => 149 | 23 => 150 | 24 => 151 | 25 => 152 | 26 => 153 | 27 => 154 | 46 => 160 | 47 => 161 | 48 => 162 | 49 => 163 | 50 => 164 | 57 => 170 | n => n, fun | 22 => 33 | 24 => 61 | 25 => 142 | 3 => 3 | 39 => 121 | 0 => 0 | 53 => 136 | 55 => 170 | 4 => 4 | 46 => 162 | 45 => 161 | 50 => 166 | 5 => 5 | 9 => 9 | 66 => 172 | 70 => 176 | 76 => 184 | 77 => 128 | n => n, fun | n => n⟩
theorem Tryz.sortAttr : Go.Proofs.SlLaysF0.n6 Tryz.prog Tryz.sortAttr_ren := {
  mixed := by kernel_rfl
  f6 := ⟨Tryz.f131.name, by decide, Tryz.func131.trans (congrArg some (by kernel_rfl))⟩
  f14 := ⟨Tryz.f140.name, by decide, Tryz.func140.trans (congrArg some (by kernel_rfl))⟩
  f15 := Tryz.func141.trans (congrArg some (by kernel_rfl))
  f20 := ⟨Tryz.f147.name, by decide, Tryz.func147.trans (congrArg some (by kernel_rfl))⟩
  f21 := ⟨Tryz.f148.name, by decide, Tryz.func148.trans (congrArg some (by kernel_rfl))⟩
  f22 := ⟨Tryz.f149.name, by decide, Tryz.func149.trans (congrArg some (by kernel_rfl))⟩
  f23 := ⟨Tryz.f150.name, by decide, Tryz.func150.trans (congrArg some (by kernel_rfl))⟩
  f24 := ⟨Tryz.f151.name, by decide, Tryz.func151.trans (congrArg some (by kernel_rfl))⟩
  f25 := ⟨Tryz.f152.name, by decide, Tryz.func152.trans (congrArg some (by kernel_rfl))⟩
  f26 := ⟨Tryz.f153.name, by decide, Tryz.func153.trans (congrArg some (by kernel_rfl))⟩
  f27 := ⟨Tryz.f154.name, by decide, Tryz.func154.trans (congrArg some (by kernel_rfl))⟩
  f28 := Tryz.func155.trans (congrArg some (by kernel_rfl))
  f29 := Tryz.func156.trans (congrArg some (by kernel_rfl))
  f46 := ⟨Tryz.f160.name, by decide, Tryz.func160.trans (congrArg some (by kernel_rfl))⟩
  f47 := Tryz.func161.trans (congrArg some (by kernel_rfl))
  f48 := Tryz.func162.trans (congrArg some (by kernel_rfl))
  f49 := ⟨Tryz.f163.name, by decide, Tryz.func163.trans (congrArg some (by kernel_rfl))⟩
  f50 := ⟨Tryz.f164.name, by decide, Tryz.func164.trans (congrArg some (by kernel_rfl))⟩
  f57 := ⟨Tryz.f170.name, by decide, Tryz.func170.trans (congrArg some (by kernel_rfl))⟩
  t0 := Tryz.underlying0
  a0 := Tryz.isAgg0
  z0 := Tryz.sizeOf0
  v0 := Tryz.zeroValue0
  t3 := Tryz.underlying3
  a3 := Tryz.isAgg3
  z3 := Tryz.sizeOf3
  v3 := Tryz.zeroValue3
  t4 := Tryz.underlying4
  a4 := Tryz.isAgg4
  z4 := Tryz.sizeOf4
  v4 := Tryz.zeroValue4
  t5 := Tryz.underlying5
  a5 := Tryz.isAgg5
  z5 := Tryz.sizeOf5
  v5 := Tryz.zeroValue5
  t9 := Tryz.underlying9
  a9 := Tryz.isAgg9
  z9 := Tryz.sizeOf9
  v9 := Tryz.zeroValue9
  t22 := Tryz.underlying33
  a22 := Tryz.isAgg33
  z22 := Tryz.sizeOf33
  v22 := Tryz.zeroValue33
  t25 := Tryz.underlying142
  a25 := Tryz.isAgg142
  z25 := Tryz.sizeOf142
  v25 := Tryz.zeroValue142
  t39 := Tryz.underlying121
  a39 := Tryz.isAgg121
  z39 := Tryz.sizeOf121
  v39 := Tryz.zeroValue121
  t45 := Tryz.underlying161
  a45 := Tryz.isAgg161
  z45 := Tryz.sizeOf161
  v45 := Tryz.zeroValue161
  t46 := Tryz.underlying162
  a46 := Tryz.isAgg162
  z46 := Tryz.sizeOf162
  v46 := Tryz.zeroValue162
  t50 := Tryz.underlying166
  a50 := Tryz.isAgg166
  z50 := Tryz.sizeOf166
  v50 := Tryz.zeroValue166
  t53 := Tryz.underlying136
  a53 := Tryz.isAgg136
  z53 := Tryz.sizeOf136
  v53 := Tryz.zeroValue136
  t55 := Tryz.underlying170
  a55 := Tryz.isAgg170
  z55 := Tryz.sizeOf170
  v55 := Tryz.zeroValue170
  t66 := Tryz.underlying172
  a66 := Tryz.isAgg172
  z66 := Tryz.sizeOf172
  v66 := Tryz.zeroValue172
  t70 := Tryz.underlying176
  a70 := Tryz.isAgg176
  z70 := Tryz.sizeOf176
  v70 := Tryz.zeroValue176
  t76 := Tryz.underlying184
  a76 := Tryz.isAgg184
  z76 := Tryz.sizeOf184
  v76 := Tryz.zeroValue184
  t77 := Tryz.underlying128
  a77 := Tryz.isAgg128
  z77 := Tryz.sizeOf128
  v77 := Tryz.zeroValue128 }
end Go.Proofs

-- More of the shelf's contracts at this translation, in plain words: written by the kit's lay-shelf.mjs and lay-plain.mjs through wip/tools/shelfc.py.
set_option linter.unusedVariables false
namespace Go.Proofs
open Go.Shelf
def Tryz.lays106_ren : Go.Shelf.Ren := ⟨fun | 106 => 133 | 213 => 142 | 265 => 157 | n => n, fun | 9 => 9 | 3 => 3 | n => n, fun | n => n⟩
theorem Tryz.lays106 : Go.Proofs.Lays.n106 Tryz.prog Tryz.lays106_ren := {
  mixed := by kernel_rfl
  f106 := Tryz.func133.trans (congrArg some (by kernel_rfl))
  f213 := Tryz.func142.trans (congrArg some (by kernel_rfl))
  f265 := Tryz.func157.trans (congrArg some (by kernel_rfl))
  t3 := Tryz.underlying3
  a3 := Tryz.isAgg3
  z3 := Tryz.sizeOf3
  v3 := Tryz.zeroValue3
  t9 := Tryz.underlying9
  a9 := Tryz.isAgg9
  z9 := Tryz.sizeOf9
  v9 := Tryz.zeroValue9 }
open Go.RowKit in
/-- strings.Compare: "Compare returns an integer comparing two strings lexicographically. The result will be 0 if a == b, -1 if a < b, and +1 if a > b.": IT RETURNS 'Lib.compareBytes a b'; the world is as it was. (LAID: no walk: one application.) -/
theorem Tryz.strings_Compare (a b : ByteArray) (w : World) :
    Calls Tryz.prog 133 #[.string a, .string b] w fun e w' => e = .returned (.int .i64 (Lib.compareBytes a.data.toList b.data.toList)) ∧ w' = w := Any.strings_Compare Tryz.lays106 a b w
end Go.Proofs

/- Attributes by their names, rising: a strict order of texts; the one sorted list. -/
namespace Go.Proofs.YtealmfcimoomlaaGreatDoor.PA
open Go.RowKit Go.Proofs.YtealmfcimoomlaaGreatDoorW.PrintWords Go.Proofs.YtealmfcimoomlaaGreatDoorW.PrintLast Go.Proofs.YtealmfcimoomlaaGreatDoorW.PrintMore Go.Shelf Go.Sort
set_option linter.unusedVariables false
set_option linter.unusedSimpArgs false
theorem cb_self : ∀ a : List UInt8, Lib.compareBytes a a = 0
  | [] => rfl
  | a :: r => by rw [Lib.compareBytes, if_neg (by simp), if_neg (by simp)]; exact cb_self r
theorem cb_neg : ∀ a b : List UInt8, Lib.compareBytes a b < 0 ↔ a < b
  | [], [] => by simp [Lib.compareBytes]
  | [], _ :: _ => by simp [Lib.compareBytes]
  | _ :: _, [] => by simp [Lib.compareBytes]
  | a :: r, b :: q => by
    rw [Lib.compareBytes, List.cons_lt_cons_iff]
    by_cases h1 : a < b
    · rw [if_pos h1]; simp [h1]
    · rw [if_neg h1]
      by_cases h2 : b < a
      · rw [if_pos h2]
        have : a ≠ b := by rintro rfl; exact h1 h2
        simp [h1, this]
      · rw [if_neg h2, cb_neg r q]
        have : a = b := by rw [UInt8.lt_iff_toNat_lt] at h1 h2; exact UInt8.toNat_inj.mp (by omega)
        simp [h1, this]
theorem not_lt_le {a b : List UInt8} (h : ¬ a < b) : b ≤ a := List.not_lt.mp h
/-- Is an attribute's name before another's? -/
def ltA (x y : S61) : Bool := decide (Lib.compareBytes x.f0.data.toList y.f0.data.toList < 0)
/-- Attributes by their names. -/
def sortA (l : List S61) : List S61 := l.mergeSort fun x y => !ltA y x
section
variable (l : List S61)
def cfA (x y : {a : S61 // a ∈ l}) : Int := Lib.compareBytes x.1.f0.data.toList y.1.f0.data.toList
def encA (x : {a : S61 // a ∈ l}) : List Value := [.string x.1.f0, .string x.1.f1]
theorem swoA : SWO (ltOf (cfA l)) where
  irrefl x := by unfold ltOf cfA; rw [cb_self]; rfl
  trans x y z h1 h2 := by
    unfold ltOf cfA at *
    rw [decide_eq_true_iff, cb_neg] at *
    exact List.lt_trans h1 h2
  ntrans x y z h1 h2 := by
    unfold ltOf cfA at *
    rw [decide_eq_false_iff_not, cb_neg] at *
    exact List.not_lt.mpr (List.le_trans (not_lt_le h2) (not_lt_le h1))
theorem totalA (h : ∀ x ∈ l, ∀ y ∈ l, x.f0 = y.f0 → x = y) (x y : {a : S61 // a ∈ l}) (h1 : ltOf (cfA l) x y = false) (h2 : ltOf (cfA l) y x = false) : x = y := by
  unfold ltOf cfA at *
  rw [decide_eq_false_iff_not, cb_neg] at *
  have e := List.le_antisymm (not_lt_le h2) (not_lt_le h1)
  refine Subtype.ext (h _ x.2 _ y.2 ?_)
  cases hx : x.1.f0 with | mk dx => cases hy : y.1.f0 with | mk dy =>
  rw [hx, hy] at e
  simp only at e
  congr 1
  exact Array.toList_inj.mp e
end
end Go.Proofs.YtealmfcimoomlaaGreatDoor.PA

/- A row of attributes as the library's sort reads and leaves it. -/
namespace Go.Proofs.YtealmfcimoomlaaGreatDoor.PA
open Go.RowKit Go.Proofs.YtealmfcimoomlaaGreatDoorW.PrintWords Go.Proofs.YtealmfcimoomlaaGreatDoorW.PrintLast Go.Proofs.YtealmfcimoomlaaGreatDoorW.PrintMore Go.Shelf Go.Sort
set_option linter.unusedVariables false
set_option linter.unusedSimpArgs false
section
variable {l : List S61} {w : World} {base : Nat} {ok : Nat → Prop} {g cap : Nat}
/-- The block of a row of attributes. -/
theorem attrs_block (h : Kd.R k61 61 w base ok (.slice (some ⟨g, 0, none⟩) l.length cap) l) :
    ok g ∧ base ≤ g ∧ l.length ≤ cap ∧ cap ≤ maxLen ∧ ∃ cur : Array Value, w.heap[g]? = some (.cells cur 61 (0, 0)) ∧ cur.size = cap * 2 ∧ ∀ i (hi : i < l.length), cur[i * 2]? = some (.string (l[i]'hi).f0) ∧ cur[i * 2 + 1]? = some (.string (l[i]'hi).f1) := by
  obtain ⟨h0, inner, hown, hr⟩ := h
  rcases hown.2 with ⟨h1, _⟩ | ⟨g', cap', cur, h1, h2, h3, h4, h5, h6, h7⟩
  · cases h1
  · injection h1 with e1 e2 e3
    injection e1 with e1
    injection e1 with e1 _ _
    subst e1
    subst e3
    refine ⟨h0 g rfl, h2, h4, h5, cur, h3, h6, fun i hi => ?_⟩
    have hK := k61_openM (hr.2 i (l[i]'hi) (List.getElem?_eq_getElem hi))
    have hg : ∀ c, c < 2 → cur[i * 2 + c]? = [Value.string (l[i]'hi).f0, Value.string (l[i]'hi).f1][c]? := by
      intro c hc
      rw [← hK]
      show _ = ((inner.drop (i * 2)).take 2)[c]?
      rw [List.getElem?_take, if_pos hc, List.getElem?_drop, ← h7, List.getElem?_take, if_pos (by show i * 2 + c < l.length * 2; omega), Array.getElem?_toList]
    exact ⟨(hg 0 (by omega)).trans rfl, (hg 1 (by omega)).trans rfl⟩
theorem attrs_holds [Inhabited {a : S61 // a ∈ l}] (h : Kd.R k61 61 w base ok (.slice (some ⟨g, 0, none⟩) l.length cap) l) : HoldsK (encA l) 2 w g 0 l.attach.toArray := by
  obtain ⟨-, -, -, -, cur, h3, h6, hc⟩ := attrs_block h
  intro t ht
  rw [size_flatK] at ht
  have hs : l.attach.toArray.size = l.length := by simp
  rw [hs] at ht
  have hi : t / 2 < l.length := by omega
  refine ⟨?_, blk_frozen h3 _⟩
  rw [blk_cell h3, get_flatK _ _ _ _ (by rw [hs]; exact ht)]
  have hd : (l.attach.toArray)[t / 2]! = ⟨l[t / 2]'hi, List.getElem_mem hi⟩ := by
    rw [getElem!_pos _ _ (by rw [hs]; exact hi)]
    simp
  rw [hd]
  obtain ⟨e0, e1⟩ := hc (t / 2) hi
  rcases Nat.mod_two_eq_zero_or_one t with hm | hm
  · rw [hm, show 0 + t = t / 2 * 2 by omega, e0]; rfl
  · rw [hm, show 0 + t = t / 2 * 2 + 1 by omega, e1]; rfl
theorem attrs_sorted [Inhabited {a : S61 // a ∈ l}] (h : Kd.R k61 61 w base ok (.slice (some ⟨g, 0, none⟩) l.length cap) l) (n : Nat) (d : List {a : S61 // a ∈ l}) (os : Array Obj) (hd : d.length = l.length) :
    Kd.R k61 61 (sortWorldK (encA l) 2 w g 0 n d.toArray os) base ok (.slice (some ⟨g, 0, none⟩) l.length cap) (d.map (·.1)) ∧ w.grownBy (sortWorldK (encA l) 2 w g 0 n d.toArray os) (some g) := by
  obtain ⟨hok, hb, hlc, hcm, cur, h3, h6, hc⟩ := attrs_block h
  have hlt := lt_of_heap h3
  have hsz : (flatK (encA l) 2 d.toArray).size = l.length * 2 := by rw [size_flatK]; simp [hd]
  have hheap : (sortWorldK (encA l) 2 w g 0 n d.toArray os).heap = w.heap.modify g (onCells (putCells id 0 (flatK (encA l) 2 d.toArray))) ++ os := rfl
  have hg : (sortWorldK (encA l) 2 w g 0 n d.toArray os).heap[g]? = some (.cells (putCells id 0 (flatK (encA l) 2 d.toArray) cur) 61 (0, 0)) := by
    rw [hheap, Array.getElem?_append_left (by simpa using hlt), Array.getElem?_modify, if_pos rfl, h3]
    rfl
  have hps : (putCells id 0 (flatK (encA l) 2 d.toArray) cur).size = cap * 2 := by simp [putCells, h6]
  refine ⟨⟨fun k hk => by obtain rfl := Option.some.inj hk; exact hok, _, ⟨?_, .inr ⟨g, cap, _, by simp [hd], hb, hg, by simpa [hd] using hlc, hcm, hps, rfl⟩⟩, ?_, ?_⟩, rfl, rfl, rfl, ?_, ?_⟩
  · simp only [List.length_take, Array.length_toList, hps, List.length_map, hd]
    exact Nat.min_eq_left (Nat.mul_le_mul_right 2 hlc)
  · simp only [List.length_take, Array.length_toList, hps, List.length_map, hd]
    exact Nat.min_eq_left (Nat.mul_le_mul_right 2 hlc)
  · intro j p hj
    rw [List.getElem?_map] at hj
    obtain ⟨x, hx, rfl⟩ := Option.map_eq_some_iff.1 hj
    have hjl : j < l.length := by have := (List.getElem?_eq_some_iff.1 hx).1; omega
    have he : ∀ c, c < 2 → (putCells id 0 (flatK (encA l) 2 d.toArray) cur)[j * 2 + c]? = [Value.string x.1.f0, Value.string x.1.f1][c]? := by
      intro c hc2
      have hlt2 : j * 2 + c < cap * 2 := by omega
      rw [putCells, Array.getElem?_mapIdx, Array.getElem?_eq_getElem (by rw [h6]; exact hlt2), Option.map_some, if_pos ⟨Nat.zero_le _, by rw [hsz]; omega⟩, Nat.sub_zero, get_flatK _ _ _ _ (by simp [hd]; omega)]
      rw [show (j * 2 + c) / 2 = j by omega, show (j * 2 + c) % 2 = c by omega]
      have hdj : (d.toArray)[j]! = x := by
        rw [getElem!_pos _ _ (by simp [hd, hjl])]
        have := (List.getElem?_eq_some_iff.1 hx).2
        simpa using this
      rw [hdj]
      have : c = 0 ∨ c = 1 := by omega
      rcases this with rfl | rfl <;> rfl
    have hrow : (((putCells id 0 (flatK (encA l) 2 d.toArray) cur).toList.take ((d.map (·.1)).length * 2)).drop (j * 2)).take 2 = [Value.string x.1.f0, Value.string x.1.f1] := by
      apply List.ext_getElem?
      intro c
      rw [List.getElem?_take]
      by_cases hc2 : c < 2
      · rw [if_pos hc2, List.getElem?_drop, List.getElem?_take, if_pos (by rw [List.length_map, hd]; omega), Array.getElem?_toList]
        exact he c hc2
      · rw [if_neg hc2, List.getElem?_eq_none (by simp; omega)]
    exact hrow ▸ k61_mkM _ _ _ x.1
  · rw [hheap]; simp
  · intro k hk hne
    rw [hheap, Array.getElem?_append_left (by simpa using hk), Array.getElem?_modify, if_neg (fun e => hne (by rw [e]))]
end
end Go.Proofs.YtealmfcimoomlaaGreatDoor.PA
