/- espalierlaw04.Spoil writes only into memory that is given it: what the blocks are stays. -/
import Derived.Test.YtealmfcimoomlaaDoorUCopied
namespace Go.Proofs.YtealmfcimoomlaaDoor.PA
open Go.RowKit Go.Proofs.YtealmfcimoomlaaDoorW.PrintWords Go.Proofs.YtealmfcimoomlaaDoorW.PrintLast Go.Proofs.YtealmfcimoomlaaDoorW.PrintMore
set_option linter.unusedVariables false
set_option linter.unusedSimpArgs false
/-- Blocks of attributes and of trees from 'base' on stay such; a tree's lists stay or are none. -/
structure Ty (base : Nat) (w0 w : World) : Prop where
  size : w0.heap.size ≤ w.heap.size
  bel : Below base w0 w
  a54 : ∀ g c, base ≤ g → w0.heap[g]? = some (.cells c 54 (0, 0)) → ∃ c', w.heap[g]? = some (.cells c' 54 (0, 0)) ∧ c'.size = c.size
  a36 : ∀ g c, base ≤ g → w0.heap[g]? = some (.cells c 36 (0, 0)) → ∃ c', w.heap[g]? = some (.cells c' 36 (0, 0)) ∧ c'.size = c.size ∧ ∀ j, (j % 5 = 2 ∨ j % 5 = 4) → c'[j]? = c[j]? ∨ c'[j]? = some (.slice none 0 0)
theorem Ty.refl (base : Nat) (w : World) : Ty base w w := ⟨Nat.le_refl _, Below.refl _ _, fun g c _ h => ⟨c, h, rfl⟩, fun g c _ h => ⟨c, h, rfl, fun _ _ => .inl rfl⟩⟩
theorem Ty.trans {base : Nat} {a b c : World} (h : Ty base a b) (k : Ty base b c) : Ty base a c := by
  refine ⟨Nat.le_trans h.size k.size, h.bel.trans k.bel, fun g x hg hx => ?_, fun g x hg hx => ?_⟩
  · obtain ⟨x1, h1, s1⟩ := h.a54 g x hg hx
    obtain ⟨x2, h2, s2⟩ := k.a54 g x1 hg h1
    exact ⟨x2, h2, s2.trans s1⟩
  · obtain ⟨x1, h1, s1, e1⟩ := h.a36 g x hg hx
    obtain ⟨x2, h2, s2, e2⟩ := k.a36 g x1 hg h1
    refine ⟨x2, h2, s2.trans s1, fun j hj => ?_⟩
    rcases e2 j hj with e | e
    · rcases e1 j hj with e' | e'
      · exact .inl (e.trans e')
      · exact .inr (e.trans e')
    · exact .inr e
theorem Ty.below {base : Nat} {w w1 : World} (hb : Below w.heap.size w w1) (hB : base ≤ w.heap.size) : Ty base w w1 :=
  ⟨hb.size, hb.mono hB, fun g c _ h => ⟨c, (hb.block g (blk_lt h)).trans h, rfl⟩, fun g c _ h => ⟨c, (hb.block g (blk_lt h)).trans h, rfl, fun _ _ => .inl rfl⟩⟩
theorem Ty.set54 {base : Nat} {w : World} {g : Nat} {c : Array Value} (hg : w.heap[g]? = some (.cells c 54 (0, 0))) (hb : base ≤ g) (j : Nat) (u : Value) : Ty base w (w.setCell ⟨g, j, none⟩ u) := by
  refine ⟨by simp [World.setCell], (Below.refl base w).setCell (p := ⟨g, j, none⟩) hb u, fun g' c' _ h => ?_, fun g' c' _ h => ?_⟩
  · by_cases e : g' = g
    · subst e
      rw [hg] at h
      injection h with h
      injection h with h _ _
      subst h
      exact ⟨_, blk_set hg j u, by simp⟩
    · exact ⟨c', blk_far h (p := ⟨g, j, none⟩) e u, rfl⟩
  · have e : g' ≠ g := fun e => by subst e; rw [hg] at h; injection h with h; injection h with _ h _; exact absurd h (by decide)
    exact ⟨c', blk_far h (p := ⟨g, j, none⟩) e u, rfl, fun _ _ => .inl rfl⟩
theorem Ty.set36 {base : Nat} {w : World} {g : Nat} {c : Array Value} (hg : w.heap[g]? = some (.cells c 36 (0, 0))) (hb : base ≤ g) (j : Nat) (u : Value) (hu : (j % 5 = 2 ∨ j % 5 = 4) → j < c.size ∧ u = .slice none 0 0) : Ty base w (w.setCell ⟨g, j, none⟩ u) := by
  refine ⟨by simp [World.setCell], (Below.refl base w).setCell (p := ⟨g, j, none⟩) hb u, fun g' c' _ h => ?_, fun g' c' _ h => ?_⟩
  · have e : g' ≠ g := fun e => by subst e; rw [hg] at h; injection h with h; injection h with _ h _; exact absurd h (by decide)
    exact ⟨c', blk_far h (p := ⟨g, j, none⟩) e u, rfl⟩
  · by_cases e : g' = g
    · subst e
      rw [hg] at h
      injection h with h
      injection h with h _ _
      subst h
      refine ⟨_, blk_set hg j u, by simp, fun i hi => ?_⟩
      rw [Array.getElem?_setIfInBounds]
      by_cases hij : j = i
      · subst hij
        obtain ⟨h1, rfl⟩ := hu hi
        rw [if_pos rfl, if_pos h1]
        exact .inr rfl
      · rw [if_neg hij]
        exact .inl rfl
    · exact ⟨c', blk_far h (p := ⟨g, j, none⟩) e u, rfl, fun _ _ => .inl rfl⟩
theorem Ty.own54 {base base' : Nat} {w0 w : World} {n : Nat} {v : Value} {xs : List Value} (h : Ty base w0 w) (ho : w0.ownsRow base' 54 2 v n xs) (hb : base ≤ base') : ∃ ys, w.ownsRow base' 54 2 v n ys := by
  rcases ho.2 with ⟨rfl, rfl⟩ | ⟨g, cap, cur, rfl, hbg, hg, hnc, hcm, hcs, _⟩
  · exact ⟨[], own_nil _ _ _ _⟩
  · obtain ⟨c', h1, h2⟩ := h.a54 g cur (Nat.le_trans hb hbg) hg
    refine ⟨c'.toList.take (n * 2), ?_, .inr ⟨g, cap, c', rfl, hbg, h1, hnc, hcm, h2.trans hcs, rfl⟩⟩
    rw [List.length_take, Array.length_toList, h2, hcs]
    omega
theorem Ty.own36 {base base' : Nat} {w0 w : World} {n : Nat} {v : Value} {xs : List Value} (h : Ty base w0 w) (ho : w0.ownsRow base' 36 5 v n xs) (hb : base ≤ base') : ∃ ys, w.ownsRow base' 36 5 v n ys := by
  rcases ho.2 with ⟨rfl, rfl⟩ | ⟨g, cap, cur, rfl, hbg, hg, hnc, hcm, hcs, _⟩
  · exact ⟨[], own_nil _ _ _ _⟩
  · obtain ⟨c', h1, h2, _⟩ := h.a36 g cur (Nat.le_trans hb hbg) hg
    refine ⟨c'.toList.take (n * 5), ?_, .inr ⟨g, cap, c', rfl, hbg, h1, hnc, hcm, h2.trans hcs, rfl⟩⟩
    rw [List.length_take, Array.length_toList, h2, hcs]
    omega
/-- append of one element to a list of the call's own, as it turns memory. -/
theorem run_append_drop {P : Program} (w : World) (base : Nat) (t ty e : TypeId) (i : TypeInfo) (z : Value) (size bytes : Nat) (ht : P.underlying t = some (.slice e)) (hi : P.info? e = some i) (hz : i.zero = some z)
    (hsize : i.size = size) (hby : i.bytes = bytes) (hsz : 0 < size)
    (v : Value) (n : Nat) (xs : List Value) (hown : w.ownsRow base e size v n xs)
    (a : Addr) (c : Nat) (news : List Value) (hl : news.length = size) (hnews : ∀ j u, news[j]? = some u → w.cell? (a.add j) = some u) (h1 : ∀ u ∈ news, u.oneCell' = true)
    (h63 : n + 1 ≤ maxLen) (hbytes : (n + 1) * bytes ≤ 140737488355328) (hbase : base ≤ w.heap.size) :
    ∃ v' w', (Builtin.append_ #[t, t] ty #[v, .slice (some a) 1 c]).run P w = .ok v' w' ∧ (Below w.heap.size w w' ∨ ∃ g cap cur cs, v = .slice (some ⟨g, 0, none⟩) n cap ∧ base ≤ g ∧ w.heap[g]? = some (.cells cur e (0, 0)) ∧ n + 1 ≤ cap ∧ cur.size = cap * size ∧
      w' = w.setRow g cs ∧ cs.size = cur.size ∧ ∀ j, cs[j]? = cur[j]? ∨ ∃ q, q < size ∧ j = n * size + q ∧ cs[j]? = news[q]?) := by
  subst hsize
  subst hby
  have hsmall : n + 1 ≤ 9223372036854775807 := by simp only [maxLen] at h63; omega
  have hal : ∀ o : Obj, Below w.heap.size w (w.drew.alloc o) := fun o => (Below.drew (Below.refl w.heap.size w)).alloc (Nat.le_refl _) o
  rcases hown.2 with ⟨rfl, rfl⟩ | ⟨g, cap, cur, rfl, hbg, hg, hnc, hcm, hcs, htake⟩
  · exact ⟨_, _, run_append_nil (P := P) w t ty e i z ht hi hz a 1 c news (by omega) hnews (by omega) (by omega) (by omega), .inl (hal _)⟩
  · by_cases hroom : n + 1 ≤ cap
    · have hfit : n * i.size + news.length ≤ cur.size := by rw [hl, hcs, ← Nat.succ_mul]; exact Nat.mul_le_mul_right _ hroom
      refine ⟨_, _, run_append_room (P := P) w t ty e i ht hi g n cap cur hg a 1 c news (by omega) hnews h1 hroom hfit, .inr ⟨g, cap, cur, _, rfl, hbg, hg, hroom, hcs, rfl, ?_, fun j => ?_⟩⟩
      · simp only [List.size_toArray, List.length_append, List.length_take, List.length_drop, Array.length_toList]
        omega
      · simp only [List.getElem?_toArray]
        have hlt : (cur.toList.take (n * i.size)).length = n * i.size := by rw [List.length_take, Array.length_toList]; omega
        by_cases c1 : j < n * i.size
        · refine .inl ?_
          rw [List.append_assoc, List.getElem?_append_left (by omega), List.getElem?_take_of_lt c1, Array.getElem?_toList]
        · by_cases c2 : j < n * i.size + i.size
          · refine .inr ⟨j - n * i.size, by omega, by omega, ?_⟩
            rw [List.append_assoc, List.getElem?_append_right (by omega), hlt, List.getElem?_append_left (by omega)]
          · refine .inl ?_
            rw [List.getElem?_append_right (by rw [List.length_append]; omega), List.length_append, hlt, hl, List.getElem?_drop, Array.getElem?_toList]
            congr 1
            omega
    · have holds : ∀ j u, xs[j]? = some u → w.cell? ((⟨g, 0, none⟩ : Addr).add j) = some u := hown.cells (g := g) rfl
      exact ⟨_, _, run_append_grow (P := P) w t ty e i z ht hi hz ⟨g, 0, none⟩ n cap xs hown.1 holds a 1 c news (by omega) hnews (by omega) (by omega) (growslice_fits (by omega) hbytes), .inl (hal _)⟩
theorem setRow_below {base : Nat} {w : World} {g : Nat} {cs : Array Value} (hb : base ≤ g) : Below base w (w.setRow g cs) :=
  ⟨rfl, rfl, rfl, by simp, fun k hk => setRow_other w g k cs (by omega)⟩
theorem Ty.app54 {base : Nat} {w : World} {g : Nat} {cur cs : Array Value} (hg : w.heap[g]? = some (.cells cur 54 (0, 0))) (hb : base ≤ g) (hs : cs.size = cur.size) : Ty base w (w.setRow g cs) := by
  refine ⟨by simp, setRow_below hb, fun g' c' _ h => ?_, fun g' c' _ h => ?_⟩
  · by_cases e : g' = g
    · subst e
      rw [hg] at h
      injection h with h
      injection h with h _ _
      subst h
      exact ⟨_, setRow_heap w g' cur cs _ _ hg, hs⟩
    · exact ⟨c', (setRow_other w g g' cs e).trans h, rfl⟩
  · have e : g' ≠ g := fun e => by subst e; rw [hg] at h; injection h with h; injection h with _ h _; exact absurd h (by decide)
    exact ⟨c', (setRow_other w g g' cs e).trans h, rfl, fun _ _ => .inl rfl⟩
theorem Ty.app36 {base : Nat} {w : World} {g n : Nat} {cur cs : Array Value} {s1 s2 : ByteArray} {k : Int} (hg : w.heap[g]? = some (.cells cur 36 (0, 0))) (hb : base ≤ g) (hs : cs.size = cur.size)
    (he : ∀ j, cs[j]? = cur[j]? ∨ ∃ q, q < 5 ∧ j = n * 5 + q ∧ cs[j]? = [Value.int .i64 k, .string s1, .slice none 0 0, .string s2, .slice none 0 0][q]?) : Ty base w (w.setRow g cs) := by
  refine ⟨by simp, setRow_below hb, fun g' c' _ h => ?_, fun g' c' _ h => ?_⟩
  · have e : g' ≠ g := fun e => by subst e; rw [hg] at h; injection h with h; injection h with _ h _; exact absurd h (by decide)
    exact ⟨c', (setRow_other w g g' cs e).trans h, rfl⟩
  · by_cases e : g' = g
    · subst e
      rw [hg] at h
      injection h with h
      injection h with h _ _
      subst h
      refine ⟨_, setRow_heap w g' cur cs _ _ hg, hs, fun j hj => ?_⟩
      rcases he j with e1 | ⟨q, hq, rfl, e1⟩
      · exact .inl e1
      · refine .inr (e1.trans ?_)
        have : q = 2 ∨ q = 4 := by omega
        rcases this with rfl | rfl <;> rfl
    · exact ⟨c', (setRow_other w g g' cs e).trans h, rfl, fun _ _ => .inl rfl⟩
section
variable {P : Program} {ops : Array Oper} {rest : List Oper} {o : Oper} {a : Act} {Q : Exit → Act → World → Prop}
theorem wpList_append_run (w : World) (hgd : o.guard = none) (s x : Operand) (t : TypeId) (ho : o.op = .call { callee := .builtin .append, args := #[s, x], argTypes := #[t, t] }) (v y v' : Value) (w' : World) (hs : a.eval s = v) (hx : a.eval x = y)
    (hr : (Builtin.append_ #[t, t] o.type #[v, y]).run P w = .ok v' w') (h : wpList P ops Q rest (a.put o.dst v') w') : wpList P ops Q (o :: rest) a w := by
  refine wpList_plain hgd fun K hK => ?_
  unfold Oper.wp execOp
  simp only [ho, resolve, invoke, builtin, Sem.run_bind, Sem.run_pure, Result.andThen_ok, List.map_toArray, List.map_cons, List.map_nil, hs, hx, hr]
  exact hK _ _ h
end
end Go.Proofs.YtealmfcimoomlaaDoor.PA
