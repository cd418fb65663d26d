/- The walk of a table's Moved: what memory says. -/
import Derived.Test.YthafpbidfgmacaaDoorT5
namespace Go.Proofs.YthafpbidfgmacaaDoor.Hd
open Go.RowKit Go.Proofs.YthafpbidfgmacaaDoor Go.Proofs.YthafpbidfgmacaaDoorW.PrintWords Go.Proofs.YthafpbidfgmacaaDoorW.PrintLast Go.Proofs.YthafpbidfgmacaaDoorW.PrintMore
set_option linter.unusedVariables false
set_option linter.unusedSimpArgs false

theorem join_len (sep : List UInt8) (n : Nat) : ∀ xs : List (List UInt8), (∀ x ∈ xs, x.length ≤ n) → (Lib.join xs sep).length ≤ xs.length * (n + sep.length)
  | [], _ => by simp [Lib.join_nil]
  | x :: r, h => by
    rw [Lib.join_cons, List.length_append, List.length_cons]
    have h1 := h x (by simp)
    have h2 : ∀ r : List (List UInt8), (∀ y ∈ r, y.length ≤ n) → (Lib.joinTail sep r).length ≤ r.length * (n + sep.length) := by
      intro r
      induction r with
      | nil => intro _; simp [Lib.joinTail]
      | cons y r ih =>
        intro hr
        have e : Lib.joinTail sep (y :: r) = (sep ++ y) ++ Lib.joinTail sep r := by simp [Lib.joinTail]
        rw [e, List.length_append, List.length_append, List.length_cons]
        have := ih (fun z hz => hr z (by simp [hz]))
        have := hr y (by simp)
        rw [Nat.succ_mul]
        omega
    have := h2 r (fun y hy => h y (by simp [hy]))
    rw [Nat.succ_mul]
    omega
theorem fits_of (l : List ByteArray) (n : Nat) (hn : n ≤ 100) (hl : l.length ≤ 100) (h : ∀ x ∈ l, x.size ≤ n) : fits l := by
  refine ⟨by omega, ?_⟩
  rw [← Q.size_len, Q.joinB_data]
  have := join_len [0] n (l.map (·.data.toList)) (by
    intro x hx
    obtain ⟨y, hy, rfl⟩ := List.mem_map.1 hx
    rw [Q.size_len]
    exact h y hy)
  rw [List.length_map] at this
  have h3 : l.length * (n + [(0 : UInt8)].length) ≤ 100 * 101 := Nat.mul_le_mul hl (by simp; omega)
  simp only [Array.toList] at *
  omega
theorem name_size {s : ByteArray} (h : Q.nameB s = true) : s.size ≤ 16 := by
  unfold Q.nameB at h
  simp only [Bool.and_eq_true, decide_eq_true_eq] at h
  exact h.2.1
theorem fits_moved {a b l : List ByteArray} (hb : okP b = true) (hl : okP l = true) (k : Nat) : fits (b ++ l.drop k) := by
  obtain ⟨_, hb6, hbn⟩ := okP_len hb
  obtain ⟨_, hl6, hln⟩ := okP_len hl
  refine fits_of _ 16 (by omega) (by rw [List.length_append, List.length_drop]; omega) (fun x hx => ?_)
  rcases List.mem_append.1 hx with h | h
  · exact name_size (List.all_eq_true.1 hbn x h)
  · exact name_size (List.all_eq_true.1 hln x (List.mem_of_mem_drop h))

section
variable {B : Nat} {w w' W : World} {t : Nat} {st : St} {F F' : Nat → Prop} {vs : List Value} {d g : Nat} {s : ByteArray} {l : List ByteArray}
/-- What lies elsewhere than in one entry's block stands. -/
theorem TabV.but (h : TabV B w t true st F vs) (hv : vs[d]? = some (.pointer (some ⟨g, 0, none⟩))) {x y : Value} (hg : w.heap[g]? = some (.cells #[x, y] 90 (0, 0))) (hk : ∀ k, F k → k ≠ g → w'.heap[k]? = w.heap[k]?) (j : Nat) (hj : j ≠ d) (e : Option Ent) (v : Value) (he : st[j]? = some e) (hvj : vs[j]? = some v) : Slot w' F e v := by
  have hs := h.slot j e v he hvj
  cases e with
  | none => exact hs
  | some p =>
    obtain ⟨s1, l1⟩ := p
    obtain ⟨h0, g1, b, o, c, rfl, hg1, fg, fb, hc, hr⟩ := hs
    have hne : g1 ≠ g := fun e => hj (h.inj j d _ hvj (by rw [e]; exact hv))
    exact ⟨h0, g1, b, o, c, rfl, (hk g1 fg hne).trans hg1, fg, fb, hc, hr.keep (hk b fb (hr.ne hg (by decide)))⟩
theorem TabV.tab_ne (h : TabV B w t true st F vs) {x y : Value} (hg : w.heap[g]? = some (.cells #[x, y] 90 (0, 0))) : t ≠ g := type_ne h.blk hg (by decide)
theorem tab_row (h : TabV B w t true st F vs) (hB : B ≤ w.heap.size) (hd : st[d]? = some (some (s, l))) (hv : vs[d]? = some (.pointer (some ⟨g, 0, none⟩))) {y : Value} (hg : w.heap[g]? = some (.cells #[.string s, y] 90 (0, 0))) (fg : F g)
    (hW : Below w.heap.size w W) {l' : List ByteArray} (hl : okP l' = true) {v : Value} {b0 : Nat} (hb0 : w.heap.size ≤ b0) (ho : W.ownsRow b0 9 1 v l'.length (encs Value.string l')) (hw' : Below W.heap.size (W.setCell ⟨g, 1, none⟩ v) w') :
    ∃ F', TabV B w' t true (st.set d (some (s, l'))) F' vs ∧ Fr F F' w w' := by
  obtain ⟨hl1, hl6, _⟩ := okP_len hl
  rcases ho.2 with ⟨_, hn⟩ | ⟨b, c, cur, rfl, hb, hh, hc, hm, hcs, hx⟩
  · omega
  have hbW : b < W.heap.size := (Array.getElem?_eq_some_iff.1 hh).1
  have hsz : w.heap.size ≤ W.heap.size := hW.size
  have hgl : g < w.heap.size := (Array.getElem?_eq_some_iff.1 hg).1
  have hrow : RowS W b 0 l' := by
    intro j x hj
    have hjl := (List.getElem?_eq_some_iff.1 hj).1
    rw [Nat.zero_add, cell_of_row W b j _ _ _ hh]
    have e : (encs Value.string l')[j]? = some (.string x) := by simp [encs, hj]
    rw [← hx] at e
    have e2 := List.getElem?_take (l := cur.toList) (i := l'.length * 1) (j := j)
    rw [if_pos (by omega)] at e2
    rw [e2] at e
    simpa using e
  have hfar : ∀ k, k < W.heap.size → k ≠ g → w'.heap[k]? = W.heap[k]? := fun k hk hne => (hw'.block k hk).trans (Below.heap_setCell W _ _ k hne)
  have hold : ∀ k, k < w.heap.size → k ≠ g → w'.heap[k]? = w.heap[k]? := fun k hk hne => (hfar k (by omega) hne).trans (hW.block k hk)
  have hg' : w'.heap[g]? = some (.cells #[.string s, .slice (some ⟨b, 0, none⟩) l'.length c] 90 (0, 0)) := by
    rw [hw'.block g (by omega), heap_setCell_row W g 1 _ _ _ ((hW.block g hgl).trans hg)]
    rfl
  have hsz' : W.heap.size ≤ w'.heap.size := by have := hw'.size; simpa [World.setCell] using this
  refine ⟨fun k => F k ∨ k = b, ⟨h.vl, by rw [List.length_set, h.sl], (hold t h.lt (h.tab_ne hg)).trans h.blk, .inl h.ft, fun k hk => ?_, fun j e v he hvj => ?_, h.inj⟩, ⟨hw'.os.trans hW.os, hw'.tape.trans hW.tape, hw'.output.trans hW.output, by omega, fun k hk hn => hold k hk (fun e => hn (by rw [e]; exact fg)), fun k hk => ?_⟩⟩
  · rcases hk with hk | hk
    · have := h.rng k hk; omega
    · omega
  · by_cases hj : j = d
    · subst hj
      rw [hv] at hvj
      obtain rfl := Option.some.inj hvj
      rw [List.getElem?_set_self (by have := (List.getElem?_eq_some_iff.1 hd).1; exact this)] at he
      obtain rfl := Option.some.inj he
      exact ⟨hl, g, b, 0, c, rfl, hg', .inl fg, .inr rfl, hc, Row9.keep ⟨hrow, _, hh⟩ (hfar b hbW (type_ne hh ((hW.block g hgl).trans hg) (by decide)))⟩
    · rw [List.getElem?_set_ne (fun e => hj e.symm)] at he
      exact (h.but hv hg (fun k fk hne => hold k (h.rng k fk).2 hne) j hj e v he hvj).keep (fun _ _ => rfl) (fun _ h => .inl h)
  · rcases hk with hk | hk
    · exact .inl hk
    · exact .inr (by omega)
theorem tab_gone (h : TabV B w t true st F vs) (hB : B ≤ w.heap.size) (hd : d < 8) (hv : vs[d]? = some (.pointer (some ⟨g, 0, none⟩))) {x y : Value} (hg : w.heap[g]? = some (.cells #[x, y] 90 (0, 0))) (fg : F g)
    (hW : Below w.heap.size w W) {v : Value} (hw' : Below W.heap.size (W.setCell ⟨g, 1, none⟩ v) w') :
    TabV B (w'.setCell ⟨t, 1 + d, none⟩ (.pointer none)) t true (st.set d none) F (vs.set d (.pointer none)) ∧ Fr F F w (w'.setCell ⟨t, 1 + d, none⟩ (.pointer none)) := by
  have hsz : w.heap.size ≤ W.heap.size := hW.size
  have hgl : g < w.heap.size := (Array.getElem?_eq_some_iff.1 hg).1
  have hfar : ∀ k, k < W.heap.size → k ≠ g → w'.heap[k]? = W.heap[k]? := fun k hk hne => (hw'.block k hk).trans (Below.heap_setCell W _ _ k hne)
  have hold : ∀ k, k < w.heap.size → k ≠ g → w'.heap[k]? = w.heap[k]? := fun k hk hne => (hfar k (by omega) hne).trans (hW.block k hk)
  have hsz' : W.heap.size ≤ w'.heap.size := by have := hw'.size; simpa [World.setCell] using this
  have hz : (w'.setCell ⟨t, 1 + d, none⟩ (.pointer none)).heap.size = w'.heap.size := by simp [World.setCell]
  have htb : w'.heap[t]? = some (.cells (.bool true :: vs).toArray 87 (0, 0)) := (hold t h.lt (h.tab_ne hg)).trans h.blk
  have hall : ∀ k, k < w.heap.size → k ≠ g → k ≠ t → (w'.setCell ⟨t, 1 + d, none⟩ (.pointer none)).heap[k]? = w.heap[k]? := fun k hk h1 h2 => (Below.heap_setCell w' _ _ k h2).trans (hold k hk h1)
  refine ⟨⟨by rw [List.length_set, h.vl], by rw [List.length_set, h.sl], ?_, h.ft, fun k hk => ?_, fun j e v he hvj => ?_, fun j k a hj hk => ?_⟩, ⟨hw'.os.trans hW.os, hw'.tape.trans hW.tape, hw'.output.trans hW.output, by omega, fun k hk hn => hall k hk (fun e => hn (by rw [e]; exact fg)) (fun e => hn (by rw [e]; exact h.ft)), fun k hk => .inl hk⟩⟩
  · rw [show 1 + d = d + 1 from Nat.add_comm _ _, heap_setCell_row w' t (d + 1) _ _ _ htb]
    simp
  · have := h.rng k hk
    omega
  · by_cases hj : j = d
    · subst hj
      rw [List.getElem?_set_self (by rw [h.sl]; exact hd)] at he
      rw [List.getElem?_set_self (by rw [h.vl]; exact hd)] at hvj
      obtain rfl := Option.some.inj he
      obtain rfl := Option.some.inj hvj
      rfl
    · rw [List.getElem?_set_ne (fun e => hj e.symm)] at he hvj
      have hs := h.slot j e v he hvj
      cases e with
      | none => exact hs
      | some p =>
        obtain ⟨s1, l1⟩ := p
        obtain ⟨h0, g1, b, o, c, rfl, hg1, f1, fb, hc, hr⟩ := hs
        have hne : g1 ≠ g := fun e => hj (h.inj j d _ hvj (by rw [e]; exact hv))
        exact ⟨h0, g1, b, o, c, rfl, (hall g1 (h.rng g1 f1).2 hne (type_ne hg1 h.blk (by decide))).trans hg1, f1, fb, hc, hr.keep (hall b (h.rng b fb).2 (hr.ne hg (by decide)) (hr.ne h.blk (by decide)))⟩
  · by_cases h1 : d = j
    · subst h1
      rw [List.getElem?_set_self (by rw [h.vl]; exact hd)] at hj
      cases hj
    · by_cases h2 : d = k
      · subst h2
        rw [List.getElem?_set_self (by rw [h.vl]; exact hd)] at hk
        cases hk
      · rw [List.getElem?_set_ne h1] at hj
        rw [List.getElem?_set_ne h2] at hk
        exact h.inj j k a hj hk
end

/-- A table whose first k entries are moved. -/
def stK (st : St) (a b : List ByteArray) (k : Nat) : St := (st.take k).map (movedE a b) ++ st.drop k
theorem stK_zero (st : St) (a b : List ByteArray) : stK st a b 0 = st := by simp [stK]
theorem stK_all (st : St) (a b : List ByteArray) (h : st.length = 8) : stK st a b 8 = st.map (movedE a b) := by
  unfold stK
  rw [List.take_of_length_le (by omega), List.drop_of_length_le (by omega), List.append_nil]
theorem stK_at (st : St) (a b : List ByteArray) (k : Nat) : (stK st a b k)[k]? = st[k]? := by
  unfold stK
  rcases Nat.lt_or_ge k st.length with h | h
  · rw [List.getElem?_append_right (by simp; omega), List.length_map, List.length_take, List.getElem?_drop]
    congr 1
    omega
  · rw [List.getElem?_eq_none (by simp; omega), List.getElem?_eq_none (by omega)]
theorem stK_succ (st : St) (a b : List ByteArray) (k : Nat) (e : Option Ent) (h : st[k]? = some e) : stK st a b (k + 1) = (stK st a b k).set k (movedE a b e) := by
  obtain ⟨hl, he⟩ := List.getElem?_eq_some_iff.1 h
  unfold stK
  rw [List.take_succ_eq_append_getElem hl, List.map_append, List.drop_eq_getElem_cons hl, he]
  rw [List.set_append_right _ _ (by simp; omega)]
  simp [Nat.min_eq_left (Nat.le_of_lt hl)]
theorem stK_same (st : St) (a b : List ByteArray) (k : Nat) (e : Option Ent) (h : st[k]? = some e) (hm : movedE a b e = e) : stK st a b (k + 1) = stK st a b k := by
  rw [stK_succ st a b k e h, hm]
  have := stK_at st a b k
  rw [h] at this
  exact List.ext_getElem? fun j => by
    by_cases hj : k = j
    · subst hj
      rw [List.getElem?_set_self (List.getElem?_eq_some_iff.1 this).1, this]
    · rw [List.getElem?_set_ne hj]
end Go.Proofs.YthafpbidfgmacaaDoor.Hd
