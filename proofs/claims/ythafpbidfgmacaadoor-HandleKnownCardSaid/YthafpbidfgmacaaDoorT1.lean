/- How a table of descriptors lies in memory, and what stays of it over steps that leave its blocks alone. -/
import Derived.Test.YthafpbidfgmacaaDoorT0
import Derived.Test.YthafpbidfgmacaaDoorK
import Derived.Test.YthafpbidfgmacaaDoorJ0
namespace Go.Proofs.YthafpbidfgmacaaDoor.Hd
open Go.RowKit Go.Proofs.YthafpbidfgmacaaDoor Go.Proofs.YthafpbidfgmacaaDoorW.PrintWords Go.Proofs.YthafpbidfgmacaaDoorW.PrintLast Go.Proofs.YthafpbidfgmacaaDoorW.PrintMore
set_option linter.unusedVariables false

/-- Of what was there only blocks of F have turned; F' is the footprint behind it. -/
structure Fr (F F' : Nat → Prop) (w w' : World) : Prop where
  os : w'.os = w.os
  tape : w'.tape = w.tape
  output : w'.output = w.output
  size : w.heap.size ≤ w'.heap.size
  keep : ∀ g, g < w.heap.size → ¬ F g → w'.heap[g]? = w.heap[g]?
  sub : ∀ g, F' g → F g ∨ w.heap.size ≤ g
theorem Fr.refl (F : Nat → Prop) (w : World) : Fr F F w w := ⟨rfl, rfl, rfl, Nat.le_refl _, fun _ _ _ => rfl, fun _ h => .inl h⟩
theorem Fr.trans {F F' F'' : Nat → Prop} {a b c : World} (h : Fr F F' a b) (k : Fr F' F'' b c) : Fr F F'' a c := by
  refine ⟨k.os.trans h.os, k.tape.trans h.tape, k.output.trans h.output, Nat.le_trans h.size k.size, fun g hg hn => ?_, fun g hg => ?_⟩
  · refine (k.keep g (Nat.lt_of_lt_of_le hg h.size) (fun hf => ?_)).trans (h.keep g hg hn)
    rcases h.sub g hf with h1 | h1
    · exact hn h1
    · omega
  · rcases k.sub g hg with h1 | h1
    · exact h.sub g h1
    · exact .inr (Nat.le_trans h.size h1)
theorem Fr.of_below {F : Nat → Prop} {w w' : World} (h : Below w.heap.size w w') : Fr F F w w' := ⟨h.os, h.tape, h.output, h.size, fun g hg _ => h.block g hg, fun _ h => .inl h⟩
theorem Fr.below {F F' : Nat → Prop} {w w' : World} {B : Nat} (h : Fr F F' w w') (hF : ∀ g, F g → B ≤ g) (hB : B ≤ w.heap.size) : Below B w w' :=
  ⟨h.os, h.tape, h.output, h.size, fun g hg => h.keep g (by omega) (fun hf => by have := hF g hf; omega)⟩
theorem Fr.pre {F F' : Nat → Prop} {a b c : World} (h : Below a.heap.size a b) (k : Fr F F' b c) : Fr F F' a c := (Fr.of_below h).trans k
theorem Fr.post {F F' : Nat → Prop} {a b c : World} (h : Fr F F' a b) (k : Below b.heap.size b c) : Fr F F' a c := h.trans (Fr.of_below k)

/-- A slice of strings that lies in a block. -/
def RowS (w : World) (b o : Nat) (l : List ByteArray) : Prop := ∀ (j : Nat) x, l[j]? = some x → w.cell? ⟨b, o + j, none⟩ = some (.string x)
theorem RowS.keep {w w' : World} {b o : Nat} {l : List ByteArray} (h : RowS w b o l) (hb : w'.heap[b]? = w.heap[b]?) : RowS w' b o l :=
  fun j x hx => (World.cell?_of_block (w := w) hb).trans (h j x hx)
theorem RowS.reads {w : World} {b o : Nat} {l : List ByteArray} (h : RowS w b o l) (hl : l.length ≤ 9223372036854775807) : Kd.C Kd.string w (some ⟨b, o, none⟩) l.length l :=
  Kd.C_of_reads (d := ByteArray.empty) (h1 := fun _ => rfl) ⟨rfl, hl, fun _ => ⟨_, rfl, fun j hj => by
    rw [add_none, List.getD_eq_getElem?_getD, List.getElem?_eq_getElem hj]
    exact h j _ (List.getElem?_eq_getElem hj)⟩⟩
theorem RowS.lt {w : World} {b o : Nat} {l : List ByteArray} (h : RowS w b o l) (hl : 0 < l.length) : b < w.heap.size :=
  (cell_spot (h 0 _ (List.getElem?_eq_getElem hl))).2

/-- A slice of strings in a block of strings. -/
def Row9 (w : World) (b o : Nat) (l : List ByteArray) : Prop := RowS w b o l ∧ ∃ cur, w.heap[b]? = some (.cells cur 9 (0, 0))
theorem Row9.keep {w w' : World} {b o : Nat} {l : List ByteArray} (h : Row9 w b o l) (hb : w'.heap[b]? = w.heap[b]?) : Row9 w' b o l :=
  ⟨h.1.keep hb, h.2.elim fun cur hc => ⟨cur, hb.trans hc⟩⟩
theorem type_ne {w : World} {a b : Nat} {c d : Array Value} {s t : TypeId} (ha : w.heap[a]? = some (.cells c s (0, 0))) (hb : w.heap[b]? = some (.cells d t (0, 0))) (hne : s ≠ t) : a ≠ b := by
  rintro rfl
  rw [ha] at hb
  injection hb with hb
  injection hb with _ hb
  exact hne hb
theorem Row9.ne {w : World} {b o : Nat} {l : List ByteArray} (h : Row9 w b o l) {g : Nat} {c : Array Value} {t : TypeId} (hg : w.heap[g]? = some (.cells c t (0, 0))) (ht : 9 ≠ t) : b ≠ g :=
  h.2.elim fun _ hc => type_ne hc hg ht
/-- What a table's cell says. -/
def Slot (w : World) (F : Nat → Prop) : Option Ent → Value → Prop
  | none, v => v = .pointer none
  | some (s, l), v => okP l = true ∧ ∃ g b o c, v = .pointer (some ⟨g, 0, none⟩) ∧ w.heap[g]? = some (.cells #[.string s, .slice (some ⟨b, o, none⟩) l.length c] 90 (0, 0)) ∧ F g ∧ F b ∧ l.length ≤ c ∧ Row9 w b o l
theorem Slot.keep {w w' : World} {F F' : Nat → Prop} {e : Option Ent} {v : Value} (h : Slot w F e v) (hk : ∀ g, F g → w'.heap[g]? = w.heap[g]?) (hF : ∀ g, F g → F' g) : Slot w' F' e v := by
  cases e with
  | none => exact h
  | some p =>
    obtain ⟨s, l⟩ := p
    obtain ⟨h0, g, b, o, c, hv, hg, fg, fb, hc, hr⟩ := h
    exact ⟨h0, g, b, o, c, hv, (hk g fg).trans hg, hF g fg, hF b fb, hc, hr.keep (hk b fb)⟩
theorem Slot.isNil {w : World} {F : Nat → Prop} {v : Value} (h : Slot w F none v) : v = .pointer none := h

/-- A table: made by New or not, what its eight cells say, the blocks that it holds, all from B on. -/
structure TabV (B : Nat) (w : World) (t : Nat) (made : Bool) (st : St) (F : Nat → Prop) (vs : List Value) : Prop where
  vl : vs.length = 8
  sl : st.length = 8
  blk : w.heap[t]? = some (.cells (.bool made :: vs).toArray 87 (0, 0))
  ft : F t
  rng : ∀ g, F g → B ≤ g ∧ g < w.heap.size
  slot : ∀ (d : Nat) e v, st[d]? = some e → vs[d]? = some v → Slot w F e v
  inj : ∀ (d e : Nat) a, vs[d]? = some (.pointer (some a)) → vs[e]? = some (.pointer (some a)) → d = e
def Tab (B : Nat) (w : World) (t : Nat) (made : Bool) (st : St) (F : Nat → Prop) : Prop := ∃ vs, TabV B w t made st F vs

section
variable {B : Nat} {w w' : World} {t : Nat} {made : Bool} {st : St} {F F' : Nat → Prop} {vs : List Value}
theorem TabV.keep (h : TabV B w t made st F vs) (hk : ∀ g, F g → w'.heap[g]? = w.heap[g]?) (hs : w.heap.size ≤ w'.heap.size) : TabV B w' t made st F vs :=
  ⟨h.vl, h.sl, (hk t h.ft).trans h.blk, h.ft, fun g hg => ⟨(h.rng g hg).1, Nat.lt_of_lt_of_le (h.rng g hg).2 hs⟩, fun d e v he hv => (h.slot d e v he hv).keep hk (fun _ h => h), h.inj⟩
theorem Tab.keep (h : Tab B w t made st F) (hk : ∀ g, F g → w'.heap[g]? = w.heap[g]?) (hs : w.heap.size ≤ w'.heap.size) : Tab B w' t made st F := by
  obtain ⟨vs, h⟩ := h
  exact ⟨vs, h.keep hk hs⟩
theorem Tab.rng (h : Tab B w t made st F) (g : Nat) (hg : F g) : B ≤ g ∧ g < w.heap.size := h.elim fun _ h => h.rng g hg
theorem Tab.lo (h : Tab B w t made st F) (g : Nat) (hg : F g) : B ≤ g := (h.rng g hg).1
theorem Tab.below (h : Tab B w t made st F) (hb : Below w.heap.size w w') : Tab B w' t made st F := h.keep (fun g hg => hb.block g (h.rng g hg).2) hb.size
theorem Tab.drew (h : Tab B w t made st F) : Tab B w.drew t made st F := h.keep (fun _ _ => rfl) (Nat.le_refl _)
theorem Tab.drewN (h : Tab B w t made st F) (n : Nat) : Tab B (w.drewN n) t made st F := h.keep (fun _ _ => rfl) (Nat.le_refl _)
theorem Tab.alloc (h : Tab B w t made st F) (o : Obj) : Tab B (w.alloc o) t made st F := h.below (below_alloc (Below.refl _ _) _)
/-- Another thing's steps. -/
theorem Tab.other {G G' : Nat → Prop} (h : Tab B w t made st F) (hf : Fr G G' w w') (hd : ∀ g, F g → ¬ G g) : Tab B w' t made st F := h.keep (fun g hg => hf.keep g (h.rng g hg).2 (hd g hg)) hf.size
theorem Tab.apart {G G' : Nat → Prop} (h : Tab B w t made st F) (hf : Fr G G' w w') (hd : ∀ g, F g → ¬ G g) : ∀ g, F g → ¬ G' g := fun g hg hg' => by
  rcases hf.sub g hg' with h1 | h1
  · exact hd g hg h1
  · have := (h.rng g hg).2
    omega
theorem Tab.sl (h : Tab B w t made st F) : st.length = 8 := h.elim fun _ h => h.sl
theorem Tab.bframe (h : Tab B w t made st F) (hf : Fr F F' w w') (hB : B ≤ w.heap.size) : Below B w w' := hf.below h.lo hB

theorem TabV.lt (h : TabV B w t made st F vs) : t < w.heap.size := (h.rng t h.ft).2
theorem TabV.made_cell (h : TabV B w t made st F vs) : w.cell? ⟨t, 0, none⟩ = some (.bool made) := by rw [cell_of_row w t 0 _ _ _ h.blk]; rfl
theorem TabV.cell (h : TabV B w t made st F vs) (d : Nat) (hd : d < 8) : w.cell? ⟨t, 1 + d, none⟩ = some (vs.getD d undef) := by
  rw [show 1 + d = d + 1 from Nat.add_comm _ _, cell_of_row w t (d + 1) _ _ _ h.blk]
  simp [h.vl, hd, List.getD_eq_getElem?_getD]
theorem TabV.frozen (h : TabV B w t made st F vs) (i : Nat) : w.frozen? ⟨t, i, none⟩ = false := by simp [World.frozen?, h.blk]
theorem TabV.at_ (h : TabV B w t made st F vs) (d : Nat) (hd : d < 8) : ∃ e v, st[d]? = some e ∧ vs[d]? = some v ∧ Slot w F e v ∧ w.cell? ⟨t, 1 + d, none⟩ = some v := by
  have h1 : d < st.length := by rw [h.sl]; exact hd
  have h2 : d < vs.length := by rw [h.vl]; exact hd
  refine ⟨_, _, List.getElem?_eq_getElem h1, List.getElem?_eq_getElem h2, h.slot d _ _ (List.getElem?_eq_getElem h1) (List.getElem?_eq_getElem h2), ?_⟩
  rw [h.cell d hd, List.getD_eq_getElem?_getD, List.getElem?_eq_getElem h2]
  rfl
theorem heap_setCell_row (w : World) (t i : Nat) (cs : Array Value) (ty : TypeId) (u : Value) (h : w.heap[t]? = some (.cells cs ty (0, 0))) : (w.setCell ⟨t, i, none⟩ u).heap[t]? = some (.cells (cs.setIfInBounds i u) ty (0, 0)) := by
  simp [World.setCell, Array.getElem?_modify, h]
/-- A cell of the table is set: to nil, or to a block that was not among its. -/
theorem TabV.set (h : TabV B w t made st F vs) (d : Nat) (hd : d < 8) (e : Option Ent) (u : Value) (hF : ∀ g, F g → F' g) (hr : ∀ g, F' g → B ≤ g ∧ g < w.heap.size) (hs : Slot w F' e u)
    (hn : ∀ a, u = .pointer (some a) → ∀ j : Nat, j ≠ d → vs[j]? ≠ some (.pointer (some a))) :
    TabV B (w.setCell ⟨t, 1 + d, none⟩ u) t made (st.set d e) F' (vs.set d u) := by
  have hot : ∀ g, g ≠ t → (w.setCell ⟨t, 1 + d, none⟩ u).heap[g]? = w.heap[g]? := fun g hg => Below.heap_setCell w _ u g hg
  have hslot : ∀ e v, Slot w F' e v → Slot (w.setCell ⟨t, 1 + d, none⟩ u) F' e v := by
    intro e v hs
    cases e with
    | none => exact hs
    | some p =>
      obtain ⟨s, l⟩ := p
      obtain ⟨h0, g, b, o, c, hv, hg, fg, fb, hc, hr⟩ := hs
      exact ⟨h0, g, b, o, c, hv, (hot g (type_ne hg h.blk (by decide))).trans hg, fg, fb, hc, hr.keep (hot b (hr.ne h.blk (by decide)))⟩
  refine ⟨by rw [List.length_set, h.vl], by rw [List.length_set, h.sl], ?_, hF t h.ft, fun g hg => ⟨(hr g hg).1, by simpa [World.setCell] using (hr g hg).2⟩, ?_, ?_⟩
  · rw [show 1 + d = d + 1 from Nat.add_comm _ _, heap_setCell_row w t (d + 1) _ _ u h.blk]
    simp
  · intro j e' v he hv
    by_cases hj : d = j
    · subst hj
      rw [List.getElem?_set_self (by rw [h.sl]; exact hd)] at he
      rw [List.getElem?_set_self (by rw [h.vl]; exact hd)] at hv
      obtain rfl := Option.some.inj he
      obtain rfl := Option.some.inj hv
      exact hslot _ _ hs
    · rw [List.getElem?_set_ne hj] at he hv
      exact hslot e' v ((h.slot j e' v he hv).keep (fun _ _ => rfl) hF)
  · intro j k a hj hk
    by_cases h1 : d = j
    · by_cases h2 : d = k
      · omega
      · subst h1
        rw [List.getElem?_set_self (by rw [h.vl]; exact hd)] at hj
        rw [List.getElem?_set_ne h2] at hk
        exact absurd hk (hn a (Option.some.inj hj) k (fun e => h2 e.symm))
    · by_cases h2 : d = k
      · subst h2
        rw [List.getElem?_set_self (by rw [h.vl]; exact hd)] at hk
        rw [List.getElem?_set_ne h1] at hj
        exact absurd hj (hn a (Option.some.inj hk) j (fun e => h1 e.symm))
      · rw [List.getElem?_set_ne h1] at hj
        rw [List.getElem?_set_ne h2] at hk
        exact h.inj j k a hj hk
end
end Go.Proofs.YthafpbidfgmacaaDoor.Hd
