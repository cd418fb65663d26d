/- Texts put together by merge.py: T0,T1,T2,T3. -/
import Derived.Test.YthafpbidfgmacaaDoorN1h
import Derived.Test.YthafpbidfgmacaaDoorK
import Derived.Test.YthafpbidfgmacaaDoorJ0
import Derived.WalkKit
import Derived.WalkSpells
import Derived.Test.YthafpbidfgmacaaDoorSShelf3
import Derived.Deep.RegionHeld3
import Derived.Deep.DrawnRows
import Derived.StillTailTactics
import Derived.Lib.Hide
import Derived.Outline
/- Plain law of descriptors: what a table holds, and what each call makes of it. -/
namespace Go.Proofs.YthafpbidfgmacaaDoor.Hd
open Go.RowKit Go.Proofs.YthafpbidfgmacaaDoor.Q
set_option linter.unusedVariables false

abbrev Ent := ByteArray × List ByteArray
abbrev St := List (Option Ent)
/-- May a path be opened? -/
def okP (l : List ByteArray) : Bool := !l.isEmpty && rightB l
def atS (st : St) (d : Int) : Option Ent := if 0 ≤ d ∧ d < 8 then st.getD d.toNat none else none
def freeS (st : St) : Nat := (st.findIdx? (·.isNone)).getD 8
def openS (st : St) (s : ByteArray) (l : List ByteArray) : St × Int × Int :=
  if okP l = true then (if freeS st < 8 then (st.set (freeS st) (some (s, l)), (freeS st : Int), 0) else (st, 0, 7)) else (st, 0, 4)
def ofS (st : St) (d : Int) : ByteArray × List ByteArray × Int := match atS st d with | some (s, l) => (s, l, 0) | none => (⟨#[]⟩, [], 12)
def closeS (st : St) (d : Int) : St × Int := match atS st d with | some _ => (st.set d.toNat none, 0) | none => (st, 12)
def movedE (a b : List ByteArray) : Option Ent → Option Ent
  | none => none
  | some (s, l) => if s.toList = [] ∧ a.length ≤ l.length ∧ l.take a.length = a then (if okP (b ++ l.drop a.length) = true then some (s, b ++ l.drop a.length) else none) else some (s, l)
def movedS (st : St) (a b : List ByteArray) : St := if okP a = true ∧ okP b = true then st.map (movedE a b) else st
def countS (st : St) : Nat := st.countP (·.isSome)
def newS : St := List.replicate 8 none

theorem okP_len {l : List ByteArray} (h : okP l = true) : 1 ≤ l.length ∧ l.length ≤ 6 ∧ l.all nameB = true := by
  unfold okP rightB at h
  simp only [Bool.and_eq_true, Bool.not_eq_true', List.isEmpty_eq_false_iff, decide_eq_true_eq] at h
  obtain ⟨h0, h1, h2⟩ := h
  refine ⟨?_, h2, h1⟩
  cases l with
  | nil => exact absurd rfl h0
  | cons _ _ => simp
theorem freeS_le (st : St) (h : st.length = 8) : freeS st ≤ 8 := by
  unfold freeS
  cases e : st.findIdx? (·.isNone) with
  | none => exact Nat.le_refl _
  | some i =>
    have := (List.findIdx?_eq_some_iff_findIdx_eq.1 e).1
    simp only [Option.getD_some]
    omega
theorem freeS_at (st : St) (h : freeS st < 8) : st[freeS st]? = some none := by
  unfold freeS at h ⊢
  cases e : st.findIdx? (·.isNone) with
  | none => rw [e] at h; simp at h
  | some i =>
    obtain ⟨h1, h2, _⟩ := List.findIdx?_eq_some_iff_getElem.1 e
    simp only [Option.getD_some]
    rw [List.getElem?_eq_getElem h1]
    simpa using h2
theorem freeS_before (st : St) (hl : st.length = 8) (k : Nat) (h : k < freeS st) : ∃ x, st[k]? = some (some x) := by
  unfold freeS at h
  have hlt : k < st.length := by have := freeS_le st hl; unfold freeS at this; omega
  have hs : (st[k]).isNone = false := by
    cases e : st.findIdx? (·.isNone) with
    | none =>
      have := List.findIdx?_eq_none_iff.1 e
      exact this _ (List.getElem_mem hlt)
    | some i =>
      rw [e] at h
      obtain ⟨_, _, h3⟩ := List.findIdx?_eq_some_iff_getElem.1 e
      exact Bool.eq_false_iff.2 (h3 k h)
  rw [List.getElem?_eq_getElem hlt]
  cases hx : st[k] with
  | none => rw [hx] at hs; cases hs
  | some x => exact ⟨x, rfl⟩
/-- k entries are taken and the next is free: it is the first free one. -/
theorem freeS_is (st : St) (k : Nat) (h1 : ∀ j, j < k → ∃ x, st[j]? = some (some x)) (h2 : st[k]? = some none) (hl : st.length = 8) : freeS st = k := by
  have hk : k < 8 := by have := (List.getElem?_eq_some_iff.1 h2).1; omega
  rcases Nat.lt_trichotomy (freeS st) k with h | h | h
  · obtain ⟨x, hx⟩ := h1 _ h
    have := freeS_at st (by omega)
    rw [hx] at this
    cases this
  · exact h
  · obtain ⟨x, hx⟩ := freeS_before st hl k h
    rw [h2] at hx
    cases hx
theorem freeS_full (st : St) (h1 : ∀ j, j < 8 → ∃ x, st[j]? = some (some x)) : ¬ freeS st < 8 := by
  intro h
  obtain ⟨x, hx⟩ := h1 _ h
  have := freeS_at st h
  rw [hx] at this
  cases this
end Go.Proofs.YthafpbidfgmacaaDoor.Hd

/- How a table of descriptors lies in memory, and what stays of it over steps that leave its blocks alone. -/
namespace Go.Proofs.YthafpbidfgmacaaDoor.Hd
open Go.RowKit Go.Proofs.YthafpbidfgmacaaDoor Go.Proofs.YthafpbidfgmacaaDoorW.PrintWords Go.Proofs.YthafpbidfgmacaaDoorW.PrintLast Go.Proofs.YthafpbidfgmacaaDoorW.PrintMore
set_option linter.unusedVariables false

/-- Of what was there only blocks of F have turned; F' is the footprint behind it. -/
structure Fr (F F' : Nat → Prop) (w w' : World) : Prop where
  os : w'.os = w.os
  tape : w'.tape = w.tape
  output : w'.output = w.output
  size : w.heap.size ≤ w'.heap.size
  keep : ∀ g, g < w.heap.size → ¬ F g → w'.heap[g]? = w.heap[g]?
  sub : ∀ g, F' g → F g ∨ w.heap.size ≤ g
theorem Fr.refl (F : Nat → Prop) (w : World) : Fr F F w w := ⟨rfl, rfl, rfl, Nat.le_refl _, fun _ _ _ => rfl, fun _ h => .inl h⟩
theorem Fr.trans {F F' F'' : Nat → Prop} {a b c : World} (h : Fr F F' a b) (k : Fr F' F'' b c) : Fr F F'' a c := by
  refine ⟨k.os.trans h.os, k.tape.trans h.tape, k.output.trans h.output, Nat.le_trans h.size k.size, fun g hg hn => ?_, fun g hg => ?_⟩
  · refine (k.keep g (Nat.lt_of_lt_of_le hg h.size) (fun hf => ?_)).trans (h.keep g hg hn)
    rcases h.sub g hf with h1 | h1
    · exact hn h1
    · omega
  · rcases k.sub g hg with h1 | h1
    · exact h.sub g h1
    · exact .inr (Nat.le_trans h.size h1)
theorem Fr.of_below {F : Nat → Prop} {w w' : World} (h : Below w.heap.size w w') : Fr F F w w' := ⟨h.os, h.tape, h.output, h.size, fun g hg _ => h.block g hg, fun _ h => .inl h⟩
theorem Fr.below {F F' : Nat → Prop} {w w' : World} {B : Nat} (h : Fr F F' w w') (hF : ∀ g, F g → B ≤ g) (hB : B ≤ w.heap.size) : Below B w w' :=
  ⟨h.os, h.tape, h.output, h.size, fun g hg => h.keep g (by omega) (fun hf => by have := hF g hf; omega)⟩
theorem Fr.pre {F F' : Nat → Prop} {a b c : World} (h : Below a.heap.size a b) (k : Fr F F' b c) : Fr F F' a c := (Fr.of_below h).trans k
theorem Fr.post {F F' : Nat → Prop} {a b c : World} (h : Fr F F' a b) (k : Below b.heap.size b c) : Fr F F' a c := h.trans (Fr.of_below k)

/-- A slice of strings that lies in a block. -/
def RowS (w : World) (b o : Nat) (l : List ByteArray) : Prop := ∀ (j : Nat) x, l[j]? = some x → w.cell? ⟨b, o + j, none⟩ = some (.string x)
theorem RowS.keep {w w' : World} {b o : Nat} {l : List ByteArray} (h : RowS w b o l) (hb : w'.heap[b]? = w.heap[b]?) : RowS w' b o l :=
  fun j x hx => (World.cell?_of_block (w := w) hb).trans (h j x hx)
theorem RowS.reads {w : World} {b o : Nat} {l : List ByteArray} (h : RowS w b o l) (hl : l.length ≤ 9223372036854775807) : Kd.C Kd.string w (some ⟨b, o, none⟩) l.length l :=
  Kd.C_of_reads (d := ByteArray.empty) (h1 := fun _ => rfl) ⟨rfl, hl, fun _ => ⟨_, rfl, fun j hj => by
    rw [add_none, List.getD_eq_getElem?_getD, List.getElem?_eq_getElem hj]
    exact h j _ (List.getElem?_eq_getElem hj)⟩⟩
theorem RowS.lt {w : World} {b o : Nat} {l : List ByteArray} (h : RowS w b o l) (hl : 0 < l.length) : b < w.heap.size :=
  (cell_spot (h 0 _ (List.getElem?_eq_getElem hl))).2

/-- A slice of strings in a block of strings. -/
def Row9 (w : World) (b o : Nat) (l : List ByteArray) : Prop := RowS w b o l ∧ ∃ cur, w.heap[b]? = some (.cells cur 9 (0, 0))
theorem Row9.keep {w w' : World} {b o : Nat} {l : List ByteArray} (h : Row9 w b o l) (hb : w'.heap[b]? = w.heap[b]?) : Row9 w' b o l :=
  ⟨h.1.keep hb, h.2.elim fun cur hc => ⟨cur, hb.trans hc⟩⟩
theorem type_ne {w : World} {a b : Nat} {c d : Array Value} {s t : TypeId} (ha : w.heap[a]? = some (.cells c s (0, 0))) (hb : w.heap[b]? = some (.cells d t (0, 0))) (hne : s ≠ t) : a ≠ b := by
  rintro rfl
  rw [ha] at hb
  injection hb with hb
  injection hb with _ hb
  exact hne hb
theorem Row9.ne {w : World} {b o : Nat} {l : List ByteArray} (h : Row9 w b o l) {g : Nat} {c : Array Value} {t : TypeId} (hg : w.heap[g]? = some (.cells c t (0, 0))) (ht : 9 ≠ t) : b ≠ g :=
  h.2.elim fun _ hc => type_ne hc hg ht
/-- What a table's cell says. -/
def Slot (w : World) (F : Nat → Prop) : Option Ent → Value → Prop
  | none, v => v = .pointer none
  | some (s, l), v => okP l = true ∧ ∃ g b o c, v = .pointer (some ⟨g, 0, none⟩) ∧ w.heap[g]? = some (.cells #[.string s, .slice (some ⟨b, o, none⟩) l.length c] 90 (0, 0)) ∧ F g ∧ F b ∧ l.length ≤ c ∧ Row9 w b o l
theorem Slot.keep {w w' : World} {F F' : Nat → Prop} {e : Option Ent} {v : Value} (h : Slot w F e v) (hk : ∀ g, F g → w'.heap[g]? = w.heap[g]?) (hF : ∀ g, F g → F' g) : Slot w' F' e v := by
  cases e with
  | none => exact h
  | some p =>
    obtain ⟨s, l⟩ := p
    obtain ⟨h0, g, b, o, c, hv, hg, fg, fb, hc, hr⟩ := h
    exact ⟨h0, g, b, o, c, hv, (hk g fg).trans hg, hF g fg, hF b fb, hc, hr.keep (hk b fb)⟩
theorem Slot.isNil {w : World} {F : Nat → Prop} {v : Value} (h : Slot w F none v) : v = .pointer none := h

/-- A table: made by New or not, what its eight cells say, the blocks that it holds, all from B on. -/
structure TabV (B : Nat) (w : World) (t : Nat) (made : Bool) (st : St) (F : Nat → Prop) (vs : List Value) : Prop where
  vl : vs.length = 8
  sl : st.length = 8
  blk : w.heap[t]? = some (.cells (.bool made :: vs).toArray 87 (0, 0))
  ft : F t
  rng : ∀ g, F g → B ≤ g ∧ g < w.heap.size
  slot : ∀ (d : Nat) e v, st[d]? = some e → vs[d]? = some v → Slot w F e v
  inj : ∀ (d e : Nat) a, vs[d]? = some (.pointer (some a)) → vs[e]? = some (.pointer (some a)) → d = e
def Tab (B : Nat) (w : World) (t : Nat) (made : Bool) (st : St) (F : Nat → Prop) : Prop := ∃ vs, TabV B w t made st F vs

section
variable {B : Nat} {w w' : World} {t : Nat} {made : Bool} {st : St} {F F' : Nat → Prop} {vs : List Value}
theorem TabV.keep (h : TabV B w t made st F vs) (hk : ∀ g, F g → w'.heap[g]? = w.heap[g]?) (hs : w.heap.size ≤ w'.heap.size) : TabV B w' t made st F vs :=
  ⟨h.vl, h.sl, (hk t h.ft).trans h.blk, h.ft, fun g hg => ⟨(h.rng g hg).1, Nat.lt_of_lt_of_le (h.rng g hg).2 hs⟩, fun d e v he hv => (h.slot d e v he hv).keep hk (fun _ h => h), h.inj⟩
theorem Tab.keep (h : Tab B w t made st F) (hk : ∀ g, F g → w'.heap[g]? = w.heap[g]?) (hs : w.heap.size ≤ w'.heap.size) : Tab B w' t made st F := by
  obtain ⟨vs, h⟩ := h
  exact ⟨vs, h.keep hk hs⟩
theorem Tab.rng (h : Tab B w t made st F) (g : Nat) (hg : F g) : B ≤ g ∧ g < w.heap.size := h.elim fun _ h => h.rng g hg
theorem Tab.lo (h : Tab B w t made st F) (g : Nat) (hg : F g) : B ≤ g := (h.rng g hg).1
theorem Tab.below (h : Tab B w t made st F) (hb : Below w.heap.size w w') : Tab B w' t made st F := h.keep (fun g hg => hb.block g (h.rng g hg).2) hb.size
theorem Tab.drew (h : Tab B w t made st F) : Tab B w.drew t made st F := h.keep (fun _ _ => rfl) (Nat.le_refl _)
theorem Tab.drewN (h : Tab B w t made st F) (n : Nat) : Tab B (w.drewN n) t made st F := h.keep (fun _ _ => rfl) (Nat.le_refl _)
theorem Tab.alloc (h : Tab B w t made st F) (o : Obj) : Tab B (w.alloc o) t made st F := h.below (below_alloc (Below.refl _ _) _)
/-- Another thing's steps. -/
theorem Tab.other {G G' : Nat → Prop} (h : Tab B w t made st F) (hf : Fr G G' w w') (hd : ∀ g, F g → ¬ G g) : Tab B w' t made st F := h.keep (fun g hg => hf.keep g (h.rng g hg).2 (hd g hg)) hf.size
theorem Tab.apart {G G' : Nat → Prop} (h : Tab B w t made st F) (hf : Fr G G' w w') (hd : ∀ g, F g → ¬ G g) : ∀ g, F g → ¬ G' g := fun g hg hg' => by
  rcases hf.sub g hg' with h1 | h1
  · exact hd g hg h1
  · have := (h.rng g hg).2
    omega
theorem Tab.sl (h : Tab B w t made st F) : st.length = 8 := h.elim fun _ h => h.sl
theorem Tab.bframe (h : Tab B w t made st F) (hf : Fr F F' w w') (hB : B ≤ w.heap.size) : Below B w w' := hf.below h.lo hB

theorem TabV.lt (h : TabV B w t made st F vs) : t < w.heap.size := (h.rng t h.ft).2
theorem TabV.made_cell (h : TabV B w t made st F vs) : w.cell? ⟨t, 0, none⟩ = some (.bool made) := by rw [cell_of_row w t 0 _ _ _ h.blk]; rfl
theorem TabV.cell (h : TabV B w t made st F vs) (d : Nat) (hd : d < 8) : w.cell? ⟨t, 1 + d, none⟩ = some (vs.getD d undef) := by
  rw [show 1 + d = d + 1 from Nat.add_comm _ _, cell_of_row w t (d + 1) _ _ _ h.blk]
  simp [h.vl, hd, List.getD_eq_getElem?_getD]
theorem TabV.frozen (h : TabV B w t made st F vs) (i : Nat) : w.frozen? ⟨t, i, none⟩ = false := by simp [World.frozen?, h.blk]
theorem TabV.at_ (h : TabV B w t made st F vs) (d : Nat) (hd : d < 8) : ∃ e v, st[d]? = some e ∧ vs[d]? = some v ∧ Slot w F e v ∧ w.cell? ⟨t, 1 + d, none⟩ = some v := by
  have h1 : d < st.length := by rw [h.sl]; exact hd
  have h2 : d < vs.length := by rw [h.vl]; exact hd
  refine ⟨_, _, List.getElem?_eq_getElem h1, List.getElem?_eq_getElem h2, h.slot d _ _ (List.getElem?_eq_getElem h1) (List.getElem?_eq_getElem h2), ?_⟩
  rw [h.cell d hd, List.getD_eq_getElem?_getD, List.getElem?_eq_getElem h2]
  rfl
theorem heap_setCell_row (w : World) (t i : Nat) (cs : Array Value) (ty : TypeId) (u : Value) (h : w.heap[t]? = some (.cells cs ty (0, 0))) : (w.setCell ⟨t, i, none⟩ u).heap[t]? = some (.cells (cs.setIfInBounds i u) ty (0, 0)) := by
  simp [World.setCell, Array.getElem?_modify, h]
/-- A cell of the table is set: to nil, or to a block that was not among its. -/
theorem TabV.set (h : TabV B w t made st F vs) (d : Nat) (hd : d < 8) (e : Option Ent) (u : Value) (hF : ∀ g, F g → F' g) (hr : ∀ g, F' g → B ≤ g ∧ g < w.heap.size) (hs : Slot w F' e u)
    (hn : ∀ a, u = .pointer (some a) → ∀ j : Nat, j ≠ d → vs[j]? ≠ some (.pointer (some a))) :
    TabV B (w.setCell ⟨t, 1 + d, none⟩ u) t made (st.set d e) F' (vs.set d u) := by
  have hot : ∀ g, g ≠ t → (w.setCell ⟨t, 1 + d, none⟩ u).heap[g]? = w.heap[g]? := fun g hg => Below.heap_setCell w _ u g hg
  have hslot : ∀ e v, Slot w F' e v → Slot (w.setCell ⟨t, 1 + d, none⟩ u) F' e v := by
    intro e v hs
    cases e with
    | none => exact hs
    | some p =>
      obtain ⟨s, l⟩ := p
      obtain ⟨h0, g, b, o, c, hv, hg, fg, fb, hc, hr⟩ := hs
      exact ⟨h0, g, b, o, c, hv, (hot g (type_ne hg h.blk (by decide))).trans hg, fg, fb, hc, hr.keep (hot b (hr.ne h.blk (by decide)))⟩
  refine ⟨by rw [List.length_set, h.vl], by rw [List.length_set, h.sl], ?_, hF t h.ft, fun g hg => ⟨(hr g hg).1, by simpa [World.setCell] using (hr g hg).2⟩, ?_, ?_⟩
  · rw [show 1 + d = d + 1 from Nat.add_comm _ _, heap_setCell_row w t (d + 1) _ _ u h.blk]
    simp
  · intro j e' v he hv
    by_cases hj : d = j
    · subst hj
      rw [List.getElem?_set_self (by rw [h.sl]; exact hd)] at he
      rw [List.getElem?_set_self (by rw [h.vl]; exact hd)] at hv
      obtain rfl := Option.some.inj he
      obtain rfl := Option.some.inj hv
      exact hslot _ _ hs
    · rw [List.getElem?_set_ne hj] at he hv
      exact hslot e' v ((h.slot j e' v he hv).keep (fun _ _ => rfl) hF)
  · intro j k a hj hk
    by_cases h1 : d = j
    · by_cases h2 : d = k
      · omega
      · subst h1
        rw [List.getElem?_set_self (by rw [h.vl]; exact hd)] at hj
        rw [List.getElem?_set_ne h2] at hk
        exact absurd hk (hn a (Option.some.inj hj) k (fun e => h2 e.symm))
    · by_cases h2 : d = k
      · subst h2
        rw [List.getElem?_set_self (by rw [h.vl]; exact hd)] at hk
        rw [List.getElem?_set_ne h1] at hj
        exact absurd hj (hn a (Option.some.inj hk) j (fun e => h1 e.symm))
      · rw [List.getElem?_set_ne h1] at hj
        rw [List.getElem?_set_ne h2] at hk
        exact h.inj j k a hj hk
end
end Go.Proofs.YthafpbidfgmacaaDoor.Hd

/- The walks of a table's functions: New, is, right, at, Count. -/
namespace Go.Proofs.YthafpbidfgmacaaDoor.Hd
open Go.RowKit Go.Proofs.YthafpbidfgmacaaDoor Go.Proofs.YthafpbidfgmacaaDoorW.PrintWords Go.Proofs.YthafpbidfgmacaaDoorW.PrintLast Go.Proofs.YthafpbidfgmacaaDoorW.PrintMore
set_option linter.unusedVariables false
set_option linter.unusedSimpArgs false

theorem nils_slot (w : World) (F : Nat → Prop) (d : Nat) (e : Option Ent) (v : Value) (he : (List.replicate 8 (none : Option Ent))[d]? = some e) (hv : (List.replicate 8 (Value.pointer none))[d]? = some v) : Slot w F e v := by
  obtain ⟨h1, h2⟩ := List.getElem?_eq_some_iff.1 he
  obtain ⟨h3, h4⟩ := List.getElem?_eq_some_iff.1 hv
  rw [List.getElem_replicate] at h2 h4
  subst h2
  subst h4
  rfl
theorem nils_inj (d e : Nat) (a : Addr) (h : (List.replicate 8 (Value.pointer none))[d]? = some (.pointer (some a))) : d = e := by
  obtain ⟨h3, h4⟩ := List.getElem?_eq_some_iff.1 h
  rw [List.getElem_replicate] at h4
  cases h4
theorem tab_new (w : World) (made : Bool) : Tab w.heap.size (w.alloc (.cells #[.bool made, .pointer none, .pointer none, .pointer none, .pointer none, .pointer none, .pointer none, .pointer none, .pointer none] 87)) w.heap.size made newS (fun g => g = w.heap.size) :=
  ⟨List.replicate 8 (.pointer none), by simp, by simp [newS], by rw [heap_alloc_new]; rfl, rfl, fun g hg => ⟨by omega, by rw [hg]; exact alloc_lt w _⟩, fun d e v he hv => nils_slot _ _ d e v he hv, fun d e a hd _ => nils_inj d e a hd⟩

set_option maxHeartbeats 1000000 in
theorem new_eq (w : World) : Calls Tryd.prog 14 #[] w fun e w' => e = .returned (.pointer (some ⟨w.heap.size, 0, none⟩)) ∧ w' = w.alloc (.cells #[.bool true, .pointer none, .pointer none, .pointer none, .pointer none, .pointer none, .pointer none, .pointer none, .pointer none] 87) := by
  go_enter Tryd.func14, Tryd.ntmps14
  go_wp2
  go_ret
  exact ⟨rfl, rfl⟩
theorem new_calls (w : World) : Calls Tryd.prog 14 #[] w fun e w' => e = .returned (.pointer (some ⟨w.heap.size, 0, none⟩)) ∧ Tab w.heap.size w' w.heap.size true newS (fun g => g = w.heap.size) ∧ Below w.heap.size w w' :=
  (new_eq w).mono fun e w' ⟨he, hw⟩ => ⟨he, by rw [hw]; exact tab_new w true, by rw [hw]; exact below_alloc (Below.refl _ _) _⟩

set_option maxHeartbeats 1000000 in
theorem is_nil (w : World) : Calls Tryd.prog 59 #[.pointer none] w fun e w' => e = .returned (.bool false) ∧ w = w' := by
  go_enter Tryd.func59, Tryd.ntmps59
  go_wp2
  go_ret
  exact ⟨rfl, rfl⟩
set_option maxHeartbeats 1000000 in
theorem is_tab {B : Nat} {w : World} {t : Nat} {made : Bool} {st : St} {F : Nat → Prop} (h : Tab B w t made st F) : Calls Tryd.prog 59 #[.pointer (some ⟨t, 0, none⟩)] w fun e w' => e = .returned (.bool made) ∧ w = w' := by
  obtain ⟨vs, h⟩ := h
  have hc := h.made_cell
  clear h
  go_enter Tryd.func59, Tryd.ntmps59
  go_wp2
  go_ret
  exact ⟨rfl, rfl⟩

/-- May a list of names be gone through at all? -/
def fits (l : List ByteArray) : Prop := l.length ≤ 1000 ∧ (joinB l ⟨#[0]⟩).size ≤ 100000
set_option maxHeartbeats 1000000 in
theorem right_calls (A0 : Option Addr) (c0 : Nat) (l0 : List ByteArray) (w : World) (hr0 : Kd.C Kd.string w A0 l0.length l0) (hc0 : l0.length ≤ c0) (hf : fits l0) :
    Calls Tryd.prog 60 #[.slice A0 l0.length c0] w fun e w' => e = .returned (.bool (okP l0)) ∧ Below w.heap.size w w' := by
  obtain ⟨hl, hj⟩ := hf
  by_cases h0 : l0.length = 0
  · have hz : okP l0 = false := by
      have : l0 = [] := List.length_eq_zero_iff.1 h0
      subst this
      rfl
    rw [h0, hz]
    clear h0 hz hr0 hc0 hl hj
    go_enter Tryd.func60, Tryd.ntmps60
    go_wp2
    go_ret
    exact ⟨rfl, Below.refl _ _⟩
  · have hm := Q.meta_is l0 (by omega) (by omega) (l0.length + 1) (by omega) (by omega)
    have hcall := Lib.hid (Q.key_Meta.calls _ A0 c0 l0 _ w hr0 hc0 hm)
    have h1 : 0 < l0.length := by omega
    have hemp : l0.isEmpty = false := by
      cases l0 with
      | nil => exact absurd rfl h0
      | cons _ _ => rfl
    have hd : decide ((l0.length : Int) > 0) = true := decide_eq_true (by omega)
    have hp : okP l0 = Q.rightB l0 := by unfold okP; rw [hemp]; rfl
    rw [hp]
    clear hp hemp hm hr0 hc0
    by_cases hr : Q.rightB l0 = true
    · rw [if_pos hr] at hcall
      rw [hr]
      clear hr
      obtain ⟨s, hs⟩ : ∃ s : ByteArray, s = ⟨#[109]⟩ ++ joinB l0 ⟨#[0]⟩ := ⟨_, rfl⟩
      rw [← hs] at hcall
      have hne : s.toList.isEmpty = false := by
        rw [hs, Q.tl, Q.app_data]
        rfl
      have hne2 : (!s.toList.isEmpty) = true := by rw [hne]; rfl
      clear hs
      generalize l0.length = n at *
      go_enter Tryd.func60, Tryd.ntmps60
      go_wp2_with (go_at_call 28; refine hcall.out.mono ?_; rintro e w1 ⟨rfl, hb⟩)
      go_ret
      exact ⟨rfl, hb⟩
    · rw [if_neg hr] at hcall
      have hr' : Q.rightB l0 = false := by simpa using hr
      rw [hr']
      clear hr hr'
      generalize l0.length = n at *
      go_enter Tryd.func60, Tryd.ntmps60
      go_wp2_with (go_at_call 28; refine hcall.out.mono ?_; rintro e w1 ⟨rfl, hb⟩)
      go_ret
      exact ⟨rfl, hb⟩

/-- What 'at' answers: nil, or the cell. -/
def ptrAt (vs : List Value) (d : Int) : Value := if 0 ≤ d ∧ d < 8 then vs.getD d.toNat (.pointer none) else .pointer none
set_option maxHeartbeats 1000000 in
theorem at_tab {B : Nat} {w : World} {t : Nat} {made : Bool} {st : St} {F : Nat → Prop} {vs : List Value} (h : TabV B w t made st F vs) (d : Int) : Calls Tryd.prog 65 #[.pointer (some ⟨t, 0, none⟩), .int .i64 d] w fun e w' => e = .returned (ptrAt vs d) ∧ w = w' := by
  unfold ptrAt
  by_cases h0 : d < 0
  · rw [if_neg (by omega)]
    clear h
    have hd : decide (d < 0) = true := decide_eq_true h0
    go_enter Tryd.func65, Tryd.ntmps65
    go_wp2
    go_ret
    exact ⟨rfl, rfl⟩
  · by_cases h8 : d ≥ 8
    · rw [if_neg (by omega)]
      clear h
      have hd : decide (d < 0) = false := decide_eq_false h0
      have hd8 : decide (d ≥ 8) = true := decide_eq_true h8
      go_enter Tryd.func65, Tryd.ntmps65
      go_wp2
      go_ret
      exact ⟨rfl, rfl⟩
    · rw [if_pos (by omega)]
      obtain ⟨k, rfl⟩ : ∃ k : Nat, d = k := ⟨d.toNat, by omega⟩
      obtain ⟨e, v, _, hv, _, hc⟩ := h.at_ k (by omega)
      have hx : vs.getD ((k : Int)).toNat (.pointer none) = v := by rw [Int.toNat_natCast, List.getD_eq_getElem?_getD, hv]; rfl
      rw [hx]
      clear h hx hv
      have hd : decide ((k : Int) < 0) = false := decide_eq_false h0
      have hd8 : decide ((k : Int) ≥ 8) = false := decide_eq_false h8
      have b0 : (0 : Int) ≤ (k : Int) := by omega
      have b1 : (k : Int) < 8 := by omega
      go_enter Tryd.func65, Tryd.ntmps65
      go_wp2
      go_ret
      exact ⟨rfl, rfl⟩

theorem eql_told_nil (w : World) : (binOp .eql 84 (.pointer none) (.pointer none)).run Tryd.prog w = .ok (.bool true) w := by kernel_rfl
/-- What Of answers. -/
def OfP (w : World) (r : ByteArray × List ByteArray × Int) (e : Ending) (w' : World) : Prop := ∃ v, e = .returned (.tuple #[.string r.1, v, .int .i64 r.2.2]) ∧ Kd.R Kd.string 9 w' w.heap.size (fun _ => True) v r.2.1 ∧ Below w.heap.size w w'
theorem atS_ptr {B : Nat} {w : World} {t : Nat} {made : Bool} {st : St} {F : Nat → Prop} {vs : List Value} (h : TabV B w t made st F vs) (d : Int) : Slot w F (atS st d) (ptrAt vs d) := by
  unfold atS ptrAt
  by_cases hd : 0 ≤ d ∧ d < 8
  · rw [if_pos hd, if_pos hd]
    obtain ⟨e, v, he, hv, hs, _⟩ := h.at_ d.toNat (by omega)
    rw [List.getD_eq_getElem?_getD, List.getD_eq_getElem?_getD, he, hv]
    exact hs
  · rw [if_neg hd, if_neg hd]
    rfl
theorem clone_row {w : World} {b o c : Nat} {l : List ByteArray} (h : RowS w b o l) (hl : l.length ≤ 1000) : Calls Tryd.prog 61 #[.slice (some ⟨b, o, none⟩) l.length c] w fun e w' => ∃ v, e = .returned v ∧ w'.ownsRow w.heap.size 9 1 v l.length (encs Value.string l) ∧ Below w.heap.size w w' := by
  refine (Tryd.slices_Clone_string b o l.length c l w (Nat.le_refl _) (by omega) (fun j hj => ?_)).mono ?_
  · rw [h j l[j] (List.getElem?_eq_getElem hj), List.getD_eq_getElem?_getD, List.getElem?_eq_getElem hj]
    rfl
  · rintro e w' ⟨v', he, ho, _, hB⟩
    rw [List.take_length] at ho
    exact ⟨v', he, ho, hB⟩
set_option maxHeartbeats 2000000 in
theorem of_tab {B : Nat} {w : World} {t : Nat} {st : St} {F : Nat → Prop} (h : Tab B w t true st F) (d : Int) : Calls Tryd.prog 24 #[.pointer (some ⟨t, 0, none⟩), .int .i64 d] w (OfP w (ofS st d)) := by
  have hi := Lib.hid (is_tab h)
  obtain ⟨vs, h⟩ := h
  have ha := Lib.hid (at_tab h d)
  have hs := atS_ptr h d
  unfold ofS
  clear h
  cases he : atS st d with
  | none =>
    rw [he] at hs
    have hv : ptrAt vs d = .pointer none := hs
    rw [hv] at ha
    clear he hs hv
    simp only
    go_enter Tryd.func24, Tryd.ntmps24
    go_wp2_with (first | (go_at_call 59; refine hi.out.mono ?_; rintro e w1 ⟨rfl, rfl⟩) | (go_at_call 65; refine ha.out.mono ?_; rintro e w1 ⟨rfl, rfl⟩))
    go_ret3
    exact ⟨_, rfl, Kd.R_nil _ _ _ _ _, Below.refl _ _⟩
  | some p =>
    obtain ⟨s, l⟩ := p
    rw [he] at hs
    obtain ⟨h0, g, b, o, c, hv, hg, fg, fb, hc, hr⟩ := hs
    rw [hv] at ha
    have hlen := okP_len h0
    have c0 : w.cell? ⟨g, 0, none⟩ = some (.string s) := by rw [cell_of_row w g 0 _ _ _ hg]; rfl
    have c1 : w.cell? ⟨g, 1, none⟩ = some (.slice (some ⟨b, o, none⟩) l.length c) := by rw [cell_of_row w g 1 _ _ _ hg]; rfl
    have hcl := Lib.hid (fun (W : World) (hW : Below w.heap.size w W) => clone_row (w := W) (c := c) (RowS.keep hr.1 (hW.block b (hr.1.lt (by omega)))) (by omega))
    have hgl : g < w.heap.size := (Array.getElem?_eq_some_iff.1 hg).1
    clear he hv hg fg fb hc hr h0 hlen
    simp only
    go_enter Tryd.func24, Tryd.ntmps24
    go_wp2_with (first | (go_at_call 59; refine hi.out.mono ?_; rintro e w1 ⟨rfl, rfl⟩) | (go_at_call 65; refine ha.out.mono ?_; rintro e w1 ⟨rfl, rfl⟩))
    go_region_held3 (fun w' => w'.cell? ⟨g, 0, none⟩ = some (.string s) ∧ w'.cell? ⟨g, 1, none⟩ = some (.slice (some ⟨b, o, none⟩) l.length c)) (first | go_keep | (go_split_ands; refine ⟨?_, ?_⟩ <;> (rw [hb.cell (by simpa using hgl)]; assumption)))
      ((go_at_call 61; refine (hcl.out _ (below_drew (Below.refl _ _))).mono ?_; rintro e w1 ⟨v, rfl, ho, hb⟩))
    go_wp2
    go_ret3
    refine ⟨v, rfl, Kd.R_of_own ho (fun _ _ => trivial), ?_⟩
    exact Below.trans (below_drew (Below.refl _ _)) hb

set_option maxHeartbeats 2000000 in
theorem of_nil (w : World) (d : Int) : Calls Tryd.prog 24 #[.pointer none, .int .i64 d] w fun e w' => e = .returned (.tuple #[.string ⟨#[]⟩, .slice none 0 0, .int .i64 1]) ∧ w = w' := by
  have hi := Lib.hid (is_nil w)
  go_enter Tryd.func24, Tryd.ntmps24
  go_wp2_with (go_at_call 59; refine hi.out.mono ?_; rintro e w1 ⟨rfl, rfl⟩)
  go_ret3
  exact ⟨rfl, rfl⟩
set_option maxHeartbeats 2000000 in
theorem of_zero {B : Nat} {w : World} {t : Nat} {st : St} {F : Nat → Prop} (h : Tab B w t false st F) (d : Int) : Calls Tryd.prog 24 #[.pointer (some ⟨t, 0, none⟩), .int .i64 d] w fun e w' => e = .returned (.tuple #[.string ⟨#[]⟩, .slice none 0 0, .int .i64 1]) ∧ w = w' := by
  have hi := Lib.hid (is_tab h)
  clear h
  go_enter Tryd.func24, Tryd.ntmps24
  go_wp2_with (go_at_call 59; refine hi.out.mono ?_; rintro e w1 ⟨rfl, rfl⟩)
  go_ret3
  exact ⟨rfl, rfl⟩

/-- A step of a table: what is returned, what the table is then. -/
def StepP (B : Nat) (F : Nat → Prop) (t : Nat) (v : Value) (st : St) (w : World) (e : Ending) (w' : World) : Prop := e = .returned v ∧ ∃ F', Tab B w' t true st F' ∧ Fr F F' w w'
theorem fr_setCell {F : Nat → Prop} {w : World} {t i : Nat} {u : Value} (hF : F t) : Fr F F w (w.setCell ⟨t, i, none⟩ u) :=
  ⟨rfl, rfl, rfl, by simp [World.setCell], fun g hg hn => Below.heap_setCell w _ u g (fun e => hn (by rw [e]; exact hF)), fun _ h => .inl h⟩
theorem tab_clear {B : Nat} {w : World} {t : Nat} {made : Bool} {st : St} {F : Nat → Prop} {vs : List Value} (h : TabV B w t made st F vs) (d : Nat) (hd : d < 8) : TabV B (w.setCell ⟨t, 1 + d, none⟩ (.pointer none)) t made (st.set d none) F (vs.set d (.pointer none)) :=
  h.set d hd none _ (fun _ h => h) h.rng rfl (fun a ha => by cases ha)
set_option maxHeartbeats 2000000 in
theorem close_tab {B : Nat} {w : World} {t : Nat} {st : St} {F : Nat → Prop} (h : Tab B w t true st F) (d : Int) : Calls Tryd.prog 17 #[.pointer (some ⟨t, 0, none⟩), .int .i64 d] w (StepP B F t (.int .i64 (closeS st d).2) (closeS st d).1 w) := by
  have hi := Lib.hid (is_tab h)
  have hT := Lib.hid h
  obtain ⟨vs, h⟩ := h
  have ha := Lib.hid (at_tab h d)
  have hs := atS_ptr h d
  unfold closeS
  cases he : atS st d with
  | none =>
    rw [he] at hs
    have hv : ptrAt vs d = .pointer none := hs
    rw [hv] at ha
    clear he hs hv h
    simp only
    go_enter Tryd.func17, Tryd.ntmps17
    go_wp2_with (first | (go_at_call 59; refine hi.out.mono ?_; rintro e w1 ⟨rfl, rfl⟩) | (go_at_call 65; refine ha.out.mono ?_; rintro e w1 ⟨rfl, rfl⟩))
    go_ret
    exact ⟨rfl, F, hT.out, Fr.refl _ _⟩
  | some p =>
    obtain ⟨s, l⟩ := p
    have hd : 0 ≤ d ∧ d < 8 := by
      unfold atS at he
      by_cases hd : 0 ≤ d ∧ d < 8
      · exact hd
      · rw [if_neg hd] at he; cases he
    obtain ⟨k, rfl⟩ : ∃ k : Nat, d = k := ⟨d.toNat, by omega⟩
    rw [he] at hs
    obtain ⟨h0, g, b, o, c, hv, hg, fg, fb, hc, hr⟩ := hs
    rw [hv] at ha
    have hk : k < 8 := by omega
    have HP := Lib.hid (tab_clear h k hk)
    have HF := Lib.hid (fr_setCell (w := w) (i := 1 + k) (u := .pointer none) h.ft)
    obtain ⟨e1, v1, _, _, _, hcell⟩ := h.at_ k hk
    have hfz := h.frozen (1 + k)
    clear he hv hg fg fb hc hr h0 h
    have b0 : (0 : Int) ≤ (k : Int) := by omega
    have b1 : (k : Int) < 8 := by omega
    clear hd hk
    simp only [Int.toNat_natCast]
    go_enter Tryd.func17, Tryd.ntmps17
    go_wp2_with (first | (go_at_call 59; refine hi.out.mono ?_; rintro e w1 ⟨rfl, rfl⟩) | (go_at_call 65; refine ha.out.mono ?_; rintro e w1 ⟨rfl, rfl⟩))
    go_ret
    exact ⟨rfl, F, ⟨_, HP.out⟩, HF.out⟩
end Go.Proofs.YthafpbidfgmacaaDoor.Hd

/- The walks of a table's functions: Open, Count, Clear. -/
namespace Go.Proofs.YthafpbidfgmacaaDoor.Hd
open Go.RowKit Go.Proofs.YthafpbidfgmacaaDoor Go.Proofs.YthafpbidfgmacaaDoorW.PrintWords Go.Proofs.YthafpbidfgmacaaDoorW.PrintLast Go.Proofs.YthafpbidfgmacaaDoorW.PrintMore
set_option linter.unusedVariables false
set_option linter.unusedSimpArgs false

/-- An entry is put: the blocks that the call made are the table's from now on. -/
theorem tab_put {B : Nat} {w W : World} {t : Nat} {st : St} {F : Nat → Prop} {vs : List Value} (h : TabV B w t true st F vs) (hB : B ≤ w.heap.size) (hW : Below w.heap.size w W) (d : Nat) (hd : d < 8) (s : ByteArray) (l : List ByteArray) (hl : okP l = true) (v : Value) (b0 : Nat) (hb0 : w.heap.size ≤ b0)
    (ho : W.ownsRow b0 9 1 v l.length (encs Value.string l)) : ∃ F', TabV B ((W.alloc (.cells #[.string s, v] 90)).setCell ⟨t, 1 + d, none⟩ (.pointer (some ⟨W.heap.size, 0, none⟩))) t true (st.set d (some (s, l))) F' (vs.set d (.pointer (some ⟨W.heap.size, 0, none⟩))) ∧
      Fr F F' w ((W.alloc (.cells #[.string s, v] 90)).setCell ⟨t, 1 + d, none⟩ (.pointer (some ⟨W.heap.size, 0, none⟩))) := by
  obtain ⟨hl1, hl6, _⟩ := okP_len hl
  rcases ho.2 with ⟨_, hn⟩ | ⟨b, c, cur, rfl, hb, hh, hc, hm, hcs, hx⟩
  · omega
  have hbW : b < W.heap.size := (Array.getElem?_eq_some_iff.1 hh).1
  have hsz : w.heap.size ≤ W.heap.size := hW.size
  have hrow : RowS W b 0 l := by
    intro j x hj
    have hjl := (List.getElem?_eq_some_iff.1 hj).1
    rw [Nat.zero_add, cell_of_row W b j _ _ _ hh]
    have e : (encs Value.string l)[j]? = some (.string x) := by simp [encs, hj]
    rw [← hx] at e
    have e2 := List.getElem?_take (l := cur.toList) (i := l.length * 1) (j := j)
    rw [if_pos (by omega)] at e2
    rw [e2] at e
    simpa using e
  have h1 : TabV B (W.alloc (.cells #[.string s, .slice (some ⟨b, 0, none⟩) l.length c] 90)) t true st F vs := by
    refine (h.keep (w' := W) (fun g hg => hW.block g (h.rng g hg).2) hsz).keep (fun g hg => Below.heap_alloc _ _ g (by have := (h.rng g hg).2; omega)) (by simp)
  have hF' : ∀ g, F g → F g ∨ g = W.heap.size ∨ g = b := fun g hg => .inl hg
  have hs : Slot (W.alloc (.cells #[.string s, .slice (some ⟨b, 0, none⟩) l.length c] 90)) (fun g => F g ∨ g = W.heap.size ∨ g = b) (some (s, l)) (.pointer (some ⟨W.heap.size, 0, none⟩)) :=
    ⟨hl, W.heap.size, b, 0, c, rfl, heap_alloc_new W _, .inr (.inl rfl), .inr (.inr rfl), hc, Row9.keep ⟨hrow, _, hh⟩ (Below.heap_alloc _ _ b hbW)⟩
  refine ⟨fun g => F g ∨ g = W.heap.size ∨ g = b, h1.set d hd (some (s, l)) _ hF' (fun g hg => ?_) hs ?_, ?_⟩
  · have hz : (W.alloc (.cells #[.string s, .slice (some ⟨b, 0, none⟩) l.length c] 90)).heap.size = W.heap.size + 1 := by simp
    rw [hz]
    rcases hg with hg | hg | hg
    · have := h.rng g hg; omega
    · omega
    · omega
  · intro a ha j _ hj
    have hj8 : j < 8 := by have := (List.getElem?_eq_some_iff.1 hj).1; rw [h.vl] at this; exact this
    obtain ⟨e, v, he, hv, hs, _⟩ := h.at_ j hj8
    rw [hj] at hv
    obtain rfl := Option.some.inj hv
    cases e with
    | none => exact absurd (Slot.isNil hs) (by simp)
    | some p =>
      obtain ⟨_, g, _, _, _, hv, _, fg, _⟩ := hs
      injection ha with ha
      injection ha with ha
      injection hv with hv
      injection hv with hv
      rw [← ha] at hv
      injection hv with hv
      have := (h.rng g fg).2
      omega
  · refine ⟨hW.os, hW.tape, hW.output, ?_, fun g hg hn => ?_, fun g hg => ?_⟩
    · show w.heap.size ≤ (World.setCell _ _ _).heap.size
      simp [World.setCell]
      omega
    · rw [Below.heap_setCell _ _ _ g (fun e => hn (by rw [e]; exact h.ft)), Below.heap_alloc _ _ g (by omega)]
      exact hW.block g hg
    · rcases hg with hg | hg | hg
      · exact .inl hg
      · exact .inr (by omega)
      · exact .inr (by omega)

theorem own_form {W : World} {base : Nat} {v : Value} {l : List ByteArray} (hl : 0 < l.length) (ho : W.ownsRow base 9 1 v l.length (encs Value.string l)) : ∃ g c, v = .slice (some ⟨g, 0, none⟩) l.length c := by
  rcases ho.2 with ⟨_, hn⟩ | ⟨b, c, cur, rfl, _⟩
  · omega
  · exact ⟨b, c, rfl⟩
theorem clone_row1 {w : World} {b o c : Nat} {l : List ByteArray} (h : RowS w b o l) (hl : l.length ≤ 1000) (h0 : 0 < l.length) : Calls Tryd.prog 61 #[.slice (some ⟨b, o, none⟩) l.length c] w fun e w' => ∃ g c', e = .returned (.slice (some ⟨g, 0, none⟩) l.length c') ∧ w'.ownsRow w.heap.size 9 1 (.slice (some ⟨g, 0, none⟩) l.length c') l.length (encs Value.string l) ∧ Below w.heap.size w w' := by
  refine (clone_row h hl).mono ?_
  rintro e w' ⟨v, rfl, ho, hb⟩
  obtain ⟨g, c', rfl⟩ := own_form h0 ho
  exact ⟨g, c', rfl, ho, hb⟩
theorem list8 (vs : List Value) (h : vs.length = 8) : ∃ v1 v2 v3 v4 v5 v6 v7 v8, vs = [v1, v2, v3, v4, v5, v6, v7, v8] := by
  match vs, h with
  | [v1, v2, v3, v4, v5, v6, v7, v8], _ => exact ⟨v1, v2, v3, v4, v5, v6, v7, v8, rfl⟩
def OpenP (B : Nat) (F : Nat → Prop) (t : Nat) (st : St) (s : ByteArray) (l : List ByteArray) (w : World) (e : Ending) (w' : World) : Prop :=
  StepP B F t (.tuple #[.int .i64 (openS st s l).2.1, .int .i64 (openS st s l).2.2]) (openS st s l).1 w e w'
theorem openP_put {B : Nat} {F F' : Nat → Prop} {t : Nat} {st : St} {s : ByteArray} {l : List ByteArray} {w w' : World} {k : Nat} (hl : okP l = true) (hk : freeS st = k) (hk8 : k < 8) (h : Tab B w' t true (st.set k (some (s, l))) F') (hf : Fr F F' w w') :
    OpenP B F t st s l w (.returned (.tuple #[.int .i64 (k : Int), .int .i64 0])) w' := by
  unfold OpenP openS
  rw [if_pos hl, hk, if_pos hk8]
  exact ⟨rfl, F', h, hf⟩
theorem openP_full {B : Nat} {F : Nat → Prop} {t : Nat} {st : St} {s : ByteArray} {l : List ByteArray} {w w' : World} (hl : okP l = true) (hk : ¬ freeS st < 8) (h : Tab B w t true st F) (hb : Below w.heap.size w w') :
    OpenP B F t st s l w (.returned (.tuple #[.int .i64 0, .int .i64 7])) w' := by
  unfold OpenP openS
  rw [if_pos hl, if_neg hk]
  exact ⟨rfl, F, h.below hb, Fr.of_below hb⟩
theorem openP_bad {B : Nat} {F : Nat → Prop} {t : Nat} {st : St} {s : ByteArray} {l : List ByteArray} {w w' : World} (hl : okP l = false) (h : Tab B w t true st F) (hb : Below w.heap.size w w') :
    OpenP B F t st s l w (.returned (.tuple #[.int .i64 0, .int .i64 4])) w' := by
  unfold OpenP openS
  rw [if_neg (by rw [hl]; decide)]
  exact ⟨rfl, F, h.below hb, Fr.of_below hb⟩
def TakenTo (st : St) (k : Nat) : Prop := ∀ j, j < k → ∃ x, st[j]? = some (some x)
theorem TakenTo.succ {st : St} {k : Nat} {x : Ent} (h : TakenTo st k) (hx : st[k]? = some (some x)) : TakenTo st (k + 1) := fun j hj => by
  rcases Nat.lt_or_ge j k with h1 | h1
  · exact h j h1
  · obtain rfl : j = k := by omega
    exact ⟨x, hx⟩
set_option maxHeartbeats 4000000 in
theorem open_tab {B : Nat} {w : World} {t : Nat} {st : St} {F : Nat → Prop} (h : Tab B w t true st F) (hB : B ≤ w.heap.size) (s : ByteArray) (A0 : Option Addr) (c0 : Nat) (l0 : List ByteArray) (hr0 : Kd.C Kd.string w A0 l0.length l0) (hc0 : l0.length ≤ c0) (hf : fits l0) :
    Calls Tryd.prog 15 #[.pointer (some ⟨t, 0, none⟩), .string s, .slice A0 l0.length c0] w (OpenP B F t st s l0 w) := by
  have hi := Lib.hid (is_tab h)
  have hT := Lib.hid h
  have hr := Lib.hid (right_calls A0 c0 l0 w hr0 hc0 hf)
  by_cases hok : okP l0 = true
  · rw [hok] at hr
    obtain ⟨hl1, hl6, _⟩ := okP_len hok
    obtain ⟨b, o, rfl, hlt, hrow⟩ := c_cells hr0 (by omega)
    have hcl := Lib.hid (fun (W : World) (hW : Below w.heap.size w W) => clone_row1 (w := W) (c := c0) (RowS.keep hrow (hW.block b hlt)) (by omega) (by omega))
    have HOk := Lib.hid hok
    clear hr0 hrow hok hf
    obtain ⟨n, hn⟩ : ∃ n, n = l0.length := ⟨_, rfl⟩
    rw [← hn] at hr hcl ⊢
    have HN := Lib.hid hn
    obtain ⟨vs, h⟩ := h
    have HV := Lib.hid h
    have HBs := Lib.hid hB
    have HSl := Lib.hid h.sl
    clear hn h hB hl1 hl6 hc0 hlt
    go_enter Tryd.func15, Tryd.ntmps15
    go_wp2_with (first | (go_at_call 59; refine hi.out.mono ?_; rintro e w1 ⟨rfl, rfl⟩) | (go_at_call 60; refine hr.out.mono ?_; rintro e w1 ⟨rfl, hb⟩))
    have HW := Lib.hid hb
    clear hb hr hi
    go_loop [17] (fun i => ∃ k : Nat, k ≤ 8 ∧ i = .int .i64 k ∧ Hid (TakenTo st k)) (fun i => 8 - (intOf i).toNat)
    case atStart => exact ⟨0, by omega, rfl, fun j hj => by omega⟩
    case round =>
      obtain ⟨k, hk, rfl, HK⟩ := hrel
      by_cases hlt : k < 8
      · have HV1 : TabV B w1 t true st F vs := HV.out.keep (fun g hg => HW.out.block g (HV.out.rng g hg).2) HW.out.size
        obtain ⟨e, v, he, hv, hs, hc⟩ := HV1.at_ k hlt
        have hfz := HV1.frozen (1 + k)
        clear HV1
        have b0 : (0 : Int) ≤ (k : Int) := by omega
        have b1 : (k : Int) < 8 := by omega
        cases e with
        | none =>
          obtain rfl := Slot.isNil hs
          have HE := Lib.hid he
          clear he hv hs hlt
          go_wp2
          have htl : t < w1.heap.size := Nat.lt_of_lt_of_le HV.out.lt HW.out.size
          go_region_held3 (fun w' => True) (go_keep)
            ((go_at_call 61; refine (hcl.out _ (below_drew HW.out)).mono ?_; rintro e w2 ⟨g2, c2, rfl, ho, hb⟩; have hc2 : w2.cell? ⟨t, 1 + k, none⟩ = some (.pointer none) := (hb.cell (p := ⟨t, 1 + k, none⟩) htl).trans hc; have hf2 : w2.frozen? ⟨t, 1 + k, none⟩ = false := (hb.frozen (p := ⟨t, 1 + k, none⟩) htl).trans hfz; have hs2 : t < w2.heap.size := Nat.lt_of_lt_of_le htl hb.size))
          go_wp2
          go_ret2
          rw [← World.setCell_alloc_past _ _ _ _ hs2]
          obtain ⟨F', hT', hF'⟩ := tab_put HV.out HBs.out (Below.trans (below_drew HW.out) (hb.mono HW.out.size)) k (by omega) s l0 HOk.out (.slice (some ⟨g2, 0, none⟩) n c2) _ HW.out.size (by rw [← HN.out]; exact ho)
          exact openP_put HOk.out (freeS_is st k HK.out HE.out HSl.out) (by omega) ⟨_, hT'⟩ hF'
        | some x =>
          obtain ⟨s1, l1⟩ := x
          obtain ⟨_, g, _, _, _, rfl, _⟩ := hs
          have HE : Hid (TakenTo st (k + 1)) := HK.out.succ he
          clear he hv hfz hlt
          go_wp2
          go_round
          case rel => exact ⟨k + 1, by omega, by go_num, HE⟩
          case measure => simp [intOf]; omega
      · obtain rfl : k = 8 := by omega
        go_wp2
        go_ret2
        exact openP_full HOk.out (freeS_full st HK.out) hT.out HW.out
  · have hok' : okP l0 = false := by simpa using hok
    rw [hok'] at hr
    have HOk := Lib.hid hok'
    clear hok hok' hr0 h hf
    generalize hn : l0.length = n at *
    clear hn
    go_enter Tryd.func15, Tryd.ntmps15
    go_wp2_with (first | (go_at_call 59; refine hi.out.mono ?_; rintro e w1 ⟨rfl, rfl⟩) | (go_at_call 60; refine hr.out.mono ?_; rintro e w1 ⟨rfl, hb⟩))
    go_ret2
    exact openP_bad HOk.out hT.out hb

set_option maxHeartbeats 1000000 in
theorem open_nil (w : World) (s a : Value) : Calls Tryd.prog 15 #[.pointer none, s, a] w fun e w' => e = .returned (.tuple #[.int .i64 0, .int .i64 1]) ∧ w = w' := by
  have hi := Lib.hid (is_nil w)
  go_enter Tryd.func15, Tryd.ntmps15
  go_wp2_with (go_at_call 59; refine hi.out.mono ?_; rintro e w1 ⟨rfl, rfl⟩)
  go_ret2
  exact ⟨rfl, rfl⟩
set_option maxHeartbeats 1000000 in
theorem close_nil (w : World) (d : Int) : Calls Tryd.prog 17 #[.pointer none, .int .i64 d] w fun e w' => e = .returned (.int .i64 1) ∧ w = w' := by
  have hi := Lib.hid (is_nil w)
  go_enter Tryd.func17, Tryd.ntmps17
  go_wp2_with (go_at_call 59; refine hi.out.mono ?_; rintro e w1 ⟨rfl, rfl⟩)
  go_ret
  exact ⟨rfl, rfl⟩
set_option maxHeartbeats 1000000 in
theorem moved_nil (w : World) (a b : Value) : Calls Tryd.prog 18 #[.pointer none, a, b] w fun e w' => e = .returned (.tuple #[]) ∧ w = w' := by
  have hi := Lib.hid (is_nil w)
  go_enter Tryd.func18, Tryd.ntmps18
  go_wp2_with (go_at_call 59; refine hi.out.mono ?_; rintro e w1 ⟨rfl, rfl⟩)
  refine bodyPost_ret (results_none rfl _ _ _) rfl ?_
  exact ⟨rfl, rfl⟩
set_option maxHeartbeats 1000000 in
theorem clear_zero {B : Nat} {w : World} {t : Nat} {st : St} {F : Nat → Prop} (h : Tab B w t false st F) : Calls Tryd.prog 57 #[.pointer (some ⟨t, 0, none⟩)] w fun e w' => e = .returned (.tuple #[]) ∧ w = w' := by
  have hi := Lib.hid (is_tab h)
  clear h
  go_enter Tryd.func57, Tryd.ntmps57
  go_wp2_with (go_at_call 59; refine hi.out.mono ?_; rintro e w1 ⟨rfl, rfl⟩)
  go_end0
  exact ⟨rfl, rfl⟩
set_option maxHeartbeats 1000000 in
theorem count_zero {B : Nat} {w : World} {t : Nat} {st : St} {F : Nat → Prop} (h : Tab B w t false st F) : Calls Tryd.prog 52 #[.pointer (some ⟨t, 0, none⟩)] w fun e w' => e = .returned (.int .i64 0) ∧ w = w' := by
  have hi := Lib.hid (is_tab h)
  clear h
  go_enter Tryd.func52, Tryd.ntmps52
  go_wp2_with (go_at_call 59; refine hi.out.mono ?_; rintro e w1 ⟨rfl, rfl⟩)
  go_ret
  exact ⟨rfl, rfl⟩
theorem count_take (st : St) (k : Nat) (e : Option Ent) (h : st[k]? = some e) : (st.take (k + 1)).countP (·.isSome) = (st.take k).countP (·.isSome) + (if e.isSome then 1 else 0) := by
  obtain ⟨hl, he⟩ := List.getElem?_eq_some_iff.1 h
  rw [List.take_succ_eq_append_getElem hl, List.countP_append, he]
  cases e <;> simp
set_option maxHeartbeats 2000000 in
theorem count_tab {B : Nat} {w : World} {t : Nat} {st : St} {F : Nat → Prop} (h : Tab B w t true st F) : Calls Tryd.prog 52 #[.pointer (some ⟨t, 0, none⟩)] w fun e w' => e = .returned (.int .i64 (countS st : Int)) ∧ w = w' := by
  have hi := Lib.hid (is_tab h)
  obtain ⟨vs, h⟩ := h
  have HV := Lib.hid h
  clear h
  go_enter Tryd.func52, Tryd.ntmps52
  go_wp2_with (go_at_call 59; refine hi.out.mono ?_; rintro e w1 ⟨rfl, rfl⟩)
  go_loop [3, 7] (fun n i => ∃ k : Nat, k ≤ 8 ∧ i = .int .i64 k ∧ n = .int .i64 (((st.take k).countP (·.isSome) : Nat) : Int)) (fun _ i => 8 - (intOf i).toNat)
  case atStart => exact ⟨0, by omega, rfl, rfl⟩
  case round =>
    obtain ⟨k, hk, rfl, rfl⟩ := hrel
    by_cases hlt : k < 8
    · obtain ⟨e, v, he, hv, hs, hc⟩ := HV.out.at_ k hlt
      have b0 : (0 : Int) ≤ (k : Int) := by omega
      have b1 : (k : Int) < 8 := by omega
      have HE := Lib.hid (count_take st k e he)
      have hcl : (st.take k).countP (·.isSome) ≤ 8 := Nat.le_trans List.countP_le_length (by rw [List.length_take]; omega)
      generalize (st.take k).countP (·.isSome) = n at hcl HE ⊢
      cases e with
      | none =>
        obtain rfl := Slot.isNil hs
        clear he hv hs hlt
        go_wp2
        go_round
        case rel => exact ⟨k + 1, by omega, by go_num, by rw [HE.out]; rfl⟩
        case measure => simp [intOf]; omega
      | some x =>
        obtain ⟨s1, l1⟩ := x
        obtain ⟨_, g, _, _, _, rfl, _⟩ := hs
        clear he hv hlt
        go_wp2
        go_round
        case rel => exact ⟨k + 1, by omega, by go_num, by rw [HE.out]; rfl⟩
        case measure => simp [intOf]; omega
    · obtain rfl : k = 8 := by omega
      go_wp2
      go_ret
      exact ⟨ret_int (by unfold countS; rw [List.take_of_length_le (by rw [HV.out.sl]; omega)]), rfl⟩
end Go.Proofs.YthafpbidfgmacaaDoor.Hd

