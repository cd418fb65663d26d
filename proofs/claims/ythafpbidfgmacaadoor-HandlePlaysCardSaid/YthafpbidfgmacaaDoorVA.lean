/- Texts put together by merge.py: V0,V1,V2,N1r,V3,V4,V5,V6,V7,V8,V9,V10. -/
import Derived.Test.YthafpbidfgmacaaDoorUA
import Derived.Test.YthafpbidfgmacaaDoorTB
import Derived.Test.YthafpbidfgmacaaDoorQB
import Derived.Deep.QuietTactic
import Derived.BigQuiet
import Derived.Test.YthafpbidfgmacaaDoorN1b
/- Plain law of HandlePlays: a list of what is open, as the document keeps it, beside the table. -/
namespace Go.Proofs.YthafpbidfgmacaaDoor.Hd
open Go.RowKit Go.Proofs.YthafpbidfgmacaaDoor
set_option linter.unusedVariables false

/-- A descriptor that is not free. -/
structure REnt where
  d : Nat
  s : ByteArray
  l : List ByteArray
def findI (es : List REnt) (d : Int) : Int := match es.findIdx? (fun e => decide ((e.d : Int) = d)) with | some i => (i : Int) | none => -1
def freeR (es : List REnt) (k : Nat) : Prop := k < 8 ∧ findI es (k : Int) < 0 ∧ ∀ j, j < k → ¬ findI es (j : Int) < 0
/-- The list and the table tell the same. -/
structure RS (st : St) (es : List REnt) : Prop where
  look : ∀ d, d < 8 → st.getD d none = (es.find? (fun e => decide (e.d = d))).map (fun e => (e.s, e.l))
  low : ∀ e ∈ es, e.d < 8
  nd : (es.map (·.d)).Nodup
  sl : st.length = 8
  ok : ∀ e ∈ es, okP e.l = true
theorem findI_neg (es : List REnt) (d : Nat) : findI es (d : Int) < 0 ↔ es.find? (fun e => decide (e.d = d)) = none := by
  unfold findI
  have h : (fun e : REnt => decide ((e.d : Int) = (d : Int))) = (fun e => decide (e.d = d)) := by
    funext e
    rw [decide_eq_decide]
    omega
  rw [h]
  constructor
  · intro h1
    rw [List.find?_eq_none]
    cases hx : es.findIdx? (fun e => decide (e.d = d)) with
    | none => exact fun x hx' => by have := (List.findIdx?_eq_none_iff.1 hx) x hx'; rw [this]; decide
    | some i => rw [hx] at h1; simp at h1; omega
  · intro h1
    rw [List.find?_eq_none] at h1
    have : es.findIdx? (fun e => decide (e.d = d)) = none := List.findIdx?_eq_none_iff.2 (fun x hx => Bool.eq_false_iff.2 (h1 x hx))
    rw [this]
    decide
theorem RS.at_ {st : St} {es : List REnt} (h : RS st es) (d : Nat) (hd : d < 8) : st[d]? = some ((es.find? (fun e => decide (e.d = d))).map (fun e => (e.s, e.l))) := by
  have := h.look d hd
  rw [List.getD_eq_getElem?_getD, List.getElem?_eq_getElem (by rw [h.sl]; exact hd)] at this
  rw [List.getElem?_eq_getElem (by rw [h.sl]; exact hd)]
  exact congrArg some this
theorem RS.free {st : St} {es : List REnt} (h : RS st es) {k : Nat} (hk : freeR es k) : freeS st = k := by
  obtain ⟨h1, h2, h3⟩ := hk
  refine freeS_is st k (fun j hj => ?_) ?_ h.sl
  · rw [h.at_ j (by omega)]
    have := mt (findI_neg es j).2 (h3 j hj)
    cases hx : es.find? (fun e => decide (e.d = j)) with
    | none => exact absurd hx this
    | some x => exact ⟨_, rfl⟩
  · rw [h.at_ k h1, (findI_neg es k).1 h2]
    rfl
theorem RS.full {st : St} {es : List REnt} (h : RS st es) (hn : ∀ j : Nat, j < 8 → ¬ findI es (j : Int) < 0) : ¬ freeS st < 8 :=
  freeS_full st (fun j hj => by
    rw [h.at_ j hj]
    have := mt (findI_neg es j).2 (hn j hj)
    cases hx : es.find? (fun e => decide (e.d = j)) with
    | none => exact absurd hx this
    | some x => exact ⟨_, rfl⟩)
theorem RS.start : RS newS [] := by
  refine ⟨fun d hd => ?_, fun e he => (by cases he), (by simp), rfl, fun e he => (by cases he)⟩
  rcases (by omega : d = 0 ∨ d = 1 ∨ d = 2 ∨ d = 3 ∨ d = 4 ∨ d = 5 ∨ d = 6 ∨ d = 7) with rfl | rfl | rfl | rfl | rfl | rfl | rfl | rfl <;> rfl
theorem getD_set (st : St) (k d : Nat) (o : Option Ent) (hk : k < st.length) : (st.set k o).getD d none = if d = k then o else st.getD d none := by
  by_cases h : d = k
  · subst h
    rw [if_pos rfl, List.getD_eq_getElem?_getD, List.getElem?_set_self hk]
    rfl
  · rw [if_neg h, List.getD_eq_getElem?_getD, List.getElem?_set_ne (fun e => h e.symm), ← List.getD_eq_getElem?_getD]
theorem RS.opened {st : St} {es : List REnt} (h : RS st es) {k : Nat} (hk : freeR es k) (s : ByteArray) (l : List ByteArray) (hl : okP l = true) : RS (st.set k (some (s, l))) (es ++ [⟨k, s, l⟩]) := by
  obtain ⟨h1, h2, h3⟩ := hk
  have hno := (findI_neg es k).1 h2
  refine ⟨fun d hd => ?_, fun e he => ?_, ?_, by rw [List.length_set]; exact h.sl, fun e he => ?_⟩
  · rw [getD_set _ _ _ _ (by rw [h.sl]; exact h1), List.find?_append]
    by_cases hdk : d = k
    · subst hdk
      rw [if_pos rfl, hno]
      simp
    · rw [if_neg hdk, h.look d hd]
      cases hx : es.find? (fun e => decide (e.d = d)) with
      | none =>
        have : List.find? (fun e : REnt => decide (e.d = d)) [⟨k, s, l⟩] = none := by
          rw [List.find?_eq_none]
          intro x hx
          rw [List.mem_singleton.1 hx]
          simp
          omega
        rw [this]
        rfl
      | some x => rfl
  · rcases List.mem_append.1 he with h4 | h4
    · exact h.low e h4
    · rw [List.mem_singleton.1 h4]; exact h1
  · rw [List.map_append, List.nodup_append]
    refine ⟨h.nd, by simp, fun a ha b hb => ?_⟩
    simp at hb
    subst hb
    obtain ⟨e, he, rfl⟩ := List.mem_map.1 ha
    intro hek
    rw [List.find?_eq_none] at hno
    exact hno e he (by simp [hek])
  · rcases List.mem_append.1 he with h4 | h4
    · exact h.ok e h4
    · rw [List.mem_singleton.1 h4]; exact hl
/-- What stands at a descriptor's place in the list. -/
theorem RS.found {st : St} {es : List REnt} (h : RS st es) {i : Nat} {e : REnt} (he : es[i]? = some e) : st[e.d]? = some (some (e.s, e.l)) := by
  have hm := List.mem_of_getElem? he
  rw [h.at_ e.d (h.low e hm)]
  have : es.find? (fun x => decide (x.d = e.d)) = some e := by
    cases hx : es.find? (fun x => decide (x.d = e.d)) with
    | none =>
      rw [List.find?_eq_none] at hx
      exact absurd (by simp) (hx e hm)
    | some y =>
      have hy := List.mem_of_find?_eq_some hx
      have hyd : y.d = e.d := by have := List.find?_some hx; simpa using this
      obtain ⟨j, hj⟩ := List.getElem?_of_mem hy
      have hij : i = j := by
        have h1 : (es.map (·.d))[i]? = some e.d := by rw [List.getElem?_map, he]; rfl
        have h2 : (es.map (·.d))[j]? = some e.d := by rw [List.getElem?_map, hj, ← hyd]; rfl
        have hl := (List.getElem?_eq_some_iff.1 h1).1
        exact (List.getElem?_inj hl h.nd).1 (h1.trans h2.symm)
      subst hij
      rw [he] at hj
      rw [Option.some.inj hj]
  rw [this]
  rfl
theorem findI_some {es : List REnt} {d : Int} (h : ¬ findI es d < 0) : ∃ i e, findI es d = (i : Nat) ∧ es[i]? = some e ∧ (e.d : Int) = d := by
  unfold findI at h ⊢
  cases hx : es.findIdx? (fun e => decide ((e.d : Int) = d)) with
  | none => rw [hx] at h; exact absurd (by decide) h
  | some i =>
    obtain ⟨h1, h2, _⟩ := List.findIdx?_eq_some_iff_getElem.1 hx
    exact ⟨i, es[i], rfl, List.getElem?_eq_getElem h1, by simpa using h2⟩
theorem findI_none {es : List REnt} {d : Int} (h : findI es d < 0) : findI es d = -1 ∧ ∀ e ∈ es, ¬ (e.d : Int) = d := by
  unfold findI at h ⊢
  cases hx : es.findIdx? (fun e => decide ((e.d : Int) = d)) with
  | none => exact ⟨rfl, fun e he => by have := (List.findIdx?_eq_none_iff.1 hx) e he; simpa using this⟩
  | some i => rw [hx] at h; simp at h; omega
theorem RS.none_ {st : St} {es : List REnt} (h : RS st es) {d : Int} (hd : findI es d < 0) : atS st d = none := by
  unfold atS
  by_cases hr : 0 ≤ d ∧ d < 8
  · rw [if_pos hr]
    obtain ⟨k, rfl⟩ : ∃ k : Nat, d = k := ⟨d.toNat, by omega⟩
    rw [Int.toNat_natCast, h.look k (by omega), (findI_neg es k).1 hd]
    rfl
  · rw [if_neg hr]
theorem RS.some_ {st : St} {es : List REnt} (h : RS st es) {d : Int} {i : Nat} {e : REnt} (he : es[i]? = some e) (hd : (e.d : Int) = d) : atS st d = some (e.s, e.l) := by
  subst hd
  have := h.low e (List.mem_of_getElem? he)
  unfold atS
  rw [if_pos (by omega), Int.toNat_natCast, List.getD_eq_getElem?_getD, h.found he]
  rfl

def rMv (a b : List ByteArray) (e : REnt) : Option REnt := (movedE a b (some (e.s, e.l))).map (fun p => ⟨e.d, p.1, p.2⟩)
theorem rMv_d {a b : List ByteArray} {e x : REnt} (h : rMv a b e = some x) : x.d = e.d := by
  unfold rMv at h
  obtain ⟨p, _, rfl⟩ := Option.map_eq_some_iff.1 h
  rfl
theorem movedE_ok {a b : List ByteArray} {s : ByteArray} {l : List ByteArray} {p : Ent} (hl : okP l = true) (h : movedE a b (some (s, l)) = some p) : okP p.2 = true := by
  by_cases hc : s.toList = [] ∧ a.length ≤ l.length ∧ l.take a.length = a
  · by_cases h6 : okP (b ++ l.drop a.length) = true
    · rw [movedE_yes hc.1 hc.2.1 hc.2.2 h6] at h
      rw [← Option.some.inj h]
      exact h6
    · rw [movedE_gone hc.1 hc.2.1 hc.2.2 (by simpa using h6)] at h
      cases h
  · have hx : movedE a b (some (s, l)) = some (s, l) := if_neg hc
    rw [hx] at h
    rw [← Option.some.inj h]
    exact hl
theorem find_filterMap (f : REnt → Option REnt) (hf : ∀ e x, f e = some x → x.d = e.d) (d : Nat) : ∀ es : List REnt, (es.map (·.d)).Nodup → (es.filterMap f).find? (fun e => decide (e.d = d)) = (es.find? (fun e => decide (e.d = d))).bind f
  | [], _ => rfl
  | e :: es, hn => by
    rw [List.map_cons, List.nodup_cons] at hn
    have ih := find_filterMap f hf d es hn.2
    by_cases hd : e.d = d
    · have hno : es.find? (fun e => decide (e.d = d)) = none := by
        rw [List.find?_eq_none]
        intro x hx
        simp only [decide_eq_true_eq]
        intro hxd
        exact hn.1 (List.mem_map.2 ⟨x, hx, by rw [hxd, hd]⟩)
      rw [List.find?_cons_of_pos (by simpa using hd)]
      cases hfe : f e with
      | none =>
        rw [List.filterMap_cons_none hfe, ih, hno]
        simp [hfe]
      | some x =>
        rw [List.filterMap_cons_some hfe, List.find?_cons_of_pos (by rw [hf e x hfe]; simpa using hd)]
        simp [hfe]
    · rw [List.find?_cons_of_neg (by simpa using hd)]
      cases hfe : f e with
      | none => rw [List.filterMap_cons_none hfe, ih]
      | some x => rw [List.filterMap_cons_some hfe, List.find?_cons_of_neg (by rw [hf e x hfe]; simpa using hd), ih]
theorem nodup_filterMap (f : REnt → Option REnt) (hf : ∀ e x, f e = some x → x.d = e.d) : ∀ es : List REnt, (es.map (·.d)).Nodup → ((es.filterMap f).map (·.d)).Nodup
  | [], _ => by simp
  | e :: es, hn => by
    rw [List.map_cons, List.nodup_cons] at hn
    have ih := nodup_filterMap f hf es hn.2
    cases hfe : f e with
    | none => rw [List.filterMap_cons_none hfe]; exact ih
    | some x =>
      rw [List.filterMap_cons_some hfe, List.map_cons, List.nodup_cons]
      refine ⟨fun hm => hn.1 ?_, ih⟩
      obtain ⟨y, hy, hyd⟩ := List.mem_map.1 hm
      obtain ⟨z, hz, hzy⟩ := List.mem_filterMap.1 hy
      exact List.mem_map.2 ⟨z, hz, by rw [← hf z y hzy, hyd, hf e x hfe]⟩
theorem RS.moved {st : St} {es : List REnt} (h : RS st es) {a b : List ByteArray} (ha : okP a = true) (hb : okP b = true) : RS (movedS st a b) (es.filterMap (rMv a b)) := by
  have hm : movedS st a b = st.map (movedE a b) := by unfold movedS; rw [if_pos ⟨ha, hb⟩]
  rw [hm]
  refine ⟨fun d hd => ?_, fun e he => ?_, nodup_filterMap _ (fun e x => rMv_d) es h.nd, by rw [List.length_map]; exact h.sl, fun e he => ?_⟩
  · rw [List.getD_eq_getElem?_getD, List.getElem?_map, h.at_ d hd, find_filterMap _ (fun e x => rMv_d) d es h.nd]
    cases hx : es.find? (fun e => decide (e.d = d)) with
    | none => rfl
    | some x =>
      show movedE a b (some (x.s, x.l)) = Option.map (fun e => (e.s, e.l)) (rMv a b x)
      unfold rMv
      cases movedE a b (some (x.s, x.l)) <;> rfl
  · obtain ⟨x, hx, hxe⟩ := List.mem_filterMap.1 he
    rw [rMv_d hxe]
    exact h.low x hx
  · obtain ⟨x, hx, hxe⟩ := List.mem_filterMap.1 he
    unfold rMv at hxe
    obtain ⟨p, hp, rfl⟩ := Option.map_eq_some_iff.1 hxe
    exact movedE_ok (h.ok x hx) hp
theorem RS.closed {st : St} {es : List REnt} (h : RS st es) {i : Nat} {e : REnt} (he : es[i]? = some e) : RS (st.set e.d none) (es.take i ++ es.drop (i + 1)) := by
  obtain ⟨hil, hie⟩ := List.getElem?_eq_some_iff.1 he
  have hes : es = es.take i ++ e :: es.drop (i + 1) := by
    conv => lhs; rw [← List.take_append_drop i es, List.drop_eq_getElem_cons hil, hie]
  have hnd := h.nd
  rw [hes, List.map_append, List.map_cons, List.nodup_append, List.nodup_cons] at hnd
  obtain ⟨n1, ⟨n2, n3⟩, n4⟩ := hnd
  have hmem : ∀ x, x ∈ es.take i ++ es.drop (i + 1) → x ∈ es := fun x hx => by
    rcases List.mem_append.1 hx with h1 | h1
    · exact List.mem_of_mem_take h1
    · exact List.mem_of_mem_drop h1
  have hed : e.d < 8 := h.low e (List.mem_of_getElem? he)
  refine ⟨fun d hd => ?_, fun x hx => h.low x (hmem x hx), ?_, by rw [List.length_set]; exact h.sl, fun x hx => h.ok x (hmem x hx)⟩
  · rw [getD_set _ _ _ _ (by rw [h.sl]; exact hed)]
    by_cases hde : d = e.d
    · subst hde
      rw [if_pos rfl]
      have : (es.take i ++ es.drop (i + 1)).find? (fun x => decide (x.d = e.d)) = none := by
        rw [List.find?_eq_none]
        intro x hx
        simp only [decide_eq_true_eq]
        intro hxd
        rcases List.mem_append.1 hx with h1 | h1
        · exact n4 x.d (List.mem_map.2 ⟨x, h1, rfl⟩) e.d List.mem_cons_self hxd
        · exact n2 (List.mem_map.2 ⟨x, h1, hxd⟩)
      rw [this]
      rfl
    · rw [if_neg hde, h.look d hd]
      conv => lhs; rw [hes]
      rw [List.find?_append, List.find?_append, List.find?_cons_of_neg (by simp; omega)]
  · rw [List.map_append, List.nodup_append]
    exact ⟨n1, n3, fun x hx y hy => n4 x hx y (List.mem_cons_of_mem _ hy)⟩
theorem RS.count {st : St} {es : List REnt} (h : RS st es) : countS st = es.length := by
  have h1 : countS st = ((List.range 8).filter (fun d => (st.getD d none).isSome)).length := by
    obtain ⟨a0, a1, a2, a3, a4, a5, a6, a7, rfl⟩ : ∃ a0 a1 a2 a3 a4 a5 a6 a7, st = [a0, a1, a2, a3, a4, a5, a6, a7] := by
      have := h.sl
      match st, this with
      | [a0, a1, a2, a3, a4, a5, a6, a7], _ => exact ⟨a0, a1, a2, a3, a4, a5, a6, a7, rfl⟩
    unfold countS
    cases a0 <;> cases a1 <;> cases a2 <;> cases a3 <;> cases a4 <;> cases a5 <;> cases a6 <;> cases a7 <;> rfl
  have h2 : (es.map (·.d)).length = es.length := List.length_map _
  rw [h1, ← h2]
  refine List.Perm.length_eq ((List.perm_ext_iff_of_nodup (List.Pairwise.filter _ List.nodup_range) h.nd).2 (fun d => ?_))
  rw [List.mem_filter, List.mem_range]
  constructor
  · rintro ⟨hd, hs⟩
    rw [h.look d hd] at hs
    cases hx : es.find? (fun e => decide (e.d = d)) with
    | none => rw [hx] at hs; cases hs
    | some x => exact List.mem_map.2 ⟨x, List.mem_of_find?_eq_some hx, by have := List.find?_some hx; simpa using this⟩
  · intro hm
    obtain ⟨e, he, rfl⟩ := List.mem_map.1 hm
    obtain ⟨i, hi⟩ := List.getElem?_of_mem he
    refine ⟨h.low e he, ?_⟩
    rw [List.getD_eq_getElem?_getD, h.found hi]
    rfl
end Go.Proofs.YthafpbidfgmacaaDoor.Hd

/- How the document's list of descriptors lies in memory. -/
namespace Go.Proofs.YthafpbidfgmacaaDoor.Hd
open Go.RowKit Go.Proofs.YthafpbidfgmacaaDoor Go.Proofs.YthafpbidfgmacaaDoorW.PrintWords Go.Proofs.YthafpbidfgmacaaDoorW.PrintLast Go.Proofs.YthafpbidfgmacaaDoorW.PrintMore
set_option linter.unusedVariables false
set_option linter.unusedSimpArgs false

/-- An entry's three cells. -/
def RCell (w : World) (F : Nat → Prop) (e : REnt) (cs : List Value) : Prop :=
  okP e.l = true ∧ ∃ b o c, cs = [.int .i64 (e.d : Int), .string e.s, .slice (some ⟨b, o, none⟩) e.l.length c] ∧ F b ∧ e.l.length ≤ c ∧ Row9 w b o e.l
theorem RCell.keep {w w' : World} {F F' : Nat → Prop} {e : REnt} {cs : List Value} (h : RCell w F e cs) (hk : ∀ g, F g → w'.heap[g]? = w.heap[g]?) (hF : ∀ g, F g → F' g) : RCell w' F' e cs := by
  obtain ⟨h0, b, o, c, hv, fb, hc, hr⟩ := h
  exact ⟨h0, b, o, c, hv, hF b fb, hc, hr.keep (hk b fb)⟩
/-- A row of entries of the call's own (from B on), each reading. -/
structure RRow (B : Nat) (w : World) (v : Value) (es : List REnt) (F : Nat → Prop) (xs : List Value) : Prop where
  own : w.ownsRow B 130 3 v es.length xs
  cell : ∀ (i : Nat) e, es[i]? = some e → RCell w F e ((xs.drop (i * 3)).take 3)
structure RTabV (B : Nat) (w : World) (r : Nat) (es : List REnt) (F : Nat → Prop) (v : Value) (xs : List Value) : Prop where
  blk : w.heap[r]? = some (.cells #[v] 79 (0, 0))
  row : RRow B w v es F xs
  fr : F r
  fv : ∀ k, v.ownBlock = some k → F k
  rng : ∀ g, F g → B ≤ g ∧ g < w.heap.size
  small : es.length ≤ 8
def RTab (B : Nat) (w : World) (r : Nat) (es : List REnt) (F : Nat → Prop) : Prop := ∃ v xs, RTabV B w r es F v xs
theorem own_keep {w w' : World} {B e n s : Nat} {v : Value} {xs : List Value} (h : w.ownsRow B e s v n xs) (hk : ∀ k, v.ownBlock = some k → w'.heap[k]? = w.heap[k]?) : w'.ownsRow B e s v n xs := own_move h hk
section
variable {B : Nat} {w w' : World} {r : Nat} {es : List REnt} {F F' : Nat → Prop} {v : Value} {xs : List Value}
theorem RTabV.keep (h : RTabV B w r es F v xs) (hk : ∀ g, F g → w'.heap[g]? = w.heap[g]?) (hs : w.heap.size ≤ w'.heap.size) : RTabV B w' r es F v xs :=
  ⟨(hk r h.fr).trans h.blk, ⟨own_keep h.row.own (fun k hk' => hk k (h.fv k hk')), fun i e he => (h.row.cell i e he).keep hk (fun _ h => h)⟩, h.fr, h.fv, fun g hg => ⟨(h.rng g hg).1, Nat.lt_of_lt_of_le (h.rng g hg).2 hs⟩, h.small⟩
theorem RTab.keep (h : RTab B w r es F) (hk : ∀ g, F g → w'.heap[g]? = w.heap[g]?) (hs : w.heap.size ≤ w'.heap.size) : RTab B w' r es F := by
  obtain ⟨v, xs, h⟩ := h
  exact ⟨v, xs, h.keep hk hs⟩
theorem RTab.rng (h : RTab B w r es F) (g : Nat) (hg : F g) : B ≤ g ∧ g < w.heap.size := h.elim fun _ ⟨_, h⟩ => h.rng g hg
theorem RTab.below (h : RTab B w r es F) (hb : Below w.heap.size w w') : RTab B w' r es F := h.keep (fun g hg => hb.block g (h.rng g hg).2) hb.size
theorem RTab.other {G G' : Nat → Prop} (h : RTab B w r es F) (hf : Fr G G' w w') (hd : ∀ g, F g → ¬ G g) : RTab B w' r es F := h.keep (fun g hg => hf.keep g (h.rng g hg).2 (hd g hg)) hf.size
theorem RTab.apart {G G' : Nat → Prop} (h : RTab B w r es F) (hf : Fr G G' w w') (hd : ∀ g, F g → ¬ G g) : ∀ g, F g → ¬ G' g := fun g hg hg' => by
  rcases hf.sub g hg' with h1 | h1
  · exact hd g hg h1
  · have := (h.rng g hg).2
    omega
/-- The cells of entry i, where they lie. -/
theorem RTabV.at_ (h : RTabV B w r es F v xs) {i : Nat} {e : REnt} (he : es[i]? = some e) : ∃ g cap b o c, v = .slice (some ⟨g, 0, none⟩) es.length cap ∧ es.length ≤ cap ∧ cap ≤ maxLen ∧ g < w.heap.size ∧
    w.cell? ⟨g, i * 3, none⟩ = some (.int .i64 (e.d : Int)) ∧ w.cell? ⟨g, i * 3 + 1, none⟩ = some (.string e.s) ∧ w.cell? ⟨g, i * 3 + 2, none⟩ = some (.slice (some ⟨b, o, none⟩) e.l.length c) ∧ okP e.l = true ∧ e.l.length ≤ c ∧ Row9 w b o e.l ∧ F b := by
  obtain ⟨h0, b, o, c, hcs, fb, hc, hr⟩ := h.row.cell i e he
  have hil := (List.getElem?_eq_some_iff.1 he).1
  have hown := h.row.own
  obtain ⟨hxl, hor⟩ := hown
  rcases hor with ⟨_, hn⟩ | ⟨g, cap, cur, hv, hb, hh, hle, hm, hsz, hx⟩
  · omega
  have hget : ∀ j, j < 3 → ∀ u, ([.int .i64 (e.d : Int), .string e.s, .slice (some ⟨b, o, none⟩) e.l.length c] : List Value)[j]? = some u → w.cell? ⟨g, i * 3 + j, none⟩ = some u := fun j hj u hu => by
    rw [cell_of_row w g _ _ _ _ hh]
    rw [← hcs, List.getElem?_take, if_pos hj, List.getElem?_drop, ← hx, List.getElem?_take, if_pos (by omega)] at hu
    simpa using hu
  exact ⟨g, cap, b, o, c, hv, hle, hm, (Array.getElem?_eq_some_iff.1 hh).1, hget 0 (by omega) _ rfl, hget 1 (by omega) _ rfl, hget 2 (by omega) _ rfl, h0, hc, hr, fb⟩
/-- The slice itself. -/
theorem RTabV.slice (h : RTabV B w r es F v xs) : ∃ A cap, v = .slice A es.length cap ∧ es.length ≤ cap := by
  rcases h.row.own.2 with ⟨hv, hn⟩ | ⟨g, cap, cur, hv, hb, hh, hle, hm, hsz, hx⟩
  · exact ⟨none, 0, by rw [hv, hn], by omega⟩
  · exact ⟨_, cap, hv, hle⟩
theorem RTabV.vcell (h : RTabV B w r es F v xs) : w.cell? ⟨r, 0, none⟩ = some v := by rw [cell_of_row w r _ _ _ _ h.blk]; rfl
theorem RTabV.frozen (h : RTabV B w r es F v xs) (i : Nat) : w.frozen? ⟨r, i, none⟩ = false := by simp [World.frozen?, h.blk]
theorem RTabV.lt (h : RTabV B w r es F v xs) : r < w.heap.size := (h.rng r h.fr).2
end
theorem rtab_new (w : World) : RTab w.heap.size (w.alloc (.cells #[.slice none 0 0] 79)) w.heap.size [] (fun g => g = w.heap.size) :=
  ⟨.slice none 0 0, [], heap_alloc_new w _, ⟨⟨by simp, .inl ⟨rfl, rfl⟩⟩, fun i e he => by simp at he⟩, rfl, fun k hk => by simp [Value.ownBlock] at hk, fun g hg => ⟨by omega, by rw [hg]; exact alloc_lt w _⟩, by simp⟩
end Go.Proofs.YthafpbidfgmacaaDoor.Hd

/- The walks of the document's find, copied, Of. -/
namespace Go.Proofs.YthafpbidfgmacaaDoor.Hd
open Go.RowKit Go.Proofs.YthafpbidfgmacaaDoor Go.Proofs.YthafpbidfgmacaaDoorW.PrintWords Go.Proofs.YthafpbidfgmacaaDoorW.PrintLast Go.Proofs.YthafpbidfgmacaaDoorW.PrintMore
set_option linter.unusedVariables false
set_option linter.unusedSimpArgs false

def NotTo (es : List REnt) (d : Int) (k : Nat) : Prop := ∀ (j : Nat) e, j < k → es[j]? = some e → ¬ (e.d : Int) = d
theorem findI_is {es : List REnt} {d : Int} {k : Nat} {e : REnt} (h : NotTo es d k) (he : es[k]? = some e) (hd : (e.d : Int) = d) : findI es d = (k : Int) := by
  unfold findI
  have hk := (List.getElem?_eq_some_iff.1 he).1
  have : es.findIdx? (fun e => decide ((e.d : Int) = d)) = some k := by
    rw [List.findIdx?_eq_some_iff_getElem]
    refine ⟨hk, ?_, fun j hj => ?_⟩
    · rw [(List.getElem?_eq_some_iff.1 he).2]
      exact decide_eq_true hd
    · have := h j es[j] hj (List.getElem?_eq_getElem (by omega))
      simpa using this
  rw [this]
theorem findI_end {es : List REnt} {d : Int} (h : NotTo es d es.length) : findI es d = -1 := by
  unfold findI
  have : es.findIdx? (fun e => decide ((e.d : Int) = d)) = none := by
    rw [List.findIdx?_eq_none_iff]
    intro e he
    obtain ⟨j, hj⟩ := List.getElem?_of_mem he
    have := h j e (List.getElem?_eq_some_iff.1 hj).1 hj
    simpa using this
  rw [this]
set_option maxHeartbeats 4000000 in
theorem find_calls {B : Nat} {w : World} {r : Nat} {es : List REnt} {F : Nat → Prop} (h : RTab B w r es F) (d : Int) : Calls Tryd.prog 102 #[.pointer (some ⟨r, 0, none⟩), .int .i64 d] w fun e w' => e = .returned (.int .i64 (findI es d)) ∧ w = w' := by
  obtain ⟨v, xs, h⟩ := h
  obtain ⟨A, cap, rfl, hcap⟩ := h.slice
  have hv := h.vcell
  have HV := Lib.hid h
  obtain ⟨n, hn⟩ : ∃ n, n = es.length := ⟨_, rfl⟩
  have hn8 : n ≤ 8 := by rw [hn]; exact h.small
  rw [← hn] at hv hcap
  have HN := Lib.hid hn
  clear h hn
  go_enter Tryd.func102, Tryd.ntmps102
  go_wp2
  go_loop [5] (fun i => ∃ k : Nat, k ≤ n ∧ i = .int .i64 k ∧ Hid (NotTo es d k)) (fun i => n - (intOf i).toNat)
  case atStart => exact ⟨0, by omega, rfl, fun j e hj => by omega⟩
  case round =>
    obtain ⟨k, hk, rfl, HK⟩ := hrel
    by_cases hlt : k < n
    · obtain ⟨e, he⟩ : ∃ e, es[k]? = some e := ⟨_, List.getElem?_eq_getElem (by rw [← HN.out]; exact hlt)⟩
      obtain ⟨g, cap', b, o, c, hvv, hle, hmx, hgl, q0, q1, q2, -⟩ := HV.out.at_ he
      have hA : A = some ⟨g, 0, none⟩ ∧ cap = cap' := by injection hvv with h1 h2 h3; exact ⟨h1, h3⟩
      obtain ⟨rfl, rfl⟩ := hA
      have d1 : decide (k < n) = true := decide_eq_true hlt
      have b0 : (0 : Int) ≤ (k : Int) := by omega
      have b1 : (k : Int) < (n : Int) := by omega
      have HE := Lib.hid he
      clear he hvv hle hmx hgl q1 q2
      obtain ⟨dv, hdv⟩ : ∃ x : Int, x = (e.d : Int) := ⟨_, rfl⟩
      rw [← hdv] at q0
      have HD := Lib.hid hdv
      clear hdv
      by_cases hd : dv = d
      · have c1 : (dv == d) = true := beq_iff_eq.2 hd
        have HDD := Lib.hid hd
        clear hd
        go_wp2
        go_ret
        exact ⟨ret_int (findI_is HK.out HE.out (HD.out ▸ HDD.out)).symm, rfl⟩
      · have c1 : (dv == d) = false := beq_eq_false_iff_ne.2 hd
        have HDD := Lib.hid hd
        clear hd
        go_wp2
        go_round
        case rel => exact ⟨k + 1, by omega, by go_num, fun j e' hj he' => by
          rcases Nat.lt_or_ge j k with h | h
          · exact HK.out j e' h he'
          · obtain rfl : j = k := by omega
            rw [HE.out] at he'
            obtain rfl := Option.some.inj he'
            rw [← HD.out]
            exact HDD.out⟩
        case measure => simp [intOf]; omega
    · obtain rfl : k = n := by omega
      have d1 : decide (k < k) = false := decide_eq_false (by omega)
      go_wp2
      go_ret
      exact ⟨ret_int (findI_end (HN.out ▸ HK.out)).symm, rfl⟩
set_option maxHeartbeats 4000000 in
theorem copied_calls (A : Option Addr) (c : Nat) (l : List ByteArray) (w : World) (hr : Kd.C Kd.string w A l.length l) (hl : l.length ≤ 1000) : Calls Tryd.prog 103 #[.slice A l.length c] w fun e w' => ∃ v, e = .returned v ∧ OwnS w v l w' := by
  have HR := Lib.hid hr
  obtain ⟨n, hn⟩ : ∃ n, n = l.length := ⟨_, rfl⟩
  have HL : Hid ((([] : List ByteArray).length + n) * 16 ≤ 140737488355328) := Lib.hid (by simp; omega)
  rw [← hn] at HR ⊢
  clear hr hn hl
  go_enter Tryd.func103, Tryd.ntmps103
  go_wp2_with (at_builtin; refine list_append_strs _ rfl _ _ rfl w.heap.size (.slice none 0 0) [] rfl (own_nil _ _ _ _) A n c l rfl HR.out HL.out (Nat.le_refl _) ?_; intro v1 w1 hown hgrow hat; have HO := Lib.hid hown; have HG := Lib.hid hgrow; clear hown hgrow hat)
  go_ret
  exact ⟨_, rfl, (OwnS.nil w w (Below.refl _ _)).step HO.out HG.out⟩
/-- What the document's Of answers. -/
def ofR (es : List REnt) (d : Int) : ByteArray × List ByteArray × Int := match es.find? (fun e => decide ((e.d : Int) = d)) with | some e => (e.s, e.l, 0) | none => (⟨#[]⟩, [], 12)
def OfRP (w : World) (s : ByteArray) (l : List ByteArray) (er : Int) (e : Ending) (w' : World) : Prop := ∃ A c, e = .returned (.tuple #[.string s, .slice A l.length c, .int .i64 er]) ∧ l.length ≤ c ∧ Kd.C Kd.string w A l.length l ∧ ∃ q, w' = w.drewN q
set_option maxHeartbeats 4000000 in
theorem rof_calls {B : Nat} {w : World} {r : Nat} {es : List REnt} {F : Nat → Prop} (h : RTab B w r es F) (d : Int) : Calls Tryd.prog 90 #[.pointer (some ⟨r, 0, none⟩), .int .i64 d] w fun e w' => (findI es d < 0 ∧ OfRP w ⟨#[]⟩ [] 12 e w') ∨ (∃ i en, findI es d = (i : Nat) ∧ es[i]? = some en ∧ OfRP w en.s en.l 0 e w') := by
  have hf := Lib.hid (find_calls h d)
  by_cases hneg : findI es d < 0
  · have HN := Lib.hid hneg
    rw [(findI_none hneg).1] at hf
    clear hneg h
    go_enter Tryd.func90, Tryd.ntmps90
    go_wp2_with (go_at_call 102; refine hf.out.mono ?_; rintro e w' ⟨rfl, rfl⟩)
    go_ret3
    exact .inl ⟨HN.out, _, _, rfl, by simp, Kd.C_of_reads (d := ByteArray.empty) (h1 := fun _ => rfl) ⟨rfl, by decide, fun h => absurd h (by decide)⟩, 0, rfl⟩
  · obtain ⟨i, en, hi, he, hd⟩ := findI_some hneg
    obtain ⟨v, xs, h⟩ := h
    obtain ⟨g, cap, b, o, c, rfl, hle, hmx, hgl, q0, q1, q2, hok, hlc, hr9, hfb⟩ := h.at_ he
    have hv := h.vcell
    have hil := (List.getElem?_eq_some_iff.1 he).1
    have h8 := h.small
    have HI := Lib.hid hi
    have HE := Lib.hid he
    have HR : Hid (en.l.length ≤ c ∧ Kd.C Kd.string w (some ⟨b, o, none⟩) en.l.length en.l) := ⟨hlc, hr9.1.reads (by have := (okP_len hok).2.1; omega)⟩
    rw [hi] at hf
    obtain ⟨n, hn⟩ : ∃ n, n = es.length := ⟨_, rfl⟩
    rw [← hn] at hv hil h8 hle
    have b0 : (0 : Int) ≤ (i : Int) := by omega
    have b1 : (i : Int) < (n : Int) := by omega
    have d1 : decide ((i : Int) < 0) = false := decide_eq_false (by omega)
    clear h hneg hi he hd hr9 hfb hok hn q0 hlc hgl hmx
    go_enter Tryd.func90, Tryd.ntmps90
    go_wp2_with (go_at_call 102; refine hf.out.mono ?_; rintro e w' ⟨rfl, rfl⟩)
    go_quiet (fail)
    go_wp2
    go_ret3
    exact .inr ⟨i, en, HI.out, HE.out, _, _, rfl, HR.out.1, HR.out.2, nq, rfl⟩
end Go.Proofs.YthafpbidfgmacaaDoor.Hd

/- What the document's Name, Right, Within, Same answer. -/
namespace Go.Proofs.YthafpbidfgmacaaDoor.Q
open Go.RowKit Go.Proofs.YthafpbidfgmacaaDoorW.PrintWords Go.Proofs.YthafpbidfgmacaaDoorW.PrintLast Go.Proofs.YthafpbidfgmacaaDoorW.PrintMore
set_option linter.unusedVariables false

theorem name_loop (x0 : ByteArray) (hs : x0.size ≤ 1000) : ∀ (d k i : Nat), i ≤ x0.size → x0.size - i = d → d < k → rillbedref06_Name.l0 k x0 (i : Int) = some (!((x0.data.toList.drop i).any cutB)) := by
  intro d
  induction d with
  | zero =>
    intro k i h1 hd hk
    obtain ⟨k, rfl⟩ : ∃ m, k = m + 1 := ⟨k - 1, by omega⟩
    simp only [rillbedref06_Name.l0]
    rw [if_neg (by omega), List.drop_of_length_le (by rw [size_len]; omega)]
    rfl
  | succ d ih =>
    intro k i h1 hd hk
    obtain ⟨k, rfl⟩ : ∃ m, k = m + 1 := ⟨k - 1, by omega⟩
    obtain ⟨b, hb⟩ := byte_at x0 i (by omega)
    have hdr : x0.data.toList.drop i = b :: x0.data.toList.drop (i + 1) := by
      obtain ⟨hl, he⟩ := List.getElem?_eq_some_iff.1 hb
      rw [List.drop_eq_getElem_cons hl, he]
    simp only [rillbedref06_Name.l0]
    rw [if_pos (by omega), if_pos (by omega), bt_nat x0 i b hb, hdr, List.any_cons]
    by_cases hb0 : b = 0
    · subst hb0
      rw [if_pos (by decide)]
      rfl
    · rw [if_neg (by
        intro h
        apply hb0
        have : b.toNat = 0 := by omega
        exact UInt8.toNat_inj.1 this)]
      by_cases hb1 : b = 47
      · subst hb1
        rw [if_pos (by decide)]
        rfl
      · rw [if_neg (by
          intro h
          apply hb1
          have : b.toNat = 47 := by omega
          exact UInt8.toNat_inj.1 this)]
        have hc : cutB b = false := by simp [cutB, hb0, hb1]
        rw [wrap_small (by omega) (by omega), hc, Bool.false_or]
        have := ih k (i + 1) (by omega) (by omega) (by omega)
        rw [show ((i + 1 : Nat) : Int) = (i : Int) + 1 from by omega] at this
        exact this
theorem name_ref (s : ByteArray) (k : Nat) (hk : 20 ≤ k) : rillbedref06_Name.f k s = some (nameB s) := by
  obtain ⟨k, rfl⟩ : ∃ m, k = m + 1 := ⟨k - 1, by omega⟩
  unfold rillbedref06_Name.f nameB
  simp only [rillbedref06_Name.j0]
  by_cases h1 : (s.size : Int) < 1
  · rw [if_pos h1, decide_eq_false (show ¬ 1 ≤ s.size by omega)]
    rfl
  · rw [if_neg h1, decide_eq_true (show 1 ≤ s.size by omega)]
    by_cases h2 : (s.size : Int) > 16
    · rw [if_pos h2, decide_eq_false (show ¬ s.size ≤ 16 by omega)]
      rfl
    · rw [if_neg h2, decide_eq_true (show s.size ≤ 16 by omega)]
      by_cases h3 : s.toList = [46]
      · rw [if_pos h3, h3]
        rfl
      · rw [if_neg h3]
        have e3 : (s.toList == [46]) = false := beq_eq_false_iff_ne.2 h3
        rw [e3]
        by_cases h4 : s.toList = [46, 46]
        · rw [h4]
          rfl
        · have e4 : (s.toList == [46, 46]) = false := beq_eq_false_iff_ne.2 h4
          rw [e4, if_neg (by decide)]
          have := name_loop s (by omega) s.size k 0 (by omega) (by omega) (by omega)
          rw [List.drop_zero] at this
          exact this
theorem right_loop (x0 : List ByteArray) (hs : x0.length ≤ 1000) : ∀ (d k i : Nat), i ≤ x0.length → x0.length - i = d → d + 20 < k → rillbedref06_Right.l0 k x0 (i : Int) = some ((x0.drop i).all nameB) := by
  intro d
  induction d with
  | zero =>
    intro k i h1 hd hk
    obtain ⟨k, rfl⟩ : ∃ m, k = m + 1 := ⟨k - 1, by omega⟩
    simp only [rillbedref06_Right.l0]
    rw [if_neg (by omega), List.drop_of_length_le (by omega)]
    rfl
  | succ d ih =>
    intro k i h1 hd hk
    obtain ⟨k, rfl⟩ : ∃ m, k = m + 1 := ⟨k - 1, by omega⟩
    have hl : i < x0.length := by omega
    simp only [rillbedref06_Right.l0]
    rw [if_pos (by omega), if_pos (by omega), rd_nat x0 i x0[i] (List.getElem?_eq_getElem hl), name_ref _ k (by omega), List.drop_eq_getElem_cons hl, List.all_cons]
    simp only [Option.bind_some]
    cases nameB x0[i] with
    | false => rfl
    | true =>
      rw [if_pos rfl, wrap_small (by omega) (by omega), Bool.true_and]
      have := ih k (i + 1) (by omega) (by omega) (by omega)
      rw [show ((i + 1 : Nat) : Int) = (i : Int) + 1 from by omega] at this
      exact this
theorem right_ref (l : List ByteArray) (k : Nat) (hk : 30 ≤ k) : rillbedref06_Right.f k l = some (rightB l) := by
  unfold rillbedref06_Right.f rightB
  by_cases h : (l.length : Int) > 6
  · rw [if_pos h, decide_eq_false (show ¬ l.length ≤ 6 by omega), Bool.and_false]
  · rw [if_neg h, decide_eq_true (show l.length ≤ 6 by omega), Bool.and_true]
    have := right_loop l (by omega) l.length k 0 (by omega) (by omega) (by omega)
    rw [List.drop_zero] at this
    exact this
theorem bytes_eq (a b : ByteArray) : a.toList = b.toList ↔ a = b := ⟨fun h => WideShapes.bytes_inj (by rw [tl, tl] at h; exact h), fun h => by rw [h]⟩
theorem within_loop_ref (x0 x1 : List ByteArray) (h : x1.length ≤ x0.length) (hs : x0.length ≤ 1000) : ∀ (d k i : Nat), i ≤ x1.length → x1.length - i = d → d < k → rillbedref06_Within.l0 k x0 x1 (i : Int) = some (decide ((x0.drop i).take (x1.length - i) = x1.drop i)) := by
  intro d
  induction d with
  | zero =>
    intro k i h1 hd hk
    obtain ⟨k, rfl⟩ : ∃ m, k = m + 1 := ⟨k - 1, by omega⟩
    simp only [rillbedref06_Within.l0]
    rw [if_neg (by omega), hd, List.drop_of_length_le (show x1.length ≤ i by omega), List.take_zero]
    rfl
  | succ d ih =>
    intro k i h1 hd hk
    obtain ⟨k, rfl⟩ : ∃ m, k = m + 1 := ⟨k - 1, by omega⟩
    have hl1 : i < x1.length := by omega
    have hl0 : i < x0.length := by omega
    have hnx := ih k (i + 1) (by omega) (by omega) (by omega)
    rw [show ((i + 1 : Nat) : Int) = (i : Int) + 1 from by omega] at hnx
    simp only [rillbedref06_Within.l0]
    rw [if_pos (by omega), if_pos (by omega), if_pos (by omega), rd_nat x0 i x0[i] (List.getElem?_eq_getElem hl0), rd_nat x1 i x1[i] (List.getElem?_eq_getElem hl1), wrap_small (by omega) (by omega), hnx]
    rw [List.drop_eq_getElem_cons hl0, List.drop_eq_getElem_cons hl1, show x1.length - i = (x1.length - (i + 1)) + 1 from by omega, List.take_succ_cons]
    by_cases he : x0[i].toList = x1[i].toList
    · rw [if_pos he, (bytes_eq _ _).1 he]
      congr 1
      rw [decide_eq_decide]
      exact ⟨fun e => by rw [e], fun e => (List.cons.inj e).2⟩
    · rw [if_neg he]
      congr 1
      symm
      rw [decide_eq_false_iff_not]
      intro h2
      exact he ((bytes_eq _ _).2 (List.cons.inj h2).1)
theorem within_ref (l a : List ByteArray) (hl : l.length ≤ 1000) (k : Nat) (hk : a.length < k) : rillbedref06_Within.f k l a = some (decide (a.length ≤ l.length ∧ l.take a.length = a)) := by
  unfold rillbedref06_Within.f
  by_cases h : (l.length : Int) < (a.length : Int)
  · rw [if_pos h, decide_eq_false (fun e => by omega)]
  · rw [if_neg h]
    have := within_loop_ref l a (by omega) hl a.length k 0 (by omega) (by omega) hk
    rw [show ((0 : Nat) : Int) = 0 from rfl, List.drop_zero, List.drop_zero, Nat.sub_zero] at this
    rw [this]
    congr 1
    rw [decide_eq_decide]
    exact ⟨fun h2 => ⟨by omega, h2⟩, fun h2 => h2.2⟩
theorem same_ref (l a : List ByteArray) (hl : l.length ≤ 1000) (k : Nat) (hk : a.length < k) : rillbedref06_Same.f k l a = some (decide (l = a)) := by
  unfold rillbedref06_Same.f
  by_cases h : (l.length : Int) = (a.length : Int)
  · rw [if_pos h, within_ref l a hl k hk]
    show some _ = _
    congr 1
    rw [decide_eq_decide]
    constructor
    · rintro ⟨_, h2⟩
      rw [List.take_of_length_le (by omega)] at h2
      exact h2
    · rintro rfl
      exact ⟨Nat.le_refl _, List.take_length⟩
  · rw [if_neg h, decide_eq_false (fun e => h (by rw [e]))]
end Go.Proofs.YthafpbidfgmacaaDoor.Q

/- append of entries; an entry put into the document's list. -/
namespace Go.Proofs.YthafpbidfgmacaaDoor.Hd
open Go.RowKit Go.Proofs.YthafpbidfgmacaaDoor Go.Proofs.YthafpbidfgmacaaDoorW.PrintWords Go.Proofs.YthafpbidfgmacaaDoorW.PrintLast Go.Proofs.YthafpbidfgmacaaDoorW.PrintMore
set_option linter.unusedVariables false
set_option linter.unusedSimpArgs false

theorem info130 : (Tryd.prog.info? 130).map (fun i => (i.zero, i.size, i.bytes)) = some (some (.agg #[.int .i64 0, .string ByteArray.empty, .slice none 0 0]), 3, 48) := by kernel_rfl
/-- What is appended, read. -/
def NewR (w : World) (A : Option Addr) (m : Nat) (news : List Value) : Prop := news.length = m * 3 ∧ (0 < m → ∃ ad, A = some ad ∧ ∀ j u, news[j]? = some u → w.cell? (ad.add j) = some u)
set_option maxRecDepth 100000 in
theorem run_append_ents (W : World) (base : Nat) (ty : TypeId) (v : Value) (n : Nat) (xs : List Value) (HO : W.ownsRow base 130 3 v n xs) (A : Option Addr) (m c : Nat) (news : List Value) (HR : NewR W A m news) (h1 : ∀ u ∈ news, u.oneCell' = true)
    (hl : (n + m) * 48 ≤ 140737488355328) (hbase : base ≤ W.heap.size) :
    ∃ v1 w1, (Builtin.append_ #[77, 77] ty #[v, .slice A m c]).run Tryd.prog W = .ok v1 w1 ∧ w1.ownsRow base 130 3 v1 (n + m) (xs ++ news) ∧ W.grownBy w1 v.ownBlock ∧ (v1.ownBlock = v.ownBlock ∨ v1.ownBlock = some W.heap.size) := by
  obtain ⟨i0, hi, hzz⟩ := Option.map_eq_some_iff.1 info130
  simp only [Prod.mk.injEq] at hzz
  obtain ⟨hz0, hz1, hz2⟩ := hzz
  rcases Nat.eq_zero_or_pos m with h0 | h0
  · subst h0
    obtain rfl : news = [] := List.eq_nil_of_length_eq_zero (by simpa using HR.1)
    cases A with
    | none =>
      refine ⟨v, W, ?_, by simpa using HO, World.grownBy.refl W _, .inl rfl⟩
      rcases HO.2 with ⟨rfl, hn⟩ | ⟨g, cap, cur, rfl, _, _, hnc, _⟩
      · simp [Builtin.append_, run_underlying Tryd.underlying77, sizeOf, typeInfo, hi, Builtin.lenOf, Builtin.firstCells]
      · simp [Builtin.append_, run_underlying Tryd.underlying77, sizeOf, typeInfo, hi, Builtin.lenOf, Builtin.firstCells, hnc, storeCells]
    | some ad =>
      obtain ⟨v1, w1, hr, h2, h3, _, h5⟩ := run_append_own_at (P := Tryd.prog) W base 77 ty 130 i0 _ 3 48 Tryd.underlying77 hi hz0 hz1 hz2 rfl (by omega) v n xs HO ad 0 c [] (by simp) (fun j u hu => by simp at hu) (fun u hu => by cases hu) (by simp only [maxLen]; omega) hl hbase
      exact ⟨v1, w1, hr, h2, h3, h5⟩
  · obtain ⟨ad, rfl, hc⟩ := HR.2 h0
    obtain ⟨v1, w1, hr, h2, h3, _, h5⟩ := run_append_own_at (P := Tryd.prog) W base 77 ty 130 i0 _ 3 48 Tryd.underlying77 hi hz0 hz1 hz2 rfl (by omega) v n xs HO ad m c news HR.1 hc h1 (by simp only [maxLen]; omega) hl hbase
    exact ⟨v1, w1, hr, h2, h3, h5⟩
section
variable {ops : Array Oper} {rest : List Oper} {o : Oper} {a : Go.Act} {K : Go.Act → World → Prop} {Q : Exit → Go.Act → World → Prop} {E : Prop}
theorem step_append_ents (W : World) (hgd : o.guard = none) (s x : Operand) (ho : o.op = .call { callee := .builtin .append, args := #[s, x], argTypes := #[77, 77] }) (base : Nat) (v : Value) (n : Nat) (xs : List Value) (hs : a.eval s = v)
    (HO : W.ownsRow base 130 3 v n xs) (A : Option Addr) (m c : Nat) (news : List Value) (hx : a.eval x = .slice A m c) (HR : NewR W A m news) (h1 : ∀ u ∈ news, u.oneCell' = true)
    (hl : (n + m) * 48 ≤ 140737488355328) (hbase : base ≤ W.heap.size)
    (h : ∀ v1 w1, w1.ownsRow base 130 3 v1 (n + m) (xs ++ news) → W.grownBy w1 v.ownBlock → (v1.ownBlock = v.ownBlock ∨ v1.ownBlock = some W.heap.size) → K (a.put o.dst v1) w1) :
    if Region.wanted o (yielded ops a.tmps) = true then Oper.wp Tryd.prog o a W K Q else E := by
  have hw : Region.wanted o (yielded ops a.tmps) = true := by simp [Region.wanted, hgd]
  rw [if_pos hw]
  obtain ⟨v1, w1, hr, h2, h3, h5⟩ := run_append_ents W base o.type v n xs HO A m c news HR h1 hl hbase
  unfold Oper.wp execOp
  simp only [ho, resolve, invoke, builtin, Sem.run_bind, Sem.run_pure, Result.andThen_ok, List.map_toArray, List.map_cons, List.map_nil, hs, hx, hr]
  exact h v1 w1 h2 h3 h5
theorem list_append_ents (W : World) (hgd : o.guard = none) (s x : Operand) (ho : o.op = .call { callee := .builtin .append, args := #[s, x], argTypes := #[77, 77] }) (base : Nat) (v : Value) (n : Nat) (xs : List Value) (hs : a.eval s = v)
    (HO : W.ownsRow base 130 3 v n xs) (A : Option Addr) (m c : Nat) (news : List Value) (hx : a.eval x = .slice A m c) (HR : NewR W A m news) (h1 : ∀ u ∈ news, u.oneCell' = true)
    (hl : (n + m) * 48 ≤ 140737488355328) (hbase : base ≤ W.heap.size)
    (h : ∀ v1 w1, w1.ownsRow base 130 3 v1 (n + m) (xs ++ news) → W.grownBy w1 v.ownBlock → (v1.ownBlock = v.ownBlock ∨ v1.ownBlock = some W.heap.size) → wpList Tryd.prog ops Q rest (a.put o.dst v1) w1) :
    wpList Tryd.prog ops Q (o :: rest) a W := by
  obtain ⟨v1, w1, hr, h2, h3, h5⟩ := run_append_ents W base o.type v n xs HO A m c news HR h1 hl hbase
  refine wpList_plain hgd fun K hK => ?_
  unfold Oper.wp execOp
  simp only [ho, resolve, invoke, builtin, Sem.run_bind, Sem.run_pure, Result.andThen_ok, List.map_toArray, List.map_cons, List.map_nil, hs, hx, hr]
  exact hK _ _ (h v1 w1 h2 h3 h5)
end
theorem grown_row {w w' : World} {row : Option Nat} (hg : w.grownBy w' row) {b : Nat} (hb : b < w.heap.size) (hn : ∀ k, row = some k → b ≠ k) : w'.heap[b]? = w.heap[b]? := hg.block b hb (fun e => hn b e.symm rfl)
/-- Entries of a row, when other entries are put behind them. -/
theorem cell_left {xs ys : List Value} {n : Nat} (hx : xs.length = n * 3) {i : Nat} (hi : i < n) : (((xs ++ ys).drop (i * 3)).take 3) = (xs.drop (i * 3)).take 3 := by
  rw [List.drop_append_of_le_length (by omega), List.take_append_of_le_length (by rw [List.length_drop]; omega)]
theorem cell_right {xs ys : List Value} {n : Nat} (hx : xs.length = n * 3) {i : Nat} (hi : n ≤ i) : (((xs ++ ys).drop (i * 3)).take 3) = (ys.drop ((i - n) * 3)).take 3 := by
  rw [List.drop_append]
  have : xs.drop (i * 3) = [] := List.drop_of_length_le (by omega)
  rw [this, List.nil_append, hx]
  congr 2
  omega
end Go.Proofs.YthafpbidfgmacaaDoor.Hd

/- The document's Open. -/
namespace Go.Proofs.YthafpbidfgmacaaDoor.Hd
open Go.RowKit Go.Proofs.YthafpbidfgmacaaDoor Go.Proofs.YthafpbidfgmacaaDoorW.PrintWords Go.Proofs.YthafpbidfgmacaaDoorW.PrintLast Go.Proofs.YthafpbidfgmacaaDoorW.PrintMore
set_option linter.unusedVariables false
set_option linter.unusedSimpArgs false

theorem strs_row {W : World} {base : Nat} {v : Value} {l : List ByteArray} (h0 : 0 < l.length) (ho : W.ownsRow base 9 1 v l.length (encs Value.string l)) : ∃ b c, v = .slice (some ⟨b, 0, none⟩) l.length c ∧ base ≤ b ∧ b < W.heap.size ∧ l.length ≤ c ∧ Row9 W b 0 l := by
  obtain ⟨g, c, rfl⟩ := own_form h0 ho
  obtain ⟨h1, h2, h3⟩ := own_row h0 ho
  exact ⟨g, c, rfl, h1, h3.1.lt h0, h2, h3⟩
/-- The new entry's cells, where buildSlice lays them. -/
theorem newr_one (W : World) (d : Int) (s : ByteArray) (v : Value) : NewR (W.alloc (.cells #[.int .i64 d, .string s, v] 130)) (some ⟨W.heap.size, 0, none⟩) 1 [.int .i64 d, .string s, v] :=
  ⟨rfl, fun _ => ⟨_, rfl, fun j u hu => by
    rw [add_none, Nat.zero_add, cell_of_row _ _ _ _ _ _ (heap_alloc_new W _)]
    simpa using hu⟩⟩
/-- An entry behind a row's. -/
theorem rrow_put {B : Nat} {w W w3 : World} {v v3 : Value} {es : List REnt} {F F' : Nat → Prop} {xs : List Value} {e : REnt} {cs : List Value} (h : RRow B W v es F xs) (hcs : cs.length = 3) (ho : w3.ownsRow B 130 3 v3 (es.length + 1) (xs ++ cs)) (hk : ∀ g, F g → (∀ k, v.ownBlock = some k → g ≠ k) → w3.heap[g]? = W.heap[g]?) (hF : ∀ g, F g → F' g)
    (hn : ∀ b o l, Row9 W b o l → ∀ k, v.ownBlock = some k → b ≠ k) (hc : RCell w3 F' e cs) : RRow B w3 v3 (es ++ [e]) F' (xs ++ cs) := by
  have hxl : xs.length = es.length * 3 := h.own.1
  refine ⟨by rw [List.length_append, List.length_singleton]; exact ho, fun i x hx => ?_⟩
  by_cases hi : i < es.length
  · rw [List.getElem?_append_left hi] at hx
    rw [cell_left hxl hi]
    obtain ⟨h0, b, o, c, hv, fb, hc', hr⟩ := h.cell i x hx
    exact ⟨h0, b, o, c, hv, hF b fb, hc', hr.keep (hk b fb (hn b o _ hr))⟩
  · have hlt := (List.getElem?_eq_some_iff.1 hx).1
    rw [List.length_append, List.length_singleton] at hlt
    obtain rfl : i = es.length := by omega
    rw [List.getElem?_append_right (Nat.le_refl _), Nat.sub_self] at hx
    obtain rfl := Option.some.inj hx
    rw [cell_right hxl (Nat.le_refl _), Nat.sub_self, Nat.zero_mul, List.drop_zero, List.take_of_length_le (by omega)]
    exact hc
theorem row9_own {W : World} {B n : Nat} {v : Value} {xs : List Value} (ho : W.ownsRow B 130 3 v n xs) (b o : Nat) (l : List ByteArray) (hr : Row9 W b o l) (k : Nat) (hk : v.ownBlock = some k) : b ≠ k := by
  obtain ⟨cells, hc⟩ := own_typed ho k hk
  exact hr.ne hc (by decide)
/-- An entry is put behind the list. -/
theorem rtab_put {B : Nat} {w W w3 : World} {r : Nat} {es : List REnt} {F : Nat → Prop} {v v3 vl : Value} {xs : List Value} {d : Nat} {s : ByteArray} {l : List ByteArray} (h : RTabV B w r es F v xs) (hB : B ≤ w.heap.size) (hl : okP l = true) (h8 : es.length + 1 ≤ 8)
    (hW : Below w.heap.size w W) {b0 : Nat} (hb0 : w.heap.size ≤ b0) (hol : W.ownsRow b0 9 1 vl l.length (encs Value.string l)) (ho : w3.ownsRow B 130 3 v3 (es.length + 1) (xs ++ [.int .i64 (d : Int), .string s, vl])) (hg : (W.alloc (.cells #[.int .i64 (d : Int), .string s, vl] 130)).grownBy w3 v.ownBlock) (hat : v3.ownBlock = v.ownBlock ∨ v3.ownBlock = some (W.alloc (.cells #[.int .i64 (d : Int), .string s, vl] 130)).heap.size) :
    ∃ F', RTab B (w3.setCell ⟨r, 0, none⟩ v3) r (es ++ [⟨d, s, l⟩]) F' ∧ Fr F F' w (w3.setCell ⟨r, 0, none⟩ v3) := by
  obtain ⟨hl1, hl6, _⟩ := okP_len hl
  obtain ⟨b, c, rfl, hb, hbW, hc, hr9⟩ := strs_row hl1 hol
  have hsz : w.heap.size ≤ W.heap.size := hW.size
  obtain ⟨W2, hW2⟩ : ∃ W2, W2 = W.alloc (.cells #[.int .i64 (d : Int), .string s, .slice (some ⟨b, 0, none⟩) l.length c] 130) := ⟨_, rfl⟩
  have hz2 : W2.heap.size = W.heap.size + 1 := by rw [hW2]; simp
  have hkW : ∀ g, g < W.heap.size → W2.heap[g]? = W.heap[g]? := fun g hg' => by rw [hW2]; exact Below.heap_alloc _ _ g hg'
  rw [← hW2] at hg hat
  have hz3 : W2.heap.size ≤ w3.heap.size := hg.size
  have hrow2 : RRow B W2 v es F xs := (h.keep (w' := W2) (fun g hg' => (hkW g (by have := (h.rng g hg').2; omega)).trans (hW.block g (h.rng g hg').2)) (by omega)).row
  have hrW : W2.heap[r]? = some (.cells #[v] 79 (0, 0)) := (hkW r (by have := h.lt; omega)).trans ((hW.block r h.lt).trans h.blk)
  have hrv : ∀ k, v.ownBlock = some k → r ≠ k := fun k hk e => by
    obtain ⟨cells, hc⟩ := own_typed hrow2.own k hk
    exact type_ne hrW hc (by decide) e
  have hr3 : w3.heap[r]? = some (.cells #[v] 79 (0, 0)) := (grown_row hg (by have := h.lt; omega) hrv).trans hrW
  have hr9' : Row9 w3 b 0 l := by
    refine Row9.keep hr9 ?_
    rw [grown_row hg (by omega) (fun k hk => row9_own hrow2.own b 0 l (hr9.keep (hkW b hbW)) k hk), hkW b hbW]
  have hrow3 : RRow B w3 v3 (es ++ [⟨d, s, l⟩]) (fun g => F g ∨ g = b ∨ v3.ownBlock = some g) (xs ++ [.int .i64 (d : Int), .string s, .slice (some ⟨b, 0, none⟩) l.length c]) :=
    rrow_put (w := w) hrow2 rfl ho (fun g fg hn => grown_row hg (by have := (h.rng g fg).2; omega) hn) (fun g hg' => .inl hg') (fun b o l hr k hk => row9_own hrow2.own b o l hr k hk) ⟨hl, b, 0, c, rfl, .inr (.inl rfl), hc, hr9'⟩
  have hr3v : ∀ k, v3.ownBlock = some k → r ≠ k := fun k hk e => by
    obtain ⟨cells, hc⟩ := own_typed ho k hk
    exact type_ne hr3 hc (by decide) e
  have hset : ∀ g, g ≠ r → (w3.setCell ⟨r, 0, none⟩ v3).heap[g]? = w3.heap[g]? := fun g hne => Below.heap_setCell w3 _ _ g hne
  have hzs : (w3.setCell ⟨r, 0, none⟩ v3).heap.size = w3.heap.size := by simp [World.setCell]
  have hlt3 : ∀ k, v3.ownBlock = some k → k < w3.heap.size := fun k hk => own_lt ho k hk
  have hge3 : ∀ k, v3.ownBlock = some k → B ≤ k := fun k hk => own_base ho k hk
  refine ⟨fun g => F g ∨ g = b ∨ v3.ownBlock = some g, ⟨v3, _, ?_, ⟨own_keep hrow3.own (fun k hk => hset k (fun e => hr3v k hk e.symm)), fun i e he => ?_⟩, .inl h.fr, fun k hk => .inr (.inr hk), fun g hg' => ?_, by simp; omega⟩, hg.os.trans (by rw [hW2]; exact hW.os), hg.tape.trans (by rw [hW2]; exact hW.tape), hg.output.trans (by rw [hW2]; exact hW.output), by omega, fun g hg1 hg2 => ?_, fun g hg' => ?_⟩
  · rw [heap_setCell_row w3 r 0 _ _ v3 hr3]
    rfl
  · obtain ⟨h0, b', o', c', hv, fb, hc', hr'⟩ := hrow3.cell i e he
    exact ⟨h0, b', o', c', hv, fb, hc', hr'.keep (hset b' (hr'.ne hr3 (by decide)))⟩
  · rw [hzs]
    rcases hg' with h1 | h1 | h1
    · have := h.rng g h1; omega
    · omega
    · exact ⟨hge3 g h1, hlt3 g h1⟩
  · rw [hset g (fun e => hg2 (by rw [e]; exact h.fr)), grown_row hg (by omega) (fun k hk e => hg2 (by rw [e]; exact h.fv k hk)), hkW g (by omega)]
    exact hW.block g hg1
  · rcases hg' with h1 | h1 | h1
    · exact .inl h1
    · exact .inr (by omega)
    · rcases hat with h2 | h2
      · rw [h2] at h1
        exact .inl (h.fv g h1)
      · rw [h2] at h1
        have := Option.some.inj h1
        exact .inr (by omega)
end Go.Proofs.YthafpbidfgmacaaDoor.Hd

/- The walk of the document's Open. -/
namespace Go.Proofs.YthafpbidfgmacaaDoor.Hd
open Go.RowKit Go.Proofs.YthafpbidfgmacaaDoor Go.Proofs.YthafpbidfgmacaaDoorW.PrintWords Go.Proofs.YthafpbidfgmacaaDoorW.PrintLast Go.Proofs.YthafpbidfgmacaaDoorW.PrintMore
set_option linter.unusedVariables false
set_option linter.unusedSimpArgs false

def RStep (B r : Nat) (F : Nat → Prop) (st' : St) (v : Value) (w : World) (e : Ending) (w' : World) : Prop := e = .returned v ∧ ∃ es' F', RS st' es' ∧ RTab B w' r es' F' ∧ Fr F F' w w'
theorem RS.room {st : St} {es : List REnt} (h : RS st es) {k : Nat} (hk : freeR es k) : es.length + 1 ≤ 8 := by
  have h1 := (h.opened hk ⟨#[]⟩ [⟨#[97]⟩] (by decide +kernel)).count
  rw [List.length_append, List.length_singleton] at h1
  have h2 : countS (st.set k (some (⟨#[]⟩, [⟨#[97]⟩]))) ≤ 8 := by
    unfold countS
    refine Nat.le_trans List.countP_le_length ?_
    rw [List.length_set, h.sl]
    exact Nat.le_refl _
  omega
def ROpenP (B r : Nat) (F : Nat → Prop) (st : St) (s : ByteArray) (l : List ByteArray) (w : World) (e : Ending) (w' : World) : Prop :=
  RStep B r F (openS st s l).1 (.tuple #[.int .i64 (openS st s l).2.1, .int .i64 (openS st s l).2.2]) w e w'
theorem ropen_bad {B r : Nat} {F : Nat → Prop} {st : St} {s : ByteArray} {l : List ByteArray} {w w' : World} {es : List REnt} (hl : okP l = false) (hr : RS st es) (h : RTab B w r es F) (hb : Below w.heap.size w w') : ROpenP B r F st s l w (.returned (.tuple #[.int .i64 0, .int .i64 4])) w' := by
  unfold ROpenP openS
  rw [if_neg (by rw [hl]; decide)]
  exact ⟨rfl, es, F, hr, h.below hb, Fr.of_below hb⟩
theorem ropen_full {B r : Nat} {F : Nat → Prop} {st : St} {s : ByteArray} {l : List ByteArray} {w w' : World} {es : List REnt} (hl : okP l = true) (hr : RS st es) (hn : ∀ j : Nat, j < 8 → ¬ findI es (j : Int) < 0) (h : RTab B w r es F) (hb : Below w.heap.size w w') : ROpenP B r F st s l w (.returned (.tuple #[.int .i64 0, .int .i64 7])) w' := by
  unfold ROpenP openS
  rw [if_pos hl, if_neg (hr.full hn)]
  exact ⟨rfl, es, F, hr, h.below hb, Fr.of_below hb⟩
theorem ropen_put {B r : Nat} {F F' : Nat → Prop} {st : St} {s : ByteArray} {l : List ByteArray} {w w' : World} {es : List REnt} {k : Nat} (hl : okP l = true) (hr : RS st es) (hk : freeR es k) (h : RTab B w' r (es ++ [⟨k, s, l⟩]) F') (hf : Fr F F' w w') : ROpenP B r F st s l w (.returned (.tuple #[.int .i64 (k : Int), .int .i64 0])) w' := by
  unfold ROpenP openS
  rw [if_pos hl, hr.free hk, if_pos hk.1]
  exact ⟨rfl, _, F', hr.opened hk s l hl, h, hf⟩
def TakT (es : List REnt) (k : Nat) : Prop := ∀ j : Nat, j < k → ¬ findI es (j : Int) < 0
theorem TakT.succ {es : List REnt} {k : Nat} (h : TakT es k) (hn : ¬ findI es (k : Int) < 0) : TakT es (k + 1) := fun j hj => by
  rcases Nat.lt_or_ge j k with h1 | h1
  · exact h j h1
  · obtain rfl : j = k := by omega
    exact hn
theorem RTabV.alloc {B : Nat} {w W : World} {r : Nat} {es : List REnt} {F : Nat → Prop} {v : Value} {xs : List Value} (h : RTabV B w r es F v xs) (hW : Below w.heap.size w W) (blk : Obj) : RTabV B (W.alloc blk) r es F v xs :=
  h.keep (fun g hg => by
    have h1 := (h.rng g hg).2
    have h2 := hW.size
    exact (Below.heap_alloc _ _ g (by omega)).trans (hW.block g h1)) (by have := hW.size; simp; omega)
theorem RTabV.later {B : Nat} {w W : World} {r : Nat} {es : List REnt} {F : Nat → Prop} {v : Value} {xs : List Value} (h : RTabV B w r es F v xs) (hW : Below w.heap.size w W) : RTabV B W r es F v xs :=
  h.keep (fun g hg => hW.block g (h.rng g hg).2) hW.size
theorem RTabV.grown {B : Nat} {W w3 : World} {r : Nat} {es : List REnt} {F : Nat → Prop} {v : Value} {xs : List Value} (h : RTabV B W r es F v xs) (hg : W.grownBy w3 v.ownBlock) : w3.heap[r]? = some (.cells #[v] 79 (0, 0)) :=
  (grown_row hg h.lt (fun k hk e => by
    obtain ⟨cells, hc⟩ := own_typed h.row.own k hk
    exact type_ne h.blk hc (by decide) e)).trans h.blk
theorem vc_of {W : World} {r : Nat} {v : Value} (h : W.heap[r]? = some (.cells #[v] 79 (0, 0))) : W.cell? ⟨r, 0, none⟩ = some v ∧ W.frozen? ⟨r, 0, none⟩ = false ∧ r < W.heap.size :=
  ⟨by rw [cell_of_row W r _ _ _ _ h]; rfl, by simp [World.frozen?, h], (Array.getElem?_eq_some_iff.1 h).1⟩
theorem own130_form {W : World} {base n : Nat} {v : Value} {xs : List Value} (ho : W.ownsRow base 130 3 v n xs) : ∃ A cap, v = .slice A n cap := by
  rcases ho.2 with ⟨rfl, hn⟩ | ⟨g, cap, cur, hv, _⟩
  · exact ⟨none, 0, by rw [hn]⟩
  · exact ⟨_, cap, hv⟩
theorem ent_one (d : Int) (s : ByteArray) (A : Option Addr) (n c : Nat) : ∀ u ∈ ([.int .i64 d, .string s, .slice A n c] : List Value), u.oneCell' = true := by simp [Value.oneCell']
theorem room48 {n : Nat} (h : n + 1 ≤ 8) : (n + 1) * 48 ≤ 140737488355328 := by omega
theorem base_le {B : Nat} {w W : World} (h : B ≤ w.heap.size) (hb : Below w.heap.size w W) (o : Obj) : B ≤ (W.alloc o).heap.size := by
  have := hb.size
  simp
  omega
theorem rright_calls (A0 : Option Addr) (c0 : Nat) (l0 : List ByteArray) (w : World) (hr0 : Kd.C Kd.string w A0 l0.length l0) (hc0 : l0.length ≤ c0) : Calls Tryd.prog 84 #[.slice A0 l0.length c0] w fun e w' => e = .returned (.bool (Q.rightB l0)) ∧ Below w.heap.size w w' :=
  (Q.rillbedref06_Right.calls 30 A0 c0 l0 (Q.rightB l0) w hr0 hc0 (Q.right_ref l0 30 (by omega))).mono fun e w' ⟨he, hd⟩ => ⟨he, by obtain ⟨q, rfl⟩ := hd; exact below_drewN (Below.refl _ _) q⟩
set_option maxRecDepth 100000 in
set_option maxHeartbeats 8000000 in
theorem ropen_calls {B : Nat} {w : World} {r : Nat} {es : List REnt} {F : Nat → Prop} {st : St} (h : RTab B w r es F) (hB : B ≤ w.heap.size) (hrs : RS st es) (s : ByteArray) (A0 : Option Addr) (c0 : Nat) (l0 : List ByteArray) (hr0 : Kd.C Kd.string w A0 l0.length l0) (hc0 : l0.length ≤ c0) (hl0 : l0.length ≤ 1000) :
    Calls Tryd.prog 87 #[.pointer (some ⟨r, 0, none⟩), .string s, .slice A0 l0.length c0] w (ROpenP B r F st s l0 w) := by
  have HT := Lib.hid h
  have HS := Lib.hid hrs
  have HRt := Lib.hid (rright_calls A0 c0 l0 w hr0 hc0)
  by_cases h0 : l0.length = 0
  · have hz : okP l0 = false := by
      have : l0 = [] := List.length_eq_zero_iff.1 h0
      subst this
      rfl
    have HZ := Lib.hid hz
    rw [h0]
    clear h hrs hr0 hc0 hl0 hz h0 HRt
    go_enter Tryd.func87, Tryd.ntmps87
    go_wp2
    go_ret2
    exact ropen_bad HZ.out HS.out HT.out (Below.refl _ _)
  · have hemp : l0.isEmpty = false := by
      cases l0 with
      | nil => exact absurd rfl h0
      | cons _ _ => rfl
    have hp : okP l0 = Q.rightB l0 := by unfold okP; rw [hemp]; rfl
    rw [← hp] at HRt
    have d0 : ((l0.length : Int) == 0) = false := beq_eq_false_iff_ne.2 (by omega)
    by_cases hok : okP l0 = true
    · rw [hok] at HRt
      have HOk := Lib.hid hok
      have HCo := Lib.hid (fun (W : World) (hb : Below w.heap.size w W) => copied_calls A0 c0 l0 W (Kd.C_below hr0 hb) hl0)
      have hlp := (okP_len hok).1
      have HLp := Lib.hid hlp
      obtain ⟨v, xs, hV⟩ := HT.out
      have HV := Lib.hid hV
      have HBs := Lib.hid hB
      obtain ⟨n, hn⟩ : ∃ n, n = l0.length := ⟨_, rfl⟩
      rw [← hn] at d0 HRt HCo ⊢
      have HN := Lib.hid hn
      clear h hrs hr0 hc0 hl0 hok hemp hp h0 hV hB hn hlp
      go_enter Tryd.func87, Tryd.ntmps87
      go_wp2_with (go_at_call 84; refine HRt.out.mono ?_; rintro e w1 ⟨rfl, hb⟩)
      have HW := Lib.hid hb
      clear hb HRt
      go_loop [8] (fun i => ∃ k : Nat, k ≤ 8 ∧ i = .int .i64 k ∧ Hid (TakT es k)) (fun i => 8 - (intOf i).toNat)
      case atStart => exact ⟨0, by omega, rfl, fun j hj => by omega⟩
      case round =>
        obtain ⟨k, hk, rfl, HK⟩ := hrel
        by_cases hlt : k < 8
        · have hfi := find_calls (HT.out.below HW.out) (k : Int)
          by_cases hneg : findI es (k : Int) < 0
          · have HNg := Lib.hid hneg
            rw [(findI_none hneg).1] at hfi
            have HFi := Lib.hid hfi
            have hV1 := HV.out.keep (w' := w1) (fun g hg => HW.out.block g (HV.out.rng g hg).2) HW.out.size
            have hvc := hV1.vcell
            have hvf := hV1.frozen 0
            have hvl := hV1.lt
            have HV1 := Lib.hid hV1
            have HFree : Hid (freeR es k) := ⟨hlt, HNg.out, HK.out⟩
            have HRoom := Lib.hid (HS.out.room HFree.out)
            clear hneg hfi hV1
            go_wp2_with (go_at_call 102; refine HFi.out.mono ?_; rintro e w' ⟨rfl, rfl⟩)
            go_region_law
              (first
                | (refine goes_ Tryd.func103 (by kernel_rfl) rfl #[.slice A0 n c0] (by rfl) rfl rfl (by (try simp only [List.map_toArray, List.map_cons, List.map_nil]); first | done | rfl) ?_; refine (HCo.out _ (below_drew HW.out)).mono ?_; rintro e w2 ⟨v2, rfl, ho, hb⟩; refine ⟨_, rfl, ?_⟩; have HO := Lib.hid ho; have HB := Lib.hid (Below.trans (below_drew HW.out) (hb.mono HW.out.size)); obtain ⟨hvc2, hvf2, hvl2⟩ := vc_of (HV.out.later HB.out).blk; obtain ⟨b2, c2, rfl, -⟩ := strs_row HLp.out ho; clear ho hb)
                | (refine step_append_ents _ (by rfl) _ _ (by rfl) B v es.length xs (by rfl) (HV.out.alloc HB.out _).row.own _ 1 1 _ (by rfl) (newr_one _ _ _ _) (ent_one _ _ _ _ _) (room48 HRoom.out) (base_le HBs.out HB.out _) ?_; intro v3 w3 hown hgrow hat; obtain ⟨hvc3, hvf3, hvl3⟩ := vc_of ((HV.out.alloc HB.out _).grown hgrow); obtain ⟨A3, cap3, rfl⟩ := own130_form hown; have HOw := Lib.hid hown; have HGr := Lib.hid hgrow; have HAt := Lib.hid hat; clear hown hgrow hat))
            go_wp2
            all_goals
              go_ret2
              obtain ⟨F', hT', hF'⟩ := rtab_put HV.out HBs.out HOk.out HRoom.out HB.out (show w.heap.size ≤ w1.drew.heap.size from HW.out.size) HO.out HOw.out HGr.out HAt.out
              exact ropen_put HOk.out HS.out HFree.out hT' hF'
          · have HNg := Lib.hid hneg
            obtain ⟨fi, hfe⟩ : ∃ x, x = findI es (k : Int) := ⟨_, rfl⟩
            rw [← hfe] at hfi
            have d1 : decide (fi < 0) = false := decide_eq_false (by rw [hfe]; exact hneg)
            have HFi := Lib.hid hfi
            have HE : Hid (TakT es (k + 1)) := Lib.hid (HK.out.succ HNg.out)
            clear hneg hfi hfe
            go_wp2_with (go_at_call 102; refine HFi.out.mono ?_; rintro e w' ⟨rfl, rfl⟩)
            go_round
            case rel => exact ⟨k + 1, by omega, by go_num, HE⟩
            case measure => simp [intOf]; omega
        · obtain rfl : k = 8 := by omega
          go_wp2
          go_ret2
          exact ropen_full HOk.out HS.out HK.out HT.out HW.out
    · have hok' : okP l0 = false := by simpa using hok
      rw [hok'] at HRt
      have HOk := Lib.hid hok'
      generalize l0.length = n at *
      clear h hrs hr0 hc0 hok hok' hp
      go_enter Tryd.func87, Tryd.ntmps87
      go_wp2_with (go_at_call 84; refine HRt.out.mono ?_; rintro e w1 ⟨rfl, hb⟩)
      go_ret2
      exact ropen_bad HOk.out HS.out HT.out hb
end Go.Proofs.YthafpbidfgmacaaDoor.Hd

/- The document's list set anew; the walk of its Close. -/
namespace Go.Proofs.YthafpbidfgmacaaDoor.Hd
open Go.RowKit Go.Proofs.YthafpbidfgmacaaDoor Go.Proofs.YthafpbidfgmacaaDoorW.PrintWords Go.Proofs.YthafpbidfgmacaaDoorW.PrintLast Go.Proofs.YthafpbidfgmacaaDoorW.PrintMore
set_option linter.unusedVariables false
set_option linter.unusedSimpArgs false

theorem own_mono {W : World} {B B' e s n : Nat} {v : Value} {xs : List Value} (ho : W.ownsRow B' e s v n xs) (h : B ≤ B') : W.ownsRow B e s v n xs := by
  refine ⟨ho.1, ?_⟩
  rcases ho.2 with h1 | ⟨g, cap, cur, hv, hb, hr⟩
  · exact .inl h1
  · exact .inr ⟨g, cap, cur, hv, by omega, hr⟩
/-- The list set to another row. -/
theorem rtab_set {B : Nat} {w w3 : World} {r : Nat} {es es' : List REnt} {F F' : Nat → Prop} {v v3 : Value} {xs xs' : List Value} (h : RTabV B w r es F v xs) (hB : B ≤ w.heap.size) (hb : Below w.heap.size w w3) (hrow : RRow B w3 v3 es' F' xs') (hF : ∀ g, F' g → F g ∨ (w.heap.size ≤ g ∧ g < w3.heap.size)) (hv : ∀ k, v3.ownBlock = some k → w.heap.size ≤ k) (h8 : es'.length ≤ 8) :
    ∃ F'', RTab B (w3.setCell ⟨r, 0, none⟩ v3) r es' F'' ∧ Fr F F'' w (w3.setCell ⟨r, 0, none⟩ v3) := by
  have hr3 : w3.heap[r]? = some (.cells #[v] 79 (0, 0)) := (hb.block r h.lt).trans h.blk
  have hr3v : ∀ k, v3.ownBlock = some k → r ≠ k := fun k hk e => by have := hv k hk; have := h.lt; omega
  have hset : ∀ g, g ≠ r → (w3.setCell ⟨r, 0, none⟩ v3).heap[g]? = w3.heap[g]? := fun g hne => Below.heap_setCell w3 _ _ g hne
  have hzs : (w3.setCell ⟨r, 0, none⟩ v3).heap.size = w3.heap.size := by simp [World.setCell]
  have hsz := hb.size
  refine ⟨fun g => F g ∨ F' g ∨ v3.ownBlock = some g, ⟨v3, xs', ?_, ⟨own_keep hrow.own (fun k hk => hset k (fun e => hr3v k hk e.symm)), fun i e he => ?_⟩, .inl h.fr, fun k hk => .inr (.inr hk), fun g hg' => ?_, h8⟩, hb.os, hb.tape, hb.output, by omega, fun g hg1 hg2 => ?_, fun g hg' => ?_⟩
  · rw [heap_setCell_row w3 r 0 _ _ v3 hr3]
    rfl
  · obtain ⟨h0, b', o', c', hvv, fb, hc', hr'⟩ := hrow.cell i e he
    exact ⟨h0, b', o', c', hvv, .inr (.inl fb), hc', hr'.keep (hset b' (hr'.ne hr3 (by decide)))⟩
  · rw [hzs]
    rcases hg' with h1 | h1 | h1
    · have := h.rng g h1; omega
    · rcases hF g h1 with h2 | h2
      · have := h.rng g h2; omega
      · omega
    · have := hv g h1; have := own_lt hrow.own g h1; omega
  · rw [hset g (fun e => hg2 (by rw [e]; exact h.fr))]
    exact hb.block g hg1
  · rcases hg' with h1 | h1 | h1
    · exact .inl h1
    · rcases hF g h1 with h2 | h2
      · exact .inl h2
      · exact .inr h2.1
    · exact .inr (hv g h1)
section
variable {B : Nat} {w W : World} {r : Nat} {es : List REnt} {F F' : Nat → Prop} {v : Value} {xs : List Value}
theorem RRow.one (h : RRow B w v es F xs) : ∀ u ∈ xs, u.oneCell' = true := fun u hu => by
  obtain ⟨j, hj⟩ := List.getElem?_of_mem hu
  have hjl := (List.getElem?_eq_some_iff.1 hj).1
  have hxl := h.own.1
  obtain ⟨h0, b, o, c, hcs, -⟩ := h.cell (j / 3) es[j / 3] (List.getElem?_eq_getElem (by omega))
  have hq : ((xs.drop (j / 3 * 3)).take 3)[j % 3]? = some u := by
    rw [List.getElem?_take, if_pos (by omega), List.getElem?_drop]
    rw [show j / 3 * 3 + j % 3 = j by omega]
    exact hj
  rw [hcs] at hq
  rcases (by omega : j % 3 = 0 ∨ j % 3 = 1 ∨ j % 3 = 2) with h1 | h1 | h1 <;> rw [h1] at hq <;> (obtain rfl := Option.some.inj hq; simp [Value.oneCell'])
theorem RRow.cells (h : RRow B w v es F xs) (h0 : 0 < es.length) : ∃ g cap, v = .slice (some ⟨g, 0, none⟩) es.length cap ∧ es.length ≤ cap ∧ cap ≤ maxLen ∧ ∀ j u, xs[j]? = some u → w.cell? ⟨g, j, none⟩ = some u := by
  obtain ⟨hxl, hor⟩ := h.own
  rcases hor with ⟨_, hn⟩ | ⟨g, cap, cur, hv, hb, hh, hle, hm, hsz, hx⟩
  · omega
  · refine ⟨g, cap, hv, hle, hm, fun j u hu => ?_⟩
    rw [cell_of_row w g _ _ _ _ hh]
    have hjl := (List.getElem?_eq_some_iff.1 hu).1
    rw [← hx, List.getElem?_take, if_pos (by omega)] at hu
    simpa using hu
theorem newr_take {g i : Nat} (hxl : xs.length = es.length * 3) (hi : i ≤ es.length) (hc : ∀ j u, xs[j]? = some u → W.cell? ⟨g, j, none⟩ = some u) : NewR W (some ⟨g, 0, none⟩) i (xs.take (i * 3)) :=
  ⟨by rw [List.length_take]; omega, fun _ => ⟨_, rfl, fun j u hu => by
    have hjl := (List.getElem?_eq_some_iff.1 hu).1
    rw [List.length_take] at hjl
    rw [List.getElem?_take, if_pos (by omega)] at hu
    rw [add_plain]
    exact hc j u hu⟩⟩
theorem newr_drop {g i : Nat} (hxl : xs.length = es.length * 3) (hi : i ≤ es.length) (hc : ∀ j u, xs[j]? = some u → W.cell? ⟨g, j, none⟩ = some u) : NewR W (some ⟨g, i * 3, none⟩) (es.length - i) (xs.drop (i * 3)) :=
  ⟨by rw [List.length_drop]; omega, fun _ => ⟨_, rfl, fun j u hu => by
    rw [List.getElem?_drop] at hu
    rw [add_none]
    exact hc _ u hu⟩⟩
/-- The row without entry i. -/
theorem rrow_cut {v3 : Value} {w3 : World} {i : Nat} (h : RRow B W v es F xs) (hi : i < es.length) (ho : w3.ownsRow B 130 3 v3 (i + (es.length - (i + 1))) (xs.take (i * 3) ++ xs.drop ((i + 1) * 3))) (hk : ∀ g, F g → w3.heap[g]? = W.heap[g]?) : RRow B w3 v3 (es.take i ++ es.drop (i + 1)) F (xs.take (i * 3) ++ xs.drop ((i + 1) * 3)) := by
  have hxl : xs.length = es.length * 3 := h.own.1
  have htl : (xs.take (i * 3)).length = i * 3 := by rw [List.length_take]; omega
  refine ⟨?_, fun q x hx => ?_⟩
  · have : (es.take i ++ es.drop (i + 1)).length = i + (es.length - (i + 1)) := by rw [List.length_append, List.length_take, List.length_drop]; omega
    rw [this]
    exact ho
  · have htk : (es.take i).length = i := by rw [List.length_take]; omega
    by_cases hq : q < i
    · rw [List.getElem?_append_left (by omega), List.getElem?_take, if_pos hq] at hx
      rw [cell_left htl hq]
      have := (h.cell q x hx).keep (F' := F) hk (fun _ h => h)
      rw [List.drop_take, List.take_take, Nat.min_eq_left (by omega)]
      exact this
    · rw [List.getElem?_append_right (by omega), htk, List.getElem?_drop] at hx
      rw [cell_right htl (by omega), List.drop_drop]
      have := (h.cell _ x hx).keep (F' := F) hk (fun _ h => h)
      rw [show (i + 1) * 3 + (q - i) * 3 = (i + 1 + (q - i)) * 3 by omega]
      exact this
end
def RCloseP (B r : Nat) (F : Nat → Prop) (st : St) (d : Int) (w : World) (e : Ending) (w' : World) : Prop :=
  RStep B r F (closeS st d).1 (.int .i64 (closeS st d).2) w e w'
end Go.Proofs.YthafpbidfgmacaaDoor.Hd

/- The walk of the document's Close. -/
namespace Go.Proofs.YthafpbidfgmacaaDoor.Hd
open Go.RowKit Go.Proofs.YthafpbidfgmacaaDoor Go.Proofs.YthafpbidfgmacaaDoorW.PrintWords Go.Proofs.YthafpbidfgmacaaDoorW.PrintLast Go.Proofs.YthafpbidfgmacaaDoorW.PrintMore
set_option linter.unusedVariables false
set_option linter.unusedSimpArgs false

theorem rclose_none {B r : Nat} {F : Nat → Prop} {st : St} {w : World} {es : List REnt} {d : Int} (hr : RS st es) (h : RTab B w r es F) (hd : findI es d < 0) : RCloseP B r F st d w (.returned (.int .i64 12)) w := by
  unfold RCloseP closeS
  rw [hr.none_ hd]
  exact ⟨rfl, es, F, hr, h, Fr.refl F w⟩
theorem rclose_some {B r : Nat} {F F' : Nat → Prop} {st : St} {w w' : World} {es : List REnt} {d : Int} {i : Nat} {e : REnt} (hr : RS st es) (he : es[i]? = some e) (hd : (e.d : Int) = d) (h : RTab B w' r (es.take i ++ es.drop (i + 1)) F') (hf : Fr F F' w w') : RCloseP B r F st d w (.returned (.int .i64 0)) w' := by
  unfold RCloseP closeS
  rw [hr.some_ he hd]
  subst hd
  exact ⟨rfl, _, F', by rw [Int.toNat_natCast]; exact hr.closed he, h, hf⟩
theorem ents_room {i n : Nat} (h : i ≤ n) (h8 : n ≤ 8) : (0 + i) * 48 ≤ 140737488355328 := by omega
theorem ents_room2 {i n : Nat} (h : i < n) (h8 : n ≤ 8) : (i + (n - (i + 1))) * 48 ≤ 140737488355328 := by omega
theorem ents_room3 {i n : Nat} (h : i < n) (h8 : n ≤ 8) : (i + 0) * 48 ≤ 140737488355328 := by omega
theorem newr_drop1 {W : World} {es : List REnt} {xs : List Value} {g i n : Nat} (hn : n = es.length) (hxl : xs.length = es.length * 3) (hi : i < n) (hc : ∀ j u, xs[j]? = some u → W.cell? ⟨g, j, none⟩ = some u) : NewR W (some ⟨g, (i + 1) * 3, none⟩) (n - (i + 1)) (xs.drop ((i + 1) * 3)) := by
  subst hn
  exact newr_drop hxl (by omega) hc
theorem newr_drop0 {W : World} {es : List REnt} {xs : List Value} {i n : Nat} (A : Option Addr) (hn : n = es.length) (hxl : xs.length = es.length * 3) (hi : n ≤ i + 1) : NewR W A 0 (xs.drop ((i + 1) * 3)) := by
  subst hn
  exact ⟨by rw [List.length_drop]; omega, fun h => by omega⟩
theorem cells_below {w w1 : World} {g : Nat} {xs : List Value} (hb : Below w.heap.size w w1) (hc : ∀ j u, xs[j]? = some u → w.cell? ⟨g, j, none⟩ = some u) : ∀ j u, xs[j]? = some u → w1.cell? ⟨g, j, none⟩ = some u := fun j u hu => pw_cell_below hb (hc j u hu)
set_option maxRecDepth 100000 in
set_option maxHeartbeats 8000000 in
theorem rclose_calls {B : Nat} {w : World} {r : Nat} {es : List REnt} {F : Nat → Prop} {st : St} (h : RTab B w r es F) (hB : B ≤ w.heap.size) (hrs : RS st es) (d : Int) : Calls Tryd.prog 88 #[.pointer (some ⟨r, 0, none⟩), .int .i64 d] w (RCloseP B r F st d w) := by
  have hf := Lib.hid (find_calls h d)
  have HT := Lib.hid h
  have HS := Lib.hid hrs
  by_cases hneg : findI es d < 0
  · have HN := Lib.hid hneg
    rw [(findI_none hneg).1] at hf
    clear hneg h hrs hB
    go_enter Tryd.func88, Tryd.ntmps88
    go_wp2_with (go_at_call 102; refine hf.out.mono ?_; rintro e w' ⟨rfl, rfl⟩)
    go_ret
    exact rclose_none HS.out HT.out HN.out
  · obtain ⟨i, en, hi, he, hd⟩ := findI_some hneg
    obtain ⟨v, xs, h⟩ := h
    have hil := (List.getElem?_eq_some_iff.1 he).1
    obtain ⟨g, cap, rfl, hle, hmx, hc⟩ := h.row.cells (by omega)
    have hv := h.vcell
    have hvl := h.lt
    have hvf := h.frozen 0
    have h8 := h.small
    have HV := Lib.hid h
    have HE := Lib.hid he
    have HD := Lib.hid hd
    have HC := Lib.hid hc
    have HBs := Lib.hid hB
    rw [hi] at hf
    obtain ⟨n, hn⟩ : ∃ n, n = es.length := ⟨_, rfl⟩
    have HN := Lib.hid hn
    rw [← hn] at hv hil h8 hle
    have HIl := Lib.hid hil
    have H8 := Lib.hid h8
    have hxl : Hid (xs.length = es.length * 3) := Lib.hid h.row.own.1
    have b0 : (0 : Int) ≤ (i : Int) := by omega
    have b1 : (i : Int) ≤ (cap : Int) := by omega
    have b2 : (0 : Int) ≤ (i : Int) + 1 := by omega
    have b3 : (i : Int) + 1 ≤ (n : Int) := by omega
    have b4 : (n : Int) ≤ (cap : Int) := by omega
    have b5 : IntKind.i64.wrap ((i : Int) + 1) = (i : Int) + 1 := IntWalk.i64_in _ (by omega)
    have d1 : decide ((i : Int) < 0) = false := decide_eq_false (by omega)
    clear h hneg hi he hd hn hc hB hmx hil h8
    by_cases h : cap = i + 1
    · subst h
      have HZ : Hid (n ≤ i + 1) := Lib.hid hle
      have HZ0 : Hid (i + 0 = i + (n - (i + 1))) := Lib.hid (by omega)
      go_enter Tryd.func88, Tryd.ntmps88
      go_wp2_with (first
        | (go_at_call 102; refine hf.out.mono ?_; rintro e w' ⟨rfl, rfl⟩)
        | (at_builtin; refine list_append_ents _ rfl (.tmp 12) (.tmp 18) rfl w.heap.size (.slice none 0 0) 0 [] rfl (own_nil _ _ _ _) (some ⟨g, 0, none⟩) i _ (xs.take (i * 3)) rfl (newr_take hxl.out (by have := HIl.out; have := HN.out; omega) HC.out) (fun u hu => HV.out.row.one u (List.mem_of_mem_take hu)) (ents_room (Nat.le_of_lt HIl.out) H8.out) (Nat.le_refl _) ?_; intro v1 w1 hown hgrow hat; have HB1 := Lib.hid (pw_below_grown (Below.refl w.heap.size w) none (Nat.le_refl _) hgrow (fun k hk => by cases hk)); obtain ⟨hv1, hf1, hl1⟩ := vc_of ((HV.out.later HB1.out).blk); rw [← HN.out] at hv1; have HO1 : Hid (w1.ownsRow w.heap.size 130 3 v1 i (xs.take (i * 3))) := Lib.hid (by simpa using hown); clear hown hgrow hat)
        | (at_builtin; refine list_append_ents _ rfl (.tmp 21) (.tmp 28) rfl w.heap.size _ i (xs.take (i * 3)) rfl HO1.out _ 0 _ (xs.drop ((i + 1) * 3)) rfl (newr_drop0 _ HN.out hxl.out (HZ.out)) (fun u hu => HV.out.row.one u (List.mem_of_mem_drop hu)) (ents_room3 HIl.out H8.out) HB1.out.size ?_; intro v2 w2 hown hgrow hat; have HB2 := Lib.hid (pw_below_grown HB1.out _ HB1.out.size hgrow (own_base HO1.out)); obtain ⟨hv2, hf2, hl2⟩ := vc_of ((HV.out.later HB2.out).blk); rw [HZ0.out] at hown; have HO2 := Lib.hid hown; obtain ⟨A2, cap2, rfl⟩ := own130_form hown; clear hown hgrow hat))
      go_ret
      obtain ⟨F', hT', hF'⟩ := rtab_set HV.out HBs.out HB2.out (rrow_cut HV.out.row (HN.out ▸ HIl.out) (own_mono (HN.out ▸ HO2.out) HBs.out) (fun g fg => HB2.out.block g (HV.out.rng g fg).2)) (fun g fg => .inl fg) (own_base HO2.out) (by rw [List.length_append, List.length_take, List.length_drop]; have := HIl.out; have := H8.out; have := HN.out; omega)
      rw [show i + (n - (i + 1)) = i from HZ0.out.symm] at hT' hF'
      exact rclose_some HS.out HE.out HD.out hT' hF'
    · skip
      go_enter Tryd.func88, Tryd.ntmps88
      go_wp2_with (first
        | (go_at_call 102; refine hf.out.mono ?_; rintro e w' ⟨rfl, rfl⟩)
        | (at_builtin; refine list_append_ents _ rfl (.tmp 12) (.tmp 18) rfl w.heap.size (.slice none 0 0) 0 [] rfl (own_nil _ _ _ _) (some ⟨g, 0, none⟩) i _ (xs.take (i * 3)) rfl (newr_take hxl.out (by have := HIl.out; have := HN.out; omega) HC.out) (fun u hu => HV.out.row.one u (List.mem_of_mem_take hu)) (ents_room (Nat.le_of_lt HIl.out) H8.out) (Nat.le_refl _) ?_; intro v1 w1 hown hgrow hat; have HB1 := Lib.hid (pw_below_grown (Below.refl w.heap.size w) none (Nat.le_refl _) hgrow (fun k hk => by cases hk)); obtain ⟨hv1, hf1, hl1⟩ := vc_of ((HV.out.later HB1.out).blk); rw [← HN.out] at hv1; have HO1 : Hid (w1.ownsRow w.heap.size 130 3 v1 i (xs.take (i * 3))) := Lib.hid (by simpa using hown); clear hown hgrow hat)
        | (at_builtin; refine list_append_ents _ rfl (.tmp 21) (.tmp 28) rfl w.heap.size _ i (xs.take (i * 3)) rfl HO1.out (some ⟨g, (i + 1) * 3, none⟩) (n - (i + 1)) (cap - (i + 1)) (xs.drop ((i + 1) * 3)) rfl (newr_drop1 HN.out hxl.out HIl.out (cells_below HB1.out HC.out)) (fun u hu => HV.out.row.one u (List.mem_of_mem_drop hu)) (ents_room2 HIl.out H8.out) HB1.out.size ?_; intro v2 w2 hown hgrow hat; have HB2 := Lib.hid (pw_below_grown HB1.out _ HB1.out.size hgrow (own_base HO1.out)); obtain ⟨hv2, hf2, hl2⟩ := vc_of ((HV.out.later HB2.out).blk); have HO2 := Lib.hid hown; obtain ⟨A2, cap2, rfl⟩ := own130_form hown; clear hown hgrow hat))
      go_ret
      obtain ⟨F', hT', hF'⟩ := rtab_set HV.out HBs.out HB2.out (rrow_cut HV.out.row (HN.out ▸ HIl.out) (own_mono (HN.out ▸ HO2.out) HBs.out) (fun g fg => HB2.out.block g (HV.out.rng g fg).2)) (fun g fg => .inl fg) (own_base HO2.out) (by rw [List.length_append, List.length_take, List.length_drop]; have := HIl.out; have := H8.out; have := HN.out; omega)
      exact rclose_some HS.out HE.out HD.out hT' hF'
end Go.Proofs.YthafpbidfgmacaaDoor.Hd

/- The document's Moved: the lists that are not right; the row that is built. -/
namespace Go.Proofs.YthafpbidfgmacaaDoor.Hd
open Go.RowKit Go.Proofs.YthafpbidfgmacaaDoor Go.Proofs.YthafpbidfgmacaaDoorW.PrintWords Go.Proofs.YthafpbidfgmacaaDoorW.PrintLast Go.Proofs.YthafpbidfgmacaaDoorW.PrintMore
set_option linter.unusedVariables false
set_option linter.unusedSimpArgs false

def RMovedP (B r : Nat) (F : Nat → Prop) (st : St) (a b : List ByteArray) (w : World) (e : Ending) (w' : World) : Prop := RStep B r F (movedS st a b) (.tuple #[]) w e w'
theorem rmovedP_not {B r : Nat} {F : Nat → Prop} {st : St} {a b : List ByteArray} {w w' : World} {es : List REnt} (hn : ¬ (okP a = true ∧ okP b = true)) (hr : RS st es) (h : RTab B w r es F) (hb : Below w.heap.size w w') : RMovedP B r F st a b w (.returned (.tuple #[])) w' := by
  unfold RMovedP movedS
  rw [if_neg hn]
  exact ⟨rfl, es, F, hr, h.below hb, Fr.of_below hb⟩
theorem okP_nil : okP [] = false := rfl
theorem okP_right {l : List ByteArray} (h : 0 < l.length) : Q.rightB l = okP l := by
  have hemp : l.isEmpty = false := by
    cases l with
    | nil => exact absurd h (by simp)
    | cons _ _ => rfl
  unfold okP
  rw [hemp]
  rfl
set_option maxHeartbeats 8000000 in
theorem rmoved_not {B : Nat} {w : World} {r : Nat} {es : List REnt} {F : Nat → Prop} {st : St} (h : RTab B w r es F) (hrs : RS st es) (A1 : Option Addr) (c1 : Nat) (l1 : List ByteArray) (A2 : Option Addr) (c2 : Nat) (l2 : List ByteArray) (hr1 : Kd.C Kd.string w A1 l1.length l1) (hc1 : l1.length ≤ c1) (hr2 : Kd.C Kd.string w A2 l2.length l2) (hc2 : l2.length ≤ c2)
    (hn : ¬ (okP l1 = true ∧ okP l2 = true)) : Calls Tryd.prog 89 #[.pointer (some ⟨r, 0, none⟩), .slice A1 l1.length c1, .slice A2 l2.length c2] w (RMovedP B r F st l1 l2 w) := by
  have hT := Lib.hid h
  have HS := Lib.hid hrs
  have HN := Lib.hid hn
  by_cases z1 : l1.length = 0
  · rw [z1]
    clear h hrs hr1 hc1 hr2 hc2 hn z1
    generalize l2.length = n2 at *
    go_enter Tryd.func89, Tryd.ntmps89
    go_wp2
    refine bodyPost_ret (results_none rfl _ _ _) rfl ?_
    exact rmovedP_not HN.out HS.out hT.out (Below.refl _ _)
  · by_cases z2 : l2.length = 0
    · have d1 : ((l1.length : Int) == 0) = false := beq_eq_false_iff_ne.2 (by omega)
      rw [z2]
      clear h hrs hr1 hc1 hr2 hc2 hn z2
      generalize l1.length = n1 at *
      go_enter Tryd.func89, Tryd.ntmps89
      go_wp2
      refine bodyPost_ret (results_none rfl _ _ _) rfl ?_
      exact rmovedP_not HN.out HS.out hT.out (Below.refl _ _)
    · have d1 : ((l1.length : Int) == 0) = false := beq_eq_false_iff_ne.2 (by omega)
      have d2 : ((l2.length : Int) == 0) = false := beq_eq_false_iff_ne.2 (by omega)
      have hq1 := Lib.hid (rright_calls A1 c1 l1 w hr1 hc1)
      have hq2 := Lib.hid (fun (W : World) (hb : Below w.heap.size w W) => rright_calls A2 c2 l2 W (Kd.C_below hr2 hb) hc2)
      rw [okP_right (by omega)] at hq1 hq2
      by_cases h1 : okP l1 = true
      · have h2 : okP l2 = false := by simpa [h1] using hn
        rw [h1] at hq1
        rw [h2] at hq2
        generalize l1.length = n1 at *
        generalize l2.length = n2 at *
        clear h hrs hr1 hr2 h1 h2 hn z1 z2
        go_enter Tryd.func89, Tryd.ntmps89
        go_wp2_with (first | (go_at_call_of 84 (Value.slice A1 n1 c1); refine hq1.out.mono ?_; rintro e w1 ⟨rfl, hb⟩) | (go_at_call_of 84 (Value.slice A2 n2 c2); refine (hq2.out _ hb).mono ?_; rintro e w2 ⟨rfl, hb2⟩))
        refine bodyPost_ret (results_none rfl _ _ _) rfl ?_
        exact rmovedP_not HN.out HS.out hT.out (Below.trans hb (hb2.mono hb.size))
      · have h1' : okP l1 = false := by simpa using h1
        rw [h1'] at hq1
        generalize l1.length = n1 at *
        generalize l2.length = n2 at *
        clear h hrs hr1 hr2 h1 h1' hn z1 z2
        go_enter Tryd.func89, Tryd.ntmps89
        go_wp2_with (first | (go_at_call_of 84 (Value.slice A1 n1 c1); refine hq1.out.mono ?_; rintro e w1 ⟨rfl, hb⟩))
        refine bodyPost_ret (results_none rfl _ _ _) rfl ?_
        exact rmovedP_not HN.out HS.out hT.out hb
theorem rwithin_calls (A0 : Option Addr) (c0 : Nat) (l : List ByteArray) (A1 : Option Addr) (c1 : Nat) (a : List ByteArray) (w : World) (hr0 : Kd.C Kd.string w A0 l.length l) (hc0 : l.length ≤ c0) (hr1 : Kd.C Kd.string w A1 a.length a) (hc1 : a.length ≤ c1) (hl : l.length ≤ 1000) (ha : a.length ≤ 1000) :
    Calls Tryd.prog 85 #[.slice A0 l.length c0, .slice A1 a.length c1] w fun e w' => e = .returned (.bool (decide (a.length ≤ l.length ∧ l.take a.length = a))) ∧ Below w.heap.size w w' :=
  (Q.rillbedref06_Within.calls 2000 A0 c0 l A1 c1 a _ w hr0 hc0 hr1 hc1 (Q.within_ref l a hl 2000 (by omega))).mono fun e w' ⟨he, hd⟩ => ⟨he, by obtain ⟨q, rfl⟩ := hd; exact below_drewN (Below.refl _ _) q⟩
end Go.Proofs.YthafpbidfgmacaaDoor.Hd

/- The walk of the document's Moved. -/
namespace Go.Proofs.YthafpbidfgmacaaDoor.Hd
open Go.RowKit Go.Proofs.YthafpbidfgmacaaDoor Go.Proofs.YthafpbidfgmacaaDoorW.PrintWords Go.Proofs.YthafpbidfgmacaaDoorW.PrintLast Go.Proofs.YthafpbidfgmacaaDoorW.PrintMore
set_option linter.unusedVariables false
set_option linter.unusedSimpArgs false

theorem RRow.later {B : Nat} {W W' : World} {v : Value} {es : List REnt} {F : Nat → Prop} {xs : List Value} (h : RRow B W v es F xs) (hF : ∀ g, F g → g < W.heap.size) (hb : Below W.heap.size W W') : RRow B W' v es F xs :=
  ⟨own_keep h.own (fun k hk => hb.block k (own_lt h.own k hk)), fun i e he => (h.cell i e he).keep (fun g fg => hb.block g (hF g fg)) (fun _ h => h)⟩
def MvO (w : World) (es : List REnt) (F : Nat → Prop) (a b : List ByteArray) (k : Nat) (v : Value) (W : World) : Prop :=
  ∃ F' xs', RRow w.heap.size W v ((es.take k).filterMap (rMv a b)) F' xs' ∧ (∀ g, F' g → F g ∨ (w.heap.size ≤ g ∧ g < W.heap.size)) ∧ Below w.heap.size w W
section
variable {w W W' W2 w3 : World} {es : List REnt} {F F' G : Nat → Prop} {a b : List ByteArray} {k : Nat} {v v3 : Value} {e e' : REnt} {xs' cs : List Value}
theorem MvO.start (hb : Below w.heap.size w W) : MvO w es F a b 0 (.slice none 0 0) W :=
  ⟨fun _ => False, [], ⟨own_nil _ _ _ _, fun i e he => by simp at he⟩, fun g h => h.elim, hb⟩
theorem take_mv (he : es[k]? = some e) : (es.take (k + 1)).filterMap (rMv a b) = (es.take k).filterMap (rMv a b) ++ (match rMv a b e with | some x => [x] | none => []) := by
  rw [List.take_add_one, he, List.filterMap_append]
  congr 1
  simp only [Option.toList_some]
  cases h : rMv a b e with
  | none => rw [List.filterMap_cons_none h]; rfl
  | some x => rw [List.filterMap_cons_some h]; rfl
theorem MvO.gone (h : MvO w es F a b k v W) (hFw : ∀ g, F g → g < w.heap.size) (hb : Below W.heap.size W W') (he : es[k]? = some e) (hm : rMv a b e = none) : MvO w es F a b (k + 1) v W' := by
  obtain ⟨F', xs', hrow, hF, hw⟩ := h
  have hsz := hb.size
  have hsw := hw.size
  refine ⟨F', xs', ?_, fun g hg => ?_, Below.trans hw (hb.mono hw.size)⟩
  · rw [take_mv he, hm]
    simp only [List.append_nil]
    exact hrow.later (fun g hg => by
      rcases hF g hg with h1 | h1
      · have := hFw g h1; omega
      · exact h1.2) hb
  · rcases hF g hg with h1 | h1
    · exact .inl h1
    · exact .inr ⟨h1.1, by omega⟩
theorem MvO.put (hrow : RRow w.heap.size W v ((es.take k).filterMap (rMv a b)) F' xs') (hF : ∀ g, F' g → F g ∨ (w.heap.size ≤ g ∧ g < W.heap.size)) (hw : Below w.heap.size w W) (hFw : ∀ g, F g → g < w.heap.size) (he : es[k]? = some e) (hm : rMv a b e = some e') (hb : Below W.heap.size W W2) (h3 : cs.length = 3)
    (hG : ∀ g, G g → F g ∨ (w.heap.size ≤ g ∧ g < W2.heap.size)) (hc : RCell W2 G e' cs) (ho : w3.ownsRow w.heap.size 130 3 v3 (((es.take k).filterMap (rMv a b)).length + 1) (xs' ++ cs)) (hg : (W2.alloc (.cells cs.toArray 130)).grownBy w3 v.ownBlock) : MvO w es F a b (k + 1) v3 w3 := by
  have hsz := hb.size
  have hsw := hw.size
  have hFW : ∀ g, F' g → g < W.heap.size := fun g hg => by
    rcases hF g hg with h1 | h1
    · have := hFw g h1; omega
    · exact h1.2
  obtain ⟨W2', hW2⟩ : ∃ x, x = W2.alloc (.cells cs.toArray 130) := ⟨_, rfl⟩
  have hz2 : W2'.heap.size = W2.heap.size + 1 := by rw [hW2]; simp
  rw [← hW2] at hg
  have hz3 := hg.size
  have hb2 : Below W.heap.size W W2' := by rw [hW2]; exact below_alloc hb _
  have hrow2 := hrow.later hFW hb2
  have hkW : ∀ g, g < W2.heap.size → W2'.heap[g]? = W2.heap[g]? := fun g hg' => by rw [hW2]; exact Below.heap_alloc _ _ g hg'
  refine ⟨fun g => F' g ∨ G g, xs' ++ cs, ?_, fun g hg' => ?_, pw_below_grown (w1 := W2') (Below.trans hw (hb2.mono hw.size)) v.ownBlock (by omega) hg (own_base hrow.own)⟩
  · rw [take_mv he, hm]
    refine rrow_put (w := w) hrow2 h3 ho (fun g fg hn => grown_row hg (by have := hFW g fg; omega) hn) (fun g hg' => .inl hg') (fun b o l hr k hk => row9_own hrow2.own b o l hr k hk) ?_
    obtain ⟨h0, b', o', c', hv, fb, hc', hr'⟩ := hc
    have hb'l : b' < W2.heap.size := by
      rcases hG b' fb with h1 | h1
      · have := hFw b' h1; omega
      · exact h1.2
    have hr2 : Row9 W2' b' o' e'.l := hr'.keep (hkW b' hb'l)
    exact ⟨h0, b', o', c', hv, .inr fb, hc', hr2.keep (grown_row hg (by omega) (fun k hk => row9_own hrow2.own b' o' _ hr2 k hk))⟩
  · rcases hg' with h1 | h1
    · rcases hF g h1 with h2 | h2
      · exact .inl h2
      · exact .inr ⟨h2.1, by omega⟩
    · rcases hG g h1 with h2 | h2
      · exact .inl h2
      · exact .inr ⟨h2.1, by omega⟩
end
theorem MvO.all {B r : Nat} {st : St} {w W : World} {es : List REnt} {F : Nat → Prop} {a b : List ByteArray} {v v0 : Value} {xs : List Value} (hV : RTabV B w r es F v0 xs) (hB : B ≤ w.heap.size) (hr : RS st es) (ha : okP a = true) (hb : okP b = true) (h : MvO w es F a b es.length v W) : RMovedP B r F st a b w (.returned (.tuple #[])) (W.setCell ⟨r, 0, none⟩ v) := by
  obtain ⟨F', xs', hrow, hF, hw⟩ := h
  rw [List.take_length] at hrow
  obtain ⟨F'', hT, hfr⟩ := rtab_set hV hB hw ⟨own_mono hrow.own hB, hrow.cell⟩ hF (own_base hrow.own) (Nat.le_trans (List.length_filterMap_le _ _) hV.small)
  exact ⟨rfl, _, F'', hr.moved ha hb, hT, hfr⟩
/-- What becomes of an entry. -/
theorem rMv_same {a b : List ByteArray} {e : REnt} (h : ¬ (e.s.toList = [] ∧ a.length ≤ e.l.length ∧ e.l.take a.length = a)) : rMv a b e = some e := by
  unfold rMv
  have : movedE a b (some (e.s, e.l)) = some (e.s, e.l) := if_neg h
  rw [this]
  rfl
theorem rMv_yes {a b : List ByteArray} {e : REnt} (h0 : e.s.toList = []) (h1 : a.length ≤ e.l.length) (h2 : e.l.take a.length = a) (h3 : okP (b ++ e.l.drop a.length) = true) : rMv a b e = some ⟨e.d, e.s, b ++ e.l.drop a.length⟩ := by
  unfold rMv
  rw [movedE_yes h0 h1 h2 h3]
  rfl
theorem rMv_gone {a b : List ByteArray} {e : REnt} (h0 : e.s.toList = []) (h1 : a.length ≤ e.l.length) (h2 : e.l.take a.length = a) (h3 : okP (b ++ e.l.drop a.length) = false) : rMv a b e = none := by
  unfold rMv
  rw [movedE_gone h0 h1 h2 h3]
  rfl
end Go.Proofs.YthafpbidfgmacaaDoor.Hd

/- The walk of the document's Moved. -/
namespace Go.Proofs.YthafpbidfgmacaaDoor.Hd
open Go.RowKit Go.Proofs.YthafpbidfgmacaaDoor Go.Proofs.YthafpbidfgmacaaDoorW.PrintWords Go.Proofs.YthafpbidfgmacaaDoorW.PrintLast Go.Proofs.YthafpbidfgmacaaDoorW.PrintMore
set_option linter.unusedVariables false
set_option linter.unusedSimpArgs false

theorem box3 {wr W : World} {x0 x1 x2 : Value} (hb : Below (wr.alloc (.cells #[x0, x1, x2] 130)).heap.size (wr.alloc (.cells #[x0, x1, x2] 130)) W) : W.heap[wr.heap.size]? = some (.cells #[x0, x1, x2] 130 (0, 0)) := (hb.block _ (by simp)).trans (heap_alloc_new wr _)
theorem box3_cells {W : World} {g : Nat} {x0 x1 x2 : Value} (h : W.heap[g]? = some (.cells #[x0, x1, x2] 130 (0, 0))) : W.cell? ⟨g, 0, none⟩ = some x0 ∧ W.cell? ⟨g, 1, none⟩ = some x1 ∧ W.cell? ⟨g, 2, none⟩ = some x2 ∧ W.frozen? ⟨g, 2, none⟩ = false ∧ g < W.heap.size :=
  ⟨by rw [cell_of_row W g 0 _ _ _ h]; rfl, by rw [cell_of_row W g 1 _ _ _ h]; rfl, by rw [cell_of_row W g 2 _ _ _ h]; rfl, by simp [World.frozen?, h], (Array.getElem?_eq_some_iff.1 h).1⟩
theorem RCell.of {W : World} {F : Nat → Prop} {e : REnt} {dv : Int} {b o n c : Nat} (hok : okP e.l = true) (hd : dv = (e.d : Int)) (hn : n = e.l.length) (hc : n ≤ c) (fb : F b) (hr : Row9 W b o e.l) : RCell W F e [.int .i64 dv, .string e.s, .slice (some ⟨b, o, none⟩) n c] := by
  subst hd
  subst hn
  exact ⟨hok, b, o, c, rfl, fb, hc, hr⟩
theorem below_box {wr W : World} {o : Obj} (hb : Below (wr.alloc o).heap.size (wr.alloc o) W) : Below wr.heap.size wr W := Below.trans (below_alloc (Below.refl _ _) _) (hb.mono (by simp))
theorem mv_room {es : List REnt} {a b : List ByteArray} {k : Nat} (h : k < 8) : ((es.take k).filterMap (rMv a b)).length + 1 ≤ 8 := by
  have h1 := List.length_filterMap_le (rMv a b) (es.take k)
  rw [List.length_take] at h1
  omega
theorem box3_set {W : World} {g : Nat} {x0 x1 x2 v : Value} (h : W.heap[g]? = some (.cells #[x0, x1, x2] 130 (0, 0))) : (W.setCell ⟨g, 2, none⟩ v).heap[g]? = some (.cells #[x0, x1, v] 130 (0, 0)) := by
  rw [heap_setCell_row W g 2 _ _ v h]
  rfl
theorem row9_set {W : World} {g b o : Nat} {x0 x1 x2 v : Value} {l : List ByteArray} (h : W.heap[g]? = some (.cells #[x0, x1, x2] 130 (0, 0))) (hr : Row9 W b o l) : Row9 (W.setCell ⟨g, 2, none⟩ v) b o l := hr.keep (Below.heap_setCell W _ _ b (hr.ne h (by decide)))
theorem rright_set {W : World} {g b c : Nat} {x0 x1 x2 v : Value} {L : List ByteArray} (h : W.heap[g]? = some (.cells #[x0, x1, x2] 130 (0, 0))) (hr : Row9 W b 0 L) (h0 : 0 < L.length) (hc : L.length ≤ c) (hl : L.length ≤ 1000) : Calls Tryd.prog 84 #[.slice (some ⟨b, 0, none⟩) L.length c] (W.setCell ⟨g, 2, none⟩ v) fun e w' => e = .returned (.bool (okP L)) ∧ Below (W.setCell ⟨g, 2, none⟩ v).heap.size (W.setCell ⟨g, 2, none⟩ v) w' := by
  rw [← okP_right h0]
  exact rright_calls _ c L _ ((row9_set h hr).1.reads (by omega)) hc
theorem mv_fresh {w wr w3 w4 w5 w8 : World} {o : Obj} {v : Value} {b6 g : Nat} (hW : Below w.heap.size w wr) (h3 : Below (wr.alloc o).heap.size (wr.alloc o) w3) (h4 : w3.heap.size ≤ w4.heap.size) (h6 : w3.heap.size ≤ b6 ∧ b6 < w5.heap.size) (h7 : Below (w5.setCell ⟨wr.heap.size, 2, none⟩ v).heap.size (w5.setCell ⟨wr.heap.size, 2, none⟩ v) w8) {P : Prop} (hg : g = b6) : P ∨ (w.heap.size ≤ g ∧ g < w8.heap.size) := by
  subst hg
  have h1 := hW.size
  have h2 := h3.size
  have h5 := h7.size
  simp [World.setCell] at h2 h5
  exact .inr ⟨by omega, by omega⟩
set_option maxRecDepth 100000 in
set_option maxHeartbeats 8000000 in
theorem rmoved_yes {B : Nat} {w : World} {r : Nat} {es : List REnt} {F : Nat → Prop} {st : St} (h : RTab B w r es F) (hB : B ≤ w.heap.size) (hrs : RS st es) (A1 : Option Addr) (c1 : Nat) (l1 : List ByteArray) (A2 : Option Addr) (c2 : Nat) (l2 : List ByteArray) (hr1 : Kd.C Kd.string w A1 l1.length l1) (hc1 : l1.length ≤ c1) (hr2 : Kd.C Kd.string w A2 l2.length l2) (hc2 : l2.length ≤ c2)
    (ho1 : okP l1 = true) (ho2 : okP l2 = true) : Calls Tryd.prog 89 #[.pointer (some ⟨r, 0, none⟩), .slice A1 l1.length c1, .slice A2 l2.length c2] w (RMovedP B r F st l1 l2 w) := by
  obtain ⟨p1, p2, p3⟩ := okP_len ho1
  obtain ⟨q1, q2, q3⟩ := okP_len ho2
  have d1 : ((l1.length : Int) == 0) = false := beq_eq_false_iff_ne.2 (by omega)
  have d2 : ((l2.length : Int) == 0) = false := beq_eq_false_iff_ne.2 (by omega)
  have hq1 := Lib.hid (rright_calls A1 c1 l1 w hr1 hc1)
  have hq2 := Lib.hid (fun (W : World) (hb : Below w.heap.size w W) => rright_calls A2 c2 l2 W (Kd.C_below hr2 hb) hc2)
  rw [okP_right (by omega), ho1] at hq1
  rw [okP_right (by omega), ho2] at hq2
  have HCo := Lib.hid (fun (W : World) (hb : Below w.heap.size w W) => copied_calls A2 c2 l2 W (Kd.C_below hr2 hb) (by omega))
  have HWi := Lib.hid (fun (b o c : Nat) (l : List ByteArray) (W : World) (hb : Below w.heap.size w W) (hr : Kd.C Kd.string W (some ⟨b, o, none⟩) l.length l) (hc : l.length ≤ c) (hl : l.length ≤ 1000) => rwithin_calls (some ⟨b, o, none⟩) c l A1 c1 l1 W hr hc (Kd.C_below hr1 hb) hc1 hl (by omega))
  have HS := Lib.hid hrs
  have HO1 := Lib.hid ho1
  have HO2 := Lib.hid ho2
  obtain ⟨v, xs, h⟩ := h
  have HV := Lib.hid h
  have HBs := Lib.hid hB
  obtain ⟨A, cap, rfl, hcap⟩ := h.slice
  obtain ⟨n, hn⟩ : ∃ n, n = es.length := ⟨_, rfl⟩
  have HN := Lib.hid hn
  have h8 : n ≤ 8 := by rw [hn]; exact h.small
  rw [← hn] at hcap
  obtain ⟨n1, hn1⟩ : ∃ n, n = l1.length := ⟨_, rfl⟩
  obtain ⟨n2, hn2⟩ : ∃ n, n = l2.length := ⟨_, rfl⟩
  rw [← hn1] at hq1 p1 p2 hc1 d1 HWi ⊢
  rw [← hn2] at hq2 q1 q2 hc2 d2 HCo ⊢
  have HN1 := Lib.hid hn1
  have HN2 := Lib.hid hn2
  clear h hr1 hr2 ho1 ho2 p3 q3 hn1 hn2 hn hB hrs
  go_enter Tryd.func89, Tryd.ntmps89
  go_wp2_with (first | (go_at_call_of 84 (Value.slice A1 n1 c1); refine hq1.out.mono ?_; rintro e w1 ⟨rfl, hb⟩) | (go_at_call_of 84 (Value.slice A2 n2 c2); refine (hq2.out _ hb).mono ?_; rintro e w2 ⟨rfl, hb2⟩; have HW : Hid (Below w.heap.size w w2) := Below.trans hb (hb2.mono hb.size); clear hb hb2))
  clear hq1 hq2
  go_loopw [6, 7] (fun vo i wr => ∃ k : Nat, k ≤ n ∧ i = .int .i64 k ∧ Hid (MvO w es F l1 l2 k vo wr)) (fun _ i _ => n - (intOf i).toNat)
  case atStart => exact ⟨0, by omega, rfl, MvO.start HW.out⟩
  case round =>
    obtain ⟨k, hk, rfl, HM⟩ := hrel
    have hvc : wr.cell? ⟨r, 0, none⟩ = some (.slice A n cap) := by
      obtain ⟨F', xs', -, -, hw⟩ := HM.out
      have := (HV.out.later hw).vcell
      rw [← HN.out] at this
      exact this
    by_cases hlt : k < n
    · obtain ⟨en, he⟩ : ∃ e, es[k]? = some e := ⟨_, List.getElem?_eq_getElem (by rw [← HN.out]; exact hlt)⟩
      have hfrz : wr.frozen? ⟨r, 0, none⟩ = false := by
        obtain ⟨F', xs', -, -, hw⟩ := HM.out
        exact (HV.out.later hw).frozen 0
      obtain ⟨g, cap', b, o, c, hvv, hle, hmx, hgl, g0, g1, g2, hok, hlc, hr9, fb⟩ := (HV.out.later (by obtain ⟨F', xs', -, -, hw⟩ := HM.out; exact hw)).at_ he
      have hA : A = some ⟨g, 0, none⟩ ∧ cap = cap' := by injection hvv with h1 h2 h3; exact ⟨h1, h3⟩
      obtain ⟨rfl, rfl⟩ := hA
      have dlt : decide (k < n) = true := decide_eq_true hlt
      have b0 : (0 : Int) ≤ (k : Int) := by omega
      have b1 : (k : Int) < (n : Int) := by omega
      have HE := Lib.hid he
      have HOk := Lib.hid hok
      have HR9 := Lib.hid hr9
      have HFb := Lib.hid fb
      clear he hvv hle hmx hok hr9 fb
      obtain ⟨dv, hdv⟩ : ∃ x : Int, x = (en.d : Int) := ⟨_, rfl⟩
      rw [← hdv] at g0
      have HD := Lib.hid hdv
      clear hdv
      obtain ⟨F', xs', hrow, hF', hw0⟩ := HM.out
      have HW0 := Lib.hid hw0
      have HFw : Hid (∀ g, F g → g < w.heap.size) := fun g hg => (HV.out.rng g hg).2
      have HFW : Hid (∀ g, F' g → g < wr.heap.size) := fun g hg => by
        have hsw := HW0.out.size
        rcases hF' g hg with h1 | h1
        · have := HFw.out g h1; omega
        · exact h1.2
      have HRow := Lib.hid hrow
      have HF' := Lib.hid hF'
      have HRm : Hid (((es.take k).filterMap (rMv l1 l2)).length + 1 ≤ 8) := Lib.hid (mv_room (by omega))
      have hl6 : en.l.length ≤ 6 := (okP_len HOk.out).2.1
      have HRt := Lib.hid (fun (W : World) (hb : Below wr.heap.size wr W) => rright_calls (some ⟨b, o, none⟩) c en.l W (Kd.C_below (HR9.out.1.reads (by omega)) hb) hlc)
      rw [okP_right (okP_len HOk.out).1, HOk.out] at HRt
      have HWn := Lib.hid (fun (W : World) (hb : Below wr.heap.size wr W) => HWi.out b o c en.l W (Below.trans HW0.out (hb.mono HW0.out.size)) (Kd.C_below (HR9.out.1.reads (by omega)) hb) hlc (by omega))
      clear hrow hF' hw0 hcap
      obtain ⟨nl, hnl⟩ : ∃ x, x = en.l.length := ⟨_, rfl⟩
      rw [← hnl] at g2 hlc hl6 HRt HWn
      have HNl := Lib.hid hnl
      clear hnl HWi
      by_cases hs : en.s.toList = []
      · have s1 : en.s.toList.isEmpty = true := by rw [hs]; rfl
        have HSn := Lib.hid hs
        by_cases hwi : n1 ≤ nl ∧ en.l.take n1 = l1
        · rw [decide_eq_true hwi] at HWn
          obtain ⟨hle, htk⟩ := hwi
          have HTk := Lib.hid htk
          obtain ⟨A3, hsl, hrd⟩ := slice_from b o nl c n1 en.l HNl.out hle hlc (by rw [← HNl.out]; omega)
          have HRd := Lib.hid hrd
          have HKb : Hid (∀ W, Below wr.heap.size wr W → W.heap[b]? = wr.heap[b]?) := fun W hb => hb.block b (Nat.lt_of_lt_of_le (HFw.out b HFb.out) HW0.out.size)
          obtain ⟨L, hL⟩ : ∃ x, x = l2 ++ en.l.drop n1 := ⟨_, rfl⟩
          have HL := Lib.hid hL
          have HL0 : Hid (0 < L.length) := Lib.hid (by rw [HL.out, List.length_append, ← HN2.out]; omega)
          have HL1 : Hid (L.length ≤ 1000) := Lib.hid (by rw [HL.out, List.length_append, List.length_drop, ← HN2.out, ← HNl.out]; omega)
          have HRoom : Hid ((l2.length + (nl - n1)) * 16 ≤ 140737488355328) := Lib.hid (by rw [← HN2.out]; omega)
          have HLe := Lib.hid hle
          clear hrd hL htk
          by_cases hokL : okP L = true
          · have HOkL := Lib.hid hokL
            clear hokL
            go_wp2_with (first
            | (go_at_call 85; refine (HWn.out _ (below_alloc (Below.refl _ _) _)).mono ?_; rintro e w3 ⟨rfl, hb3⟩; obtain ⟨x0, x1, x2, x3, x4⟩ := box3_cells (box3 hb3); have HB3 := Lib.hid hb3; clear hb3)
            | (go_at_call 103; refine (HCo.out _ (Below.trans HW0.out ((below_box HB3.out).mono HW0.out.size))).mono ?_; rintro e w4 ⟨v2, rfl, ho, hb⟩; have HB4 := Lib.hid (Below.trans HB3.out (hb.mono HB3.out.size)); obtain ⟨y0, y1, y2, y3, y4⟩ := box3_cells (box3 HB4.out); have HO4 := Lib.hid ho; obtain ⟨b5, c5, rfl, -⟩ := strs_row (okP_len HO2.out).1 ho; have HS4 := Lib.hid hb.size; clear ho hb)
            | (at_builtin; refine list_append_strs _ rfl (.tmp 55) (.tmp 60) rfl _ _ l2 rfl HO4.out A3 (nl - n1) (c - n1) (en.l.drop n1) rfl (HRd.out _ (HR9.out.keep (HKb.out _ (below_box HB4.out))).1) HRoom.out HS4.out ?_; intro v5 w5 hown hgrow hat; have HB5 := Lib.hid (pw_below_grown HB4.out _ HB4.out.size hgrow (fun k hk => Nat.le_trans HB3.out.size (own_base HO4.out k hk))); obtain ⟨z0, z1, z2, z3, z4⟩ := box3_cells (box3 HB5.out); rw [← HL.out] at hown; obtain ⟨b6, c6, rfl, hb6, hb6l, hc6, hr6⟩ := strs_row HL0.out hown; have HR6 := Lib.hid hr6; have HB6 := Lib.hid (And.intro hb6 hb6l); have HC6 := Lib.hid hc6; clear hown hgrow hat hb6 hb6l hc6 hr6)
            | (go_at_call 84; refine (rright_set (box3 HB5.out) HR6.out HL0.out HC6.out HL1.out).mono ?_; rw [HOkL.out]; rintro e w8 ⟨rfl, hb⟩; have HB7 := Lib.hid hb; have HB8 := Lib.hid (Below.trans (Below.setCell (below_box HB5.out) (p := ⟨wr.heap.size, 2, none⟩) (Nat.le_refl _) _) (hb.mono (Nat.le_trans (below_box HB5.out).size (by simp [World.setCell])))); obtain ⟨q0, q1, q2, q3, q4⟩ := box3_cells ((hb.block _ (by simpa [World.setCell] using z4)).trans (box3_set (box3 HB5.out))); clear hb)
            | (at_builtin; refine list_append_ents _ rfl (.tmp 66) (.tmp 68) rfl w.heap.size _ _ xs' rfl (HRow.out.later HFW.out (below_alloc HB8.out _)).own _ 1 1 _ rfl (newr_one _ _ _ _) (ent_one _ _ _ _ _) (room48 HRm.out) (base_le HW0.out.size HB8.out _) ?_; intro v9 w9 hown hgrow hat; have HOw := Lib.hid hown; have HGr := Lib.hid hgrow; clear hown hgrow hat))
            go_roundw
            case rel => exact ⟨k + 1, by omega, by go_num, MvO.put (e' := ⟨en.d, en.s, L⟩) HRow.out HF'.out HW0.out HFw.out HE.out (by rw [HL.out, HN1.out]; exact rMv_yes HSn.out (by rw [← HN1.out, ← HNl.out]; exact HLe.out) (by rw [← HN1.out]; exact HTk.out) (by rw [← HN1.out, ← HL.out]; exact HOkL.out)) HB8.out rfl (G := fun g => g = b6) (fun g hg => mv_fresh HW0.out HB3.out HS4.out HB6.out HB7.out hg) (RCell.of HOkL.out HD.out rfl HC6.out rfl ((row9_set (box3 HB5.out) HR6.out).keep (HB7.out.block b6 (by simpa [World.setCell] using HB6.out.2)))) HOw.out HGr.out⟩
            case measure => simp [intOf]; omega
          · have hokF : okP L = false := by simpa using hokL
            have HOkL := Lib.hid hokF
            clear hokL hokF
            go_wp2_with (first
            | (go_at_call 85; refine (HWn.out _ (below_alloc (Below.refl _ _) _)).mono ?_; rintro e w3 ⟨rfl, hb3⟩; obtain ⟨x0, x1, x2, x3, x4⟩ := box3_cells (box3 hb3); have HB3 := Lib.hid hb3; clear hb3)
            | (go_at_call 103; refine (HCo.out _ (Below.trans HW0.out ((below_box HB3.out).mono HW0.out.size))).mono ?_; rintro e w4 ⟨v2, rfl, ho, hb⟩; have HB4 := Lib.hid (Below.trans HB3.out (hb.mono HB3.out.size)); obtain ⟨y0, y1, y2, y3, y4⟩ := box3_cells (box3 HB4.out); have HO4 := Lib.hid ho; obtain ⟨b5, c5, rfl, -⟩ := strs_row (okP_len HO2.out).1 ho; have HS4 := Lib.hid hb.size; clear ho hb)
            | (at_builtin; refine list_append_strs _ rfl (.tmp 55) (.tmp 60) rfl _ _ l2 rfl HO4.out A3 (nl - n1) (c - n1) (en.l.drop n1) rfl (HRd.out _ (HR9.out.keep (HKb.out _ (below_box HB4.out))).1) HRoom.out HS4.out ?_; intro v5 w5 hown hgrow hat; have HB5 := Lib.hid (pw_below_grown HB4.out _ HB4.out.size hgrow (fun k hk => Nat.le_trans HB3.out.size (own_base HO4.out k hk))); obtain ⟨z0, z1, z2, z3, z4⟩ := box3_cells (box3 HB5.out); rw [← HL.out] at hown; obtain ⟨b6, c6, rfl, hb6, hb6l, hc6, hr6⟩ := strs_row HL0.out hown; have HR6 := Lib.hid hr6; have HB6 := Lib.hid (And.intro hb6 hb6l); have HC6 := Lib.hid hc6; clear hown hgrow hat hb6 hb6l hc6 hr6)
            | (go_at_call 84; refine (rright_set (box3 HB5.out) HR6.out HL0.out HC6.out HL1.out).mono ?_; rw [HOkL.out]; rintro e w8 ⟨rfl, hb⟩; have HB7 := Lib.hid hb; have HB8 := Lib.hid (Below.trans (Below.setCell (below_box HB5.out) (p := ⟨wr.heap.size, 2, none⟩) (Nat.le_refl _) _) (hb.mono (Nat.le_trans (below_box HB5.out).size (by simp [World.setCell])))); obtain ⟨q0, q1, q2, q3, q4⟩ := box3_cells ((hb.block _ (by simpa [World.setCell] using z4)).trans (box3_set (box3 HB5.out))); clear hb))
            go_roundw
            case rel => exact ⟨k + 1, by omega, by go_num, MvO.gone HM.out HFw.out HB8.out HE.out (rMv_gone HSn.out (by rw [← HN1.out, ← HNl.out]; exact HLe.out) (by rw [← HN1.out]; exact HTk.out) (by rw [← HN1.out, ← HL.out]; exact HOkL.out))⟩
            case measure => simp [intOf]; omega
        · rw [decide_eq_false hwi] at HWn
          have HNo := Lib.hid hwi
          clear hwi
          go_wp2_with (first
            | (go_at_call 85; refine (HWn.out _ (below_alloc (Below.refl _ _) _)).mono ?_; rintro e w3 ⟨rfl, hb3⟩; obtain ⟨x0, x1, x2, x3, x4⟩ := box3_cells (box3 hb3); have HB3 := Lib.hid hb3; clear hb3)
            | (go_at_call 84; refine (HRt.out _ (below_box HB3.out)).mono ?_; rintro e w4 ⟨rfl, hb⟩; obtain ⟨y0, y1, y2, y3, y4⟩ := box3_cells (box3 (Below.trans HB3.out (hb.mono HB3.out.size))); have HB4 := Lib.hid (below_box (Below.trans HB3.out (hb.mono HB3.out.size))); clear hb)
            | (at_builtin; refine list_append_ents _ rfl (.tmp 66) (.tmp 68) rfl w.heap.size _ _ xs' rfl (HRow.out.later HFW.out (below_alloc HB4.out _)).own _ 1 1 _ rfl (newr_one _ _ _ _) (ent_one _ _ _ _ _) (room48 HRm.out) (base_le HW0.out.size HB4.out _) ?_; intro v6 w6 hown hgrow hat; have HOw := Lib.hid hown; have HGr := Lib.hid hgrow; clear hown hgrow hat))
          go_roundw
          case rel => exact ⟨k + 1, by omega, by go_num, MvO.put HRow.out HF'.out HW0.out HFw.out HE.out (rMv_same (fun h => HNo.out ⟨by rw [HNl.out, HN1.out]; exact h.2.1, by rw [HN1.out]; exact h.2.2⟩)) HB4.out rfl (fun g hg => .inl hg) (RCell.of HOk.out HD.out HNl.out hlc HFb.out (HR9.out.keep (HB4.out.block b (Nat.lt_of_lt_of_le (HFw.out b HFb.out) HW0.out.size)))) HOw.out HGr.out⟩
          case measure => simp [intOf]; omega
      · have s1 : en.s.toList.isEmpty = false := by simpa using hs
        have HSn := Lib.hid hs
        go_wp2_with (first
          | (go_at_call 84; refine (HRt.out _ (below_alloc (Below.refl _ _) _)).mono ?_; rintro e w4 ⟨rfl, hb⟩; obtain ⟨x0, x1, x2, x3, x4⟩ := box3_cells (box3 hb); have HB4 := Lib.hid (below_box hb); clear hb)
          | (at_builtin; refine list_append_ents _ rfl (.tmp 66) (.tmp 68) rfl w.heap.size _ _ xs' rfl (HRow.out.later HFW.out (below_alloc HB4.out _)).own _ 1 1 _ rfl (newr_one _ _ _ _) (ent_one _ _ _ _ _) (room48 HRm.out) (base_le HW0.out.size HB4.out _) ?_; intro v6 w6 hown hgrow hat; have HOw := Lib.hid hown; have HGr := Lib.hid hgrow; clear hown hgrow hat))
        go_roundw
        case rel => exact ⟨k + 1, by omega, by go_num, MvO.put HRow.out HF'.out HW0.out HFw.out HE.out (rMv_same (fun h => HSn.out h.1)) HB4.out rfl (fun g hg => .inl hg) (RCell.of HOk.out HD.out HNl.out hlc HFb.out (HR9.out.keep (HB4.out.block b (Nat.lt_of_lt_of_le (HFw.out b HFb.out) HW0.out.size)))) HOw.out HGr.out⟩
        case measure => simp [intOf]; omega
    · obtain rfl : k = n := by omega
      have dlt : decide (k < k) = false := decide_eq_false (by omega)
      obtain ⟨F', xs', hrow, -, hw0⟩ := HM.out
      have hfrz := (HV.out.later hw0).frozen 0
      obtain ⟨Ao, co, rfl⟩ := own130_form hrow.own
      clear hrow hw0
      go_wp2
      go_end0
      exact MvO.all HV.out HBs.out HS.out HO1.out HO2.out (HN.out ▸ HM.out)
end Go.Proofs.YthafpbidfgmacaaDoor.Hd

