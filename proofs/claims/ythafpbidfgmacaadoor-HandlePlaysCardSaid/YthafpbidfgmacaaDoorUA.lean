/- Texts put together by merge.py: U0,U1,U2,U3. -/
import Derived.Test.YthafpbidfgmacaaDoorTC
import Derived.Test.YthafpbidfgmacaaDoorJ8
import Derived.Deep.DeepCutAuto
/- Plain law of HandleKeeps: texts of paths, each name with a slash behind it; what a Move makes of them. -/
namespace Go.Proofs.YthafpbidfgmacaaDoor.Hd
open Go.RowKit Go.Proofs.YthafpbidfgmacaaDoor
set_option linter.unusedVariables false

/-- What a descriptor must tell. -/
structure Held where
  is : Bool
  snap : ByteArray
  path : ByteArray
def catL (l : List ByteArray) : List UInt8 := (l.map fun n => n.data.toList ++ [47]).flatten
/-- An entry, and what it must tell. -/
def HR : Option Ent → Held → Prop
  | none, h => h.is = false
  | some (s, l), h => h.is = true ∧ h.snap = s ∧ h.path.data.toList = catL l ∧ okP l = true

theorem catL_cons (x : ByteArray) (l : List ByteArray) : catL (x :: l) = x.data.toList ++ 47 :: catL l := by simp [catL]
theorem catL_append (a b : List ByteArray) : catL (a ++ b) = catL a ++ catL b := by simp [catL]
theorem name_noslash {s : ByteArray} (h : Q.nameB s = true) : (47 : UInt8) ∉ s.data.toList := by
  unfold Q.nameB at h
  simp only [Bool.and_eq_true, Bool.not_eq_true'] at h
  have h1 := h.2.2.2.2
  unfold hasB at h1
  intro hm
  have := List.any_eq_false.1 h1 _ hm
  exact this rfl
theorem join_cat (l : List ByteArray) (h : l ≠ []) : Lib.join (l.map (·.data.toList)) [47] ++ [47] = catL l := by
  obtain ⟨x, r, rfl⟩ := List.exists_cons_of_ne_nil h
  clear h
  rw [List.map_cons, Lib.join_cons]
  induction r generalizing x with
  | nil => simp [Lib.joinTail, catL]
  | cons y r ih =>
    have e : Lib.joinTail [47] (List.map (·.data.toList) (y :: r)) = [47] ++ (y.data.toList ++ Lib.joinTail [47] (List.map (·.data.toList) r)) := by simp [Lib.joinTail]
    rw [e, catL_cons, ← ih y]
    simp
theorem joinB_cat (l : List ByteArray) (h : l ≠ []) : (joinB l ⟨#[47]⟩ ++ ⟨#[47]⟩).data.toList = catL l := by
  rw [Q.app_data, Q.joinB_data]
  exact join_cat l h
theorem sep_inj : ∀ (x y A L : List UInt8), (47 : UInt8) ∉ x → (47 : UInt8) ∉ y → x ++ 47 :: A = y ++ 47 :: L → x = y ∧ A = L
  | [], [], A, L, _, _, h => ⟨rfl, by simpa using h⟩
  | [], b :: y, A, L, _, hy, h => by
    simp at h
    exact absurd (by rw [h.1]; exact List.mem_cons_self) hy
  | a :: x, [], A, L, hx, _, h => by
    simp at h
    exact absurd (by rw [← h.1]; exact List.mem_cons_self) hx
  | a :: x, b :: y, A, L, hx, hy, h => by
    simp only [List.cons_append, List.cons.injEq] at h
    obtain ⟨h1, h2⟩ := sep_inj x y A L (fun hm => hx (List.mem_cons_of_mem _ hm)) (fun hm => hy (List.mem_cons_of_mem _ hm)) h.2
    exact ⟨by rw [h.1, h1], h2⟩
theorem catL_prefix : ∀ (a l : List ByteArray), (∀ x ∈ a, (47 : UInt8) ∉ x.data.toList) → (∀ x ∈ l, (47 : UInt8) ∉ x.data.toList) → catL a <+: catL l → a <+: l
  | [], l, _, _, _ => List.nil_prefix
  | x :: a, [], _, _, h => by
    rw [catL_cons] at h
    have := h.length_le
    simp [catL] at this
  | x :: a, y :: l, ha, hl, ⟨t, ht⟩ => by
    rw [catL_cons, catL_cons, List.append_assoc, List.cons_append] at ht
    obtain ⟨h1, h2⟩ := sep_inj _ _ _ _ (ha x (by simp)) (hl y (by simp)) ht
    obtain rfl : x = y := WideShapes.bytes_inj (by simpa using h1)
    obtain ⟨u, hu⟩ := catL_prefix a l (fun z hz => ha z (by simp [hz])) (fun z hz => hl z (by simp [hz])) ⟨t, h2⟩
    exact ⟨u, by rw [List.cons_append, hu]⟩
theorem catL_count : ∀ l : List ByteArray, (∀ x ∈ l, (47 : UInt8) ∉ x.data.toList) → (catL l).count 47 = l.length
  | [], _ => rfl
  | x :: l, h => by
    rw [catL_cons, List.count_append, List.count_cons_self, List.count_eq_zero_of_not_mem (h x (by simp)), catL_count l (fun y hy => h y (by simp [hy])), List.length_cons]
    omega
theorem ok_noslash {l : List ByteArray} (h : okP l = true) : ∀ x ∈ l, (47 : UInt8) ∉ x.data.toList := fun x hx => name_noslash (List.all_eq_true.1 (okP_len h).2.2 x hx)
theorem prefix_iff {a l : List ByteArray} (ha : okP a = true) (hl : okP l = true) : Lib.hasPrefix (catL l) (catL a) = decide (a.length ≤ l.length ∧ l.take a.length = a) := by
  unfold Lib.hasPrefix
  rw [Bool.eq_iff_iff, List.isPrefixOf_iff_prefix, decide_eq_true_eq]
  constructor
  · intro h
    have h2 := catL_prefix a l (ok_noslash ha) (ok_noslash hl) h
    exact ⟨h2.length_le, (List.prefix_iff_eq_take.1 h2).symm⟩
  · rintro ⟨_, h⟩
    rw [← h]
    refine ⟨catL (l.drop a.length), ?_⟩
    rw [h]
    conv => rhs; rw [← List.take_append_drop a.length l, h, catL_append]
theorem trimSuffix_cat (l : List ByteArray) (h : l ≠ []) : Lib.trimSuffix (catL l) [47] = (joinB l ⟨#[47]⟩).data.toList := by
  rw [← join_cat l h, Q.joinB_data]
  unfold Lib.trimSuffix Lib.hasSuffix
  rw [if_pos (by rw [List.isSuffixOf_iff_suffix]; exact List.suffix_append _ _)]
  simp
theorem okP_moved {b l : List ByteArray} (hb : okP b = true) (hl : okP l = true) (k : Nat) : okP (b ++ l.drop k) = decide ((b ++ l.drop k).length ≤ 6) := by
  obtain ⟨b1, b2, b3⟩ := okP_len hb
  obtain ⟨_, _, l3⟩ := okP_len hl
  unfold okP Q.rightB
  have h1 : (b ++ l.drop k).isEmpty = false := by
    cases b with
    | nil => simp at b1
    | cons _ _ => rfl
  have h2 : (b ++ l.drop k).all Q.nameB = true := by
    rw [List.all_append, b3, Bool.true_and]
    exact List.all_eq_true.2 (fun x hx => List.all_eq_true.1 l3 x (List.mem_of_mem_drop hx))
  rw [h1, h2]
  rfl
/-- What HandleKeeps makes of what a descriptor must tell, where a path moved. -/
def heldMoved (a b : List ByteArray) (h : Held) : Held :=
  if h.is = true ∧ Lib.hasPrefix h.path.data.toList (catL a) = true ∧ h.snap.toList = [] then
    ⟨decide ((catL b ++ Lib.trimPrefix h.path.data.toList (catL a)).count 47 ≤ 6), h.snap, ⟨(catL b ++ Lib.trimPrefix h.path.data.toList (catL a)).toArray⟩⟩
  else h
theorem HR_moved {a b : List ByteArray} (ha : okP a = true) (hb : okP b = true) {o : Option Ent} {h : Held} (hh : HR o h) : HR (movedE a b o) (heldMoved a b h) := by
  cases o with
  | none =>
    unfold heldMoved
    rw [if_neg (fun e => by rw [show h.is = false from hh] at e; exact absurd e.1 (by decide))]
    exact hh
  | some p =>
    obtain ⟨s, l⟩ := p
    obtain ⟨h1, h2, h3, h4⟩ := hh
    by_cases hc : s.toList = [] ∧ a.length ≤ l.length ∧ l.take a.length = a
    · have hm : heldMoved a b h = ⟨decide ((catL b ++ Lib.trimPrefix h.path.data.toList (catL a)).count 47 ≤ 6), h.snap, ⟨(catL b ++ Lib.trimPrefix h.path.data.toList (catL a)).toArray⟩⟩ :=
        if_pos ⟨h1, by rw [h3, prefix_iff ha h4]; exact decide_eq_true hc.2, by rw [h2]; exact hc.1⟩
      have hl : catL l = catL a ++ catL (l.drop a.length) := by
        conv => lhs; rw [← List.take_append_drop a.length l, hc.2.2, catL_append]
      have ht : Lib.trimPrefix (catL l) (catL a) = catL (l.drop a.length) := by
        unfold Lib.trimPrefix
        rw [prefix_iff ha h4, if_pos (decide_eq_true hc.2), hl, List.drop_left]
      have hno : ∀ x ∈ b ++ l.drop a.length, (47 : UInt8) ∉ x.data.toList := by
        intro x hx
        rcases List.mem_append.1 hx with h | h
        · exact ok_noslash hb x h
        · exact ok_noslash h4 x (List.mem_of_mem_drop h)
      rw [hm, h3, ht, ← catL_append, catL_count _ hno, h2]
      by_cases h6 : okP (b ++ l.drop a.length) = true
      · rw [movedE_yes hc.1 hc.2.1 hc.2.2 h6]
        have h7 := h6
        rw [okP_moved hb h4] at h7
        exact ⟨h7, rfl, by simp, h6⟩
      · have h6' : okP (b ++ l.drop a.length) = false := by simpa using h6
        rw [movedE_gone hc.1 hc.2.1 hc.2.2 h6']
        rw [okP_moved hb h4] at h6'
        exact h6'
    · have hm : heldMoved a b h = h := if_neg (fun e => hc ⟨by rw [← h2]; exact e.2.2, of_decide_eq_true (by rw [← prefix_iff ha h4, ← h3]; exact e.2.1)⟩)
      have hx : movedE a b (some (s, l)) = some (s, l) := if_neg hc
      rw [hm, hx]
      exact ⟨h1, h2, h3, h4⟩
/-- What is asked of each descriptor behind each act. -/
theorem HR_tells {st : St} {d : Int} {h : Held} (hh : HR (atS st d) h) (hi : h.is = true) (p : ByteArray) (hp : p.data.toList = Lib.trimSuffix h.path.data.toList [47]) : tellsB st d h.snap p = true := by
  unfold tellsB ofS
  cases he : atS st d with
  | none =>
    rw [he] at hh
    rw [show h.is = false from hh] at hi
    cases hi
  | some q =>
    obtain ⟨s, l⟩ := q
    rw [he] at hh
    obtain ⟨_, h2, h3, h4⟩ := hh
    have hne : l ≠ [] := by
      rintro rfl
      cases h4
    rw [h3, trimSuffix_cat l hne] at hp
    have hpe : p = joinB l ⟨#[47]⟩ := WideShapes.bytes_inj hp
    rw [h2, hpe]
    simp
theorem HR_of {st : St} {d : Int} {h : Held} (hh : HR (atS st d) h) : (ofS st d).2.2 = (if h.is = true then 0 else 12) := by
  unfold ofS
  cases he : atS st d with
  | none =>
    rw [he] at hh
    rw [show h.is = false from hh]
    rfl
  | some q =>
    obtain ⟨s, l⟩ := q
    rw [he] at hh
    rw [hh.1]
    rfl
/-- What holds of a table and of what its descriptors must tell. -/
def Inv (st : St) (f : Nat → Held) : Prop := ∀ d, d < 8 → HR (st.getD d none) (f d)
theorem Inv.at_ {st : St} {f : Nat → Held} (h : Inv st f) (d : Nat) (hd : d < 8) : HR (atS st d) (f d) := by
  unfold atS
  rw [if_pos (by omega), Int.toNat_natCast]
  exact h d hd
def upd (f : Nat → Held) (d : Nat) (h : Held) : Nat → Held := fun j => if j = d then h else f j
theorem Inv.start : Inv newS (fun _ => ⟨false, ⟨#[]⟩, ⟨#[]⟩⟩) := fun d hd => by
  rcases (by omega : d = 0 ∨ d = 1 ∨ d = 2 ∨ d = 3 ∨ d = 4 ∨ d = 5 ∨ d = 6 ∨ d = 7) with rfl | rfl | rfl | rfl | rfl | rfl | rfl | rfl <;> rfl
theorem Inv.put {st : St} {f : Nat → Held} (h : Inv st f) (hl : st.length = 8) (d : Nat) (hd : d < 8) {o : Option Ent} {x : Held} (hx : HR o x) : Inv (st.set d o) (upd f d x) := fun j hj => by
  unfold upd
  by_cases hjd : j = d
  · subst hjd
    rw [if_pos rfl, List.getD_eq_getElem?_getD, List.getElem?_set_self (by omega)]
    exact hx
  · rw [if_neg hjd, List.getD_eq_getElem?_getD, List.getElem?_set_ne (fun e => hjd e.symm), ← List.getD_eq_getElem?_getD]
    exact h j hj
theorem Inv.moved {st : St} {f : Nat → Held} (h : Inv st f) (hl : st.length = 8) {a b : List ByteArray} (ha : okP a = true) (hb : okP b = true) : Inv (movedS st a b) (fun d => heldMoved a b (f d)) := fun d hd => by
  unfold movedS
  rw [if_pos ⟨ha, hb⟩, List.getD_eq_getElem?_getD, List.getElem?_map, List.getElem?_eq_getElem (by omega : d < st.length)]
  have := h d hd
  rw [List.getD_eq_getElem?_getD, List.getElem?_eq_getElem (by omega : d < st.length)] at this
  exact HR_moved ha hb this
end Go.Proofs.YthafpbidfgmacaaDoor.Hd

/- An argument that is a slice of acts, opened; the walks of short and few. -/
namespace Go.Proofs.YthafpbidfgmacaaDoor.Hd
open Go.ChangeShapes Go.WideShapes Go.Deep Go.RowKit Go.Proofs.YthafpbidfgmacaaDoor Go.Proofs.YthafpbidfgmacaaDoorW.PrintWords Go.Proofs.YthafpbidfgmacaaDoorW.PrintLast Go.Proofs.YthafpbidfgmacaaDoorW.PrintMore
set_option linter.unusedVariables false
set_option linter.unusedSimpArgs false
section
variable {H : Type} {enc : TypeId × Value → H} {P : Program} {w : World} {base : Nat} {spare : Nat → Bool} {held : Bool}
theorem open_slice_fields {t e : TypeId} {fs : Array Field} {fuel : Nat} {cs : List Value} {x : DataW H × List MemPlace} (ht : P.underlying t = some (.slice e)) (he : P.underlying e = some (.struct fs))
    (hone : oneCellFields P fs = true) (hC : P.cellsOf e = fs.size) (h : DataW.trod enc P w base spare held fuel t cs = some x) :
    (cs = [.slice none 0 0] ∧ x = (.nil, [])) ∨
    ∃ (a : Addr) (len cap m : Nat) (D : Nat → DataW H) (Pl : Nat → List MemPlace), cs = [.slice (some a) len cap] ∧ base ≤ a.block ∧ len ≤ cap ∧ cap ≤ maxLen ∧ m = (if spare a.block then cap else len) ∧
      x = (.slice ((List.range len).map D) ((List.range (m - len)).map fun j => D (len + j)), MemPlace.row a (m * fs.size) ++ (List.range m).flatMap Pl) ∧
      ∀ i, i < m → ∃ (ys : List (DataW H × List MemPlace)) (n : Nat), D i = .agg (ys.map (·.1)) ∧ Pl i = ys.flatMap (·.2) ∧ ys.length = fs.size ∧
        ∀ (j : Nat) (f : Field), fs[j]? = some f → ∃ (v : Value) (y : DataW H × List MemPlace), w.cell? (a.add (i * fs.size + j)) = some v ∧ ys[j]? = some y ∧ DataW.trod enc P w base spare held n f.type [v] = some y := by
  rcases open_slice ht h with h0 | ⟨a, len, cap, m, n, D, Pl, hcs, hb, hl, hm, hmm, hx, hi⟩
  · exact .inl h0
  · refine .inr ⟨a, len, cap, m, D, Pl, hcs, hb, hl, hm, hmm, by rw [hC] at hx; exact hx, fun i him => ?_⟩
    obtain ⟨cs', hc, ht'⟩ := hi i him
    rw [hC] at hc
    obtain ⟨ys, n', hn', hy, hlen, hyl, hf⟩ := DataW.trod_struct he ht'
    obtain ⟨_, hcl, hat⟩ := World.cells?_some hc
    simp only [Prod.mk.injEq] at hy
    refine ⟨ys, n', hy.1, hy.2, hyl, fun j f hj => ?_⟩
    obtain ⟨ho, hk⟩ := hone_of hone j f hj
    have hjl : j < fs.size := (Array.getElem?_eq_some_iff.1 hj).1
    have hcell := hat j hjl
    have hv : cs'[j]? = some (cs'[j]'(by omega)) := List.getElem?_eq_getElem (by omega)
    have h1 := hf j f hj
    rw [ho, hk] at h1
    have hone' : (cs'.drop j).take 1 = [cs'[j]'(by omega)] := by
      rw [List.drop_eq_getElem_cons (by omega)]
      rfl
    rw [hone'] at h1
    have hys : ys[j]? = some (ys[j]'(by omega)) := List.getElem?_eq_getElem (by omega)
    refine ⟨_, _, ?_, hys, h1.trans hys⟩
    rw [← Go.Deep.add_add, hcell, hv]
end
/-- An act. -/
structure Act where
  what : Int
  snap : ByteArray
  a : List ByteArray
  b : List ByteArray
  d : Int
  ask : Int
/-- An act's six cells. -/
def ActC (w : World) (b p : Nat) (x : Act) (A1 : Option Addr) (c1 : Nat) (A2 : Option Addr) (c2 : Nat) : Prop :=
  w.cell? ⟨b, p, none⟩ = some (.int .u8 x.what) ∧ w.cell? ⟨b, p + 1, none⟩ = some (.string x.snap) ∧ w.cell? ⟨b, p + 2, none⟩ = some (.slice A1 x.a.length c1) ∧ w.cell? ⟨b, p + 3, none⟩ = some (.slice A2 x.b.length c2) ∧ w.cell? ⟨b, p + 4, none⟩ = some (.int .i64 x.d) ∧ w.cell? ⟨b, p + 5, none⟩ = some (.int .i64 x.ask)
def ActR (w : World) (A : Option Addr) (c : Nat) (l : List ByteArray) : Prop := l.length ≤ c ∧ Kd.C Kd.string w A l.length l ∧ l.length ≤ 9223372036854775807
def ActAt (w : World) (b p : Nat) (x : Act) : Prop :=
  (0 ≤ x.what ∧ x.what ≤ 255) ∧ (-9223372036854775808 ≤ x.d ∧ x.d ≤ 9223372036854775807) ∧ (-9223372036854775808 ≤ x.ask ∧ x.ask ≤ 9223372036854775807) ∧ ∃ A1 c1 A2 c2, ActC w b p x A1 c1 A2 c2 ∧ ActR w A1 c1 x.a ∧ ActR w A2 c2 x.b
/-- The argument: n acts. -/
def Acts (w : World) (v : Value) (n : Nat) (f : Nat → Act) : Prop :=
  (n = 0 ∧ ∃ A c, v = .slice A 0 c) ∨ ∃ b o c, v = .slice (some ⟨b, o, none⟩) n c ∧ n ≤ c ∧ c ≤ maxLen ∧ ∀ i, i < n → ActAt w b (o + i * 6) (f i)
section
variable {H : Type} {enc : TypeId × Value → H}
set_option maxRecDepth 100000 in
set_option maxHeartbeats 1000000 in
theorem acts_of {W : World} {r : Reach} {b0 : Nat} {v : Value} {d : DataW H} {ps : List MemPlace} (hv : Value.okWide Tryd.prog W r b0 22 v) (h : DataW.Trod enc Tryd.prog W 0 (fun _ => true) true 22 v d ps) : ∃ n f, Acts W v n f := by
  obtain ⟨a, len, cap, rfl⟩ := okWide_slice Tryd.underlying22 hv
  obtain ⟨fuel, hf⟩ := h
  rcases open_slice_fields Tryd.underlying22 Tryd.underlying32 (by kernel_rfl) (by kernel_rfl) hf with ⟨h1, h2⟩ | ⟨a', len', cap', m, D, Pl, h1, hb, hle, hc, hm, hx, hi⟩
  · have h1' : Value.slice a len cap = .slice none 0 0 := by simpa [Value.cells] using h1
    exact ⟨0, fun _ => ⟨0, ⟨#[]⟩, [], [], 0, 0⟩, .inl ⟨rfl, _, _, h1'⟩⟩
  · have h1' : Value.slice a len cap = .slice (some a') len' cap' := by simpa [Value.cells] using h1
    have key : ∀ i, i < len' → ∃ x : Act, (0 ≤ x.what ∧ x.what ≤ 255) ∧ (-9223372036854775808 ≤ x.d ∧ x.d ≤ 9223372036854775807) ∧ (-9223372036854775808 ≤ x.ask ∧ x.ask ≤ 9223372036854775807) ∧ ∃ A1 c1 A2 c2,
        (W.cell? (a'.add (i * 6)) = some (.int .u8 x.what) ∧ W.cell? (a'.add (i * 6 + 1)) = some (.string x.snap) ∧ W.cell? (a'.add (i * 6 + 2)) = some (.slice A1 x.a.length c1) ∧ W.cell? (a'.add (i * 6 + 3)) = some (.slice A2 x.b.length c2) ∧ W.cell? (a'.add (i * 6 + 4)) = some (.int .i64 x.d) ∧ W.cell? (a'.add (i * 6 + 5)) = some (.int .i64 x.ask)) ∧ ActR W A1 c1 x.a ∧ ActR W A2 c2 x.b := by
      intro i hil
      have him : i < m := by rw [hm]; split <;> omega
      obtain ⟨ys, n, _, _, _, hf⟩ := hi i him
      obtain ⟨v0, y0, c0, _, t0⟩ := hf 0 _ rfl
      obtain ⟨v1, y1, c1, _, t1⟩ := hf 1 _ rfl
      obtain ⟨v2, y2, c2, _, t2⟩ := hf 2 _ rfl
      obtain ⟨v3, y3, c3, _, t3⟩ := hf 3 _ rfl
      obtain ⟨v4, y4, c4, _, t4⟩ := hf 4 _ rfl
      obtain ⟨v5, y5, c5, _, t5⟩ := hf 5 _ rfl
      obtain ⟨k0, e0, _, w0⟩ := DataW.trod_int Tryd.underlying5 t0
      obtain ⟨s1, e1, _, w1⟩ := DataW.trod_string Tryd.underlying9 t1
      obtain ⟨A2, k2, l2, e2, r2, r2', r2''⟩ := strs_cell t2
      obtain ⟨A3, k3, l3, e3, r3, r3', r3''⟩ := strs_cell t3
      obtain ⟨k4, e4, _, w4⟩ := DataW.trod_int Tryd.underlying3 t4
      obtain ⟨k5, e5, _, w5⟩ := DataW.trod_int Tryd.underlying3 t5
      simp at e0 e1 e4 e5
      subst e0 e1 e2 e3 e4 e5
      have hk0 : 0 ≤ k0 ∧ k0 ≤ 255 := by simpa [Lit.wf, IntKind.min, IntKind.max, IntKind.signed, IntKind.bits] using w0
      have hk4 : -9223372036854775808 ≤ k4 ∧ k4 ≤ 9223372036854775807 := by simpa [Lit.wf, IntKind.min, IntKind.max, IntKind.signed, IntKind.bits] using w4
      have hk5 : -9223372036854775808 ≤ k5 ∧ k5 ≤ 9223372036854775807 := by simpa [Lit.wf, IntKind.min, IntKind.max, IntKind.signed, IntKind.bits] using w5
      exact ⟨⟨k0, s1, l2, l3, k4, k5⟩, hk0, hk4, hk5, A2, k2, A3, k3, ⟨c0, c1, c2, c3, c4, c5⟩, ⟨r2, r2', r2''⟩, ⟨r3, r3', r3''⟩⟩
    by_cases hn : 0 < len'
    · obtain ⟨x0, _, _, _, _, _, _, _, ⟨hc0, _⟩, _⟩ := key 0 hn
      have e0 : a'.add (0 * 6) = a' := rfl
      rw [e0] at hc0
      obtain ⟨hs, _⟩ := cell_spot hc0
      obtain ⟨b, o, sp⟩ := a'
      have hsp : sp = none := by injection hs
      subst hsp
      simp only [add_none] at key
      refine ⟨len', fun i => if h : i < len' then (key i h).choose else ⟨0, ⟨#[]⟩, [], [], 0, 0⟩, .inr ⟨b, o, cap', h1', hle, hc, fun i hil => ?_⟩⟩
      simp only [dif_pos hil]
      obtain ⟨h1, h2, h3, A1, c1, A2, c2, ⟨q0, q1, q2, q3, q4, q5⟩, h5, h6⟩ := (key i hil).choose_spec
      exact ⟨h1, h2, h3, A1, c1, A2, c2, ⟨q0, by rw [Nat.add_assoc]; exact q1, by rw [Nat.add_assoc]; exact q2, by rw [Nat.add_assoc]; exact q3, by rw [Nat.add_assoc]; exact q4, by rw [Nat.add_assoc]; exact q5⟩, h5, h6⟩
    · obtain rfl : len' = 0 := by omega
      exact ⟨0, fun _ => ⟨0, ⟨#[]⟩, [], [], 0, 0⟩, .inl ⟨rfl, _, _, h1'⟩⟩
end
end Go.Proofs.YthafpbidfgmacaaDoor.Hd

/- The walks of short and few. -/
namespace Go.Proofs.YthafpbidfgmacaaDoor.Hd
open Go.RowKit Go.Proofs.YthafpbidfgmacaaDoor Go.Proofs.YthafpbidfgmacaaDoorW.PrintWords Go.Proofs.YthafpbidfgmacaaDoorW.PrintLast Go.Proofs.YthafpbidfgmacaaDoorW.PrintMore
set_option linter.unusedVariables false
set_option linter.unusedSimpArgs false

def shortB (l : List ByteArray) : Bool := ((l.take 30).all fun x => decide (x.size ≤ 100)) && decide (l.length ≤ 20)
theorem shortB_of {l : List ByteArray} (h : shortB l = true) : l.length ≤ 20 ∧ ∀ x ∈ l, x.size ≤ 100 := by
  unfold shortB at h
  simp only [Bool.and_eq_true, decide_eq_true_eq, List.all_eq_true] at h
  refine ⟨h.2, fun x hx => h.1 x ?_⟩
  rw [List.take_of_length_le (by omega)]
  exact hx
theorem shortB_no {l : List ByteArray} {k : Nat} {x : ByteArray} (hk : k < 30) (hx : l[k]? = some x) (h : ¬ x.size ≤ 100) : shortB l = false := by
  unfold shortB
  have : (l.take 30).all (fun x => decide (x.size ≤ 100)) = false := by
    rw [List.all_eq_false]
    refine ⟨x, ?_, by simpa using h⟩
    have := List.getElem?_take (l := l) (i := 30) (j := k)
    rw [if_pos hk, hx] at this
    exact List.mem_of_getElem? this
  rw [this]
  rfl
theorem shortB_end {l : List ByteArray} (h : ∀ j, j < 30 → ∀ x, l[j]? = some x → x.size ≤ 100) : shortB l = decide (l.length ≤ 20) := by
  unfold shortB
  have : (l.take 30).all (fun x => decide (x.size ≤ 100)) = true := by
    rw [List.all_eq_true]
    intro x hx
    obtain ⟨j, hj⟩ := List.getElem?_of_mem hx
    have h2 := List.getElem?_take (l := l) (i := 30) (j := j)
    by_cases hj3 : j < 30
    · rw [if_pos hj3, hj] at h2
      exact decide_eq_true (h j hj3 x h2.symm)
    · rw [if_neg hj3, hj] at h2
      cases h2
  rw [this, Bool.true_and]
set_option maxHeartbeats 4000000 in
theorem short_calls (A : Option Addr) (c : Nat) (l : List ByteArray) (w : World) (hr : ActR w A c l) : Calls Tryd.prog 58 #[.slice A l.length c] w fun e w' => e = .returned (.bool (shortB l)) ∧ w = w' := by
  obtain ⟨hc, hC, hm⟩ := hr
  have HR : Hid (∀ k, k < l.length → ∃ b o x, A = some ⟨b, o, none⟩ ∧ l[k]? = some x ∧ w.cell? ⟨b, o + k, none⟩ = some (.string x)) := fun k hk => by
    obtain ⟨b, o, rfl, _, hrow⟩ := c_cells hC (by omega)
    exact ⟨b, o, _, rfl, List.getElem?_eq_getElem hk, hrow k _ (List.getElem?_eq_getElem hk)⟩
  obtain ⟨n, hn⟩ : ∃ n, n = l.length := ⟨_, rfl⟩
  have HN := Lib.hid hn
  rw [← hn] at hm hc HR ⊢
  clear hC hn
  go_enter Tryd.func58, Tryd.ntmps58
  go_wp2
  go_loop [3] (fun i => ∃ k : Nat, k ≤ 30 ∧ k ≤ n ∧ i = .int .i64 k ∧ Hid (∀ j, j < k → ∀ x, l[j]? = some x → x.size ≤ 100)) (fun i => 30 - (intOf i).toNat)
  case atStart => exact ⟨0, by omega, by omega, rfl, fun j hj => by omega⟩
  case round =>
    obtain ⟨k, hk, hkn, rfl, HK⟩ := hrel
    by_cases hlt : k < n
    · by_cases h30 : k < 30
      · obtain ⟨b, o, x, rfl, hx, hcell⟩ := HR.out k hlt
        have d1 : decide (k < n) = true := decide_eq_true hlt
        have d2 : decide ((k : Int) < 30) = true := decide_eq_true (by omega)
        have b0 : (0 : Int) ≤ (k : Int) := by omega
        have b1 : (k : Int) < (n : Int) := by omega
        have HX := Lib.hid hx
        clear hx
        by_cases hs : x.size ≤ 100
        · have d3 : decide ((x.size : Int) > 100) = false := decide_eq_false (by omega)
          have HS := Lib.hid hs
          go_wp2
          go_round
          case rel => exact ⟨k + 1, by omega, by omega, by go_num, fun j hj y hy => by
            rcases Nat.lt_or_ge j k with h | h
            · exact HK.out j h y hy
            · obtain rfl : j = k := by omega
              rw [HX.out] at hy
              obtain rfl := Option.some.inj hy
              exact HS.out⟩
          case measure => simp [intOf]; omega
        · have d3 : decide ((x.size : Int) > 100) = true := decide_eq_true (by omega)
          have HS := Lib.hid hs
          clear hs
          go_wp2
          go_ret
          exact ⟨ret_bool (shortB_no h30 HX.out HS.out).symm, rfl⟩
      · obtain rfl : k = 30 := by omega
        have d1 : decide (30 < n) = true := decide_eq_true hlt
        go_wp2
        go_ret
        exact ⟨ret_bool (by rw [shortB_end HK.out, ← HN.out]; rw [Bool.eq_iff_iff]; simp; omega), rfl⟩
    · obtain rfl : k = n := by omega
      have d1 : decide (k < k) = false := decide_eq_false (by omega)
      go_wp2
      go_ret
      exact ⟨ret_bool (by rw [shortB_end (fun j hj x hx => HK.out j (by have := (List.getElem?_eq_some_iff.1 hx).1; rw [HN.out]; exact this) x hx), ← HN.out]; rw [Bool.eq_iff_iff]; simp; omega), rfl⟩

def okAct (x : Act) : Bool := shortB x.a && (shortB x.b && decide (x.snap.size ≤ 100))
def fewB (n : Nat) (f : Nat → Act) : Bool := ((List.range (min n 70)).all fun i => okAct (f i)) && decide (n ≤ 60)
theorem fewB_of {n : Nat} {f : Nat → Act} (h : fewB n f = true) : n ≤ 60 ∧ ∀ i, i < n → okAct (f i) = true := by
  unfold fewB at h
  simp only [Bool.and_eq_true, decide_eq_true_eq, List.all_eq_true, List.mem_range] at h
  exact ⟨h.2, fun i hi => h.1 i (by omega)⟩
theorem fewB_no {n k : Nat} {f : Nat → Act} (hk : k < n) (h7 : k < 70) (h : okAct (f k) = false) : fewB n f = false := by
  unfold fewB
  have : (List.range (min n 70)).all (fun i => okAct (f i)) = false := by
    rw [List.all_eq_false]
    exact ⟨k, List.mem_range.2 (by omega), by rw [h]; decide⟩
  rw [this]
  rfl
theorem fewB_end {n : Nat} {f : Nat → Act} (h : ∀ j, j < n → j < 70 → okAct (f j) = true) : fewB n f = decide (n ≤ 60) := by
  unfold fewB
  have : (List.range (min n 70)).all (fun i => okAct (f i)) = true := by
    rw [List.all_eq_true]
    intro j hj
    have := List.mem_range.1 hj
    exact h j (by omega) (by omega)
  rw [this, Bool.true_and]
set_option maxHeartbeats 8000000 in
theorem few_calls (v : Value) (n : Nat) (f : Nat → Act) (w : World) (ha : Acts w v n f) : Calls Tryd.prog 12 #[v] w fun e w' => e = .returned (.bool (fewB n f)) ∧ w = w' := by
  rcases ha with ⟨rfl, A, c, rfl⟩ | ⟨b, o, c, rfl, hc, hm, hat⟩
  · go_enter Tryd.func12, Tryd.ntmps12
    go_wp2
    go_loop [3] (fun i => i = .int .i64 0) (fun i => 0)
    case atStart => rfl
    case round =>
      obtain rfl := hrel
      go_wp2
      go_ret
      exact ⟨rfl, rfl⟩
  · have HA := Lib.hid hat
    unfold maxLen at hm
    clear hat
    go_enter Tryd.func12, Tryd.ntmps12
    go_wp2
    go_loop [3] (fun i => ∃ k : Nat, k ≤ 70 ∧ k ≤ n ∧ i = .int .i64 k ∧ Hid (∀ j, j < k → okAct (f j) = true)) (fun i => 70 - (intOf i).toNat)
    case atStart => exact ⟨0, by omega, by omega, rfl, fun j hj => by omega⟩
    case round =>
      obtain ⟨k, hk, hkn, rfl, HK⟩ := hrel
      by_cases hlt : k < n
      · by_cases h70 : k < 70
        · obtain ⟨⟨xw, xs, xa, xb, xd, xk⟩, hx⟩ : ∃ x, f k = x := ⟨_, rfl⟩
          have hat := HA.out k hlt
          rw [hx] at hat
          obtain ⟨z1, z2, z3, A1, c1, A2, c2, ⟨q0, q1, q2, q3, q4, q5⟩, r1, r2⟩ := hat
          simp only at q1 q2 q3 r1 r2
          clear z1 z2 z3 q0 q4 q5
          have d1 : decide (k < n) = true := decide_eq_true hlt
          have d2 : decide ((k : Int) < 70) = true := decide_eq_true (by omega)
          have b0 : (0 : Int) ≤ (k : Int) := by omega
          have b1 : (k : Int) < (n : Int) := by omega
          have s1 := Lib.hid (short_calls A1 c1 xa w r1)
          have s2 := Lib.hid (short_calls A2 c2 xb w r2)
          have HO : Hid (okAct (f k) = (shortB xa && (shortB xb && decide (xs.size ≤ 100)))) := Lib.hid (by rw [hx]; rfl)
          clear r1 r2 hx
          generalize xa.length = na at *
          generalize xb.length = nb at *
          have fin : okAct (f k) = true → ∀ j, j < k + 1 → okAct (f j) = true := fun hz j hj => by
            rcases Nat.lt_or_ge j k with h | h
            · exact HK.out j h
            · obtain rfl : j = k := by omega
              exact hz
          have FIN := Lib.hid fin
          clear fin
          by_cases e1 : shortB xa = true
          · rw [e1] at s1 HO
            by_cases e2 : shortB xb = true
            · rw [e2] at s2 HO
              by_cases e3 : xs.size ≤ 100
              · have d3 : decide ((xs.size : Int) > 100) = false := decide_eq_false (by omega)
                have HE : Hid (okAct (f k) = true) := Lib.hid (by rw [HO.out]; simp [e3])
                clear e1 e2
                go_wp2_with (first | (go_at_call_of 58 (Value.slice A1 na c1); refine s1.out.mono ?_; rintro e w' ⟨rfl, rfl⟩) | (go_at_call_of 58 (Value.slice A2 nb c2); refine s2.out.mono ?_; rintro e w' ⟨rfl, rfl⟩))
                go_round
                case rel => exact ⟨k + 1, by omega, by omega, by go_num, FIN.out HE.out⟩
                case measure => simp [intOf]; omega
              · have d3 : decide ((xs.size : Int) > 100) = true := decide_eq_true (by omega)
                have HE : Hid (okAct (f k) = false) := Lib.hid (by rw [HO.out]; simp [e3])
                clear e1 e2 e3
                go_wp2_with (first | (go_at_call_of 58 (Value.slice A1 na c1); refine s1.out.mono ?_; rintro e w' ⟨rfl, rfl⟩) | (go_at_call_of 58 (Value.slice A2 nb c2); refine s2.out.mono ?_; rintro e w' ⟨rfl, rfl⟩))
                go_ret
                exact ⟨ret_bool (fewB_no hlt h70 HE.out).symm, rfl⟩
            · have e2' : shortB xb = false := by simpa using e2
              rw [e2'] at s2 HO
              have HE : Hid (okAct (f k) = false) := Lib.hid (by rw [HO.out]; rfl)
              clear e1 e2 e2'
              go_wp2_with (first | (go_at_call_of 58 (Value.slice A1 na c1); refine s1.out.mono ?_; rintro e w' ⟨rfl, rfl⟩) | (go_at_call_of 58 (Value.slice A2 nb c2); refine s2.out.mono ?_; rintro e w' ⟨rfl, rfl⟩))
              go_ret
              exact ⟨ret_bool (fewB_no hlt h70 HE.out).symm, rfl⟩
          · have e1' : shortB xa = false := by simpa using e1
            rw [e1'] at s1 HO
            have HE : Hid (okAct (f k) = false) := Lib.hid (by rw [HO.out]; rfl)
            clear e1 e1'
            go_wp2_with (go_at_call 58; refine s1.out.mono ?_; rintro e w' ⟨rfl, rfl⟩)
            go_ret
            exact ⟨ret_bool (fewB_no hlt h70 HE.out).symm, rfl⟩
        · obtain rfl : k = 70 := by omega
          have d1 : decide (70 < n) = true := decide_eq_true hlt
          go_wp2
          go_ret
          exact ⟨ret_bool (by rw [fewB_end (fun j _ hj => HK.out j hj)]; rw [Bool.eq_iff_iff]; simp; omega), rfl⟩
      · obtain rfl : k = n := by omega
        have d1 : decide (k < k) = false := decide_eq_false (by omega)
        go_wp2
        go_ret
        exact ⟨ret_bool (by rw [fewB_end (fun j hj _ => HK.out j hj)]; rw [Bool.eq_iff_iff]; simp; omega), rfl⟩
end Go.Proofs.YthafpbidfgmacaaDoor.Hd

/- The walk of HandleKeeps: what memory says of the array. -/
namespace Go.Proofs.YthafpbidfgmacaaDoor.Hd
open Go.RowKit Go.Proofs.YthafpbidfgmacaaDoor Go.Proofs.YthafpbidfgmacaaDoorW.PrintWords Go.Proofs.YthafpbidfgmacaaDoorW.PrintLast Go.Proofs.YthafpbidfgmacaaDoorW.PrintMore
set_option linter.unusedVariables false
set_option linter.unusedSimpArgs false

theorem moved_tab' {B : Nat} {w : World} {t : Nat} {st : St} {F : Nat → Prop} (h : Tab B w t true st F) (hB : B ≤ w.heap.size) (A1 : Option Addr) (c1 : Nat) (l1 : List ByteArray) (A2 : Option Addr) (c2 : Nat) (l2 : List ByteArray)
    (hr1 : Kd.C Kd.string w A1 l1.length l1) (hc1 : l1.length ≤ c1) (hf1 : fits l1) (hr2 : Kd.C Kd.string w A2 l2.length l2) (hc2 : l2.length ≤ c2) (hf2 : fits l2) (ha1 : 0 < l1.length → ∀ a, A1 = some a → ¬ F a.block) (ha2 : 0 < l2.length → ∀ a, A2 = some a → ¬ F a.block) :
    Calls Tryd.prog 18 #[.pointer (some ⟨t, 0, none⟩), .slice A1 l1.length c1, .slice A2 l2.length c2] w (MovedP B F t st l1 l2 w) := by
  by_cases hn : okP l1 = true ∧ okP l2 = true
  · obtain ⟨h1, h2⟩ := hn
    obtain ⟨b1, o1, rfl, _, r1⟩ := c_cells hr1 (okP_len h1).1
    obtain ⟨b2, o2, rfl, _, r2⟩ := c_cells hr2 (okP_len h2).1
    exact moved_yes h hB b1 o1 c1 l1 b2 o2 c2 l2 r1 hc1 r2 hc2 (ha1 (okP_len h1).1 _ rfl) (ha2 (okP_len h2).1 _ rfl) h1 h2
  · exact moved_not h A1 c1 l1 A2 c2 l2 hr1 hc1 hf1 hr2 hc2 hf2 hn

/-- The array of what the descriptors must tell, in its block. -/
def HeldB (w : World) (h : Nat) (g : Nat → Held) : Prop :=
  ∃ cur : Array Value, w.heap[h]? = some (.cells cur 29 (0, 0)) ∧ cur.size = 24 ∧ ∀ d, d < 8 → cur[d * 3]? = some (.bool (g d).is) ∧ cur[d * 3 + 1]? = some (.string (g d).snap) ∧ cur[d * 3 + 2]? = some (.string (g d).path)
section
variable {w w' : World} {h d : Nat} {g : Nat → Held}
theorem HeldB.keep (hh : HeldB w h g) (hk : w'.heap[h]? = w.heap[h]?) : HeldB w' h g := hh.elim fun cur ⟨h1, h2⟩ => ⟨cur, hk.trans h1, h2⟩
theorem HeldB.lt (hh : HeldB w h g) : h < w.heap.size := hh.elim fun cur ⟨h1, _⟩ => (Array.getElem?_eq_some_iff.1 h1).1
theorem HeldB.cells (hh : HeldB w h g) (hd : d < 8) : w.cell? ⟨h, d * 3, none⟩ = some (.bool (g d).is) ∧ w.cell? ⟨h, d * 3 + 1, none⟩ = some (.string (g d).snap) ∧ w.cell? ⟨h, d * 3 + 2, none⟩ = some (.string (g d).path) := by
  obtain ⟨cur, h1, _, h3⟩ := hh
  obtain ⟨a, b, c⟩ := h3 d hd
  exact ⟨(cell_of_row w h _ _ _ _ h1).trans a, (cell_of_row w h _ _ _ _ h1).trans b, (cell_of_row w h _ _ _ _ h1).trans c⟩
theorem HeldB.frozen (hh : HeldB w h g) (i : Nat) : w.frozen? ⟨h, i, none⟩ = false := by
  obtain ⟨cur, h1, _⟩ := hh
  simp [World.frozen?, h1]
theorem set_get (cur : Array Value) (i j : Nat) (u : Value) : (cur.setIfInBounds i u)[j]? = if i = j then (if i < cur.size then some u else none) else cur[j]? := by
  rw [Array.getElem?_setIfInBounds]
theorem HeldB.set_is (hh : HeldB w h g) (hd : d < 8) (b : Bool) : HeldB (w.setCell ⟨h, d * 3, none⟩ (.bool b)) h (upd g d ⟨b, (g d).snap, (g d).path⟩) := by
  obtain ⟨cur, h1, h2, h3⟩ := hh
  refine ⟨_, heap_setCell_row w h _ cur 29 _ h1, by rw [Array.size_setIfInBounds]; exact h2, fun e he => ?_⟩
  obtain ⟨a, b', c⟩ := h3 e he
  unfold upd
  by_cases hde : e = d
  · subst hde
    rw [if_pos rfl, set_get, set_get, set_get, if_pos rfl, if_pos (by omega), if_neg (by omega), if_neg (by omega)]
    exact ⟨rfl, b', c⟩
  · rw [if_neg hde, set_get, set_get, set_get, if_neg (by omega), if_neg (by omega), if_neg (by omega)]
    exact ⟨a, b', c⟩
theorem HeldB.set_path (hh : HeldB w h g) (hd : d < 8) (p : ByteArray) : HeldB (w.setCell ⟨h, d * 3 + 2, none⟩ (.string p)) h (upd g d ⟨(g d).is, (g d).snap, p⟩) := by
  obtain ⟨cur, h1, h2, h3⟩ := hh
  refine ⟨_, heap_setCell_row w h _ cur 29 _ h1, by rw [Array.size_setIfInBounds]; exact h2, fun e he => ?_⟩
  obtain ⟨a, b', c⟩ := h3 e he
  unfold upd
  by_cases hde : e = d
  · subst hde
    rw [if_pos rfl, set_get, set_get, set_get, if_neg (by omega), if_neg (by omega), if_pos rfl, if_pos (by omega)]
    exact ⟨a, b', rfl⟩
  · rw [if_neg hde, set_get, set_get, set_get, if_neg (by omega), if_neg (by omega), if_neg (by omega)]
    exact ⟨a, b', c⟩
theorem HeldB.set_snap (hh : HeldB w h g) (hd : d < 8) (p : ByteArray) : HeldB (w.setCell ⟨h, d * 3 + 1, none⟩ (.string p)) h (upd g d ⟨(g d).is, p, (g d).path⟩) := by
  obtain ⟨cur, h1, h2, h3⟩ := hh
  refine ⟨_, heap_setCell_row w h _ cur 29 _ h1, by rw [Array.size_setIfInBounds]; exact h2, fun e he => ?_⟩
  obtain ⟨a, b', c⟩ := h3 e he
  unfold upd
  by_cases hde : e = d
  · subst hde
    rw [if_pos rfl, set_get, set_get, set_get, if_neg (by omega), if_pos rfl, if_pos (by omega), if_neg (by omega)]
    exact ⟨a, rfl, c⟩
  · rw [if_neg hde, set_get, set_get, set_get, if_neg (by omega), if_neg (by omega), if_neg (by omega)]
    exact ⟨a, b', c⟩
theorem upd_upd (g : Nat → Held) (d : Nat) (x y : Held) : upd (upd g d x) d y = upd g d y := by
  funext j
  unfold upd
  split <;> rfl
theorem upd_at (g : Nat → Held) (d : Nat) (x : Held) : upd g d x d = x := by unfold upd; rw [if_pos rfl]
theorem HeldB.set_all (hh : HeldB w h g) (hd : d < 8) (b : Bool) (s p : ByteArray) : HeldB (((w.setCell ⟨h, d * 3, none⟩ (.bool b)).setCell ⟨h, d * 3 + 1, none⟩ (.string s)).setCell ⟨h, d * 3 + 2, none⟩ (.string p)) h (upd g d ⟨b, s, p⟩) := by
  have h1 := ((hh.set_is hd b).set_snap hd s).set_path hd p
  simp only [upd_upd, upd_at] at h1
  exact h1
theorem held_start (w : World) : HeldB (w.alloc (.cells #[.bool false, .string ⟨#[]⟩, .string ⟨#[]⟩, .bool false, .string ⟨#[]⟩, .string ⟨#[]⟩, .bool false, .string ⟨#[]⟩, .string ⟨#[]⟩, .bool false, .string ⟨#[]⟩, .string ⟨#[]⟩, .bool false, .string ⟨#[]⟩, .string ⟨#[]⟩, .bool false, .string ⟨#[]⟩, .string ⟨#[]⟩, .bool false, .string ⟨#[]⟩, .string ⟨#[]⟩, .bool false, .string ⟨#[]⟩, .string ⟨#[]⟩] 29)) w.heap.size (fun _ => ⟨false, ⟨#[]⟩, ⟨#[]⟩⟩) := by
  refine ⟨_, heap_alloc_new w _, rfl, fun d hd => ?_⟩
  rcases (by omega : d = 0 ∨ d = 1 ∨ d = 2 ∨ d = 3 ∨ d = 4 ∨ d = 5 ∨ d = 6 ∨ d = 7) with rfl | rfl | rfl | rfl | rfl | rfl | rfl | rfl <;> exact ⟨rfl, rfl, rfl⟩
end
/-- What holds between two acts: the table, the array, what they have to do with each other. -/
structure KS (w : World) (t h : Nat) (st : St) (F : Nat → Prop) (g : Nat → Held) (wr : World) : Prop where
  tab : Tab w.heap.size wr t true st F
  out : ¬ F h
  held : HeldB wr h g
  inv : Inv st g
  bel : Below w.heap.size w wr
  low : w.heap.size ≤ h
  sz : ∀ d, d < 8 → (g d).path.size ≤ 1000
def KR (w : World) (t h : Nat) (wr : World) : Prop := ∃ st F g, KS w t h st F g wr
section
variable {w wr w' : World} {t h d : Nat} {st st' : St} {F F' : Nat → Prop} {g g' : Nat → Held}
theorem KS.later (k : KS w t h st F g wr) (hb : Below wr.heap.size wr w') : KS w t h st F g w' :=
  ⟨k.tab.below hb, k.out, k.held.keep (hb.block h k.held.lt), k.inv, Below.trans k.bel (hb.mono k.bel.size), k.low, k.sz⟩
theorem KS.kr (k : KS w t h st F g wr) : KR w t h wr := ⟨_, _, _, k⟩
/-- A step of the table. -/
theorem KS.step (k : KS w t h st F g wr) (hT : Tab w.heap.size w' t true st' F') (hf : Fr F F' wr w') (hi : Inv st' g) : KS w t h st' F' g w' :=
  ⟨hT, fun hh => by
    rcases hf.sub h hh with h1 | h1
    · exact k.out h1
    · have := k.held.lt
      omega, k.held.keep (hf.keep h k.held.lt k.out), hi, Below.trans k.bel (k.tab.bframe hf k.bel.size), k.low, k.sz⟩
/-- A step of the table and its array: what must be told is not yet told anew. -/
theorem KS.step' (k : KS w t h st F g wr) (hT : Tab w.heap.size w' t true st' F') (hf : Fr F F' wr w') : Tab w.heap.size w' t true st' F' ∧ ¬ F' h ∧ HeldB w' h g ∧ Below w.heap.size w w' :=
  ⟨hT, fun hh => by
    rcases hf.sub h hh with h1 | h1
    · exact k.out h1
    · have := k.held.lt
      omega, k.held.keep (hf.keep h k.held.lt k.out), Below.trans k.bel (k.tab.bframe hf k.bel.size)⟩
theorem trim_calls (s : ByteArray) (w : World) (hs : s.size ≤ 1000) : Calls Tryd.prog 23 #[.string s, .string ⟨#[47]⟩] w fun e w' => e = .returned (.string ⟨(Lib.trimSuffix s.data.toList [47]).toArray⟩) ∧ w = w' :=
  (Tryd.strings_TrimSuffix s ⟨#[47]⟩ w (by omega)).mono fun e w' ⟨he, hw⟩ => ⟨he, hw.symm⟩
theorem KS.tells (k : KS w t h st F g wr) (j : Int) (s p : ByteArray) (W : World) (hb : Below wr.heap.size wr W) : Calls Tryd.prog 22 #[.pointer (some ⟨t, 0, none⟩), .int .i64 j, .string s, .string p] W fun e w' => e = .returned (.bool (tellsB st j s p)) ∧ Below W.heap.size W w' :=
  tells_tab (k.tab.below hb) j s p
theorem KS.of_ (k : KS w t h st F g wr) (j : Int) (W : World) (hb : Below wr.heap.size wr W) : Calls Tryd.prog 24 #[.pointer (some ⟨t, 0, none⟩), .int .i64 j] W fun e w' => ∃ v, e = .returned (.tuple #[.string (ofS st j).1, v, .int .i64 (ofS st j).2.2]) ∧ Below W.heap.size W w' :=
  (of_tab (k.tab.below hb) j).mono fun e w' ⟨v, he, _, hb'⟩ => ⟨v, he, hb'⟩
/-- A store into the array. -/
theorem tab_held (hT : Tab w.heap.size wr t true st F) (hn : ¬ F h) {i : Nat} {u : Value} : Tab w.heap.size (wr.setCell ⟨h, i, none⟩ u) t true st F :=
  hT.keep (fun k hk => Below.heap_setCell wr _ u k (fun e => hn (by have e' : k = h := e; rw [← e']; exact hk))) (by simp [World.setCell])
theorem bel_held (hb : Below w.heap.size w wr) (hl : w.heap.size ≤ h) {i : Nat} {u : Value} : Below w.heap.size w (wr.setCell ⟨h, i, none⟩ u) := hb.setCell hl u
end
theorem fits_short {l : List ByteArray} (h : shortB l = true) : fits l := by
  obtain ⟨h1, h2⟩ := shortB_of h
  exact fits_of l 100 (by omega) (by omega) h2
section
variable {w wr W w' w2 w3 : World} {t h d n : Nat} {st st' : St} {F F' : Nat → Prop} {g g' : Nat → Held} {s : ByteArray} {A A2 : Option Addr} {c c2 n2 : Nat} {l l2 : List ByteArray}
theorem KS.open_ (k : KS w t h st F g W) (hr : ActR w A c l) (hs : shortB l = true) (hn : n = l.length) (s : ByteArray) :
    Calls Tryd.prog 15 #[.pointer (some ⟨t, 0, none⟩), .string s, .slice A n c] W fun e w' => e = .returned (.tuple #[.int .i64 (openS st s l).2.1, .int .i64 (openS st s l).2.2]) ∧ ∃ F', Tab w.heap.size w' t true (openS st s l).1 F' ∧ Fr F F' W w' := by
  subst hn
  exact open_tab k.tab k.bel.size s A c l (Kd.C_below hr.2.1 k.bel) hr.1 (fits_short hs)
theorem KS.close (k : KS w t h st F g W) (d : Int) :
    Calls Tryd.prog 17 #[.pointer (some ⟨t, 0, none⟩), .int .i64 d] W fun e w' => e = .returned (.int .i64 (closeS st d).2) ∧ ∃ F', Tab w.heap.size w' t true (closeS st d).1 F' ∧ Fr F F' W w' := close_tab k.tab d
theorem KS.moved (k : KS w t h st F g W) (hr : ActR w A c l) (hs : shortB l = true) (hn : n = l.length) (hr2 : ActR w A2 c2 l2) (hs2 : shortB l2 = true) (hn2 : n2 = l2.length) :
    Calls Tryd.prog 18 #[.pointer (some ⟨t, 0, none⟩), .slice A n c, .slice A2 n2 c2] W fun e w' => e = .returned (.tuple #[]) ∧ ∃ F', Tab w.heap.size w' t true (movedS st l l2) F' ∧ Fr F F' W w' := by
  subst hn
  subst hn2
  have hap : ∀ (B : Option Addr) (q : List ByteArray), Kd.C Kd.string w B q.length q → 0 < q.length → ∀ a, B = some a → ¬ F a.block := fun B q hq h0 a ha hf => by
    obtain ⟨b, o, hB, hlt, _⟩ := c_cells hq h0
    rw [ha] at hB
    obtain rfl := Option.some.inj hB
    have := k.tab.lo _ hf
    have h2 : b < w.heap.size := hlt
    have h3 : w.heap.size ≤ b := this
    omega
  exact moved_tab' k.tab k.bel.size A c l A2 c2 l2 (Kd.C_below hr.2.1 k.bel) hr.1 (fits_short hs) (Kd.C_below hr2.2.1 k.bel) hr2.1 (fits_short hs2) (hap A l hr.2.1) (hap A2 l2 hr2.2.1)
theorem KS.right (k : KS w t h st F g W) (hr : ActR w A c l) (hs : shortB l = true) (hn : n = l.length) : Calls Tryd.prog 19 #[.slice A n c] W fun e w' => e = .returned (.bool (okP l)) ∧ Below W.heap.size W w' := by
  subst hn
  exact lawright_calls A c l W (Kd.C_below hr.2.1 k.bel) hr.1 (fits_short hs)
theorem ok_join_size {l : List ByteArray} (hl : okP l = true) : (joinB l ⟨#[47]⟩).size ≤ 102 := by
  obtain ⟨h1, h2, h3⟩ := okP_len hl
  rw [← Q.size_len, Q.joinB_data]
  have := join_len [47] 16 (l.map (·.data.toList)) (by
    intro x hx
    obtain ⟨y, hy, rfl⟩ := List.mem_map.1 hx
    rw [Q.size_len]
    exact name_size (List.all_eq_true.1 h3 y hy))
  rw [List.length_map] at this
  have h4 : l.length * (16 + [(47 : UInt8)].length) ≤ 6 * 17 := Nat.mul_le_mul h2 (by simp)
  simp only [Array.toList] at *
  omega
theorem KS.join (k : KS w t h st F g W) (hr : ActR w A c l) (hl : okP l = true) (hn : n = l.length) (W2 : World) (hb : Below W.heap.size W W2) : Calls Tryd.prog 16 #[.slice A n c, .string ⟨#[47]⟩] W2 fun e w' => e = .returned (.string (joinB l ⟨#[47]⟩)) ∧ Below W2.heap.size W2 w' := by
  subst hn
  exact join_row A c l _ W2 (Kd.C_below hr.2.1 (Below.trans k.bel (hb.mono k.bel.size))) hr.1 (by have := (okP_len hl).2.1; omega) (by have := ok_join_size hl; omega)
/-- Behind an Open: what must be told is written. -/
theorem KS.opened (k : KS w t h st F g W) {k0 : Nat} (hk0 : k0 < 8) (hT : Tab w.heap.size w2 t true (st.set k0 (some (s, l))) F') (hf : Fr F F' W w2) (hb : Below w2.heap.size w2 w3) (hl : okP l = true) :
    KR w t h (((w3.setCell ⟨h, k0 * 3, none⟩ (.bool true)).setCell ⟨h, k0 * 3 + 1, none⟩ (.string s)).setCell ⟨h, k0 * 3 + 2, none⟩ (.string (joinB l ⟨#[47]⟩ ++ ⟨#[47]⟩))) := by
  obtain ⟨h1, h2, h3, h4⟩ := k.step' hT hf
  have hne : l ≠ [] := by
    rintro rfl
    cases hl
  refine ⟨_, F', _, tab_held (tab_held (tab_held (h1.below hb) h2) h2) h2, h2, (h3.keep (hb.block h h3.lt)).set_all hk0 _ _ _, k.inv.put k.tab.sl k0 hk0 ⟨rfl, rfl, joinB_cat l hne, hl⟩,
    bel_held (bel_held (bel_held (Below.trans h4 (hb.mono h4.size)) k.low) k.low) k.low, k.low, fun d hd => ?_⟩
  unfold upd
  split
  · have := ok_join_size hl
    show (joinB l ⟨#[47]⟩ ++ ⟨#[47]⟩).size ≤ 1000
    rw [ByteArray.size_append]
    have : (⟨#[47]⟩ : ByteArray).size = 1 := rfl
    omega
  · exact k.sz d hd
/-- Behind a Close: nothing must be told any more. -/
theorem KS.closed (k : KS w t h st F g W) {k0 : Nat} (hk0 : k0 < 8) (hT : Tab w.heap.size w2 t true st' F') (hf : Fr F F' W w2) (hi : ∀ x, x.is = false → Inv st' (upd g k0 x)) : KR w t h (w2.setCell ⟨h, k0 * 3, none⟩ (.bool false)) := by
  obtain ⟨h1, h2, h3, h4⟩ := k.step' hT hf
  refine ⟨_, F', _, tab_held h1 h2, h2, h3.set_is hk0 false, hi _ rfl, bel_held h4 k.low, k.low, fun d hd => ?_⟩
  unfold upd
  split
  · exact k.sz k0 hk0
  · exact k.sz d hd
theorem KS.closed_yes (k : KS w t h st F g W) {k0 : Nat} (hk0 : k0 < 8) (hT : Tab w.heap.size w2 t true (st.set k0 none) F') (hf : Fr F F' W w2) : KR w t h (w2.setCell ⟨h, k0 * 3, none⟩ (.bool false)) :=
  k.closed hk0 hT hf (fun x hx => k.inv.put k.tab.sl k0 hk0 hx)
theorem KS.closed_no (k : KS w t h st F g W) {k0 : Nat} (hk0 : k0 < 8) (hT : Tab w.heap.size w2 t true st F') (hf : Fr F F' W w2) (hn : st[k0]? = some none) : KR w t h (w2.setCell ⟨h, k0 * 3, none⟩ (.bool false)) :=
  k.closed hk0 hT hf (fun x hx d hd => by
    unfold upd
    split
    · rename_i e
      subst e
      rw [List.getD_eq_getElem?_getD, hn]
      exact hx
    · exact k.inv d hd)
theorem KS.at_none (k : KS w t h st F g W) {k0 : Nat} (hk0 : k0 < 8) (hn : st[k0]? = some none) : (g k0).is = false := by
  have := k.inv k0 hk0
  rw [List.getD_eq_getElem?_getD, hn] at this
  exact this
theorem KS.at_some (k : KS w t h st F g W) {k0 : Nat} (hk0 : k0 < 8) {x : Ent} (hn : st[k0]? = some (some x)) : (g k0).is = true := by
  have := k.inv k0 hk0
  rw [List.getD_eq_getElem?_getD, hn] at this
  exact this.1
theorem closeS_out {d : Int} (h : ¬ (0 ≤ d ∧ d < 8)) : closeS st d = (st, 12) := by
  unfold closeS atS
  rw [if_neg h]
theorem closeS_none {k0 : Nat} (hk0 : k0 < 8) (he : st[k0]? = some none) : closeS st (k0 : Int) = (st, 12) := by
  have h1 : atS st (k0 : Int) = none := by
    unfold atS
    rw [if_pos (by omega), Int.toNat_natCast, List.getD_eq_getElem?_getD, he]
    rfl
  unfold closeS
  rw [h1]
theorem closeS_some {k0 : Nat} (hk0 : k0 < 8) {x : Ent} (he : st[k0]? = some (some x)) : closeS st (k0 : Int) = (st.set k0 none, 0) := by
  have h1 : atS st (k0 : Int) = some x := by
    unfold atS
    rw [if_pos (by omega), Int.toNat_natCast, List.getD_eq_getElem?_getD, he]
    rfl
  unfold closeS
  rw [h1, Int.toNat_natCast]
/-- What Close answers, among the acts. -/
def ClP (w : World) (t : Nat) (F : Nat → Prop) (st' : St) (er : Int) (W : World) (e : Ending) (w' : World) : Prop := e = .returned (.int .i64 er) ∧ ∃ F', Tab w.heap.size w' t true st' F' ∧ Fr F F' W w'
theorem close_out (k : KS w t h st F g W) {d : Int} (hd : ¬ (0 ≤ d ∧ d < 8)) (W2 : World) (hb : Below W.heap.size W W2) : Calls Tryd.prog 17 #[.pointer (some ⟨t, 0, none⟩), .int .i64 d] W2 fun e w' => e = .returned (.int .i64 12) ∧ ∃ F', Tab w.heap.size w' t true st F' ∧ Fr F F' W2 w' := by
  have := (k.later hb).close d
  rw [closeS_out hd] at this
  exact this
theorem close_none (k : KS w t h st F g W) {k0 : Nat} (hk0 : k0 < 8) (he : st[k0]? = some none) (W2 : World) (hb : Below W.heap.size W W2) : Calls Tryd.prog 17 #[.pointer (some ⟨t, 0, none⟩), .int .i64 (k0 : Int)] W2 fun e w' => e = .returned (.int .i64 12) ∧ ∃ F', Tab w.heap.size w' t true st F' ∧ Fr F F' W2 w' := by
  have := (k.later hb).close (k0 : Int)
  rw [closeS_none hk0 he] at this
  exact this
theorem close_some (k : KS w t h st F g W) {k0 : Nat} (hk0 : k0 < 8) {x : Ent} (he : st[k0]? = some (some x)) (W2 : World) (hb : Below W.heap.size W W2) : Calls Tryd.prog 17 #[.pointer (some ⟨t, 0, none⟩), .int .i64 (k0 : Int)] W2 fun e w' => e = .returned (.int .i64 0) ∧ ∃ F', Tab w.heap.size w' t true (st.set k0 none) F' ∧ Fr F F' W2 w' := by
  have := (k.later hb).close (k0 : Int)
  rw [closeS_some hk0 he] at this
  exact this
theorem and7 (k : Nat) (hk : k < 8) : Go.bits .and .i64 (k : Int) 7 = (k : Int) := by
  rcases (by omega : k = 0 ∨ k = 1 ∨ k = 2 ∨ k = 3 ∨ k = 4 ∨ k = 5 ∨ k = 6 ∨ k = 7) with rfl | rfl | rfl | rfl | rfl | rfl | rfl | rfl <;> decide
theorem join_later (k : KS w t h st F g W) (hT : Tab w.heap.size w2 t true st' F') (hf : Fr F F' W w2) (hr : ActR w A c l) (hl : okP l = true) (hn : n = l.length) (W2 : World) (hb : Below w2.heap.size w2 W2) : Calls Tryd.prog 16 #[.slice A n c, .string ⟨#[47]⟩] W2 fun e w' => e = .returned (.string (joinB l ⟨#[47]⟩)) ∧ Below W2.heap.size W2 w' := by
  subst hn
  have hb2 := (k.step' hT hf).2.2.2
  exact join_row A c l _ W2 (Kd.C_below hr.2.1 (Below.trans hb2 (hb.mono hb2.size))) hr.1 (by have := (okP_len hl).2.1; omega) (by have := ok_join_size hl; omega)
/-- A table's step that leaves what it holds. -/
theorem KS.kept (k : KS w t h st F g W) (hT : Tab w.heap.size w2 t true st F') (hf : Fr F F' W w2) : KS w t h st F' g w2 := k.step hT hf k.inv
end
theorem heldMoved_no {a b : List ByteArray} {x : Held} {P : ByteArray} (hP : P.data.toList = catL a) (h : ¬ (x.is = true ∧ Lib.hasPrefix x.path.data.toList P.data.toList = true ∧ x.snap.toList = [])) : heldMoved a b x = x := by
  unfold heldMoved
  rw [← hP]
  exact if_neg h
theorem heldMoved_yes {a b : List ByteArray} {gs gp P Q : ByteArray} (hP : P.data.toList = catL a) (hQ : Q.data.toList = catL b) (hin : Lib.hasPrefix gp.data.toList P.data.toList = true) (hs : gs.toList = []) :
    heldMoved a b ⟨true, gs, gp⟩ = ⟨decide (Lib.countByte (Q ++ ⟨(Lib.trimPrefix gp.data.toList P.data.toList).toArray⟩).data.toList 47 ≤ 6), gs, Q ++ ⟨(Lib.trimPrefix gp.data.toList P.data.toList).toArray⟩⟩ := by
  unfold heldMoved
  rw [← hP, ← hQ, if_pos ⟨rfl, hin, hs⟩]
  have e : (Q ++ ⟨(Lib.trimPrefix gp.data.toList P.data.toList).toArray⟩ : ByteArray).data.toList = Q.data.toList ++ Lib.trimPrefix gp.data.toList P.data.toList   := by simp
  have e2 : (⟨(Q.data.toList ++ Lib.trimPrefix gp.data.toList P.data.toList).toArray⟩ : ByteArray) = Q ++ ⟨(Lib.trimPrefix gp.data.toList P.data.toList).toArray⟩ := WideShapes.bytes_inj (by rw [e])
  rw [e2, e]
  rfl
section
variable {w wr W wx : World} {t h j : Nat} {st : St} {F F2 : Nat → Prop} {g : Nat → Held} {a b : List ByteArray}
theorem catL_size {l : List ByteArray} (hl : okP l = true) : (catL l).length ≤ 103 := by
  have hne : l ≠ [] := by
    rintro rfl
    cases hl
  rw [← joinB_cat l hne, Q.size_len, ByteArray.size_append]
  have := ok_join_size hl
  have : (⟨#[47]⟩ : ByteArray).size = 1 := rfl
  omega
theorem trimPrefix_le (s p : List UInt8) : (Lib.trimPrefix s p).length ≤ s.length := by
  unfold Lib.trimPrefix
  split
  · rw [List.length_drop]
    omega
  · exact Nat.le_refl _
theorem heldMoved_size {o : Option Ent} {x : Held} (hh : HR o x) (hs : x.path.size ≤ 1000) (hb : okP b = true) : (heldMoved a b x).path.size ≤ 1000 := by
  unfold heldMoved
  split
  · rename_i hc
    cases o with
    | none => rw [show x.is = false from hh] at hc; exact absurd hc.1 (by decide)
    | some p =>
      obtain ⟨s, l⟩ := p
      show (catL b ++ Lib.trimPrefix x.path.data.toList (catL a)).length ≤ 1000
      rw [List.length_append]
      have h1 := catL_size hb
      have h2 := trimPrefix_le x.path.data.toList (catL a)
      rw [hh.2.2.1] at h2 ⊢
      have h3 := catL_size hh.2.2.2
      omega
  · exact hs
theorem KS.small (k : KS w t h st F g W) (hj : j < 8) (hi : (g j).is = true) : (g j).path.size ≤ 103 := by
  have := k.inv j hj
  cases he : st.getD j none with
  | none => rw [he] at this; rw [show (g j).is = false from this] at hi; cases hi
  | some p =>
    obtain ⟨s, l⟩ := p
    rw [he] at this
    rw [← Q.size_len, this.2.2.1]
    exact catL_size this.2.2.2
/-- The array while a Move is told to it: j of eight are done. -/
def gMv (a b : List ByteArray) (g : Nat → Held) (j : Nat) : Nat → Held := fun d => if d < j then heldMoved a b (g d) else g d
structure ML (w : World) (t h : Nat) (st' : St) (F2 : Nat → Prop) (a b : List ByteArray) (g : Nat → Held) (j : Nat) (wx : World) : Prop where
  tab : Tab w.heap.size wx t true st' F2
  out : ¬ F2 h
  held : HeldB wx h (gMv a b g j)
  bel : Below w.heap.size w wx
  low : w.heap.size ≤ h
theorem gMv_at (a b : List ByteArray) (g : Nat → Held) (j : Nat) : gMv a b g j j = g j := by
  unfold gMv
  rw [if_neg (by omega)]
theorem gMv_succ (a b : List ByteArray) (g : Nat → Held) (j : Nat) : gMv a b g (j + 1) = upd (gMv a b g j) j (heldMoved a b (g j)) := by
  funext d
  unfold gMv upd
  by_cases h1 : d = j
  · subst h1
    rw [if_pos (by omega), if_pos rfl]
  · by_cases h2 : d < j
    · rw [if_pos (by omega), if_neg h1]
      exact (if_pos h2).symm
    · rw [if_neg (by omega), if_neg h1]
      exact (if_neg h2).symm
theorem upd_same (g : Nat → Held) (j : Nat) : upd g j (g j) = g := by
  funext d
  unfold upd
  split
  · rename_i e; rw [e]
  · rfl
theorem ML.same {st' : St} (m : ML w t h st' F2 a b g j wx) (hm : heldMoved a b (g j) = g j) : ML w t h st' F2 a b g (j + 1) wx :=
  ⟨m.tab, m.out, by rw [gMv_succ, hm]; have := upd_same (gMv a b g j) j; rw [gMv_at] at this; rw [this]; exact m.held, m.bel, m.low⟩
theorem ML.put {st' : St} (m : ML w t h st' F2 a b g j wx) (hj : j < 8) {bb : Bool} {p : ByteArray} (hm : heldMoved a b (g j) = ⟨bb, (g j).snap, p⟩) : ML w t h st' F2 a b g (j + 1) ((wx.setCell ⟨h, j * 3 + 2, none⟩ (.string p)).setCell ⟨h, j * 3, none⟩ (.bool bb)) := by
  refine ⟨tab_held (tab_held m.tab m.out) m.out, m.out, ?_, bel_held (bel_held m.bel m.low) m.low, m.low⟩
  have h1 := (m.held.set_path hj p).set_is hj bb
  simp only [upd_upd, upd_at, gMv_at] at h1
  rw [gMv_succ, hm]
  exact h1
theorem ML.start (k : KS w t h st F g W) {st' : St} (hT : Tab w.heap.size wx t true st' F2) (hf : Fr F F2 W wx) : ML w t h st' F2 a b g 0 wx := by
  obtain ⟨h1, h2, h3, h4⟩ := k.step' hT hf
  exact ⟨h1, h2, by have e : gMv a b g 0 = g := (by funext d; unfold gMv; rw [if_neg (by omega)]); rw [e]; exact h3, h4, k.low⟩
theorem ML.later {st' : St} {wy : World} (m : ML w t h st' F2 a b g j wx) (hb : Below wx.heap.size wx wy) : ML w t h st' F2 a b g j wy :=
  ⟨m.tab.below hb, m.out, m.held.keep (hb.block h m.held.lt), Below.trans m.bel (hb.mono m.bel.size), m.low⟩
theorem ML.fin (k : KS w t h st F g W) (ha : okP a = true) (hb : okP b = true) (m : ML w t h (movedS st a b) F2 a b g 8 wx) : KR w t h wx :=
  ⟨_, F2, _, m.tab, m.out, m.held, fun d hd => by
    unfold gMv
    rw [if_pos hd]
    exact k.inv.moved k.tab.sl ha hb d hd, m.bel, m.low, fun d hd => by
    unfold gMv
    rw [if_pos hd]
    exact heldMoved_size (k.inv d hd) (k.sz d hd) hb⟩
theorem right_at {A : Option Addr} {c n : Nat} {l : List ByteArray} (hb : Below w.heap.size w W) (hr : ActR w A c l) (hs : shortB l = true) (hn : n = l.length) : Calls Tryd.prog 19 #[.slice A n c] W fun e w' => e = .returned (.bool (okP l)) ∧ Below W.heap.size W w' := by
  subst hn
  exact lawright_calls A c l W (Kd.C_below hr.2.1 hb) hr.1 (fits_short hs)
theorem join_at {A : Option Addr} {c n : Nat} {l : List ByteArray} (hb : Below w.heap.size w W) (hr : ActR w A c l) (hl : okP l = true) (hn : n = l.length) : Calls Tryd.prog 16 #[.slice A n c, .string ⟨#[47]⟩] W fun e w' => e = .returned (.string (joinB l ⟨#[47]⟩)) ∧ Below W.heap.size W w' := by
  subst hn
  exact join_row A c l _ W (Kd.C_below hr.2.1 hb) hr.1 (by have := (okP_len hl).2.1; omega) (by have := ok_join_size hl; omega)
theorem cut_calls (s p : ByteArray) (W : World) : Calls Tryd.prog 20 #[.string s, .string p] W fun e w' => e = .returned (.tuple #[.string ⟨(Lib.trimPrefix s.data.toList p.data.toList).toArray⟩, .bool (Lib.hasPrefix s.data.toList p.data.toList)]) ∧ W = w' :=
  (Tryd.strings_CutPrefix s p W).mono fun e w' ⟨he, hw⟩ => ⟨he, hw.symm⟩
theorem count_calls (s : ByteArray) (W : World) : Calls Tryd.prog 21 #[.string s, .string ⟨#[47]⟩] W fun e w' => e = .returned (.int .i64 (Lib.countByte s.data.toList 47)) ∧ W = w' :=
  (Tryd.strings_Count_one s 47 W).mono fun e w' ⟨he, hw⟩ => ⟨he, hw.symm⟩
end
/-- An act's box. -/
def boxA (x : Act) (A1 : Option Addr) (c1 : Nat) (A2 : Option Addr) (c2 : Nat) : Obj := .cells #[.int .u8 x.what, .string x.snap, .slice A1 x.a.length c1, .slice A2 x.b.length c2, .int .i64 x.d, .int .i64 x.ask] 32
end Go.Proofs.YthafpbidfgmacaaDoor.Hd

