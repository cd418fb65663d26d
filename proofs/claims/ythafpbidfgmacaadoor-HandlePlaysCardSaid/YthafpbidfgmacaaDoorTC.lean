/- Texts put together by merge.py: T9,T10,T11,T12. -/
import Derived.Test.YthafpbidfgmacaaDoorTB
/- The walks of small functions of the laws: names, opens, tells, given, works, right. -/
namespace Go.Proofs.YthafpbidfgmacaaDoor.Hd
open Go.RowKit Go.Proofs.YthafpbidfgmacaaDoor Go.Proofs.YthafpbidfgmacaaDoorW.PrintWords Go.Proofs.YthafpbidfgmacaaDoorW.PrintLast Go.Proofs.YthafpbidfgmacaaDoorW.PrintMore
set_option linter.unusedVariables false
set_option linter.unusedSimpArgs false

theorem moved_tab {B : Nat} {w : World} {t : Nat} {st : St} {F : Nat → Prop} (h : Tab B w t true st F) (hB : B ≤ w.heap.size) (A1 : Option Addr) (c1 : Nat) (l1 : List ByteArray) (A2 : Option Addr) (c2 : Nat) (l2 : List ByteArray)
    (hr1 : Kd.C Kd.string w A1 l1.length l1) (hc1 : l1.length ≤ c1) (hf1 : fits l1) (hr2 : Kd.C Kd.string w A2 l2.length l2) (hc2 : l2.length ≤ c2) (hf2 : fits l2) (ha1 : ∀ a, A1 = some a → ¬ F a.block) (ha2 : ∀ a, A2 = some a → ¬ F a.block) :
    Calls Tryd.prog 18 #[.pointer (some ⟨t, 0, none⟩), .slice A1 l1.length c1, .slice A2 l2.length c2] w (MovedP B F t st l1 l2 w) := by
  by_cases hn : okP l1 = true ∧ okP l2 = true
  · obtain ⟨h1, h2⟩ := hn
    obtain ⟨b1, o1, rfl, _, r1⟩ := c_cells hr1 (okP_len h1).1
    obtain ⟨b2, o2, rfl, _, r2⟩ := c_cells hr2 (okP_len h2).1
    exact moved_yes h hB b1 o1 c1 l1 b2 o2 c2 l2 r1 hc1 r2 hc2 (ha1 _ rfl) (ha2 _ rfl) h1 h2
  · exact moved_not h A1 c1 l1 A2 c2 l2 hr1 hc1 hf1 hr2 hc2 hf2 hn

/-- What 'names' tells of a text. -/
def namesL (s : ByteArray) : List ByteArray := if s.toList = [] then [] else Lib.splitB ⟨#[47]⟩ 0 (Lib.countB s ⟨#[47]⟩) s
/-- A slice of strings of the call's own, or nil. -/
def NewS (w : World) (v : Value) (l : List ByteArray) (w' : World) : Prop := ∃ A c, v = .slice A l.length c ∧ l.length ≤ c ∧ Kd.C Kd.string w' A l.length l ∧ (∀ a, A = some a → w.heap.size ≤ a.block) ∧ Below w.heap.size w w'
theorem news_of_R {w w' : World} {v : Value} {l : List ByteArray} (h : Kd.R Kd.string 9 w' w.heap.size (fun _ => True) v l) (hb : Below w.heap.size w w') : NewS w v l w' := by
  obtain ⟨A, c, rfl, hc, hC⟩ := Kd.R_reads h
  obtain ⟨inner, ho⟩ := Kd.R_own h
  exact ⟨A, c, rfl, hc, hC, fun a ha => own_base ho a.block (by rw [ha]; rfl), hb⟩
theorem names_is (s : ByteArray) (hs : s.size < 4294967281) (h : s.toList ≠ []) : splitF s ⟨#[47]⟩ = some (namesL s) := by
  unfold splitF namesL
  rw [if_pos ⟨rfl, hs⟩, if_neg h]
set_option maxHeartbeats 1000000 in
theorem names_calls (s : ByteArray) (w : World) (hs : s.size < 4294967281) : Calls Tryd.prog 55 #[.string s] w fun e w' => ∃ v, e = .returned v ∧ NewS w v (namesL s) w' := by
  by_cases h : s.toList = []
  · have e1 : s.toList.isEmpty = true := by rw [h]; rfl
    have e2 : namesL s = [] := by unfold namesL; rw [if_pos h]
    rw [e2]
    clear h e2
    go_enter Tryd.func55, Tryd.ntmps55
    go_wp2
    go_ret
    exact ⟨_, rfl, news_of_R (Kd.R_nil _ _ _ _ _) (Below.refl _ _)⟩
  · have e1 : s.toList.isEmpty = false := by simpa using h
    have hc := Lib.hid (split_calls s ⟨#[47]⟩ (namesL s) w (names_is s hs h))
    clear h
    generalize namesL s = L at *
    go_enter Tryd.func55, Tryd.ntmps55
    go_wp2_with (go_at_call 73; refine hc.out.mono ?_; rintro e w1 ⟨v, rfl, hr, hb⟩)
    go_ret
    exact ⟨_, rfl, news_of_R hr hb⟩

/-- Whether a descriptor tells this. -/
def tellsB (st : St) (d : Int) (s p : ByteArray) : Bool := ((ofS st d).1.toList == s.toList) && (((joinB (ofS st d).2.1 ⟨#[47]⟩).toList == p.toList) && ((ofS st d).2.2 == 0))
theorem join_row (A : Option Addr) (c : Nat) (l : List ByteArray) (sep : ByteArray) (w : World) (hr : Kd.C Kd.string w A l.length l) (hc : l.length ≤ c) (h1 : l.length ≤ 1000) (h2 : (joinB l sep).size ≤ 1000000) :
    Calls Tryd.prog 16 #[.slice A l.length c, .string sep] w fun e w' => e = .returned (.string (joinB l sep)) ∧ Below w.heap.size w w' :=
  join_calls A c l sep _ w hr hc (by unfold joinF; rw [if_pos ⟨by omega, by omega⟩])
theorem ofS_small {B : Nat} {w : World} {t : Nat} {st : St} {F : Nat → Prop} (h : Tab B w t true st F) (d : Int) : (ofS st d).2.1.length ≤ 6 ∧ (joinB (ofS st d).2.1 ⟨#[47]⟩).size ≤ 1000 := by
  obtain ⟨vs, h⟩ := h
  have hs := atS_ptr h d
  unfold ofS
  cases he : atS st d with
  | none => exact ⟨by simp, by rw [← Q.size_len, Q.joinB_data]; simp [Lib.join_nil]⟩
  | some p =>
    obtain ⟨s, l⟩ := p
    rw [he] at hs
    obtain ⟨h1, h2, h3⟩ := okP_len hs.1
    refine ⟨h2, ?_⟩
    rw [← Q.size_len, Q.joinB_data]
    have := join_len [47] 16 (l.map (·.data.toList)) (by
      intro x hx
      obtain ⟨y, hy, rfl⟩ := List.mem_map.1 hx
      rw [Q.size_len]
      exact name_size (List.all_eq_true.1 h3 y hy))
    rw [List.length_map] at this
    have h4 : l.length * (16 + [(47 : UInt8)].length) ≤ 6 * 17 := Nat.mul_le_mul h2 (by simp)
    simp only [Array.toList] at *
    omega
set_option maxHeartbeats 1000000 in
theorem tells_tab {B : Nat} {w : World} {t : Nat} {st : St} {F : Nat → Prop} (h : Tab B w t true st F) (d : Int) (s p : ByteArray) :
    Calls Tryd.prog 22 #[.pointer (some ⟨t, 0, none⟩), .int .i64 d, .string s, .string p] w fun e w' => e = .returned (.bool (tellsB st d s p)) ∧ Below w.heap.size w w' := by
  have ho := Lib.hid (of_tab h d)
  obtain ⟨z1, z2⟩ := ofS_small h d
  have Z1 := Lib.hid z1
  have Z2 := Lib.hid z2
  unfold tellsB
  clear h z1 z2
  generalize ofS st d = r at *
  obtain ⟨r1, l, r3⟩ := r
  simp only at Z1 Z2 ⊢
  have HJ : Hid (∀ (v : Value) (w' : World), Kd.R Kd.string 9 w' w.heap.size (fun _ => True) v l → Below w.heap.size w w' → ∃ A c, v = .slice A l.length c ∧ Calls Tryd.prog 16 #[.slice A l.length c, .string ⟨#[47]⟩] w' fun e w2 => e = .returned (.string (joinB l ⟨#[47]⟩)) ∧ Below w.heap.size w w2) := by
    intro v w' hR hb
    obtain ⟨A, c, rfl, hc, hC⟩ := Kd.R_reads hR
    exact ⟨A, c, rfl, (join_row A c l _ w' hC hc (by have := Z1.out; omega) (by have := Z2.out; omega)).mono fun e w2 ⟨he, hb2⟩ => ⟨he, Below.trans hb (hb2.mono hb.size)⟩⟩
  generalize joinB l ⟨#[47]⟩ = j at *
  go_enter Tryd.func22, Tryd.ntmps22
  go_wp2_with (first | (go_at_call 24; refine ho.out.mono ?_; rintro e w1 ⟨v, rfl, hR, hb⟩; obtain ⟨A, c, rfl, hJ⟩ := HJ.out v w1 hR hb; have HJ1 := Lib.hid hJ; have HB1 := Lib.hid hb; clear hJ hb hR) | (go_at_call 16; refine HJ1.out.mono ?_; rintro e w2 ⟨rfl, hb⟩))
  all_goals
    go_ret
    refine ⟨ret_bool ?_, by first | assumption | exact HB1.out⟩
    simp [*]
end Go.Proofs.YthafpbidfgmacaaDoor.Hd

/- Several tables at once, and what each call makes of one of them. -/
namespace Go.Proofs.YthafpbidfgmacaaDoor.Hd
open Go.RowKit Go.Proofs.YthafpbidfgmacaaDoor Go.Proofs.YthafpbidfgmacaaDoorW.PrintWords Go.Proofs.YthafpbidfgmacaaDoorW.PrintLast Go.Proofs.YthafpbidfgmacaaDoorW.PrintMore
set_option linter.unusedVariables false
set_option linter.unusedSimpArgs false

abbrev Tb := Nat × Bool × St
/-- Tables whose blocks, all from B on, are apart. -/
def Tabs (B : Nat) (w : World) (L : List Tb) : Prop :=
  ∃ G : Nat → Nat → Prop, (∀ i t made st, L[i]? = some (t, made, st) → Tab B w t made st (G i)) ∧ ∀ i j g, i ≠ j → i < L.length → j < L.length → G i g → ¬ G j g
section
variable {B : Nat} {w w' : World} {L : List Tb}
theorem Tabs.nil (B : Nat) (w : World) : Tabs B w [] := ⟨fun _ _ => False, fun i t made st h => by simp at h, fun i j g _ h => by simp at h⟩
theorem Tabs.below (h : Tabs B w L) (hb : Below w.heap.size w w') : Tabs B w' L := by
  obtain ⟨G, h1, h2⟩ := h
  exact ⟨G, fun i t made st hi => (h1 i t made st hi).below hb, h2⟩
theorem Tabs.at_ (h : Tabs B w L) {i t : Nat} {made : Bool} {st : St} (hi : L[i]? = some (t, made, st)) : ∃ F, Tab B w t made st F := by
  obtain ⟨G, h1, _⟩ := h
  exact ⟨_, h1 i t made st hi⟩
/-- One table has taken a step. -/
theorem tabs_set {G : Nat → Nat → Prop} {F' : Nat → Prop} (h1 : ∀ i t made st, L[i]? = some (t, made, st) → Tab B w t made st (G i)) (h2 : ∀ i j g, i ≠ j → i < L.length → j < L.length → G i g → ¬ G j g) (hB : B ≤ w.heap.size) {i t : Nat} {st st' : St} (hi : L[i]? = some (t, true, st))
    (hT' : Tab B w' t true st' F') (hf : Fr (G i) F' w w') : Tabs B w' (L.set i (t, true, st')) ∧ Below B w w' := by
  have hT := h1 i t true st hi
  have hil := (List.getElem?_eq_some_iff.1 hi).1
  refine ⟨⟨fun j => if j = i then F' else G j, fun j t1 made1 st1 hj => ?_, fun j k g hne hj hk hg => ?_⟩, hT.bframe hf hB⟩
  · by_cases hji : j = i
    · subst hji
      rw [List.getElem?_set_self hil] at hj
      have hj' := Option.some.inj hj
      simp only [Prod.mk.injEq] at hj'
      obtain ⟨rfl, rfl, rfl⟩ := hj'
      show Tab B w' t true st' (if j = j then F' else G j)
      rw [if_pos rfl]
      exact hT'
    · rw [List.getElem?_set_ne (fun e => hji e.symm)] at hj
      have hT1 := h1 j t1 made1 st1 hj
      have hjl := (List.getElem?_eq_some_iff.1 hj).1
      show Tab B w' t1 made1 st1 (if j = i then F' else G j)
      rw [if_neg hji]
      exact hT1.other hf (fun g hg => h2 j i g hji hjl hil hg)
  · rw [List.length_set] at hj hk
    simp only at hg ⊢
    by_cases hji : j = i
    · subst hji
      rw [if_pos rfl] at hg
      rw [if_neg (fun e => hne e.symm)]
      intro hgk
      rcases hf.sub g hg with h3 | h3
      · exact h2 j k g hne hj hk h3 hgk
      · obtain ⟨⟨t2, m2, s2⟩, hx⟩ : ∃ x, L[k]? = some x := ⟨_, List.getElem?_eq_getElem hk⟩
        have := ((h1 k t2 m2 s2 hx).rng g hgk).2
        omega
    · rw [if_neg hji] at hg
      by_cases hki : k = i
      · subst hki
        rw [if_pos rfl]
        intro hgF
        obtain ⟨⟨t2, m2, s2⟩, hx⟩ : ∃ x, L[j]? = some x := ⟨_, List.getElem?_eq_getElem hj⟩
        rcases hf.sub g hgF with h3 | h3
        · exact h2 j k g hne hj hk hg h3
        · have := ((h1 j t2 m2 s2 hx).rng g hg).2
          omega
      · rw [if_neg hki]
        exact h2 j k g hne hj hk hg
/-- A new table. -/
theorem Tabs.more (h : Tabs B w L) (hB : B ≤ w.heap.size) {t : Nat} {made : Bool} {st : St} {F : Nat → Prop} (hT : Tab w.heap.size w' t made st F) (hb : Below w.heap.size w w') : Tabs B w' (L ++ [(t, made, st)]) := by
  obtain ⟨G, h1, h2⟩ := h
  have hlow : ∀ j, j < L.length → ∀ g, G j g → g < w.heap.size := fun j hj g hg => by
    obtain ⟨⟨t2, m2, s2⟩, hx⟩ : ∃ x, L[j]? = some x := ⟨_, List.getElem?_eq_getElem hj⟩
    exact ((h1 j t2 m2 s2 hx).rng g hg).2
  refine ⟨fun j => if j = L.length then F else G j, fun j t1 made1 st1 hj => ?_, fun j k g hne hj hk hg => ?_⟩
  · by_cases hjl : j < L.length
    · rw [List.getElem?_append_left hjl] at hj
      show Tab B w' t1 made1 st1 (if j = L.length then F else G j)
      rw [if_neg (by omega)]
      exact (h1 j t1 made1 st1 hj).below hb
    · obtain rfl : j = L.length := by have := (List.getElem?_eq_some_iff.1 hj).1; simp at this; omega
      rw [List.getElem?_append_right (Nat.le_refl _)] at hj
      simp at hj
      obtain ⟨rfl, rfl, rfl⟩ := hj
      show Tab B w' t made st (if L.length = L.length then F else G L.length)
      rw [if_pos rfl]
      obtain ⟨vs, hv⟩ := hT
      exact ⟨vs, hv.vl, hv.sl, hv.blk, hv.ft, fun g hg => ⟨by have := (hv.rng g hg).1; omega, (hv.rng g hg).2⟩, hv.slot, hv.inj⟩
  · simp only [List.length_append, List.length_cons, List.length_nil] at hj hk
    simp only at hg ⊢
    by_cases h3 : j = L.length
    · rw [if_pos h3] at hg
      rw [if_neg (by omega)]
      intro hgk
      have := hlow k (by omega) g hgk
      have := (hT.rng g hg).1
      omega
    · rw [if_neg h3] at hg
      by_cases h4 : k = L.length
      · rw [if_pos h4]
        intro hgF
        have := hlow j (by omega) g hg
        have := (hT.rng g hgF).1
        omega
      · rw [if_neg h4]
        exact h2 j k g hne (by omega) (by omega) hg

/-! What the calls make of a table, among others. W0: the world in which the tables were told; since then only new blocks came. -/
variable {W0 : World} {i t : Nat} {st st' : St}
theorem Tabs.new (h : Tabs B W0 L) (hb : Below W0.heap.size W0 w) (hB : B ≤ W0.heap.size) : Calls Tryd.prog 14 #[] w fun e w' => e = .returned (.pointer (some ⟨w.heap.size, 0, none⟩)) ∧ Tabs B w' (L ++ [(w.heap.size, true, newS)]) ∧ Below w.heap.size w w' :=
  (new_calls w).mono fun e w' ⟨he, hT, hb'⟩ => ⟨he, (h.below hb).more (Nat.le_trans hB hb.size) hT hb', hb'⟩
theorem Tabs.open_ (h : Tabs B W0 L) (hb : Below W0.heap.size W0 w) (hB : B ≤ W0.heap.size) (hi : L[i]? = some (t, true, st)) {s : ByteArray} {A0 : Option Addr} {c0 : Nat} {l0 : List ByteArray} {d er : Int} (hr0 : Kd.C Kd.string w A0 l0.length l0) (hc0 : l0.length ≤ c0) (hf : fits l0) (ho : openS st s l0 = (st', d, er)) :
    Calls Tryd.prog 15 #[.pointer (some ⟨t, 0, none⟩), .string s, .slice A0 l0.length c0] w fun e w' => e = .returned (.tuple #[.int .i64 d, .int .i64 er]) ∧ Tabs B w' (L.set i (t, true, st')) ∧ Below B w w' := by
  obtain ⟨G, h1, h2⟩ := h
  have hT := (h1 i t true st hi).below hb
  refine (open_tab hT (Nat.le_trans hB hb.size) s A0 c0 l0 hr0 hc0 hf).mono ?_
  rintro e w' ⟨he, F', hT', hf'⟩
  rw [ho] at he hT'
  exact ⟨he, tabs_set (G := G) (fun i t made st hi => (h1 i t made st hi).below hb) h2 (Nat.le_trans hB hb.size) hi hT' hf'⟩
theorem Tabs.moved (h : Tabs B W0 L) (hb : Below W0.heap.size W0 w) (hB : B ≤ W0.heap.size) (hi : L[i]? = some (t, true, st)) {A1 : Option Addr} {c1 : Nat} {l1 : List ByteArray} {A2 : Option Addr} {c2 : Nat} {l2 : List ByteArray}
    (hr1 : Kd.C Kd.string w A1 l1.length l1) (hc1 : l1.length ≤ c1) (hf1 : fits l1) (hr2 : Kd.C Kd.string w A2 l2.length l2) (hc2 : l2.length ≤ c2) (hf2 : fits l2) (ha1 : ∀ a, A1 = some a → W0.heap.size ≤ a.block) (ha2 : ∀ a, A2 = some a → W0.heap.size ≤ a.block) (ho : movedS st l1 l2 = st') :
    Calls Tryd.prog 18 #[.pointer (some ⟨t, 0, none⟩), .slice A1 l1.length c1, .slice A2 l2.length c2] w fun e w' => e = .returned (.tuple #[]) ∧ Tabs B w' (L.set i (t, true, st')) ∧ Below B w w' := by
  obtain ⟨G, h1, h2⟩ := h
  have hT0 := h1 i t true st hi
  have hT := hT0.below hb
  refine (moved_tab hT (Nat.le_trans hB hb.size) A1 c1 l1 A2 c2 l2 hr1 hc1 hf1 hr2 hc2 hf2 (fun a ha hg => ?_) (fun a ha hg => ?_)).mono ?_
  · have := (hT0.rng _ hg).2
    have := ha1 a ha
    omega
  · have := (hT0.rng _ hg).2
    have := ha2 a ha
    omega
  · rintro e w' ⟨he, F', hT', hf'⟩
    rw [ho] at hT'
    exact ⟨he, tabs_set (G := G) (fun i t made st hi => (h1 i t made st hi).below hb) h2 (Nat.le_trans hB hb.size) hi hT' hf'⟩
theorem Tabs.close (h : Tabs B W0 L) (hb : Below W0.heap.size W0 w) (hB : B ≤ W0.heap.size) (hi : L[i]? = some (t, true, st)) {d er : Int} (ho : closeS st d = (st', er)) :
    Calls Tryd.prog 17 #[.pointer (some ⟨t, 0, none⟩), .int .i64 d] w fun e w' => e = .returned (.int .i64 er) ∧ Tabs B w' (L.set i (t, true, st')) ∧ Below B w w' := by
  obtain ⟨G, h1, h2⟩ := h
  have hT := (h1 i t true st hi).below hb
  refine (close_tab hT d).mono ?_
  rintro e w' ⟨he, F', hT', hf'⟩
  rw [ho] at he hT'
  exact ⟨he, tabs_set (G := G) (fun i t made st hi => (h1 i t made st hi).below hb) h2 (Nat.le_trans hB hb.size) hi hT' hf'⟩
theorem Tabs.clear (h : Tabs B W0 L) (hb : Below W0.heap.size W0 w) (hB : B ≤ W0.heap.size) (hi : L[i]? = some (t, true, st)) :
    Calls Tryd.prog 57 #[.pointer (some ⟨t, 0, none⟩)] w fun e w' => e = .returned (.tuple #[]) ∧ Tabs B w' (L.set i (t, true, newS)) ∧ Below B w w' := by
  obtain ⟨G, h1, h2⟩ := h
  have hT := (h1 i t true st hi).below hb
  refine (clear_tab hT).mono ?_
  rintro e w' ⟨he, F', hT', hf'⟩
  exact ⟨he, tabs_set (G := G) (fun i t made st hi => (h1 i t made st hi).below hb) h2 (Nat.le_trans hB hb.size) hi hT' hf'⟩
theorem Tabs.count (h : Tabs B W0 L) (hb : Below W0.heap.size W0 w) (hi : L[i]? = some (t, true, st)) {n : Nat} (hn : countS st = n) :
    Calls Tryd.prog 52 #[.pointer (some ⟨t, 0, none⟩)] w fun e w' => e = .returned (.int .i64 (n : Int)) ∧ w = w' := by
  obtain ⟨F, hT⟩ := h.at_ hi
  rw [← hn]
  exact count_tab (hT.below hb)
theorem Tabs.tells (h : Tabs B W0 L) (hb : Below W0.heap.size W0 w) (hi : L[i]? = some (t, true, st)) {d : Int} {s p : ByteArray} {r : Bool} (hr : tellsB st d s p = r) :
    Calls Tryd.prog 22 #[.pointer (some ⟨t, 0, none⟩), .int .i64 d, .string s, .string p] w fun e w' => e = .returned (.bool r) ∧ Below w.heap.size w w' := by
  obtain ⟨F, hT⟩ := h.at_ hi
  rw [← hr]
  exact tells_tab (hT.below hb) d s p
theorem Tabs.of_ (h : Tabs B W0 L) (hb : Below W0.heap.size W0 w) (hi : L[i]? = some (t, true, st)) (d : Int) : Calls Tryd.prog 24 #[.pointer (some ⟨t, 0, none⟩), .int .i64 d] w (OfP w (ofS st d)) := by
  obtain ⟨F, hT⟩ := h.at_ hi
  exact of_tab (hT.below hb) d
end
end Go.Proofs.YthafpbidfgmacaaDoor.Hd

/- The state of a walk over tables; the walks of given, works, opens, right (of the laws over descriptors). -/
namespace Go.Proofs.YthafpbidfgmacaaDoor.Hd
open Go.RowKit Go.Proofs.YthafpbidfgmacaaDoor Go.Proofs.YthafpbidfgmacaaDoorW.PrintWords Go.Proofs.YthafpbidfgmacaaDoorW.PrintLast Go.Proofs.YthafpbidfgmacaaDoorW.PrintMore
set_option linter.unusedVariables false
set_option linter.unusedSimpArgs false

/-- Ws: the world in which the call began; W0: that of the last step of a table; w: now. -/
structure Stt (Ws W0 : World) (L : List Tb) (w : World) : Prop where
  tabs : Tabs Ws.heap.size W0 L
  bel : Below Ws.heap.size Ws W0
  cur : Below W0.heap.size W0 w
/-- A row of strings that a call made after W0, or nil. -/
structure RowI (W0 : World) (A : Option Addr) (c : Nat) (l : List ByteArray) (w : World) : Prop where
  reads : Kd.C Kd.string w A l.length l
  cap : l.length ≤ c
  new : ∀ a, A = some a → W0.heap.size ≤ a.block
section
variable {Ws W0 w w' : World} {L L' : List Tb} {i t : Nat} {st st' : St}
theorem Stt.start (Ws : World) : Stt Ws Ws [] Ws := ⟨Tabs.nil _ _, Below.refl _ _, Below.refl _ _⟩
theorem Stt.later (h : Stt Ws W0 L w) (hb : Below w.heap.size w w') : Stt Ws W0 L w' := ⟨h.tabs, h.bel, Below.trans h.cur (hb.mono h.cur.size)⟩
theorem Stt.all (h : Stt Ws W0 L w) : Below Ws.heap.size Ws w := Below.trans h.bel (h.cur.mono h.bel.size)
theorem Stt.anew (h : Stt Ws W0 L w) (hT : Tabs Ws.heap.size w' L') (hb : Below Ws.heap.size w w') : Stt Ws w' L' w' := ⟨hT, Below.trans h.all hb, Below.refl _ _⟩
theorem RowI.later {A : Option Addr} {c : Nat} {l : List ByteArray} (h : RowI W0 A c l w) (hb : Below w.heap.size w w') : RowI W0 A c l w' := ⟨Kd.C_below h.reads hb, h.cap, h.new⟩
theorem RowI.nil (W0 w : World) : RowI W0 none 0 [] w := ⟨Kd.C_of_reads (d := ByteArray.empty) (h1 := fun _ => rfl) ⟨rfl, by decide, fun h => absurd h (by decide)⟩, Nat.le_refl _, fun a h => by cases h⟩

theorem Stt.names (h : Stt Ws W0 L w) {s : ByteArray} {l : List ByteArray} (hl : namesL s = l) (hs : s.size < 4294967281) :
    Calls Tryd.prog 55 #[.string s] w fun e w' => ∃ A c, e = .returned (.slice A l.length c) ∧ RowI W0 A c l w' ∧ Stt Ws W0 L w' ∧ Below w.heap.size w w' := by
  subst hl
  refine (names_calls s w hs).mono ?_
  rintro e w' ⟨v, rfl, A, c, rfl, hc, hC, hf, hb⟩
  exact ⟨A, c, rfl, ⟨hC, hc, fun a ha => Nat.le_trans h.cur.size (hf a ha)⟩, h.later hb, hb⟩
theorem Stt.new_ (h : Stt Ws W0 L w) : Calls Tryd.prog 14 #[] w fun e w' => ∃ t, e = .returned (.pointer (some ⟨t, 0, none⟩)) ∧ Stt Ws w' (L ++ [(t, true, newS)]) w' := by
  refine (Tabs.new h.tabs h.cur h.bel.size).mono ?_
  rintro e w' ⟨he, hT, hb⟩
  exact ⟨_, he, h.anew hT (hb.mono h.all.size)⟩
theorem Stt.open_ (h : Stt Ws W0 L w) (hi : L[i]? = some (t, true, st)) {s : ByteArray} {A : Option Addr} {c : Nat} {l : List ByteArray} {d er : Int} (hr : RowI W0 A c l w) (hf : fits l) (ho : openS st s l = (st', d, er)) (hL : L.set i (t, true, st') = L') :
    Calls Tryd.prog 15 #[.pointer (some ⟨t, 0, none⟩), .string s, .slice A l.length c] w fun e w' => e = .returned (.tuple #[.int .i64 d, .int .i64 er]) ∧ Stt Ws w' L' w' := by
  subst hL
  refine (Tabs.open_ h.tabs h.cur h.bel.size hi hr.reads hr.cap hf ho).mono ?_
  rintro e w' ⟨he, hT, hb⟩
  exact ⟨he, h.anew hT hb⟩
theorem Stt.moved (h : Stt Ws W0 L w) (hi : L[i]? = some (t, true, st)) {A1 : Option Addr} {c1 : Nat} {l1 : List ByteArray} {A2 : Option Addr} {c2 : Nat} {l2 : List ByteArray} (hr1 : RowI W0 A1 c1 l1 w) (hf1 : fits l1) (hr2 : RowI W0 A2 c2 l2 w) (hf2 : fits l2) (ho : movedS st l1 l2 = st') (hL : L.set i (t, true, st') = L') :
    Calls Tryd.prog 18 #[.pointer (some ⟨t, 0, none⟩), .slice A1 l1.length c1, .slice A2 l2.length c2] w fun e w' => e = .returned (.tuple #[]) ∧ Stt Ws w' L' w' := by
  subst hL
  refine (Tabs.moved h.tabs h.cur h.bel.size hi hr1.reads hr1.cap hf1 hr2.reads hr2.cap hf2 hr1.new hr2.new ho).mono ?_
  rintro e w' ⟨he, hT, hb⟩
  exact ⟨he, h.anew hT hb⟩
theorem Stt.close (h : Stt Ws W0 L w) (hi : L[i]? = some (t, true, st)) {d er : Int} (ho : closeS st d = (st', er)) (hL : L.set i (t, true, st') = L') :
    Calls Tryd.prog 17 #[.pointer (some ⟨t, 0, none⟩), .int .i64 d] w fun e w' => e = .returned (.int .i64 er) ∧ Stt Ws w' L' w' := by
  subst hL
  refine (Tabs.close h.tabs h.cur h.bel.size hi ho).mono ?_
  rintro e w' ⟨he, hT, hb⟩
  exact ⟨he, h.anew hT hb⟩
theorem Stt.clear (h : Stt Ws W0 L w) (hi : L[i]? = some (t, true, st)) (hL : L.set i (t, true, newS) = L') :
    Calls Tryd.prog 57 #[.pointer (some ⟨t, 0, none⟩)] w fun e w' => e = .returned (.tuple #[]) ∧ Stt Ws w' L' w' := by
  subst hL
  refine (Tabs.clear h.tabs h.cur h.bel.size hi).mono ?_
  rintro e w' ⟨he, hT, hb⟩
  exact ⟨he, h.anew hT hb⟩
theorem Stt.count (h : Stt Ws W0 L w) (hi : L[i]? = some (t, true, st)) {n : Nat} (hn : countS st = n) :
    Calls Tryd.prog 52 #[.pointer (some ⟨t, 0, none⟩)] w fun e w' => e = .returned (.int .i64 (n : Int)) ∧ w = w' := Tabs.count h.tabs h.cur hi hn
theorem Stt.tells (h : Stt Ws W0 L w) (hi : L[i]? = some (t, true, st)) {d : Int} {s p : ByteArray} {r : Bool} (hr : tellsB st d s p = r) :
    Calls Tryd.prog 22 #[.pointer (some ⟨t, 0, none⟩), .int .i64 d, .string s, .string p] w fun e w' => e = .returned (.bool r) ∧ Stt Ws W0 L w' :=
  (Tabs.tells h.tabs h.cur hi hr).mono fun _ _ ⟨he, hb⟩ => ⟨he, h.later hb⟩
theorem Stt.of_ (h : Stt Ws W0 L w) (hi : L[i]? = some (t, true, st)) {d er : Int} (hr : ofS st d = (⟨#[]⟩, [], er)) : Calls Tryd.prog 24 #[.pointer (some ⟨t, 0, none⟩), .int .i64 d] w fun e w' => ∃ A c, e = .returned (.tuple #[.string ⟨#[]⟩, .slice A 0 c, .int .i64 er]) ∧ Stt Ws W0 L w' := by
  refine (Tabs.of_ h.tabs h.cur hi d).mono ?_
  rintro e w' ⟨v, he, hR, hb⟩
  rw [hr] at he hR
  obtain ⟨A, c, rfl⟩ := Kd.R_slice hR
  exact ⟨A, c, he, h.later hb⟩
end

def nA : ByteArray := ⟨#[97]⟩
def nB : ByteArray := ⟨#[98]⟩
def nS : ByteArray := ⟨#[115]⟩
def n0 : ByteArray := ⟨#[]⟩
def sGiven1 : St := [some (n0, [nA]), none, none, none, none, none, none, none]
def sGiven2 : St := [some (n0, [nA]), some (nS, [nA]), none, none, none, none, none, none]
def sGiven : St := [some (n0, [nA]), some (nS, [nA]), some (n0, [nA, nB]), none, none, none, none, none]
def sGiven0 : St := [none, some (nS, [nA]), some (n0, [nA, nB]), none, none, none, none, none]
theorem names_A : namesL ⟨#[97]⟩ = [nA] := by decide +kernel
theorem names_AB : namesL ⟨#[97, 47, 98]⟩ = [nA, nB] := by decide +kernel
theorem open_g1 : openS newS ⟨#[]⟩ [nA] = (sGiven1, 0, 0) := by decide +kernel
theorem open_g2 : openS sGiven1 ⟨#[115]⟩ [nA] = (sGiven2, 1, 0) := by decide +kernel
theorem open_g3 : openS sGiven2 ⟨#[]⟩ [nA, nB] = (sGiven, 2, 0) := by decide +kernel
theorem fits_A : fits [nA] := ⟨by decide, by decide +kernel⟩
theorem fits_AB : fits [nA, nB] := ⟨by decide, by decide +kernel⟩
end Go.Proofs.YthafpbidfgmacaaDoor.Hd

/- The walks of given, works, opens, right (of the laws over descriptors). -/
namespace Go.Proofs.YthafpbidfgmacaaDoor.Hd
open Go.RowKit Go.Proofs.YthafpbidfgmacaaDoor Go.Proofs.YthafpbidfgmacaaDoorW.PrintWords Go.Proofs.YthafpbidfgmacaaDoorW.PrintLast Go.Proofs.YthafpbidfgmacaaDoorW.PrintMore
set_option linter.unusedVariables false
set_option linter.unusedSimpArgs false

set_option maxHeartbeats 4000000 in
theorem Stt.given {Ws W0 w : World} {L : List Tb} (h : Stt Ws W0 L w) (hl : L = []) : Calls Tryd.prog 54 #[] w fun e w' => ∃ t, e = .returned (.pointer (some ⟨t, 0, none⟩)) ∧ Stt Ws w' [(t, true, sGiven)] w' := by
  subst hl
  have HS0 := Lib.hid h
  clear h
  go_enter Tryd.func54, Tryd.ntmps54
  go_wp2_with fail
  refine (Stt.new_ HS0.out).mono ?_
  rintro e w1 ⟨t, rfl, h1⟩
  have HS1 : Hid (Stt Ws w1 [(t, true, newS)] w1) := Lib.hid h1
  clear h1 HS0
  go_wp2_with fail
  refine (Stt.names HS1.out names_A (by decide)).mono ?_
  rintro e w2 ⟨A2, c2, rfl, h2, h1, h3⟩
  have HR2 := Lib.hid h2
  clear h2 h3
  have HS2 := Lib.hid h1
  clear h1 HS1
  go_wp2_with fail
  refine (Stt.open_ HS2.out (i := 0) (L' := [(t, true, sGiven1)]) rfl HR2.out fits_A open_g1 rfl).mono ?_
  rintro e w3 ⟨rfl, h1⟩
  have HS3 : Hid (Stt Ws w3 [(t, true, sGiven1)] w3) := Lib.hid h1
  clear h1 HS2
  clear HR2
  go_wp2_with fail
  refine (Stt.names HS3.out names_A (by decide)).mono ?_
  rintro e w4 ⟨A4, c4, rfl, h2, h1, h3⟩
  have HR4 := Lib.hid h2
  clear h2 h3
  have HS4 := Lib.hid h1
  clear h1 HS3
  go_wp2_with fail
  refine (Stt.open_ HS4.out (i := 0) (L' := [(t, true, sGiven2)]) rfl HR4.out fits_A open_g2 rfl).mono ?_
  rintro e w5 ⟨rfl, h1⟩
  have HS5 : Hid (Stt Ws w5 [(t, true, sGiven2)] w5) := Lib.hid h1
  clear h1 HS4
  clear HR4
  go_wp2_with fail
  refine (Stt.names HS5.out names_AB (by decide)).mono ?_
  rintro e w6 ⟨A6, c6, rfl, h2, h1, h3⟩
  have HR6 := Lib.hid h2
  clear h2 h3
  have HS6 := Lib.hid h1
  clear h1 HS5
  go_wp2_with fail
  refine (Stt.open_ HS6.out (i := 0) (L' := [(t, true, sGiven)]) rfl HR6.out fits_AB open_g3 rfl).mono ?_
  rintro e w7 ⟨rfl, h1⟩
  have HS7 : Hid (Stt Ws w7 [(t, true, sGiven)] w7) := Lib.hid h1
  clear h1 HS6
  clear HR6
  go_wp2
  go_ret
  exact ⟨_, rfl, HS7.out⟩

theorem tells_w0 : tellsB sGiven 0 ⟨#[]⟩ ⟨#[97]⟩ = true := by decide +kernel
theorem tells_w1 : tellsB sGiven 1 ⟨#[115]⟩ ⟨#[97]⟩ = true := by decide +kernel
theorem tells_w2 : tellsB sGiven 2 ⟨#[]⟩ ⟨#[97, 47, 98]⟩ = true := by decide +kernel
theorem close_w0 : closeS sGiven 0 = (sGiven0, 0) := by decide +kernel
theorem close_w1 : closeS sGiven0 0 = (sGiven0, 12) := by decide +kernel
theorem count_w : countS sGiven = 3 := by decide
set_option maxHeartbeats 4000000 in
theorem works_calls (Ws : World) : Calls Tryd.prog 13 #[] Ws fun e w' => e = .returned (.bool true) ∧ Below Ws.heap.size Ws w' := by
  have HS0 := Lib.hid (Stt.start Ws)
  go_enter Tryd.func13, Tryd.ntmps13
  go_wp2_with fail
  refine (Stt.given HS0.out rfl).mono ?_
  rintro e w1 ⟨t, rfl, h1⟩
  have HS1 : Hid (Stt Ws w1 [(t, true, sGiven)] w1) := Lib.hid h1
  clear h1 HS0
  go_wp2_with fail
  refine (Stt.count HS1.out (i := 0) rfl count_w).mono ?_
  rintro e w2 ⟨rfl, rfl⟩
  go_wp2_with fail
  refine (Stt.tells HS1.out (i := 0) rfl tells_w0).mono ?_
  rintro e w3 ⟨rfl, h1⟩
  have HS3 := Lib.hid h1
  clear h1 HS1
  go_wp2_with fail
  refine (Stt.tells HS3.out (i := 0) rfl tells_w1).mono ?_
  rintro e w4 ⟨rfl, h1⟩
  have HS4 := Lib.hid h1
  clear h1 HS3
  go_wp2_with fail
  refine (Stt.tells HS4.out (i := 0) rfl tells_w2).mono ?_
  rintro e w5 ⟨rfl, h1⟩
  have HS5 := Lib.hid h1
  clear h1 HS4
  go_wp2_with fail
  refine (Stt.close HS5.out (i := 0) (L' := [(t, true, sGiven0)]) rfl close_w0 rfl).mono ?_
  rintro e w6 ⟨rfl, h1⟩
  have HS6 : Hid (Stt Ws w6 [(t, true, sGiven0)] w6) := Lib.hid h1
  clear h1 HS5
  go_wp2_with fail
  refine (Stt.close HS6.out (i := 0) (L' := [(t, true, sGiven0)]) rfl close_w1 rfl).mono ?_
  rintro e w7 ⟨rfl, h1⟩
  have HS7 : Hid (Stt Ws w7 [(t, true, sGiven0)] w7) := Lib.hid h1
  clear h1 HS6
  go_wp2
  go_ret
  exact ⟨rfl, HS7.out.all⟩

set_option maxHeartbeats 4000000 in
theorem Stt.opens {Ws W0 w : World} {L L' : List Tb} {i t : Nat} {st st' : St} (h : Stt Ws W0 L w) (hi : L[i]? = some (t, true, st)) {s p : ByteArray} {l : List ByteArray} {d : Int} (hl : namesL p = l) (hp : p.size < 4294967281) (hf : fits l) (ho : openS st s l = (st', d, 0)) (hL : L.set i (t, true, st') = L') :
    Calls Tryd.prog 56 #[.pointer (some ⟨t, 0, none⟩), .string s, .string p, .int .i64 d] w fun e w' => e = .returned (.bool true) ∧ Stt Ws w' L' w' := by
  have HN := Lib.hid (Stt.names h hl hp)
  have HO : Hid (∀ (A : Option Addr) (c : Nat) (w' : World), Stt Ws W0 L w' → RowI W0 A c l w' → Calls Tryd.prog 15 #[.pointer (some ⟨t, 0, none⟩), .string s, .slice A l.length c] w' fun e w' => e = .returned (.tuple #[.int .i64 d, .int .i64 0]) ∧ Stt Ws w' L' w') := fun A c w' h' hr => h'.open_ hi hr hf ho hL
  clear h hl hp hf ho hL hi
  generalize l.length = n at *
  go_enter Tryd.func56, Tryd.ntmps56
  go_wp2_with (first | (go_at_call 55; refine HN.out.mono ?_; rintro e w1 ⟨A, c, rfl, h2, h1, h3⟩; have HS1 := Lib.hid h1; have HR1 := Lib.hid h2; clear h1 h2 h3) | (go_at_call 15; refine (HO.out _ _ _ HS1.out HR1.out).mono ?_; rintro e w2 ⟨rfl, h1⟩; have HS2 := Lib.hid h1; clear h1))
  go_ret
  exact ⟨rfl, HS2.out⟩
theorem open_new (l : List ByteArray) : openS newS ⟨#[]⟩ l = (if okP l = true then ([some (⟨#[]⟩, l), none, none, none, none, none, none, none], 0, 0) else (newS, 0, 4)) := by
  unfold openS
  rfl
set_option maxHeartbeats 4000000 in
theorem lawright_calls (A : Option Addr) (c : Nat) (l : List ByteArray) (w : World) (hr : Kd.C Kd.string w A l.length l) (hc : l.length ≤ c) (hf : fits l) :
    Calls Tryd.prog 19 #[.slice A l.length c] w fun e w' => e = .returned (.bool (okP l)) ∧ Below w.heap.size w w' := by
  have HN := Lib.hid (new_calls w)
  have HO : Hid (∀ w1, Tab w.heap.size w1 w.heap.size true newS (fun g => g = w.heap.size) → Below w.heap.size w w1 → Calls Tryd.prog 15 #[.pointer (some ⟨w.heap.size, 0, none⟩), .string ⟨#[]⟩, .slice A l.length c] w1 fun e w' => e = .returned (.tuple #[.int .i64 0, .int .i64 (if okP l = true then 0 else 4)]) ∧ Below w.heap.size w w') := by
    intro w1 hT hb
    refine (open_tab hT hb.size ⟨#[]⟩ A c l (Kd.C_below hr hb) hc hf).mono ?_
    rintro e w' ⟨he, F', hT', hf'⟩
    refine ⟨?_, Below.trans hb (hT.bframe hf' hb.size)⟩
    rw [he, open_new]
    by_cases h : okP l = true
    · rw [if_pos h, if_pos h]
    · rw [if_neg h, if_neg h]
  clear hr hc hf
  generalize l.length = n at *
  by_cases h : okP l = true
  · rw [if_pos h] at HO
    rw [h]
    clear h
    go_enter Tryd.func19, Tryd.ntmps19
    go_wp2_with (first | (go_at_call 14; refine HN.out.mono ?_; rintro e w1 ⟨rfl, hT, hb⟩; have HT := Lib.hid hT; have HB := Lib.hid hb; clear hT hb) | (go_at_call 15; refine (HO.out _ HT.out HB.out).mono ?_; rintro e w2 ⟨rfl, hb⟩))
    go_ret
    exact ⟨rfl, hb⟩
  · rw [if_neg h] at HO
    have h' : okP l = false := by simpa using h
    rw [h']
    clear h h'
    go_enter Tryd.func19, Tryd.ntmps19
    go_wp2_with (first | (go_at_call 14; refine HN.out.mono ?_; rintro e w1 ⟨rfl, hT, hb⟩; have HT := Lib.hid hT; have HB := Lib.hid hb; clear hT hb) | (go_at_call 15; refine (HO.out _ HT.out HB.out).mono ?_; rintro e w2 ⟨rfl, hb⟩))
    go_ret
    exact ⟨rfl, hb⟩
end Go.Proofs.YthafpbidfgmacaaDoor.Hd

