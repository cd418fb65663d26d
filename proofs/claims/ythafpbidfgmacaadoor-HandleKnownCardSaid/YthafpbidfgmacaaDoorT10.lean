/- Several tables at once, and what each call makes of one of them. -/
import Derived.Test.YthafpbidfgmacaaDoorT9
namespace Go.Proofs.YthafpbidfgmacaaDoor.Hd
open Go.RowKit Go.Proofs.YthafpbidfgmacaaDoor Go.Proofs.YthafpbidfgmacaaDoorW.PrintWords Go.Proofs.YthafpbidfgmacaaDoorW.PrintLast Go.Proofs.YthafpbidfgmacaaDoorW.PrintMore
set_option linter.unusedVariables false
set_option linter.unusedSimpArgs false

abbrev Tb := Nat × Bool × St
/-- Tables whose blocks, all from B on, are apart. -/
def Tabs (B : Nat) (w : World) (L : List Tb) : Prop :=
  ∃ G : Nat → Nat → Prop, (∀ i t made st, L[i]? = some (t, made, st) → Tab B w t made st (G i)) ∧ ∀ i j g, i ≠ j → i < L.length → j < L.length → G i g → ¬ G j g
section
variable {B : Nat} {w w' : World} {L : List Tb}
theorem Tabs.nil (B : Nat) (w : World) : Tabs B w [] := ⟨fun _ _ => False, fun i t made st h => by simp at h, fun i j g _ h => by simp at h⟩
theorem Tabs.below (h : Tabs B w L) (hb : Below w.heap.size w w') : Tabs B w' L := by
  obtain ⟨G, h1, h2⟩ := h
  exact ⟨G, fun i t made st hi => (h1 i t made st hi).below hb, h2⟩
theorem Tabs.at_ (h : Tabs B w L) {i t : Nat} {made : Bool} {st : St} (hi : L[i]? = some (t, made, st)) : ∃ F, Tab B w t made st F := by
  obtain ⟨G, h1, _⟩ := h
  exact ⟨_, h1 i t made st hi⟩
/-- One table has taken a step. -/
theorem tabs_set {G : Nat → Nat → Prop} {F' : Nat → Prop} (h1 : ∀ i t made st, L[i]? = some (t, made, st) → Tab B w t made st (G i)) (h2 : ∀ i j g, i ≠ j → i < L.length → j < L.length → G i g → ¬ G j g) (hB : B ≤ w.heap.size) {i t : Nat} {st st' : St} (hi : L[i]? = some (t, true, st))
    (hT' : Tab B w' t true st' F') (hf : Fr (G i) F' w w') : Tabs B w' (L.set i (t, true, st')) ∧ Below B w w' := by
  have hT := h1 i t true st hi
  have hil := (List.getElem?_eq_some_iff.1 hi).1
  refine ⟨⟨fun j => if j = i then F' else G j, fun j t1 made1 st1 hj => ?_, fun j k g hne hj hk hg => ?_⟩, hT.bframe hf hB⟩
  · by_cases hji : j = i
    · subst hji
      rw [List.getElem?_set_self hil] at hj
      have hj' := Option.some.inj hj
      simp only [Prod.mk.injEq] at hj'
      obtain ⟨rfl, rfl, rfl⟩ := hj'
      show Tab B w' t true st' (if j = j then F' else G j)
      rw [if_pos rfl]
      exact hT'
    · rw [List.getElem?_set_ne (fun e => hji e.symm)] at hj
      have hT1 := h1 j t1 made1 st1 hj
      have hjl := (List.getElem?_eq_some_iff.1 hj).1
      show Tab B w' t1 made1 st1 (if j = i then F' else G j)
      rw [if_neg hji]
      exact hT1.other hf (fun g hg => h2 j i g hji hjl hil hg)
  · rw [List.length_set] at hj hk
    simp only at hg ⊢
    by_cases hji : j = i
    · subst hji
      rw [if_pos rfl] at hg
      rw [if_neg (fun e => hne e.symm)]
      intro hgk
      rcases hf.sub g hg with h3 | h3
      · exact h2 j k g hne hj hk h3 hgk
      · obtain ⟨⟨t2, m2, s2⟩, hx⟩ : ∃ x, L[k]? = some x := ⟨_, List.getElem?_eq_getElem hk⟩
        have := ((h1 k t2 m2 s2 hx).rng g hgk).2
        omega
    · rw [if_neg hji] at hg
      by_cases hki : k = i
      · subst hki
        rw [if_pos rfl]
        intro hgF
        obtain ⟨⟨t2, m2, s2⟩, hx⟩ : ∃ x, L[j]? = some x := ⟨_, List.getElem?_eq_getElem hj⟩
        rcases hf.sub g hgF with h3 | h3
        · exact h2 j k g hne hj hk hg h3
        · have := ((h1 j t2 m2 s2 hx).rng g hg).2
          omega
      · rw [if_neg hki]
        exact h2 j k g hne hj hk hg
/-- A new table. -/
theorem Tabs.more (h : Tabs B w L) (hB : B ≤ w.heap.size) {t : Nat} {made : Bool} {st : St} {F : Nat → Prop} (hT : Tab w.heap.size w' t made st F) (hb : Below w.heap.size w w') : Tabs B w' (L ++ [(t, made, st)]) := by
  obtain ⟨G, h1, h2⟩ := h
  have hlow : ∀ j, j < L.length → ∀ g, G j g → g < w.heap.size := fun j hj g hg => by
    obtain ⟨⟨t2, m2, s2⟩, hx⟩ : ∃ x, L[j]? = some x := ⟨_, List.getElem?_eq_getElem hj⟩
    exact ((h1 j t2 m2 s2 hx).rng g hg).2
  refine ⟨fun j => if j = L.length then F else G j, fun j t1 made1 st1 hj => ?_, fun j k g hne hj hk hg => ?_⟩
  · by_cases hjl : j < L.length
    · rw [List.getElem?_append_left hjl] at hj
      show Tab B w' t1 made1 st1 (if j = L.length then F else G j)
      rw [if_neg (by omega)]
      exact (h1 j t1 made1 st1 hj).below hb
    · obtain rfl : j = L.length := by have := (List.getElem?_eq_some_iff.1 hj).1; simp at this; omega
      rw [List.getElem?_append_right (Nat.le_refl _)] at hj
      simp at hj
      obtain ⟨rfl, rfl, rfl⟩ := hj
      show Tab B w' t made st (if L.length = L.length then F else G L.length)
      rw [if_pos rfl]
      obtain ⟨vs, hv⟩ := hT
      exact ⟨vs, hv.vl, hv.sl, hv.blk, hv.ft, fun g hg => ⟨by have := (hv.rng g hg).1; omega, (hv.rng g hg).2⟩, hv.slot, hv.inj⟩
  · simp only [List.length_append, List.length_cons, List.length_nil] at hj hk
    simp only at hg ⊢
    by_cases h3 : j = L.length
    · rw [if_pos h3] at hg
      rw [if_neg (by omega)]
      intro hgk
      have := hlow k (by omega) g hgk
      have := (hT.rng g hg).1
      omega
    · rw [if_neg h3] at hg
      by_cases h4 : k = L.length
      · rw [if_pos h4]
        intro hgF
        have := hlow j (by omega) g hg
        have := (hT.rng g hgF).1
        omega
      · rw [if_neg h4]
        exact h2 j k g hne (by omega) (by omega) hg

/-! What the calls make of a table, among others. W0: the world in which the tables were told; since then only new blocks came. -/
variable {W0 : World} {i t : Nat} {st st' : St}
theorem Tabs.new (h : Tabs B W0 L) (hb : Below W0.heap.size W0 w) (hB : B ≤ W0.heap.size) : Calls Tryd.prog 14 #[] w fun e w' => e = .returned (.pointer (some ⟨w.heap.size, 0, none⟩)) ∧ Tabs B w' (L ++ [(w.heap.size, true, newS)]) ∧ Below w.heap.size w w' :=
  (new_calls w).mono fun e w' ⟨he, hT, hb'⟩ => ⟨he, (h.below hb).more (Nat.le_trans hB hb.size) hT hb', hb'⟩
theorem Tabs.open_ (h : Tabs B W0 L) (hb : Below W0.heap.size W0 w) (hB : B ≤ W0.heap.size) (hi : L[i]? = some (t, true, st)) {s : ByteArray} {A0 : Option Addr} {c0 : Nat} {l0 : List ByteArray} {d er : Int} (hr0 : Kd.C Kd.string w A0 l0.length l0) (hc0 : l0.length ≤ c0) (hf : fits l0) (ho : openS st s l0 = (st', d, er)) :
    Calls Tryd.prog 15 #[.pointer (some ⟨t, 0, none⟩), .string s, .slice A0 l0.length c0] w fun e w' => e = .returned (.tuple #[.int .i64 d, .int .i64 er]) ∧ Tabs B w' (L.set i (t, true, st')) ∧ Below B w w' := by
  obtain ⟨G, h1, h2⟩ := h
  have hT := (h1 i t true st hi).below hb
  refine (open_tab hT (Nat.le_trans hB hb.size) s A0 c0 l0 hr0 hc0 hf).mono ?_
  rintro e w' ⟨he, F', hT', hf'⟩
  rw [ho] at he hT'
  exact ⟨he, tabs_set (G := G) (fun i t made st hi => (h1 i t made st hi).below hb) h2 (Nat.le_trans hB hb.size) hi hT' hf'⟩
theorem Tabs.moved (h : Tabs B W0 L) (hb : Below W0.heap.size W0 w) (hB : B ≤ W0.heap.size) (hi : L[i]? = some (t, true, st)) {A1 : Option Addr} {c1 : Nat} {l1 : List ByteArray} {A2 : Option Addr} {c2 : Nat} {l2 : List ByteArray}
    (hr1 : Kd.C Kd.string w A1 l1.length l1) (hc1 : l1.length ≤ c1) (hf1 : fits l1) (hr2 : Kd.C Kd.string w A2 l2.length l2) (hc2 : l2.length ≤ c2) (hf2 : fits l2) (ha1 : ∀ a, A1 = some a → W0.heap.size ≤ a.block) (ha2 : ∀ a, A2 = some a → W0.heap.size ≤ a.block) (ho : movedS st l1 l2 = st') :
    Calls Tryd.prog 18 #[.pointer (some ⟨t, 0, none⟩), .slice A1 l1.length c1, .slice A2 l2.length c2] w fun e w' => e = .returned (.tuple #[]) ∧ Tabs B w' (L.set i (t, true, st')) ∧ Below B w w' := by
  obtain ⟨G, h1, h2⟩ := h
  have hT0 := h1 i t true st hi
  have hT := hT0.below hb
  refine (moved_tab hT (Nat.le_trans hB hb.size) A1 c1 l1 A2 c2 l2 hr1 hc1 hf1 hr2 hc2 hf2 (fun a ha hg => ?_) (fun a ha hg => ?_)).mono ?_
  · have := (hT0.rng _ hg).2
    have := ha1 a ha
    omega
  · have := (hT0.rng _ hg).2
    have := ha2 a ha
    omega
  · rintro e w' ⟨he, F', hT', hf'⟩
    rw [ho] at hT'
    exact ⟨he, tabs_set (G := G) (fun i t made st hi => (h1 i t made st hi).below hb) h2 (Nat.le_trans hB hb.size) hi hT' hf'⟩
theorem Tabs.close (h : Tabs B W0 L) (hb : Below W0.heap.size W0 w) (hB : B ≤ W0.heap.size) (hi : L[i]? = some (t, true, st)) {d er : Int} (ho : closeS st d = (st', er)) :
    Calls Tryd.prog 17 #[.pointer (some ⟨t, 0, none⟩), .int .i64 d] w fun e w' => e = .returned (.int .i64 er) ∧ Tabs B w' (L.set i (t, true, st')) ∧ Below B w w' := by
  obtain ⟨G, h1, h2⟩ := h
  have hT := (h1 i t true st hi).below hb
  refine (close_tab hT d).mono ?_
  rintro e w' ⟨he, F', hT', hf'⟩
  rw [ho] at he hT'
  exact ⟨he, tabs_set (G := G) (fun i t made st hi => (h1 i t made st hi).below hb) h2 (Nat.le_trans hB hb.size) hi hT' hf'⟩
theorem Tabs.clear (h : Tabs B W0 L) (hb : Below W0.heap.size W0 w) (hB : B ≤ W0.heap.size) (hi : L[i]? = some (t, true, st)) :
    Calls Tryd.prog 57 #[.pointer (some ⟨t, 0, none⟩)] w fun e w' => e = .returned (.tuple #[]) ∧ Tabs B w' (L.set i (t, true, newS)) ∧ Below B w w' := by
  obtain ⟨G, h1, h2⟩ := h
  have hT := (h1 i t true st hi).below hb
  refine (clear_tab hT).mono ?_
  rintro e w' ⟨he, F', hT', hf'⟩
  exact ⟨he, tabs_set (G := G) (fun i t made st hi => (h1 i t made st hi).below hb) h2 (Nat.le_trans hB hb.size) hi hT' hf'⟩
theorem Tabs.count (h : Tabs B W0 L) (hb : Below W0.heap.size W0 w) (hi : L[i]? = some (t, true, st)) {n : Nat} (hn : countS st = n) :
    Calls Tryd.prog 52 #[.pointer (some ⟨t, 0, none⟩)] w fun e w' => e = .returned (.int .i64 (n : Int)) ∧ w = w' := by
  obtain ⟨F, hT⟩ := h.at_ hi
  rw [← hn]
  exact count_tab (hT.below hb)
theorem Tabs.tells (h : Tabs B W0 L) (hb : Below W0.heap.size W0 w) (hi : L[i]? = some (t, true, st)) {d : Int} {s p : ByteArray} {r : Bool} (hr : tellsB st d s p = r) :
    Calls Tryd.prog 22 #[.pointer (some ⟨t, 0, none⟩), .int .i64 d, .string s, .string p] w fun e w' => e = .returned (.bool r) ∧ Below w.heap.size w w' := by
  obtain ⟨F, hT⟩ := h.at_ hi
  rw [← hr]
  exact tells_tab (hT.below hb) d s p
theorem Tabs.of_ (h : Tabs B W0 L) (hb : Below W0.heap.size W0 w) (hi : L[i]? = some (t, true, st)) (d : Int) : Calls Tryd.prog 24 #[.pointer (some ⟨t, 0, none⟩), .int .i64 d] w (OfP w (ofS st d)) := by
  obtain ⟨F, hT⟩ := h.at_ hi
  exact of_tab (hT.below hb) d
end
end Go.Proofs.YthafpbidfgmacaaDoor.Hd
