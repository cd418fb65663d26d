/- The walk of a table's Moved, where both paths may be opened. -/
import Derived.Test.YthafpbidfgmacaaDoorT7
namespace Go.Proofs.YthafpbidfgmacaaDoor.Hd
open Go.RowKit Go.Proofs.YthafpbidfgmacaaDoor Go.Proofs.YthafpbidfgmacaaDoorW.PrintWords Go.Proofs.YthafpbidfgmacaaDoorW.PrintLast Go.Proofs.YthafpbidfgmacaaDoorW.PrintMore
set_option linter.unusedVariables false
set_option linter.unusedSimpArgs false

/-- What holds of the table when k entries are moved. -/
def MvR (B : Nat) (t : Nat) (st : St) (vs : List Value) (F : Nat → Prop) (a b : List ByteArray) (w : World) (k : Nat) (W : World) : Prop :=
  ∃ F' us, TabV B W t true (stK st a b k) F' us ∧ (∀ j, k ≤ j → us[j]? = vs[j]?) ∧ Fr F F' w W
theorem MvR.same {B t : Nat} {st : St} {vs : List Value} {F : Nat → Prop} {a b : List ByteArray} {w W W' : World} {k : Nat} {e : Option Ent} (h : MvR B t st vs F a b w k W) (he : st[k]? = some e) (hm : movedE a b e = e) (hb : Below W.heap.size W W') : MvR B t st vs F a b w (k + 1) W' := by
  obtain ⟨F', us, hT, hu, hf⟩ := h
  exact ⟨F', us, by rw [stK_same st a b k e he hm]; exact hT.keep (fun g hg => hb.block g (hT.rng g hg).2) hb.size, fun j hj => hu j (by omega), hf.post hb⟩
theorem MvR.row {B t : Nat} {st : St} {vs us : List Value} {F F' : Nat → Prop} {a b l L : List ByteArray} {w wr W w' : World} {k g b0 : Nat} {s : ByteArray} {v y : Value} (hT : TabV B wr t true (stK st a b k) F' us) (hu : ∀ j, k ≤ j → us[j]? = vs[j]?) (hf : Fr F F' w wr) (hB : B ≤ w.heap.size)
    (he : st[k]? = some (some (s, l))) (hv : us[k]? = some (.pointer (some ⟨g, 0, none⟩))) (hg : wr.heap[g]? = some (.cells #[.string s, y] 90 (0, 0))) (fg : F' g) (hW : Below wr.heap.size wr W) (hm : movedE a b (some (s, l)) = some (s, L)) (hl : okP L = true)
    (hb0 : wr.heap.size ≤ b0) (ho : W.ownsRow b0 9 1 v L.length (encs Value.string L)) (hw' : Below (W.setCell ⟨g, 1, none⟩ v).heap.size (W.setCell ⟨g, 1, none⟩ v) w') : MvR B t st vs F a b w (k + 1) w' := by
  have hz : (W.setCell ⟨g, 1, none⟩ v).heap.size = W.heap.size := by simp [World.setCell]
  rw [hz] at hw'
  obtain ⟨F'', h1, h2⟩ := tab_row hT (Nat.le_trans hB hf.size) (by rw [stK_at]; exact he) hv hg fg hW hl hb0 ho hw'
  exact ⟨F'', us, by rw [stK_succ st a b k _ he, hm]; exact h1, fun j hj => hu j (by omega), hf.trans h2⟩
theorem MvR.gone {B t : Nat} {st : St} {vs us : List Value} {F F' : Nat → Prop} {a b l : List ByteArray} {w wr W w' : World} {k g : Nat} {s : ByteArray} {v x y : Value} (hT : TabV B wr t true (stK st a b k) F' us) (hu : ∀ j, k ≤ j → us[j]? = vs[j]?) (hf : Fr F F' w wr) (hB : B ≤ w.heap.size)
    (he : st[k]? = some (some (s, l))) (hv : us[k]? = some (.pointer (some ⟨g, 0, none⟩))) (hg : wr.heap[g]? = some (.cells #[x, y] 90 (0, 0))) (fg : F' g) (hW : Below wr.heap.size wr W) (hm : movedE a b (some (s, l)) = none)
    (hw' : Below (W.setCell ⟨g, 1, none⟩ v).heap.size (W.setCell ⟨g, 1, none⟩ v) w') : MvR B t st vs F a b w (k + 1) (w'.setCell ⟨t, 1 + k, none⟩ (.pointer none)) := by
  have hz : (W.setCell ⟨g, 1, none⟩ v).heap.size = W.heap.size := by simp [World.setCell]
  rw [hz] at hw'
  have hk : k < 8 := by
    have h1 := (List.getElem?_eq_some_iff.1 hv).1
    rw [hT.vl] at h1
    exact h1
  obtain ⟨h1, h2⟩ := tab_gone hT (Nat.le_trans hB hf.size) hk hv hg fg hW hw'
  exact ⟨F', us.set k (.pointer none), by rw [stK_succ st a b k _ he, hm]; exact h1, fun j hj => by rw [List.getElem?_set_ne (by omega)]; exact hu j (by omega), hf.trans h2⟩
theorem own_row {W : World} {base g c : Nat} {l : List ByteArray} (h0 : 0 < l.length) (ho : W.ownsRow base 9 1 (.slice (some ⟨g, 0, none⟩) l.length c) l.length (encs Value.string l)) : base ≤ g ∧ l.length ≤ c ∧ Row9 W g 0 l := by
  rcases ho.2 with ⟨hv, hn⟩ | ⟨b, c', cur, hv, hb, hh, hc, hm, hcs, hx⟩
  · omega
  · injection hv with hv _ hc'
    injection hv with hv
    injection hv with hv
    subst hv
    subst hc'
    refine ⟨hb, hc, fun j x hj => ?_, cur, hh⟩
    have hjl := (List.getElem?_eq_some_iff.1 hj).1
    rw [Nat.zero_add, cell_of_row W g j _ _ _ hh]
    have e : (encs Value.string l)[j]? = some (.string x) := by simp [encs, hj]
    rw [← hx] at e
    have e2 := List.getElem?_take (l := cur.toList) (i := l.length * 1) (j := j)
    rw [if_pos (by omega)] at e2
    rw [e2] at e
    simpa using e
theorem gone_block {B t : Nat} {st : St} {us : List Value} {F' : Nat → Prop} {wr W w' : World} {g : Nat} {v x y : Value} (hT : TabV B wr t true st F' us) (hg : wr.heap[g]? = some (.cells #[x, y] 90 (0, 0))) (hW : Below wr.heap.size wr W) (hw' : Below (W.setCell ⟨g, 1, none⟩ v).heap.size (W.setCell ⟨g, 1, none⟩ v) w') : w'.heap[t]? = wr.heap[t]? := by
  have hz : (W.setCell ⟨g, 1, none⟩ v).heap.size = W.heap.size := by simp [World.setCell]
  rw [hz] at hw'
  exact (hw'.block t (Nat.lt_of_lt_of_le hT.lt hW.size)).trans ((Below.heap_setCell W _ _ t (hT.tab_ne hg)).trans (hW.block t hT.lt))
theorem gone_cell {B t : Nat} {st : St} {us : List Value} {F' : Nat → Prop} {wr W w' : World} {g j : Nat} {v x y u : Value} (hT : TabV B wr t true st F' us) (hg : wr.heap[g]? = some (.cells #[x, y] 90 (0, 0))) (hW : Below wr.heap.size wr W) (hw' : Below (W.setCell ⟨g, 1, none⟩ v).heap.size (W.setCell ⟨g, 1, none⟩ v) w') (hc : wr.cell? ⟨t, j, none⟩ = some u) : w'.cell? ⟨t, j, none⟩ = some u :=
  (World.cell?_of_block (w := wr) (gone_block hT hg hW hw')).trans hc
theorem gone_frozen {B t : Nat} {st : St} {us : List Value} {F' : Nat → Prop} {wr W w' : World} {g j : Nat} {v x y : Value} (hT : TabV B wr t true st F' us) (hg : wr.heap[g]? = some (.cells #[x, y] 90 (0, 0))) (hW : Below wr.heap.size wr W) (hw' : Below (W.setCell ⟨g, 1, none⟩ v).heap.size (W.setCell ⟨g, 1, none⟩ v) w') (hc : wr.frozen? ⟨t, j, none⟩ = false) : w'.frozen? ⟨t, j, none⟩ = false :=
  (World.frozen?_of_block (w := wr) (gone_block hT hg hW hw')).trans hc
theorem right_own {wr w4 : World} {g g3 c3 n3 : Nat} {L : List ByteArray} (hg : g < wr.heap.size) (h0 : 0 < L.length) (hn : n3 = L.length) (hf : fits L) (ho : w4.ownsRow (wr.heap.size + 1) 9 1 (.slice (some ⟨g3, 0, none⟩) L.length c3) L.length (encs Value.string L)) (v : Value) :
    Calls Tryd.prog 60 #[.slice (some ⟨g3, 0, none⟩) n3 c3] (w4.setCell ⟨g, 1, none⟩ v) fun e w' => e = .returned (.bool (okP L)) ∧ Below (w4.setCell ⟨g, 1, none⟩ v).heap.size (w4.setCell ⟨g, 1, none⟩ v) w' := by
  obtain ⟨h1, h2, h3⟩ := own_row h0 ho
  rw [hn]
  exact right_calls (some ⟨g3, 0, none⟩) c3 L _ (RowS.reads (h3.1.keep (Below.heap_setCell w4 _ _ g3 (fun e => by
    have e' : g3 = g := e
    omega))) (by have := hf.1; omega)) h2 hf
theorem movedE_snap {a b : List ByteArray} {s : ByteArray} {l : List ByteArray} (h : s.toList ≠ []) : movedE a b (some (s, l)) = some (s, l) := by
  exact if_neg (fun e => h e.1)
theorem movedE_short {a b : List ByteArray} {s : ByteArray} {l : List ByteArray} (h : l.length < a.length) : movedE a b (some (s, l)) = some (s, l) := by
  exact if_neg (fun e => by omega)
theorem movedE_ne {a b : List ByteArray} {s : ByteArray} {l : List ByteArray} (h : l.take a.length ≠ a) : movedE a b (some (s, l)) = some (s, l) := by
  exact if_neg (fun e => h e.2.2)
theorem movedE_yes {a b : List ByteArray} {s : ByteArray} {l : List ByteArray} (h0 : s.toList = []) (h1 : a.length ≤ l.length) (h2 : l.take a.length = a) (h3 : okP (b ++ l.drop a.length) = true) : movedE a b (some (s, l)) = some (s, b ++ l.drop a.length) := by
  exact (if_pos ⟨h0, h1, h2⟩).trans (if_pos h3)
theorem movedE_gone {a b : List ByteArray} {s : ByteArray} {l : List ByteArray} (h0 : s.toList = []) (h1 : a.length ≤ l.length) (h2 : l.take a.length = a) (h3 : okP (b ++ l.drop a.length) = false) : movedE a b (some (s, l)) = none := by
  exact (if_pos ⟨h0, h1, h2⟩).trans (if_neg (by rw [h3]; decide))
theorem row_take {w : World} {b o : Nat} {l : List ByteArray} (h : RowS w b o l) : ∀ j, j < l.length → w.cell? ⟨b, o + j, none⟩ = some (.string (l.getD j ByteArray.empty)) := fun j hj => by
  rw [h j l[j] (List.getElem?_eq_getElem hj), List.getD_eq_getElem?_getD, List.getElem?_eq_getElem hj]
  rfl
theorem equal_rows {w : World} {b1 o1 n c b2 o2 d : Nat} {l a : List ByteArray} (h1 : RowS w b1 o1 l) (h2 : RowS w b2 o2 a) (hn : n ≤ l.length) (hl : l.length ≤ 1000) (ha : a.length ≤ 1000) :
    Calls Tryd.prog 66 #[.slice (some ⟨b1, o1, none⟩) n c, .slice (some ⟨b2, o2, none⟩) a.length d] w fun e w' => e = .returned (.bool (decide (l.take n = a))) ∧ ∃ q, w' = w.drewN q := by
  have := Tryd.slices_Equal_string b1 o1 n c b2 o2 a.length d l a w hn (Nat.le_refl _) (by omega) (by omega) (row_take h1) (row_take h2)
  rw [List.take_length] at this
  exact this
theorem movedP_all {B t : Nat} {st : St} {vs : List Value} {F : Nat → Prop} {a b : List ByteArray} {w W : World} (ha : okP a = true) (hb : okP b = true) (hl : st.length = 8) (h : MvR B t st vs F a b w 8 W) : MovedP B F t st a b w (.returned (.tuple #[])) W := by
  obtain ⟨F', us, hT, _, hf⟩ := h
  unfold MovedP movedS
  rw [if_pos ⟨ha, hb⟩]
  rw [stK_all st a b hl] at hT
  exact ⟨rfl, F', ⟨us, hT⟩, hf⟩
theorem cat_calls (W0 : World) (A2 : Option Addr) (c2 : Nat) (l2 : List ByteArray) (A3 : Option Addr) (c3 : Nat) (r : List ByteArray) (h2 : Kd.C Kd.string W0 A2 l2.length l2) (h3 : Kd.C Kd.string W0 A3 r.length r) (h2l : l2.length ≤ 1000) (hrl : r.length ≤ 1000) (hne : 0 < l2.length) :
    Calls Tryd.prog 67 #[.slice (some ⟨W0.heap.size, 0, none⟩) 2 2] (W0.alloc (.cells #[.slice A2 l2.length c2, .slice A3 r.length c3] 30)) fun e w' => ∃ g c, e = .returned (.slice (some ⟨g, 0, none⟩) (l2 ++ r).length c) ∧
      w'.ownsRow (W0.heap.size + 1) 9 1 (.slice (some ⟨g, 0, none⟩) (l2 ++ r).length c) (l2 ++ r).length (encs Value.string (l2 ++ r)) ∧ Below W0.heap.size W0 w' := by
  have hb : Below W0.heap.size W0 (W0.alloc (.cells #[.slice A2 l2.length c2, .slice A3 r.length c3] 30)) := below_alloc (Below.refl _ _) _
  refine (concat_two W0.heap.size A2 c2 l2 A3 c3 r _ (heap_alloc_new W0 _) (Kd.C_below h2 hb) (Kd.C_below h3 hb) (by omega)).mono ?_
  rintro e w' ⟨v, rfl, ho, hb2⟩
  obtain ⟨g, c, rfl⟩ := own_form (by rw [List.length_append]; omega) ho
  refine ⟨g, c, rfl, ?_, Below.trans hb (hb2.mono hb.size)⟩
  have : (W0.alloc (.cells #[.slice A2 l2.length c2, .slice A3 r.length c3] 30)).heap.size = W0.heap.size + 1 := by simp
  rw [this] at ho
  exact ho
theorem slice_from (b o n c n1 : Nat) (l : List ByteArray) (hn : n = l.length) (h1 : n1 ≤ n) (h2 : n ≤ c) (hl : l.length ≤ 1000) :
    ∃ A3 : Option Addr, (∀ W, (Instr.sliceAt 30 (.slice (some ⟨b, o, none⟩) n c) (some (.int .i64 (n1 : Int))) none none).run Tryd.prog W = .ok (.slice A3 (n - n1) (c - n1)) W) ∧ (∀ W, RowS W b o l → Kd.C Kd.string W A3 (n - n1) (l.drop n1)) := by
  refine ⟨if c = n1 then some ⟨b, o, none⟩ else some ⟨b, o + n1, none⟩, fun W => ?_, fun W hr => ?_⟩
  · have hel : Tryd.prog.elem 30 = 9 := by kernel_rfl
    have ht : Tryd.prog.underlying 30 = some (.slice (Tryd.prog.elem 30)) := by rw [hel]; exact Tryd.underlying30
    rw [run_sliceAt_slice (h := ht), run_slice_l (ht := ht) (kl := .i64) (l := (n1 : Int)) (h0 := by omega) (h1 := by omega), hel, Tryd.sizeOf9]
    show Result.ok (sliced (some ⟨b, o, none⟩) ((n1 : Int)).toNat n c 1) W = _
    rw [Int.toNat_natCast]
    unfold sliced
    by_cases hc : c = n1
    · rw [if_pos hc, if_pos hc]
    · rw [if_neg hc, if_neg hc, Option.map_some, add_none, Nat.mul_one]
  · have hdl : (l.drop n1).length = n - n1 := by rw [List.length_drop]; omega
    by_cases hc : c = n1
    · have h0 : n - n1 = 0 := by omega
      have hz : l.drop n1 = [] := List.length_eq_zero_iff.1 (by omega)
      rw [if_pos hc, hz, h0]
      exact Kd.C_of_reads (d := ByteArray.empty) (h1 := fun _ => rfl) ⟨rfl, by omega, fun h => absurd h (by decide)⟩
    · rw [if_neg hc]
      have : RowS W b (o + n1) (l.drop n1) := fun j x hx => by
        rw [List.getElem?_drop] at hx
        rw [Nat.add_assoc]
        exact hr _ _ hx
      have hh := this.reads (by omega)
      rw [hdl] at hh
      exact hh
set_option maxHeartbeats 8000000 in
theorem moved_yes {B : Nat} {w : World} {t : Nat} {st : St} {F : Nat → Prop} (h : Tab B w t true st F) (hB : B ≤ w.heap.size) (b1 o1 c1 : Nat) (l1 : List ByteArray) (b2 o2 c2 : Nat) (l2 : List ByteArray)
    (hr1 : RowS w b1 o1 l1) (hc1 : l1.length ≤ c1) (hr2 : RowS w b2 o2 l2) (hc2 : l2.length ≤ c2) (hF1 : ¬ F b1) (hF2 : ¬ F b2) (ho1 : okP l1 = true) (ho2 : okP l2 = true) :
    Calls Tryd.prog 18 #[.pointer (some ⟨t, 0, none⟩), .slice (some ⟨b1, o1, none⟩) l1.length c1, .slice (some ⟨b2, o2, none⟩) l2.length c2] w (MovedP B F t st l1 l2 w) := by
  have hi := Lib.hid (is_tab h)
  obtain ⟨p1, p2, p3⟩ := okP_len ho1
  obtain ⟨q1, q2, q3⟩ := okP_len ho2
  have hf1 : fits l1 := fits_of _ 16 (by omega) (by omega) (fun x hx => name_size (List.all_eq_true.1 p3 x hx))
  have hf2 : fits l2 := fits_of _ 16 (by omega) (by omega) (fun x hx => name_size (List.all_eq_true.1 q3 x hx))
  have hq1 := Lib.hid (right_calls _ c1 l1 w (hr1.reads (by omega)) hc1 hf1)
  have hq2 := Lib.hid (fun (W : World) (hb : Below w.heap.size w W) => right_calls _ c2 l2 W (Kd.C_below (hr2.reads (by omega)) hb) hc2 hf2)
  rw [ho1] at hq1
  rw [ho2] at hq2
  have HR1 := Lib.hid (fun (F' : Nat → Prop) (W : World) (hf : Fr F F' w W) => row_fr hr1 (by omega) hF1 hf)
  have HR2 := Lib.hid (fun (F' : Nat → Prop) (W : World) (hf : Fr F F' w W) => row_fr hr2 (by omega) hF2 hf)
  have HO1 := Lib.hid ho1
  have HO2 := Lib.hid ho2
  obtain ⟨vs, h⟩ := h
  have HV := Lib.hid h
  obtain ⟨v1, v2, v3, v4, v5, v6, v7, v8, rfl⟩ := list8 vs h.vl
  have HC : Hid (∀ W, Below w.heap.size w W → W.cell? ⟨t, 1, none⟩ = some v1 ∧ W.cell? ⟨t, 2, none⟩ = some v2 ∧ W.cell? ⟨t, 3, none⟩ = some v3 ∧ W.cell? ⟨t, 4, none⟩ = some v4 ∧ W.cell? ⟨t, 5, none⟩ = some v5 ∧ W.cell? ⟨t, 6, none⟩ = some v6 ∧ W.cell? ⟨t, 7, none⟩ = some v7 ∧ W.cell? ⟨t, 8, none⟩ = some v8) := fun W hW => by
    have hb := (hW.block t h.lt).trans h.blk
    exact ⟨by rw [cell_of_row W t 1 _ _ _ hb]; rfl, by rw [cell_of_row W t 2 _ _ _ hb]; rfl, by rw [cell_of_row W t 3 _ _ _ hb]; rfl, by rw [cell_of_row W t 4 _ _ _ hb]; rfl, by rw [cell_of_row W t 5 _ _ _ hb]; rfl, by rw [cell_of_row W t 6 _ _ _ hb]; rfl, by rw [cell_of_row W t 7 _ _ _ hb]; rfl, by rw [cell_of_row W t 8 _ _ _ hb]; rfl⟩
  have HBs := Lib.hid hB
  obtain ⟨n1, hn1⟩ : ∃ n, n = l1.length := ⟨_, rfl⟩
  obtain ⟨n2, hn2⟩ : ∃ n, n = l2.length := ⟨_, rfl⟩
  rw [← hn1] at hq1 p1 p2 hc1 ⊢
  rw [← hn2] at hq2 q1 q2 hc2 ⊢
  have HN1 := Lib.hid hn1
  have HN2 := Lib.hid hn2
  clear h hr1 hr2 hf1 hf2 ho1 ho2 p3 q3 hn1 hn2 hF1 hF2
  go_enter Tryd.func18, Tryd.ntmps18
  go_wp2_with (first | (go_at_call 59; refine hi.out.mono ?_; rintro e w1 ⟨rfl, rfl⟩) | (go_at_call_of 60 (Value.slice (some ⟨b1, o1, none⟩) n1 c1); refine hq1.out.mono ?_; rintro e w1 ⟨rfl, hb⟩) | (go_at_call_of 60 (Value.slice (some ⟨b2, o2, none⟩) n2 c2); refine (hq2.out _ hb).mono ?_; rintro e w2 ⟨rfl, hb2⟩; have HW : Hid (Below w.heap.size w w2) := Below.trans hb (hb2.mono hb.size); clear hb hb2; obtain ⟨e1, e2, e3, e4, e5, e6, e7, e8⟩ := HC.out _ HW.out))
  clear e1 e2 e3 e4 e5 e6 e7 e8 HC hi hq1 hq2
  go_loopw [25] (fun i wr => ∃ k : Nat, k ≤ 8 ∧ i = .int .i64 k ∧ Hid (MvR B t st [v1, v2, v3, v4, v5, v6, v7, v8] F l1 l2 w k wr)) (fun i _ => 8 - (intOf i).toNat)
  case atStart => exact ⟨0, by omega, rfl, F, _, by rw [stK_zero]; exact HV.out.keep (fun g hg => HW.out.block g (HV.out.rng g hg).2) HW.out.size, fun _ _ => rfl, Fr.of_below HW.out⟩
  case round =>
    obtain ⟨k, hk, rfl, HM⟩ := hrel
    by_cases hlt : k < 8
    · obtain ⟨F', us, hT, hu, hf⟩ := HM.out
      obtain ⟨e, v, he, hv, hs, hcell⟩ := hT.at_ k hlt
      rw [stK_at] at he
      have hvs : [v1, v2, v3, v4, v5, v6, v7, v8][k]? = some v := (hu k (Nat.le_refl _)).symm.trans hv
      have hix := run_index8 v1 v2 v3 v4 v5 v6 v7 v8 v k hvs
      have b0 : (0 : Int) ≤ (k : Int) := by omega
      have b8 : (k : Int) < 8 := by omega
      have HE := Lib.hid he
      have HTV := Lib.hid hT
      have HU := Lib.hid hu
      have HFr := Lib.hid hf
      have HVk := Lib.hid hv
      have HCell := Lib.hid hcell
      have HFz := Lib.hid (hT.frozen (1 + k))
      clear he hT hu hf hv hvs hcell
      cases e with
      | none =>
        obtain rfl := Slot.isNil hs
        clear hs hlt
        go_wp2
        go_roundw
        case rel => exact ⟨k + 1, by omega, by go_num, HM.out.same HE.out rfl (Below.refl _ _)⟩
        case measure => simp [intOf]; omega
      | some x =>
        obtain ⟨s, l⟩ := x
        obtain ⟨hok, g, b, o, c, rfl, hg, fg, fb, hc, hrow⟩ := hs
        obtain ⟨hl1, hl6, hln⟩ := okP_len hok
        have g0 : wr.cell? ⟨g, 0, none⟩ = some (.string s) := by rw [cell_of_row wr g 0 _ _ _ hg]; rfl
        have g1 : wr.cell? ⟨g, 1, none⟩ = some (.slice (some ⟨b, o, none⟩) l.length c) := by rw [cell_of_row wr g 1 _ _ _ hg]; rfl
        have HG := Lib.hid hg
        have HOk := Lib.hid hok
        have HRow := Lib.hid hrow
        clear hg hok hrow hln
        obtain ⟨n, hn⟩ : ∃ n, n = l.length := ⟨_, rfl⟩
        rw [← hn] at g1 hl1 hl6 hc
        have HN := Lib.hid hn
        clear hn hlt
        by_cases hsn : s.toList = []
        · have s1 : s.toList.isEmpty = true := by rw [hsn]; rfl
          have s2 : (!s.toList.isEmpty) = false := by rw [s1]; rfl
          have HSn := Lib.hid hsn
          clear hsn
          by_cases hsh : n < n1
          · have hd : decide (n < n1) = true := decide_eq_true hsh
            go_wp2
            go_roundw
            case rel => exact ⟨k + 1, by omega, by go_num, HM.out.same HE.out (movedE_short (by rw [← HN.out, ← HN1.out]; exact hsh)) (Below.refl _ _)⟩
            case measure => simp [intOf]; omega
          · have hd : decide (n < n1) = false := decide_eq_false hsh
            have hle : n1 ≤ n := by omega
            have heq := equal_rows (w := wr) (n := n1) (c := c) (d := c1) HRow.out.1 (HR1.out _ _ HFr.out) (by rw [← HN.out]; exact hle) (by rw [← HN.out]; omega) (by rw [← HN1.out]; omega)
            rw [← HN1.out] at heq
            have s3 : (n1 : Int) ≤ (c : Int) := by omega
            have s4 : (0 : Int) ≤ (n1 : Int) := by omega
            by_cases htk : l.take n1 = l1
            · rw [decide_eq_true htk] at heq
              have HEq := Lib.hid heq
              have HTk := Lib.hid htk
              have s5 : (n1 : Int) ≤ (n : Int) := by omega
              clear heq htk
              obtain ⟨A3, hsl, hrd⟩ := slice_from b o n c n1 l HN.out hle hc (by rw [← HN.out]; omega)
              have HRd := Lib.hid hrd
              clear hrd
              have HM2 := Lib.hid (fits_moved (a := l1) HO2.out HOk.out n1)
              obtain ⟨n3, hn3⟩ : ∃ n, n = (l2 ++ l.drop n1).length := ⟨_, rfl⟩
              have HN3 := Lib.hid hn3
              have HB3 : Hid (0 < (l2 ++ l.drop n1).length) := Lib.hid (by rw [List.length_append, ← HN2.out]; omega)
              clear hn3
              have HCat : Hid (∀ q, Calls Tryd.prog 67 #[.slice (some ⟨(wr.drewN q).heap.size, 0, none⟩) 2 2] ((wr.drewN q).alloc (.cells #[.slice (some ⟨b2, o2, none⟩) n2 c2, .slice A3 (n - n1) (c - n1)] 30)) fun e w' =>
                  ∃ g c, e = .returned (.slice (some ⟨g, 0, none⟩) n3 c) ∧ w'.ownsRow (wr.heap.size + 1) 9 1 (.slice (some ⟨g, 0, none⟩) (l2 ++ l.drop n1).length c) (l2 ++ l.drop n1).length (encs Value.string (l2 ++ l.drop n1)) ∧ Below wr.heap.size wr w') := fun q => by
                have hdl : (l.drop n1).length = n - n1 := by rw [List.length_drop, ← HN.out]
                have := cat_calls (wr.drewN q) (some ⟨b2, o2, none⟩) c2 l2 A3 (c - n1) (l.drop n1) (RowS.reads (HR2.out _ (wr.drewN q) (HFr.out.post (below_drewN (Below.refl _ _) q))) (by rw [← HN2.out]; omega)) (by rw [hdl]; exact HRd.out _ HRow.out.1) (by rw [← HN2.out]; omega) (by rw [hdl]; omega) (by rw [← HN2.out]; omega)
                rw [hdl, ← HN2.out] at this
                refine this.mono ?_
                rintro e w' ⟨g, c, rfl, ho, hb⟩
                exact ⟨g, c, by rw [HN3.out], ho, Below.trans (below_drewN (Below.refl _ _) q) hb⟩
              have hgl : g < wr.heap.size := (Array.getElem?_eq_some_iff.1 HG.out).1
              have htl : t < wr.heap.size := HTV.out.lt
              have gz : wr.frozen? ⟨g, 1, none⟩ = false := by simp [World.frozen?, HG.out]
              by_cases hokL : okP (l2 ++ l.drop n1) = true
              · have HOkL := Lib.hid hokL
                clear hokL
                go_wp2_with (first | (go_at_call 66; refine HEq.out.mono ?_; rintro e w3 ⟨rfl, q, rfl⟩) | (go_at_call 67; refine (HCat.out _).mono ?_; rintro e w4 ⟨g3, c3, rfl, ho, hb⟩; have k1 : w4.cell? ⟨g, 1, none⟩ = some (.slice (some ⟨b, o, none⟩) n c) := (hb.cell (p := ⟨g, 1, none⟩) hgl).trans g1; have k2 : w4.frozen? ⟨g, 1, none⟩ = false := (hb.frozen (p := ⟨g, 1, none⟩) hgl).trans gz; have HO4 := Lib.hid ho; have HB4 := Lib.hid hb; clear ho hb) | (go_at_call 60; refine (right_own hgl HB3.out HN3.out HM2.out HO4.out _).mono ?_; rw [HOkL.out]; rintro e w5 ⟨rfl, hb5⟩; have HB5 := Lib.hid hb5; clear hb5))
                go_roundw
                case rel => exact ⟨k + 1, by omega, by go_num, MvR.row HTV.out HU.out HFr.out HBs.out HE.out HVk.out HG.out fg HB4.out (HN1.out ▸ movedE_yes (b := l2) (l := l) HSn.out (by rw [← HN1.out, ← HN.out]; exact hle) (by rw [← HN1.out]; exact HTk.out) (by rw [← HN1.out]; exact HOkL.out)) HOkL.out (Nat.le_succ _) HO4.out (by have h := HB5.out; rw [HN3.out] at h; exact h)⟩
                case measure => simp [intOf]; omega
              · have hokF : okP (l2 ++ l.drop n1) = false := by simpa using hokL
                have HOkL := Lib.hid hokF
                clear hokL hokF
                go_wp2_with (first | (go_at_call 66; refine HEq.out.mono ?_; rintro e w3 ⟨rfl, q, rfl⟩) | (go_at_call 67; refine (HCat.out _).mono ?_; rintro e w4 ⟨g3, c3, rfl, ho, hb⟩; have k1 : w4.cell? ⟨g, 1, none⟩ = some (.slice (some ⟨b, o, none⟩) n c) := (hb.cell (p := ⟨g, 1, none⟩) hgl).trans g1; have k2 : w4.frozen? ⟨g, 1, none⟩ = false := (hb.frozen (p := ⟨g, 1, none⟩) hgl).trans gz; have HO4 := Lib.hid ho; have HB4 := Lib.hid hb; clear ho hb) | (go_at_call 60; refine (right_own hgl HB3.out HN3.out HM2.out HO4.out _).mono ?_; rw [HOkL.out]; rintro e w5 ⟨rfl, hb5⟩; have k3 : w5.cell? ⟨t, 1 + k, none⟩ = some (.pointer (some ⟨g, 0, none⟩)) := gone_cell HTV.out HG.out HB4.out hb5 HCell.out; have k4 : w5.frozen? ⟨t, 1 + k, none⟩ = false := gone_frozen HTV.out HG.out HB4.out hb5 HFz.out; have HB5 := Lib.hid hb5; clear hb5))
                go_roundw
                case rel => exact ⟨k + 1, by omega, by go_num, MvR.gone HTV.out HU.out HFr.out HBs.out HE.out HVk.out HG.out fg HB4.out (movedE_gone (b := l2) (l := l) HSn.out (by rw [← HN1.out, ← HN.out]; exact hle) (by rw [← HN1.out]; exact HTk.out) (by rw [← HN1.out]; exact HOkL.out)) HB5.out⟩
                case measure => simp [intOf]; omega
            · rw [decide_eq_false htk] at heq
              have HEq := Lib.hid heq
              have HTk := Lib.hid htk
              clear heq htk
              go_wp2_with (first | (go_at_call 66; refine HEq.out.mono ?_; rintro e w3 ⟨rfl, q, rfl⟩))
              go_roundw
              case rel => exact ⟨k + 1, by omega, by go_num, HM.out.same HE.out (movedE_ne (by rw [← HN1.out]; exact HTk.out)) (below_drewN (Below.refl _ _) _)⟩
              case measure => simp [intOf]; omega
        · have s1 : s.toList.isEmpty = false := by simpa using hsn
          have s2 : (!s.toList.isEmpty) = true := by rw [s1]; rfl
          have HSn := Lib.hid hsn
          clear hsn
          go_wp2
          go_roundw
          case rel => exact ⟨k + 1, by omega, by go_num, HM.out.same HE.out (movedE_snap HSn.out) (Below.refl _ _)⟩
          case measure => simp [intOf]; omega
    · obtain rfl : k = 8 := by omega
      go_wp2
      go_end0
      exact movedP_all HO1.out HO2.out HV.out.sl HM.out
end Go.Proofs.YthafpbidfgmacaaDoor.Hd
