/- The walks of a table's functions: Open, Count, Clear. -/
import Derived.Test.YthafpbidfgmacaaDoorT2
namespace Go.Proofs.YthafpbidfgmacaaDoor.Hd
open Go.RowKit Go.Proofs.YthafpbidfgmacaaDoor Go.Proofs.YthafpbidfgmacaaDoorW.PrintWords Go.Proofs.YthafpbidfgmacaaDoorW.PrintLast Go.Proofs.YthafpbidfgmacaaDoorW.PrintMore
set_option linter.unusedVariables false
set_option linter.unusedSimpArgs false

/-- An entry is put: the blocks that the call made are the table's from now on. -/
theorem tab_put {B : Nat} {w W : World} {t : Nat} {st : St} {F : Nat → Prop} {vs : List Value} (h : TabV B w t true st F vs) (hB : B ≤ w.heap.size) (hW : Below w.heap.size w W) (d : Nat) (hd : d < 8) (s : ByteArray) (l : List ByteArray) (hl : okP l = true) (v : Value) (b0 : Nat) (hb0 : w.heap.size ≤ b0)
    (ho : W.ownsRow b0 9 1 v l.length (encs Value.string l)) : ∃ F', TabV B ((W.alloc (.cells #[.string s, v] 90)).setCell ⟨t, 1 + d, none⟩ (.pointer (some ⟨W.heap.size, 0, none⟩))) t true (st.set d (some (s, l))) F' (vs.set d (.pointer (some ⟨W.heap.size, 0, none⟩))) ∧
      Fr F F' w ((W.alloc (.cells #[.string s, v] 90)).setCell ⟨t, 1 + d, none⟩ (.pointer (some ⟨W.heap.size, 0, none⟩))) := by
  obtain ⟨hl1, hl6, _⟩ := okP_len hl
  rcases ho.2 with ⟨_, hn⟩ | ⟨b, c, cur, rfl, hb, hh, hc, hm, hcs, hx⟩
  · omega
  have hbW : b < W.heap.size := (Array.getElem?_eq_some_iff.1 hh).1
  have hsz : w.heap.size ≤ W.heap.size := hW.size
  have hrow : RowS W b 0 l := by
    intro j x hj
    have hjl := (List.getElem?_eq_some_iff.1 hj).1
    rw [Nat.zero_add, cell_of_row W b j _ _ _ hh]
    have e : (encs Value.string l)[j]? = some (.string x) := by simp [encs, hj]
    rw [← hx] at e
    have e2 := List.getElem?_take (l := cur.toList) (i := l.length * 1) (j := j)
    rw [if_pos (by omega)] at e2
    rw [e2] at e
    simpa using e
  have h1 : TabV B (W.alloc (.cells #[.string s, .slice (some ⟨b, 0, none⟩) l.length c] 90)) t true st F vs := by
    refine (h.keep (w' := W) (fun g hg => hW.block g (h.rng g hg).2) hsz).keep (fun g hg => Below.heap_alloc _ _ g (by have := (h.rng g hg).2; omega)) (by simp)
  have hF' : ∀ g, F g → F g ∨ g = W.heap.size ∨ g = b := fun g hg => .inl hg
  have hs : Slot (W.alloc (.cells #[.string s, .slice (some ⟨b, 0, none⟩) l.length c] 90)) (fun g => F g ∨ g = W.heap.size ∨ g = b) (some (s, l)) (.pointer (some ⟨W.heap.size, 0, none⟩)) :=
    ⟨hl, W.heap.size, b, 0, c, rfl, heap_alloc_new W _, .inr (.inl rfl), .inr (.inr rfl), hc, Row9.keep ⟨hrow, _, hh⟩ (Below.heap_alloc _ _ b hbW)⟩
  refine ⟨fun g => F g ∨ g = W.heap.size ∨ g = b, h1.set d hd (some (s, l)) _ hF' (fun g hg => ?_) hs ?_, ?_⟩
  · have hz : (W.alloc (.cells #[.string s, .slice (some ⟨b, 0, none⟩) l.length c] 90)).heap.size = W.heap.size + 1 := by simp
    rw [hz]
    rcases hg with hg | hg | hg
    · have := h.rng g hg; omega
    · omega
    · omega
  · intro a ha j _ hj
    have hj8 : j < 8 := by have := (List.getElem?_eq_some_iff.1 hj).1; rw [h.vl] at this; exact this
    obtain ⟨e, v, he, hv, hs, _⟩ := h.at_ j hj8
    rw [hj] at hv
    obtain rfl := Option.some.inj hv
    cases e with
    | none => exact absurd (Slot.isNil hs) (by simp)
    | some p =>
      obtain ⟨_, g, _, _, _, hv, _, fg, _⟩ := hs
      injection ha with ha
      injection ha with ha
      injection hv with hv
      injection hv with hv
      rw [← ha] at hv
      injection hv with hv
      have := (h.rng g fg).2
      omega
  · refine ⟨hW.os, hW.tape, hW.output, ?_, fun g hg hn => ?_, fun g hg => ?_⟩
    · show w.heap.size ≤ (World.setCell _ _ _).heap.size
      simp [World.setCell]
      omega
    · rw [Below.heap_setCell _ _ _ g (fun e => hn (by rw [e]; exact h.ft)), Below.heap_alloc _ _ g (by omega)]
      exact hW.block g hg
    · rcases hg with hg | hg | hg
      · exact .inl hg
      · exact .inr (by omega)
      · exact .inr (by omega)

theorem own_form {W : World} {base : Nat} {v : Value} {l : List ByteArray} (hl : 0 < l.length) (ho : W.ownsRow base 9 1 v l.length (encs Value.string l)) : ∃ g c, v = .slice (some ⟨g, 0, none⟩) l.length c := by
  rcases ho.2 with ⟨_, hn⟩ | ⟨b, c, cur, rfl, _⟩
  · omega
  · exact ⟨b, c, rfl⟩
theorem clone_row1 {w : World} {b o c : Nat} {l : List ByteArray} (h : RowS w b o l) (hl : l.length ≤ 1000) (h0 : 0 < l.length) : Calls Tryd.prog 61 #[.slice (some ⟨b, o, none⟩) l.length c] w fun e w' => ∃ g c', e = .returned (.slice (some ⟨g, 0, none⟩) l.length c') ∧ w'.ownsRow w.heap.size 9 1 (.slice (some ⟨g, 0, none⟩) l.length c') l.length (encs Value.string l) ∧ Below w.heap.size w w' := by
  refine (clone_row h hl).mono ?_
  rintro e w' ⟨v, rfl, ho, hb⟩
  obtain ⟨g, c', rfl⟩ := own_form h0 ho
  exact ⟨g, c', rfl, ho, hb⟩
theorem list8 (vs : List Value) (h : vs.length = 8) : ∃ v1 v2 v3 v4 v5 v6 v7 v8, vs = [v1, v2, v3, v4, v5, v6, v7, v8] := by
  match vs, h with
  | [v1, v2, v3, v4, v5, v6, v7, v8], _ => exact ⟨v1, v2, v3, v4, v5, v6, v7, v8, rfl⟩
def OpenP (B : Nat) (F : Nat → Prop) (t : Nat) (st : St) (s : ByteArray) (l : List ByteArray) (w : World) (e : Ending) (w' : World) : Prop :=
  StepP B F t (.tuple #[.int .i64 (openS st s l).2.1, .int .i64 (openS st s l).2.2]) (openS st s l).1 w e w'
theorem openP_put {B : Nat} {F F' : Nat → Prop} {t : Nat} {st : St} {s : ByteArray} {l : List ByteArray} {w w' : World} {k : Nat} (hl : okP l = true) (hk : freeS st = k) (hk8 : k < 8) (h : Tab B w' t true (st.set k (some (s, l))) F') (hf : Fr F F' w w') :
    OpenP B F t st s l w (.returned (.tuple #[.int .i64 (k : Int), .int .i64 0])) w' := by
  unfold OpenP openS
  rw [if_pos hl, hk, if_pos hk8]
  exact ⟨rfl, F', h, hf⟩
theorem openP_full {B : Nat} {F : Nat → Prop} {t : Nat} {st : St} {s : ByteArray} {l : List ByteArray} {w w' : World} (hl : okP l = true) (hk : ¬ freeS st < 8) (h : Tab B w t true st F) (hb : Below w.heap.size w w') :
    OpenP B F t st s l w (.returned (.tuple #[.int .i64 0, .int .i64 7])) w' := by
  unfold OpenP openS
  rw [if_pos hl, if_neg hk]
  exact ⟨rfl, F, h.below hb, Fr.of_below hb⟩
theorem openP_bad {B : Nat} {F : Nat → Prop} {t : Nat} {st : St} {s : ByteArray} {l : List ByteArray} {w w' : World} (hl : okP l = false) (h : Tab B w t true st F) (hb : Below w.heap.size w w') :
    OpenP B F t st s l w (.returned (.tuple #[.int .i64 0, .int .i64 4])) w' := by
  unfold OpenP openS
  rw [if_neg (by rw [hl]; decide)]
  exact ⟨rfl, F, h.below hb, Fr.of_below hb⟩
def TakenTo (st : St) (k : Nat) : Prop := ∀ j, j < k → ∃ x, st[j]? = some (some x)
theorem TakenTo.succ {st : St} {k : Nat} {x : Ent} (h : TakenTo st k) (hx : st[k]? = some (some x)) : TakenTo st (k + 1) := fun j hj => by
  rcases Nat.lt_or_ge j k with h1 | h1
  · exact h j h1
  · obtain rfl : j = k := by omega
    exact ⟨x, hx⟩
set_option maxHeartbeats 4000000 in
theorem open_tab {B : Nat} {w : World} {t : Nat} {st : St} {F : Nat → Prop} (h : Tab B w t true st F) (hB : B ≤ w.heap.size) (s : ByteArray) (A0 : Option Addr) (c0 : Nat) (l0 : List ByteArray) (hr0 : Kd.C Kd.string w A0 l0.length l0) (hc0 : l0.length ≤ c0) (hf : fits l0) :
    Calls Tryd.prog 15 #[.pointer (some ⟨t, 0, none⟩), .string s, .slice A0 l0.length c0] w (OpenP B F t st s l0 w) := by
  have hi := Lib.hid (is_tab h)
  have hT := Lib.hid h
  have hr := Lib.hid (right_calls A0 c0 l0 w hr0 hc0 hf)
  by_cases hok : okP l0 = true
  · rw [hok] at hr
    obtain ⟨hl1, hl6, _⟩ := okP_len hok
    obtain ⟨b, o, rfl, hlt, hrow⟩ := c_cells hr0 (by omega)
    have hcl := Lib.hid (fun (W : World) (hW : Below w.heap.size w W) => clone_row1 (w := W) (c := c0) (RowS.keep hrow (hW.block b hlt)) (by omega) (by omega))
    have HOk := Lib.hid hok
    clear hr0 hrow hok hf
    obtain ⟨n, hn⟩ : ∃ n, n = l0.length := ⟨_, rfl⟩
    rw [← hn] at hr hcl ⊢
    have HN := Lib.hid hn
    obtain ⟨vs, h⟩ := h
    have HV := Lib.hid h
    have HBs := Lib.hid hB
    have HSl := Lib.hid h.sl
    clear hn h hB hl1 hl6 hc0 hlt
    go_enter Tryd.func15, Tryd.ntmps15
    go_wp2_with (first | (go_at_call 59; refine hi.out.mono ?_; rintro e w1 ⟨rfl, rfl⟩) | (go_at_call 60; refine hr.out.mono ?_; rintro e w1 ⟨rfl, hb⟩))
    have HW := Lib.hid hb
    clear hb hr hi
    go_loop [17] (fun i => ∃ k : Nat, k ≤ 8 ∧ i = .int .i64 k ∧ Hid (TakenTo st k)) (fun i => 8 - (intOf i).toNat)
    case atStart => exact ⟨0, by omega, rfl, fun j hj => by omega⟩
    case round =>
      obtain ⟨k, hk, rfl, HK⟩ := hrel
      by_cases hlt : k < 8
      · have HV1 : TabV B w1 t true st F vs := HV.out.keep (fun g hg => HW.out.block g (HV.out.rng g hg).2) HW.out.size
        obtain ⟨e, v, he, hv, hs, hc⟩ := HV1.at_ k hlt
        have hfz := HV1.frozen (1 + k)
        clear HV1
        have b0 : (0 : Int) ≤ (k : Int) := by omega
        have b1 : (k : Int) < 8 := by omega
        cases e with
        | none =>
          obtain rfl := Slot.isNil hs
          have HE := Lib.hid he
          clear he hv hs hlt
          go_wp2
          have htl : t < w1.heap.size := Nat.lt_of_lt_of_le HV.out.lt HW.out.size
          go_region_held3 (fun w' => True) (go_keep)
            ((go_at_call 61; refine (hcl.out _ (below_drew HW.out)).mono ?_; rintro e w2 ⟨g2, c2, rfl, ho, hb⟩; have hc2 : w2.cell? ⟨t, 1 + k, none⟩ = some (.pointer none) := (hb.cell (p := ⟨t, 1 + k, none⟩) htl).trans hc; have hf2 : w2.frozen? ⟨t, 1 + k, none⟩ = false := (hb.frozen (p := ⟨t, 1 + k, none⟩) htl).trans hfz; have hs2 : t < w2.heap.size := Nat.lt_of_lt_of_le htl hb.size))
          go_wp2
          go_ret2
          rw [← World.setCell_alloc_past _ _ _ _ hs2]
          obtain ⟨F', hT', hF'⟩ := tab_put HV.out HBs.out (Below.trans (below_drew HW.out) (hb.mono HW.out.size)) k (by omega) s l0 HOk.out (.slice (some ⟨g2, 0, none⟩) n c2) _ HW.out.size (by rw [← HN.out]; exact ho)
          exact openP_put HOk.out (freeS_is st k HK.out HE.out HSl.out) (by omega) ⟨_, hT'⟩ hF'
        | some x =>
          obtain ⟨s1, l1⟩ := x
          obtain ⟨_, g, _, _, _, rfl, _⟩ := hs
          have HE : Hid (TakenTo st (k + 1)) := HK.out.succ he
          clear he hv hfz hlt
          go_wp2
          go_round
          case rel => exact ⟨k + 1, by omega, by go_num, HE⟩
          case measure => simp [intOf]; omega
      · obtain rfl : k = 8 := by omega
        go_wp2
        go_ret2
        exact openP_full HOk.out (freeS_full st HK.out) hT.out HW.out
  · have hok' : okP l0 = false := by simpa using hok
    rw [hok'] at hr
    have HOk := Lib.hid hok'
    clear hok hok' hr0 h hf
    generalize hn : l0.length = n at *
    clear hn
    go_enter Tryd.func15, Tryd.ntmps15
    go_wp2_with (first | (go_at_call 59; refine hi.out.mono ?_; rintro e w1 ⟨rfl, rfl⟩) | (go_at_call 60; refine hr.out.mono ?_; rintro e w1 ⟨rfl, hb⟩))
    go_ret2
    exact openP_bad HOk.out hT.out hb

set_option maxHeartbeats 1000000 in
theorem open_nil (w : World) (s a : Value) : Calls Tryd.prog 15 #[.pointer none, s, a] w fun e w' => e = .returned (.tuple #[.int .i64 0, .int .i64 1]) ∧ w = w' := by
  have hi := Lib.hid (is_nil w)
  go_enter Tryd.func15, Tryd.ntmps15
  go_wp2_with (go_at_call 59; refine hi.out.mono ?_; rintro e w1 ⟨rfl, rfl⟩)
  go_ret2
  exact ⟨rfl, rfl⟩
set_option maxHeartbeats 1000000 in
theorem close_nil (w : World) (d : Int) : Calls Tryd.prog 17 #[.pointer none, .int .i64 d] w fun e w' => e = .returned (.int .i64 1) ∧ w = w' := by
  have hi := Lib.hid (is_nil w)
  go_enter Tryd.func17, Tryd.ntmps17
  go_wp2_with (go_at_call 59; refine hi.out.mono ?_; rintro e w1 ⟨rfl, rfl⟩)
  go_ret
  exact ⟨rfl, rfl⟩
set_option maxHeartbeats 1000000 in
theorem moved_nil (w : World) (a b : Value) : Calls Tryd.prog 18 #[.pointer none, a, b] w fun e w' => e = .returned (.tuple #[]) ∧ w = w' := by
  have hi := Lib.hid (is_nil w)
  go_enter Tryd.func18, Tryd.ntmps18
  go_wp2_with (go_at_call 59; refine hi.out.mono ?_; rintro e w1 ⟨rfl, rfl⟩)
  refine bodyPost_ret (results_none rfl _ _ _) rfl ?_
  exact ⟨rfl, rfl⟩
set_option maxHeartbeats 1000000 in
theorem clear_zero {B : Nat} {w : World} {t : Nat} {st : St} {F : Nat → Prop} (h : Tab B w t false st F) : Calls Tryd.prog 57 #[.pointer (some ⟨t, 0, none⟩)] w fun e w' => e = .returned (.tuple #[]) ∧ w = w' := by
  have hi := Lib.hid (is_tab h)
  clear h
  go_enter Tryd.func57, Tryd.ntmps57
  go_wp2_with (go_at_call 59; refine hi.out.mono ?_; rintro e w1 ⟨rfl, rfl⟩)
  go_end0
  exact ⟨rfl, rfl⟩
set_option maxHeartbeats 1000000 in
theorem count_zero {B : Nat} {w : World} {t : Nat} {st : St} {F : Nat → Prop} (h : Tab B w t false st F) : Calls Tryd.prog 52 #[.pointer (some ⟨t, 0, none⟩)] w fun e w' => e = .returned (.int .i64 0) ∧ w = w' := by
  have hi := Lib.hid (is_tab h)
  clear h
  go_enter Tryd.func52, Tryd.ntmps52
  go_wp2_with (go_at_call 59; refine hi.out.mono ?_; rintro e w1 ⟨rfl, rfl⟩)
  go_ret
  exact ⟨rfl, rfl⟩
theorem count_take (st : St) (k : Nat) (e : Option Ent) (h : st[k]? = some e) : (st.take (k + 1)).countP (·.isSome) = (st.take k).countP (·.isSome) + (if e.isSome then 1 else 0) := by
  obtain ⟨hl, he⟩ := List.getElem?_eq_some_iff.1 h
  rw [List.take_succ_eq_append_getElem hl, List.countP_append, he]
  cases e <;> simp
set_option maxHeartbeats 2000000 in
theorem count_tab {B : Nat} {w : World} {t : Nat} {st : St} {F : Nat → Prop} (h : Tab B w t true st F) : Calls Tryd.prog 52 #[.pointer (some ⟨t, 0, none⟩)] w fun e w' => e = .returned (.int .i64 (countS st : Int)) ∧ w = w' := by
  have hi := Lib.hid (is_tab h)
  obtain ⟨vs, h⟩ := h
  have HV := Lib.hid h
  clear h
  go_enter Tryd.func52, Tryd.ntmps52
  go_wp2_with (go_at_call 59; refine hi.out.mono ?_; rintro e w1 ⟨rfl, rfl⟩)
  go_loop [3, 7] (fun n i => ∃ k : Nat, k ≤ 8 ∧ i = .int .i64 k ∧ n = .int .i64 (((st.take k).countP (·.isSome) : Nat) : Int)) (fun _ i => 8 - (intOf i).toNat)
  case atStart => exact ⟨0, by omega, rfl, rfl⟩
  case round =>
    obtain ⟨k, hk, rfl, rfl⟩ := hrel
    by_cases hlt : k < 8
    · obtain ⟨e, v, he, hv, hs, hc⟩ := HV.out.at_ k hlt
      have b0 : (0 : Int) ≤ (k : Int) := by omega
      have b1 : (k : Int) < 8 := by omega
      have HE := Lib.hid (count_take st k e he)
      have hcl : (st.take k).countP (·.isSome) ≤ 8 := Nat.le_trans List.countP_le_length (by rw [List.length_take]; omega)
      generalize (st.take k).countP (·.isSome) = n at hcl HE ⊢
      cases e with
      | none =>
        obtain rfl := Slot.isNil hs
        clear he hv hs hlt
        go_wp2
        go_round
        case rel => exact ⟨k + 1, by omega, by go_num, by rw [HE.out]; rfl⟩
        case measure => simp [intOf]; omega
      | some x =>
        obtain ⟨s1, l1⟩ := x
        obtain ⟨_, g, _, _, _, rfl, _⟩ := hs
        clear he hv hlt
        go_wp2
        go_round
        case rel => exact ⟨k + 1, by omega, by go_num, by rw [HE.out]; rfl⟩
        case measure => simp [intOf]; omega
    · obtain rfl : k = 8 := by omega
      go_wp2
      go_ret
      exact ⟨ret_int (by unfold countS; rw [List.take_of_length_le (by rw [HV.out.sl]; omega)]), rfl⟩
end Go.Proofs.YthafpbidfgmacaaDoor.Hd
