/- The walks of a table's functions: New, is, right, at, Count. -/
import Derived.Test.YthafpbidfgmacaaDoorT1
import Derived.WalkKit
import Derived.WalkSpells
import Derived.Test.YthafpbidfgmacaaDoorSShelf3
import Derived.Deep.RegionHeld3
import Derived.Deep.DrawnRows
import Derived.StillTailTactics
import Derived.Lib.Hide
import Derived.Outline
namespace Go.Proofs.YthafpbidfgmacaaDoor.Hd
open Go.RowKit Go.Proofs.YthafpbidfgmacaaDoor Go.Proofs.YthafpbidfgmacaaDoorW.PrintWords Go.Proofs.YthafpbidfgmacaaDoorW.PrintLast Go.Proofs.YthafpbidfgmacaaDoorW.PrintMore
set_option linter.unusedVariables false
set_option linter.unusedSimpArgs false

theorem nils_slot (w : World) (F : Nat → Prop) (d : Nat) (e : Option Ent) (v : Value) (he : (List.replicate 8 (none : Option Ent))[d]? = some e) (hv : (List.replicate 8 (Value.pointer none))[d]? = some v) : Slot w F e v := by
  obtain ⟨h1, h2⟩ := List.getElem?_eq_some_iff.1 he
  obtain ⟨h3, h4⟩ := List.getElem?_eq_some_iff.1 hv
  rw [List.getElem_replicate] at h2 h4
  subst h2
  subst h4
  rfl
theorem nils_inj (d e : Nat) (a : Addr) (h : (List.replicate 8 (Value.pointer none))[d]? = some (.pointer (some a))) : d = e := by
  obtain ⟨h3, h4⟩ := List.getElem?_eq_some_iff.1 h
  rw [List.getElem_replicate] at h4
  cases h4
theorem tab_new (w : World) (made : Bool) : Tab w.heap.size (w.alloc (.cells #[.bool made, .pointer none, .pointer none, .pointer none, .pointer none, .pointer none, .pointer none, .pointer none, .pointer none] 87)) w.heap.size made newS (fun g => g = w.heap.size) :=
  ⟨List.replicate 8 (.pointer none), by simp, by simp [newS], by rw [heap_alloc_new]; rfl, rfl, fun g hg => ⟨by omega, by rw [hg]; exact alloc_lt w _⟩, fun d e v he hv => nils_slot _ _ d e v he hv, fun d e a hd _ => nils_inj d e a hd⟩

set_option maxHeartbeats 1000000 in
theorem new_eq (w : World) : Calls Tryd.prog 14 #[] w fun e w' => e = .returned (.pointer (some ⟨w.heap.size, 0, none⟩)) ∧ w' = w.alloc (.cells #[.bool true, .pointer none, .pointer none, .pointer none, .pointer none, .pointer none, .pointer none, .pointer none, .pointer none] 87) := by
  go_enter Tryd.func14, Tryd.ntmps14
  go_wp2
  go_ret
  exact ⟨rfl, rfl⟩
theorem new_calls (w : World) : Calls Tryd.prog 14 #[] w fun e w' => e = .returned (.pointer (some ⟨w.heap.size, 0, none⟩)) ∧ Tab w.heap.size w' w.heap.size true newS (fun g => g = w.heap.size) ∧ Below w.heap.size w w' :=
  (new_eq w).mono fun e w' ⟨he, hw⟩ => ⟨he, by rw [hw]; exact tab_new w true, by rw [hw]; exact below_alloc (Below.refl _ _) _⟩

set_option maxHeartbeats 1000000 in
theorem is_nil (w : World) : Calls Tryd.prog 59 #[.pointer none] w fun e w' => e = .returned (.bool false) ∧ w = w' := by
  go_enter Tryd.func59, Tryd.ntmps59
  go_wp2
  go_ret
  exact ⟨rfl, rfl⟩
set_option maxHeartbeats 1000000 in
theorem is_tab {B : Nat} {w : World} {t : Nat} {made : Bool} {st : St} {F : Nat → Prop} (h : Tab B w t made st F) : Calls Tryd.prog 59 #[.pointer (some ⟨t, 0, none⟩)] w fun e w' => e = .returned (.bool made) ∧ w = w' := by
  obtain ⟨vs, h⟩ := h
  have hc := h.made_cell
  clear h
  go_enter Tryd.func59, Tryd.ntmps59
  go_wp2
  go_ret
  exact ⟨rfl, rfl⟩

/-- May a list of names be gone through at all? -/
def fits (l : List ByteArray) : Prop := l.length ≤ 1000 ∧ (joinB l ⟨#[0]⟩).size ≤ 100000
set_option maxHeartbeats 1000000 in
theorem right_calls (A0 : Option Addr) (c0 : Nat) (l0 : List ByteArray) (w : World) (hr0 : Kd.C Kd.string w A0 l0.length l0) (hc0 : l0.length ≤ c0) (hf : fits l0) :
    Calls Tryd.prog 60 #[.slice A0 l0.length c0] w fun e w' => e = .returned (.bool (okP l0)) ∧ Below w.heap.size w w' := by
  obtain ⟨hl, hj⟩ := hf
  by_cases h0 : l0.length = 0
  · have hz : okP l0 = false := by
      have : l0 = [] := List.length_eq_zero_iff.1 h0
      subst this
      rfl
    rw [h0, hz]
    clear h0 hz hr0 hc0 hl hj
    go_enter Tryd.func60, Tryd.ntmps60
    go_wp2
    go_ret
    exact ⟨rfl, Below.refl _ _⟩
  · have hm := Q.meta_is l0 (by omega) (by omega) (l0.length + 1) (by omega) (by omega)
    have hcall := Lib.hid (Q.key_Meta.calls _ A0 c0 l0 _ w hr0 hc0 hm)
    have h1 : 0 < l0.length := by omega
    have hemp : l0.isEmpty = false := by
      cases l0 with
      | nil => exact absurd rfl h0
      | cons _ _ => rfl
    have hd : decide ((l0.length : Int) > 0) = true := decide_eq_true (by omega)
    have hp : okP l0 = Q.rightB l0 := by unfold okP; rw [hemp]; rfl
    rw [hp]
    clear hp hemp hm hr0 hc0
    by_cases hr : Q.rightB l0 = true
    · rw [if_pos hr] at hcall
      rw [hr]
      clear hr
      obtain ⟨s, hs⟩ : ∃ s : ByteArray, s = ⟨#[109]⟩ ++ joinB l0 ⟨#[0]⟩ := ⟨_, rfl⟩
      rw [← hs] at hcall
      have hne : s.toList.isEmpty = false := by
        rw [hs, Q.tl, Q.app_data]
        rfl
      have hne2 : (!s.toList.isEmpty) = true := by rw [hne]; rfl
      clear hs
      generalize l0.length = n at *
      go_enter Tryd.func60, Tryd.ntmps60
      go_wp2_with (go_at_call 28; refine hcall.out.mono ?_; rintro e w1 ⟨rfl, hb⟩)
      go_ret
      exact ⟨rfl, hb⟩
    · rw [if_neg hr] at hcall
      have hr' : Q.rightB l0 = false := by simpa using hr
      rw [hr']
      clear hr hr'
      generalize l0.length = n at *
      go_enter Tryd.func60, Tryd.ntmps60
      go_wp2_with (go_at_call 28; refine hcall.out.mono ?_; rintro e w1 ⟨rfl, hb⟩)
      go_ret
      exact ⟨rfl, hb⟩

/-- What 'at' answers: nil, or the cell. -/
def ptrAt (vs : List Value) (d : Int) : Value := if 0 ≤ d ∧ d < 8 then vs.getD d.toNat (.pointer none) else .pointer none
set_option maxHeartbeats 1000000 in
theorem at_tab {B : Nat} {w : World} {t : Nat} {made : Bool} {st : St} {F : Nat → Prop} {vs : List Value} (h : TabV B w t made st F vs) (d : Int) : Calls Tryd.prog 65 #[.pointer (some ⟨t, 0, none⟩), .int .i64 d] w fun e w' => e = .returned (ptrAt vs d) ∧ w = w' := by
  unfold ptrAt
  by_cases h0 : d < 0
  · rw [if_neg (by omega)]
    clear h
    have hd : decide (d < 0) = true := decide_eq_true h0
    go_enter Tryd.func65, Tryd.ntmps65
    go_wp2
    go_ret
    exact ⟨rfl, rfl⟩
  · by_cases h8 : d ≥ 8
    · rw [if_neg (by omega)]
      clear h
      have hd : decide (d < 0) = false := decide_eq_false h0
      have hd8 : decide (d ≥ 8) = true := decide_eq_true h8
      go_enter Tryd.func65, Tryd.ntmps65
      go_wp2
      go_ret
      exact ⟨rfl, rfl⟩
    · rw [if_pos (by omega)]
      obtain ⟨k, rfl⟩ : ∃ k : Nat, d = k := ⟨d.toNat, by omega⟩
      obtain ⟨e, v, _, hv, _, hc⟩ := h.at_ k (by omega)
      have hx : vs.getD ((k : Int)).toNat (.pointer none) = v := by rw [Int.toNat_natCast, List.getD_eq_getElem?_getD, hv]; rfl
      rw [hx]
      clear h hx hv
      have hd : decide ((k : Int) < 0) = false := decide_eq_false h0
      have hd8 : decide ((k : Int) ≥ 8) = false := decide_eq_false h8
      have b0 : (0 : Int) ≤ (k : Int) := by omega
      have b1 : (k : Int) < 8 := by omega
      go_enter Tryd.func65, Tryd.ntmps65
      go_wp2
      go_ret
      exact ⟨rfl, rfl⟩

theorem eql_told_nil (w : World) : (binOp .eql 84 (.pointer none) (.pointer none)).run Tryd.prog w = .ok (.bool true) w := by kernel_rfl
/-- What Of answers. -/
def OfP (w : World) (r : ByteArray × List ByteArray × Int) (e : Ending) (w' : World) : Prop := ∃ v, e = .returned (.tuple #[.string r.1, v, .int .i64 r.2.2]) ∧ Kd.R Kd.string 9 w' w.heap.size (fun _ => True) v r.2.1 ∧ Below w.heap.size w w'
theorem atS_ptr {B : Nat} {w : World} {t : Nat} {made : Bool} {st : St} {F : Nat → Prop} {vs : List Value} (h : TabV B w t made st F vs) (d : Int) : Slot w F (atS st d) (ptrAt vs d) := by
  unfold atS ptrAt
  by_cases hd : 0 ≤ d ∧ d < 8
  · rw [if_pos hd, if_pos hd]
    obtain ⟨e, v, he, hv, hs, _⟩ := h.at_ d.toNat (by omega)
    rw [List.getD_eq_getElem?_getD, List.getD_eq_getElem?_getD, he, hv]
    exact hs
  · rw [if_neg hd, if_neg hd]
    rfl
theorem clone_row {w : World} {b o c : Nat} {l : List ByteArray} (h : RowS w b o l) (hl : l.length ≤ 1000) : Calls Tryd.prog 61 #[.slice (some ⟨b, o, none⟩) l.length c] w fun e w' => ∃ v, e = .returned v ∧ w'.ownsRow w.heap.size 9 1 v l.length (encs Value.string l) ∧ Below w.heap.size w w' := by
  refine (Tryd.slices_Clone_string b o l.length c l w (Nat.le_refl _) (by omega) (fun j hj => ?_)).mono ?_
  · rw [h j l[j] (List.getElem?_eq_getElem hj), List.getD_eq_getElem?_getD, List.getElem?_eq_getElem hj]
    rfl
  · rintro e w' ⟨v', he, ho, _, hB⟩
    rw [List.take_length] at ho
    exact ⟨v', he, ho, hB⟩
set_option maxHeartbeats 2000000 in
theorem of_tab {B : Nat} {w : World} {t : Nat} {st : St} {F : Nat → Prop} (h : Tab B w t true st F) (d : Int) : Calls Tryd.prog 24 #[.pointer (some ⟨t, 0, none⟩), .int .i64 d] w (OfP w (ofS st d)) := by
  have hi := Lib.hid (is_tab h)
  obtain ⟨vs, h⟩ := h
  have ha := Lib.hid (at_tab h d)
  have hs := atS_ptr h d
  unfold ofS
  clear h
  cases he : atS st d with
  | none =>
    rw [he] at hs
    have hv : ptrAt vs d = .pointer none := hs
    rw [hv] at ha
    clear he hs hv
    simp only
    go_enter Tryd.func24, Tryd.ntmps24
    go_wp2_with (first | (go_at_call 59; refine hi.out.mono ?_; rintro e w1 ⟨rfl, rfl⟩) | (go_at_call 65; refine ha.out.mono ?_; rintro e w1 ⟨rfl, rfl⟩))
    go_ret3
    exact ⟨_, rfl, Kd.R_nil _ _ _ _ _, Below.refl _ _⟩
  | some p =>
    obtain ⟨s, l⟩ := p
    rw [he] at hs
    obtain ⟨h0, g, b, o, c, hv, hg, fg, fb, hc, hr⟩ := hs
    rw [hv] at ha
    have hlen := okP_len h0
    have c0 : w.cell? ⟨g, 0, none⟩ = some (.string s) := by rw [cell_of_row w g 0 _ _ _ hg]; rfl
    have c1 : w.cell? ⟨g, 1, none⟩ = some (.slice (some ⟨b, o, none⟩) l.length c) := by rw [cell_of_row w g 1 _ _ _ hg]; rfl
    have hcl := Lib.hid (fun (W : World) (hW : Below w.heap.size w W) => clone_row (w := W) (c := c) (RowS.keep hr.1 (hW.block b (hr.1.lt (by omega)))) (by omega))
    have hgl : g < w.heap.size := (Array.getElem?_eq_some_iff.1 hg).1
    clear he hv hg fg fb hc hr h0 hlen
    simp only
    go_enter Tryd.func24, Tryd.ntmps24
    go_wp2_with (first | (go_at_call 59; refine hi.out.mono ?_; rintro e w1 ⟨rfl, rfl⟩) | (go_at_call 65; refine ha.out.mono ?_; rintro e w1 ⟨rfl, rfl⟩))
    go_region_held3 (fun w' => w'.cell? ⟨g, 0, none⟩ = some (.string s) ∧ w'.cell? ⟨g, 1, none⟩ = some (.slice (some ⟨b, o, none⟩) l.length c)) (first | go_keep | (go_split_ands; refine ⟨?_, ?_⟩ <;> (rw [hb.cell (by simpa using hgl)]; assumption)))
      ((go_at_call 61; refine (hcl.out _ (below_drew (Below.refl _ _))).mono ?_; rintro e w1 ⟨v, rfl, ho, hb⟩))
    go_wp2
    go_ret3
    refine ⟨v, rfl, Kd.R_of_own ho (fun _ _ => trivial), ?_⟩
    exact Below.trans (below_drew (Below.refl _ _)) hb

set_option maxHeartbeats 2000000 in
theorem of_nil (w : World) (d : Int) : Calls Tryd.prog 24 #[.pointer none, .int .i64 d] w fun e w' => e = .returned (.tuple #[.string ⟨#[]⟩, .slice none 0 0, .int .i64 1]) ∧ w = w' := by
  have hi := Lib.hid (is_nil w)
  go_enter Tryd.func24, Tryd.ntmps24
  go_wp2_with (go_at_call 59; refine hi.out.mono ?_; rintro e w1 ⟨rfl, rfl⟩)
  go_ret3
  exact ⟨rfl, rfl⟩
set_option maxHeartbeats 2000000 in
theorem of_zero {B : Nat} {w : World} {t : Nat} {st : St} {F : Nat → Prop} (h : Tab B w t false st F) (d : Int) : Calls Tryd.prog 24 #[.pointer (some ⟨t, 0, none⟩), .int .i64 d] w fun e w' => e = .returned (.tuple #[.string ⟨#[]⟩, .slice none 0 0, .int .i64 1]) ∧ w = w' := by
  have hi := Lib.hid (is_tab h)
  clear h
  go_enter Tryd.func24, Tryd.ntmps24
  go_wp2_with (go_at_call 59; refine hi.out.mono ?_; rintro e w1 ⟨rfl, rfl⟩)
  go_ret3
  exact ⟨rfl, rfl⟩

/-- A step of a table: what is returned, what the table is then. -/
def StepP (B : Nat) (F : Nat → Prop) (t : Nat) (v : Value) (st : St) (w : World) (e : Ending) (w' : World) : Prop := e = .returned v ∧ ∃ F', Tab B w' t true st F' ∧ Fr F F' w w'
theorem fr_setCell {F : Nat → Prop} {w : World} {t i : Nat} {u : Value} (hF : F t) : Fr F F w (w.setCell ⟨t, i, none⟩ u) :=
  ⟨rfl, rfl, rfl, by simp [World.setCell], fun g hg hn => Below.heap_setCell w _ u g (fun e => hn (by rw [e]; exact hF)), fun _ h => .inl h⟩
theorem tab_clear {B : Nat} {w : World} {t : Nat} {made : Bool} {st : St} {F : Nat → Prop} {vs : List Value} (h : TabV B w t made st F vs) (d : Nat) (hd : d < 8) : TabV B (w.setCell ⟨t, 1 + d, none⟩ (.pointer none)) t made (st.set d none) F (vs.set d (.pointer none)) :=
  h.set d hd none _ (fun _ h => h) h.rng rfl (fun a ha => by cases ha)
set_option maxHeartbeats 2000000 in
theorem close_tab {B : Nat} {w : World} {t : Nat} {st : St} {F : Nat → Prop} (h : Tab B w t true st F) (d : Int) : Calls Tryd.prog 17 #[.pointer (some ⟨t, 0, none⟩), .int .i64 d] w (StepP B F t (.int .i64 (closeS st d).2) (closeS st d).1 w) := by
  have hi := Lib.hid (is_tab h)
  have hT := Lib.hid h
  obtain ⟨vs, h⟩ := h
  have ha := Lib.hid (at_tab h d)
  have hs := atS_ptr h d
  unfold closeS
  cases he : atS st d with
  | none =>
    rw [he] at hs
    have hv : ptrAt vs d = .pointer none := hs
    rw [hv] at ha
    clear he hs hv h
    simp only
    go_enter Tryd.func17, Tryd.ntmps17
    go_wp2_with (first | (go_at_call 59; refine hi.out.mono ?_; rintro e w1 ⟨rfl, rfl⟩) | (go_at_call 65; refine ha.out.mono ?_; rintro e w1 ⟨rfl, rfl⟩))
    go_ret
    exact ⟨rfl, F, hT.out, Fr.refl _ _⟩
  | some p =>
    obtain ⟨s, l⟩ := p
    have hd : 0 ≤ d ∧ d < 8 := by
      unfold atS at he
      by_cases hd : 0 ≤ d ∧ d < 8
      · exact hd
      · rw [if_neg hd] at he; cases he
    obtain ⟨k, rfl⟩ : ∃ k : Nat, d = k := ⟨d.toNat, by omega⟩
    rw [he] at hs
    obtain ⟨h0, g, b, o, c, hv, hg, fg, fb, hc, hr⟩ := hs
    rw [hv] at ha
    have hk : k < 8 := by omega
    have HP := Lib.hid (tab_clear h k hk)
    have HF := Lib.hid (fr_setCell (w := w) (i := 1 + k) (u := .pointer none) h.ft)
    obtain ⟨e1, v1, _, _, _, hcell⟩ := h.at_ k hk
    have hfz := h.frozen (1 + k)
    clear he hv hg fg fb hc hr h0 h
    have b0 : (0 : Int) ≤ (k : Int) := by omega
    have b1 : (k : Int) < 8 := by omega
    clear hd hk
    simp only [Int.toNat_natCast]
    go_enter Tryd.func17, Tryd.ntmps17
    go_wp2_with (first | (go_at_call 59; refine hi.out.mono ?_; rintro e w1 ⟨rfl, rfl⟩) | (go_at_call 65; refine ha.out.mono ?_; rintro e w1 ⟨rfl, rfl⟩))
    go_ret
    exact ⟨rfl, F, ⟨_, HP.out⟩, HF.out⟩
end Go.Proofs.YthafpbidfgmacaaDoor.Hd
