/- The walks of small functions of the laws: names, opens, tells, given, works, right. -/
import Derived.Test.YthafpbidfgmacaaDoorT8
import Derived.Test.YthafpbidfgmacaaDoorT4
namespace Go.Proofs.YthafpbidfgmacaaDoor.Hd
open Go.RowKit Go.Proofs.YthafpbidfgmacaaDoor Go.Proofs.YthafpbidfgmacaaDoorW.PrintWords Go.Proofs.YthafpbidfgmacaaDoorW.PrintLast Go.Proofs.YthafpbidfgmacaaDoorW.PrintMore
set_option linter.unusedVariables false
set_option linter.unusedSimpArgs false

theorem moved_tab {B : Nat} {w : World} {t : Nat} {st : St} {F : Nat → Prop} (h : Tab B w t true st F) (hB : B ≤ w.heap.size) (A1 : Option Addr) (c1 : Nat) (l1 : List ByteArray) (A2 : Option Addr) (c2 : Nat) (l2 : List ByteArray)
    (hr1 : Kd.C Kd.string w A1 l1.length l1) (hc1 : l1.length ≤ c1) (hf1 : fits l1) (hr2 : Kd.C Kd.string w A2 l2.length l2) (hc2 : l2.length ≤ c2) (hf2 : fits l2) (ha1 : ∀ a, A1 = some a → ¬ F a.block) (ha2 : ∀ a, A2 = some a → ¬ F a.block) :
    Calls Tryd.prog 18 #[.pointer (some ⟨t, 0, none⟩), .slice A1 l1.length c1, .slice A2 l2.length c2] w (MovedP B F t st l1 l2 w) := by
  by_cases hn : okP l1 = true ∧ okP l2 = true
  · obtain ⟨h1, h2⟩ := hn
    obtain ⟨b1, o1, rfl, _, r1⟩ := c_cells hr1 (okP_len h1).1
    obtain ⟨b2, o2, rfl, _, r2⟩ := c_cells hr2 (okP_len h2).1
    exact moved_yes h hB b1 o1 c1 l1 b2 o2 c2 l2 r1 hc1 r2 hc2 (ha1 _ rfl) (ha2 _ rfl) h1 h2
  · exact moved_not h A1 c1 l1 A2 c2 l2 hr1 hc1 hf1 hr2 hc2 hf2 hn

/-- What 'names' tells of a text. -/
def namesL (s : ByteArray) : List ByteArray := if s.toList = [] then [] else Lib.splitB ⟨#[47]⟩ 0 (Lib.countB s ⟨#[47]⟩) s
/-- A slice of strings of the call's own, or nil. -/
def NewS (w : World) (v : Value) (l : List ByteArray) (w' : World) : Prop := ∃ A c, v = .slice A l.length c ∧ l.length ≤ c ∧ Kd.C Kd.string w' A l.length l ∧ (∀ a, A = some a → w.heap.size ≤ a.block) ∧ Below w.heap.size w w'
theorem news_of_R {w w' : World} {v : Value} {l : List ByteArray} (h : Kd.R Kd.string 9 w' w.heap.size (fun _ => True) v l) (hb : Below w.heap.size w w') : NewS w v l w' := by
  obtain ⟨A, c, rfl, hc, hC⟩ := Kd.R_reads h
  obtain ⟨inner, ho⟩ := Kd.R_own h
  exact ⟨A, c, rfl, hc, hC, fun a ha => own_base ho a.block (by rw [ha]; rfl), hb⟩
theorem names_is (s : ByteArray) (hs : s.size < 4294967281) (h : s.toList ≠ []) : splitF s ⟨#[47]⟩ = some (namesL s) := by
  unfold splitF namesL
  rw [if_pos ⟨rfl, hs⟩, if_neg h]
set_option maxHeartbeats 1000000 in
theorem names_calls (s : ByteArray) (w : World) (hs : s.size < 4294967281) : Calls Tryd.prog 55 #[.string s] w fun e w' => ∃ v, e = .returned v ∧ NewS w v (namesL s) w' := by
  by_cases h : s.toList = []
  · have e1 : s.toList.isEmpty = true := by rw [h]; rfl
    have e2 : namesL s = [] := by unfold namesL; rw [if_pos h]
    rw [e2]
    clear h e2
    go_enter Tryd.func55, Tryd.ntmps55
    go_wp2
    go_ret
    exact ⟨_, rfl, news_of_R (Kd.R_nil _ _ _ _ _) (Below.refl _ _)⟩
  · have e1 : s.toList.isEmpty = false := by simpa using h
    have hc := Lib.hid (split_calls s ⟨#[47]⟩ (namesL s) w (names_is s hs h))
    clear h
    generalize namesL s = L at *
    go_enter Tryd.func55, Tryd.ntmps55
    go_wp2_with (go_at_call 73; refine hc.out.mono ?_; rintro e w1 ⟨v, rfl, hr, hb⟩)
    go_ret
    exact ⟨_, rfl, news_of_R hr hb⟩

/-- Whether a descriptor tells this. -/
def tellsB (st : St) (d : Int) (s p : ByteArray) : Bool := ((ofS st d).1.toList == s.toList) && (((joinB (ofS st d).2.1 ⟨#[47]⟩).toList == p.toList) && ((ofS st d).2.2 == 0))
theorem join_row (A : Option Addr) (c : Nat) (l : List ByteArray) (sep : ByteArray) (w : World) (hr : Kd.C Kd.string w A l.length l) (hc : l.length ≤ c) (h1 : l.length ≤ 1000) (h2 : (joinB l sep).size ≤ 1000000) :
    Calls Tryd.prog 16 #[.slice A l.length c, .string sep] w fun e w' => e = .returned (.string (joinB l sep)) ∧ Below w.heap.size w w' :=
  join_calls A c l sep _ w hr hc (by unfold joinF; rw [if_pos ⟨by omega, by omega⟩])
theorem ofS_small {B : Nat} {w : World} {t : Nat} {st : St} {F : Nat → Prop} (h : Tab B w t true st F) (d : Int) : (ofS st d).2.1.length ≤ 6 ∧ (joinB (ofS st d).2.1 ⟨#[47]⟩).size ≤ 1000 := by
  obtain ⟨vs, h⟩ := h
  have hs := atS_ptr h d
  unfold ofS
  cases he : atS st d with
  | none => exact ⟨by simp, by rw [← Q.size_len, Q.joinB_data]; simp [Lib.join_nil]⟩
  | some p =>
    obtain ⟨s, l⟩ := p
    rw [he] at hs
    obtain ⟨h1, h2, h3⟩ := okP_len hs.1
    refine ⟨h2, ?_⟩
    rw [← Q.size_len, Q.joinB_data]
    have := join_len [47] 16 (l.map (·.data.toList)) (by
      intro x hx
      obtain ⟨y, hy, rfl⟩ := List.mem_map.1 hx
      rw [Q.size_len]
      exact name_size (List.all_eq_true.1 h3 y hy))
    rw [List.length_map] at this
    have h4 : l.length * (16 + [(47 : UInt8)].length) ≤ 6 * 17 := Nat.mul_le_mul h2 (by simp)
    simp only [Array.toList] at *
    omega
set_option maxHeartbeats 1000000 in
theorem tells_tab {B : Nat} {w : World} {t : Nat} {st : St} {F : Nat → Prop} (h : Tab B w t true st F) (d : Int) (s p : ByteArray) :
    Calls Tryd.prog 22 #[.pointer (some ⟨t, 0, none⟩), .int .i64 d, .string s, .string p] w fun e w' => e = .returned (.bool (tellsB st d s p)) ∧ Below w.heap.size w w' := by
  have ho := Lib.hid (of_tab h d)
  obtain ⟨z1, z2⟩ := ofS_small h d
  have Z1 := Lib.hid z1
  have Z2 := Lib.hid z2
  unfold tellsB
  clear h z1 z2
  generalize ofS st d = r at *
  obtain ⟨r1, l, r3⟩ := r
  simp only at Z1 Z2 ⊢
  have HJ : Hid (∀ (v : Value) (w' : World), Kd.R Kd.string 9 w' w.heap.size (fun _ => True) v l → Below w.heap.size w w' → ∃ A c, v = .slice A l.length c ∧ Calls Tryd.prog 16 #[.slice A l.length c, .string ⟨#[47]⟩] w' fun e w2 => e = .returned (.string (joinB l ⟨#[47]⟩)) ∧ Below w.heap.size w w2) := by
    intro v w' hR hb
    obtain ⟨A, c, rfl, hc, hC⟩ := Kd.R_reads hR
    exact ⟨A, c, rfl, (join_row A c l _ w' hC hc (by have := Z1.out; omega) (by have := Z2.out; omega)).mono fun e w2 ⟨he, hb2⟩ => ⟨he, Below.trans hb (hb2.mono hb.size)⟩⟩
  generalize joinB l ⟨#[47]⟩ = j at *
  go_enter Tryd.func22, Tryd.ntmps22
  go_wp2_with (first | (go_at_call 24; refine ho.out.mono ?_; rintro e w1 ⟨v, rfl, hR, hb⟩; obtain ⟨A, c, rfl, hJ⟩ := HJ.out v w1 hR hb; have HJ1 := Lib.hid hJ; have HB1 := Lib.hid hb; clear hJ hb hR) | (go_at_call 16; refine HJ1.out.mono ?_; rintro e w2 ⟨rfl, hb⟩))
  all_goals
    go_ret
    refine ⟨ret_bool ?_, by first | assumption | exact HB1.out⟩
    simp [*]
end Go.Proofs.YthafpbidfgmacaaDoor.Hd
