/- Keys' texts as lists of bytes: paths within one another, their order. (N9k without the moved keys.) -/
import Derived.Test.YthafpbidfgmacaaDoorN3b
import Derived.Test.YthafpbidfgmacaaDoorQH
import Derived.Test.YthafpbidfgmacaaDoorQM
namespace Go.Proofs.YthafpbidfgmacaaDoor.Q
open Go.RowKit Go.Proofs.YthafpbidfgmacaaDoorW.PrintWords Go.Proofs.YthafpbidfgmacaaDoorW.PrintLast Go.Proofs.YthafpbidfgmacaaDoorW.PrintMore
set_option linter.unusedVariables false

theorem within_r (a b : ByteArray) (ha : a.size ≤ 1) (l : List ByteArray) (hl : l.length ≤ 1000000) (hj : (joinB l ⟨#[0]⟩).size ≤ 1000000) (k : Nat) (hk : l.length < k) :
    key_sort_within.f k a b l = some (if rightB l = true then (if (l.length : Int) = 0 then (a, b) else (a ++ joinB l ⟨#[0]⟩, (a ++ joinB l ⟨#[0]⟩) ++ ⟨#[1]⟩)) else (⟨#[]⟩, ⟨#[]⟩)) := by
  unfold key_sort_within.f
  rw [key_right_is l hl k hk, Option.bind_some]
  by_cases hr : rightB l = true
  · rw [if_pos hr, if_pos hr]
    by_cases h0 : (l.length : Int) = 0
    · rw [if_pos h0, if_pos h0]
    · rw [if_neg h0, if_neg h0, joint_is l hl hj, Option.bind_some, if_pos (by omega), if_pos (by rw [ByteArray.size_append]; omega)]
  · rw [if_neg hr, if_neg hr]
theorem subtree_r (l : List ByteArray) (hl : l.length ≤ 1000000) (hj : (joinB l ⟨#[0]⟩).size ≤ 1000000) (k : Nat) (hk : l.length < k) (h0 : ¬ (l.length : Int) = 0) (hr : rightB l = true) :
    key_Subtree.f k l = some (⟨#[109]⟩ ++ joinB l ⟨#[0]⟩, (⟨#[109]⟩ ++ joinB l ⟨#[0]⟩) ++ ⟨#[1]⟩, ⟨#[100]⟩ ++ joinB l ⟨#[0]⟩, (⟨#[100]⟩ ++ joinB l ⟨#[0]⟩) ++ ⟨#[1]⟩) := by
  unfold key_Subtree.f key_sorts.f
  rw [Option.bind_some, within_r _ _ (Nat.le_refl _) l hl hj k hk, within_r _ _ (Nat.le_refl _) l hl hj k hk, Option.bind_some, Option.bind_some]
  simp only [if_pos hr, if_neg h0]
theorem joinB_nil (s : ByteArray) : joinB [] s = ⟨#[]⟩ := WideShapes.bytes_inj (by rw [joinB_data]; rfl)
theorem meta_r (l : List ByteArray) (hl : l.length ≤ 1000000) (hj : (joinB l ⟨#[0]⟩).size ≤ 1000000) (k : Nat) (hk : l.length < k) :
    key_Meta.f k l = some (if rightB l = true then ⟨#[109]⟩ ++ joinB l ⟨#[0]⟩ else ⟨#[]⟩) := by
  unfold key_Meta.f key_whole.f key_Subtree.f key_sorts.f
  rw [Option.bind_some, within_r _ _ (Nat.le_refl _) l hl hj k hk, within_r _ _ (Nat.le_refl _) l hl hj k hk, Option.bind_some, Option.bind_some, Option.bind_some, Option.bind_some]
  by_cases hr : rightB l = true
  · simp only [if_pos hr]
    by_cases h0 : (l.length : Int) = 0
    · obtain rfl : l = [] := List.eq_nil_of_length_eq_zero (by omega)
      rw [joinB_nil]
      rfl
    · simp only [if_neg h0]
  · simp only [if_neg hr]

/-! ### The order of texts -/
theorem less_app (p s t : List UInt8) : Op.bytesLess (p ++ s) (p ++ t) = Op.bytesLess s t := by
  induction p with
  | nil => rfl
  | cons a p ih => rw [List.cons_append, List.cons_append, Op.bytesLess, ih]; simp
theorem less_nil (s : List UInt8) : Op.bytesLess s [] = false := by cases s <;> rfl
theorem less_pre (p s : List UInt8) : Op.bytesLess (p ++ s) p = false := by
  have := less_app p s []
  rw [List.append_nil] at this
  rw [this, less_nil]

/-! ### Paths' texts -/
/-- What follows a path's text in a key below it. -/
def tailB (s : List UInt8) : Prop := s = [] ∨ ∃ r, s = 0 :: r
def jl (l : List ByteArray) : List UInt8 := Lib.join (l.map (·.data.toList)) [0]
theorem jl_data (l : List ByteArray) : (joinB l ⟨#[0]⟩).data.toList = jl l := joinB_data l _
theorem jl_one (x : ByteArray) : jl [x] = x.data.toList := by simp [jl, Lib.join]
theorem jl_more (x : ByteArray) (l : List ByteArray) (h : l ≠ []) : jl (x :: l) = x.data.toList ++ 0 :: jl l := by
  unfold jl
  rw [List.map_cons, join_more _ _ _ (by simpa using h)]
  simp
theorem jl_pre (w : List ByteArray) (hw : w ≠ []) (t : List ByteArray) : ∃ s, jl (w ++ t) = jl w ++ s ∧ tailB s := by
  induction w with
  | nil => exact absurd rfl hw
  | cons x w ih =>
    cases w with
    | nil =>
      cases t with
      | nil => exact ⟨[], by simp, .inl rfl⟩
      | cons y t => exact ⟨0 :: jl (y :: t), by rw [List.singleton_append, jl_more _ _ (by simp), jl_one], .inr ⟨_, rfl⟩⟩
    | cons z w =>
      obtain ⟨s, e, h⟩ := ih (by simp)
      exact ⟨s, by rw [List.cons_append, jl_more x (z :: w ++ t) (by simp), e, jl_more x (z :: w) (by simp), List.append_assoc, List.cons_append], h⟩
/-- A text cut at its bytes 0. -/
def sp : List UInt8 → List (List UInt8)
  | [] => [[]]
  | c :: t => if c = 0 then [] :: sp t else match sp t with | [] => [[c]] | h :: r => (c :: h) :: r
theorem sp_ne (s : List UInt8) : sp s ≠ [] := by
  cases s with
  | nil => simp [sp]
  | cons c t =>
    rw [sp]
    split
    · simp
    · split <;> simp
theorem sp_app (x y : List UInt8) : sp (x ++ 0 :: y) = sp x ++ sp y := by
  induction x with
  | nil => simp [sp]
  | cons c t ih =>
    rw [List.cons_append, sp, ih, sp]
    by_cases h : c = 0
    · rw [if_pos h, if_pos h]; rfl
    · rw [if_neg h, if_neg h]
      obtain ⟨a, r, e⟩ := List.exists_cons_of_ne_nil (sp_ne t)
      rw [e]
      rfl
theorem sp_none (x : List UInt8) (h : (0 : UInt8) ∉ x) : sp x = [x] := by
  induction x with
  | nil => rfl
  | cons c t ih =>
    rw [sp, if_neg (by intro e; exact h (by simp [e])), ih (fun e => h (List.mem_cons_of_mem _ e))]
theorem name_no (x : ByteArray) (h : nameB x = true) : (0 : UInt8) ∉ x.data.toList := by
  intro hm
  simp only [nameB, Bool.and_eq_true, Bool.not_eq_true', hasB] at h
  have := h.2.2.2.2
  rw [List.any_eq_false] at this
  exact this _ hm (by decide)
theorem name_one (x : ByteArray) (h : nameB x = true) : 1 ≤ x.size := by
  simp only [nameB, Bool.and_eq_true, decide_eq_true_eq] at h
  exact h.1
theorem sp_jl (l : List ByteArray) (hn : l ≠ []) (h : ∀ x ∈ l, (0 : UInt8) ∉ x.data.toList) : sp (jl l) = l.map (·.data.toList) := by
  induction l with
  | nil => exact absurd rfl hn
  | cons x l ih =>
    cases l with
    | nil => rw [jl_one, sp_none _ (h x (by simp))]; rfl
    | cons y l => rw [jl_more _ _ (by simp), sp_app, ih (by simp) (fun z hz => h z (by simp [hz])), sp_none _ (h x (by simp))]; rfl
theorem right_names (l : List ByteArray) (h : rightB l = true) : ∀ x ∈ l, nameB x = true := by
  simp only [rightB, Bool.and_eq_true] at h
  exact List.all_eq_true.1 h.1
theorem right_no (l : List ByteArray) (h : rightB l = true) : ∀ x ∈ l, (0 : UInt8) ∉ x.data.toList := fun x hx => name_no x (right_names l h x hx)
theorem jl_ne (l : List ByteArray) (hn : l ≠ []) (h : rightB l = true) : jl l ≠ [] := by
  obtain ⟨x, t, rfl⟩ := List.exists_cons_of_ne_nil hn
  have h1 := name_one x (right_names _ h x (by simp))
  intro e
  have hx : x.data.toList ≠ [] := by
    intro e
    have := size_len x
    rw [e] at this
    simp only [List.length_nil] at this
    omega
  cases t with
  | nil => rw [jl_one] at e; exact hx e
  | cons y t =>
    rw [jl_more _ _ (by simp)] at e
    simp at e
theorem map_pre (w l : List ByteArray) (t : List (List UInt8)) (h : l.map (·.data.toList) = w.map (·.data.toList) ++ t) : w <+: l := by
  induction w generalizing l with
  | nil => exact ⟨l, rfl⟩
  | cons x w ih =>
    cases l with
    | nil => simp at h
    | cons y l =>
      rw [List.map_cons, List.map_cons, List.cons_append] at h
      obtain ⟨h1, h2⟩ := List.cons.inj h
      obtain ⟨t', e⟩ := ih l h2
      exact ⟨t', by rw [List.cons_append, e, WideShapes.bytes_inj h1]⟩
theorem pre_of_jl (w l : List ByteArray) (hw : w ≠ []) (rw_ : rightB w = true) (rl : rightB l = true) (s : List UInt8) (e : jl l = jl w ++ s) (hs : tailB s) : w <+: l := by
  by_cases hl : l = []
  · subst hl
    have : jl [] = [] := rfl
    rw [this] at e
    exact absurd (List.append_eq_nil_iff.1 e.symm).1 (jl_ne w hw rw_)
  · have h1 := sp_jl l hl (right_no l rl)
    have h2 := sp_jl w hw (right_no w rw_)
    rcases hs with rfl | ⟨r, rfl⟩
    · rw [List.append_nil] at e
      exact map_pre w l [] (by rw [List.append_nil, ← h1, ← h2, e])
    · exact map_pre w l (sp r) (by rw [← h1, e, sp_app, h2])
theorem jl_inj (w l : List ByteArray) (rw_ : rightB w = true) (rl : rightB l = true) (e : jl l = jl w) : w = l := by
  by_cases hw : w = []
  · subst hw
    by_cases hl : l = []
    · exact hl.symm
    · exact absurd e (jl_ne l hl rl)
  · by_cases hl : l = []
    · subst hl
      exact absurd e.symm (jl_ne w hw rw_)
    · have h1 := pre_of_jl w l hw rw_ rl [] (by rw [e, List.append_nil]) (.inl rfl)
      have h2 := pre_of_jl l w hl rl rw_ [] (by rw [e, List.append_nil]) (.inl rfl)
      exact h1.eq_of_length_le h2.length_le

/-! ### begins, in -/
theorem begins_loop (l w : List ByteArray) (hs : w.length ≤ 1000) (hl : w.length ≤ l.length) : ∀ (d k i : Nat), i ≤ w.length → w.length - i = d → d < k → rillbedlaw06_begins.l0 k l w (i : Int) = some (decide (w.drop i <+: l.drop i)) := by
  intro d
  induction d with
  | zero =>
    intro k i hi hd hk
    obtain ⟨k, rfl⟩ : ∃ m, k = m + 1 := ⟨k - 1, by omega⟩
    rw [rillbedlaw06_begins.l0, if_neg (by omega), List.drop_eq_nil_of_le (by omega)]
    simp
  | succ d ih =>
    intro k i hi hd hk
    obtain ⟨k, rfl⟩ : ∃ m, k = m + 1 := ⟨k - 1, by omega⟩
    have h1 : i < w.length := by omega
    have h2 : i < l.length := by omega
    have hc : (w.drop i <+: l.drop i) ↔ (w[i] = l[i] ∧ w.drop (i + 1) <+: l.drop (i + 1)) := by rw [List.drop_eq_getElem_cons h1, List.drop_eq_getElem_cons h2, List.cons_prefix_cons]
    rw [rillbedlaw06_begins.l0, if_pos (by omega), if_pos (by omega), if_pos (by omega), rd_nat l i _ (List.getElem?_eq_getElem h2), rd_nat w i _ (List.getElem?_eq_getElem h1)]
    by_cases e : l[i] = w[i]
    · rw [if_pos (by rw [e]), wrap_small (by omega) (by omega), show (i : Int) + 1 = ((i + 1 : Nat) : Int) by omega, ih k (i + 1) (by omega) (by omega) (by omega)]
      exact congrArg some (decide_eq_decide.2 ⟨fun h => hc.2 ⟨e.symm, h⟩, fun h => (hc.1 h).2⟩)
    · rw [if_neg (fun h => e (by rw [tl, tl] at h; exact WideShapes.bytes_inj h))]
      rw [decide_eq_false (fun h => e (hc.1 h).1.symm)]
theorem begins_is (l w : List ByteArray) (hs : w.length ≤ 100) (k : Nat) (hk : 200 ≤ k) : rillbedlaw06_begins.f k l w = some (decide (w <+: l)) := by
  unfold rillbedlaw06_begins.f
  by_cases h : (l.length : Int) < (w.length : Int)
  · rw [if_pos h, decide_eq_false (fun e => by have := e.length_le; omega)]
  · rw [if_neg h]
    exact begins_loop l w (by omega) (by omega) w.length k 0 (by omega) (by omega) (by omega)
theorem in_is (a b c : ByteArray) : rillbedlaw06_in.f a b c = some (!(Op.bytesLess a.toList b.toList) && Op.bytesLess a.toList c.toList) := by
  unfold rillbedlaw06_in.f
  cases h : Op.bytesLess a.toList b.toList with
  | true => rw [if_pos rfl]; rfl
  | false => rw [if_neg (by decide)]; rfl
theorem rest_data (a : ByteArray) (c : UInt8) (t : List UInt8) (h : a.data.toList = c :: t) : (a.extract 1 a.size).data.toList = t := by
  rw [ext_data, List.take_of_length_le (by rw [size_len]; omega), h]
  rfl
end Go.Proofs.YthafpbidfgmacaaDoor.Q
