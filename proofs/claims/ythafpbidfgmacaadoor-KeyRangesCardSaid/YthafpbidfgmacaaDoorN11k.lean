/- Which keys lie in which ranges. -/
import Derived.Test.YthafpbidfgmacaaDoorN9r
import Derived.Test.YthafpbidfgmacaaDoorN0k
import Derived.Test.YthafpbidfgmacaaDoorQE
namespace Go.Proofs.YthafpbidfgmacaaDoor.Q
open Go.RowKit Go.Proofs.YthafpbidfgmacaaDoorW.PrintWords Go.Proofs.YthafpbidfgmacaaDoorW.PrintLast Go.Proofs.YthafpbidfgmacaaDoorW.PrintMore
set_option linter.unusedVariables false

theorem less_cons (a b : UInt8) (x y : List UInt8) : Op.bytesLess (a :: x) (b :: y) = (decide (a < b) || (a == b && Op.bytesLess x y)) := rfl
theorem less_same (a : UInt8) (x y : List UInt8) : Op.bytesLess (a :: x) (a :: y) = Op.bytesLess x y := less_app [a] x y
theorem rng (A B : List UInt8) (h1 : Op.bytesLess B A = false) (h2 : Op.bytesLess B (A ++ [1]) = true) : ∃ s, B = A ++ s ∧ tailB s := by
  induction A generalizing B with
  | nil =>
    cases B with
    | nil => exact ⟨[], rfl, .inl rfl⟩
    | cons b r =>
      rw [List.nil_append, less_cons, less_nil, Bool.and_false, Bool.or_false, decide_eq_true_eq] at h2
      have hb : b.toNat < 1 := h2
      have : b = 0 := UInt8.toNat_inj.1 (show b.toNat = 0 by omega)
      exact ⟨b :: r, rfl, .inr ⟨r, by rw [this]⟩⟩
  | cons a A ih =>
    cases B with
    | nil => rw [show Op.bytesLess [] (a :: A) = true from rfl] at h1; exact absurd h1 (by decide)
    | cons b B =>
      rw [less_cons, Bool.or_eq_false_iff] at h1
      rw [List.cons_append, less_cons, h1.1, Bool.false_or, Bool.and_eq_true] at h2
      obtain ⟨e, h2⟩ := h2
      have e' := eq_of_beq e
      rw [e, Bool.true_and] at h1
      obtain ⟨s, hs, ht⟩ := ih B h1.2 h2
      exact ⟨s, by rw [e', hs]; rfl, ht⟩
theorem less_ext (A t B : List UInt8) (h : Op.bytesLess B A = true) : Op.bytesLess B (A ++ t) = true := by
  induction A generalizing B with
  | nil => rw [less_nil] at h; exact absurd h (by decide)
  | cons a A ih =>
    cases B with
    | nil => rfl
    | cons b B =>
      rw [less_cons, Bool.or_eq_true, Bool.and_eq_true] at h
      rw [List.cons_append, less_cons, Bool.or_eq_true, Bool.and_eq_true]
      exact h.imp id (fun ⟨h1, h2⟩ => ⟨h1, ih B h2⟩)
section
variable {x f t : ByteArray} {c : UInt8} {A B : List UInt8}
theorem in_yes (hx : x.data.toList = c :: B) (hf : f.data.toList = c :: A) (ht : t.data.toList = c :: (A ++ [1])) (s : List UInt8) (hs : tailB s) (e : B = A ++ s) : rillbedlaw06_in.f x f t = some true := by
  rw [in_is, tl, tl, tl, hx, hf, ht, less_same, less_same, e, less_app, less_pre]
  rcases hs with rfl | ⟨r, rfl⟩
  · rfl
  · rfl
theorem in_no (hx : x.data.toList = c :: B) (hf : f.data.toList = c :: A) (ht : t.data.toList = c :: (A ++ [1])) (h : ∀ s, B = A ++ s → ¬ tailB s) : rillbedlaw06_in.f x f t = some false := by
  rw [in_is, tl, tl, tl, hx, hf, ht, less_same, less_same]
  cases h1 : Op.bytesLess B A with
  | true => rfl
  | false =>
    cases h2 : Op.bytesLess B (A ++ [1]) with
    | false => rfl
    | true =>
      obtain ⟨s, e, hs⟩ := rng A B h1 h2
      exact absurd hs (h s e)
theorem low_yes (hx : x.data.toList = c :: B) (hf : f.data.toList = c :: (A ++ [0])) (ht : t.data.toList = c :: (A ++ [1])) (r : List UInt8) (e : B = A ++ 0 :: r) : rillbedlaw06_in.f x f t = some true := by
  rw [in_is, tl, tl, tl, hx, hf, ht, less_same, less_same, e, less_app, less_app, less_same, less_nil]
  rfl
theorem low_no (hx : x.data.toList = c :: B) (hf : f.data.toList = c :: (A ++ [0])) (ht : t.data.toList = c :: (A ++ [1])) (h : ∀ r, B ≠ A ++ 0 :: r) : rillbedlaw06_in.f x f t = some false := by
  rw [in_is, tl, tl, tl, hx, hf, ht, less_same, less_same]
  cases h2 : Op.bytesLess B (A ++ [1]) with
  | false => rw [Bool.and_false]
  | true =>
    cases h1 : Op.bytesLess B A with
    | true => rw [less_ext A [0] B h1]; rfl
    | false =>
      obtain ⟨s, e, hs⟩ := rng A B h1 h2
      rcases hs with rfl | ⟨r, rfl⟩
      · rw [e, less_app]; rfl
      · exact absurd e (h r)
/-- Texts with another first byte. -/
theorem in_less (d : UInt8) (F : List UInt8) (hx : x.data.toList = c :: B) (hf : f.data.toList = d :: F) (h : c < d) : rillbedlaw06_in.f x f t = some false := by
  rw [in_is, tl, tl, tl, hx, hf, less_cons, decide_eq_true h]
  rfl
theorem in_more (d : UInt8) (F : List UInt8) (hx : x.data.toList = c :: B) (ht : t.data.toList = d :: F) (h : ¬ c < d) (h' : c ≠ d) : rillbedlaw06_in.f x f t = some false := by
  rw [in_is, tl, tl, tl, hx, ht, less_cons, decide_eq_false h, beq_eq_false_iff_ne.2 h']
  simp
theorem in_first (d : UInt8) (hx : x.data.toList = c :: B) (hf : f.data.toList = [c]) (ht : t.data.toList = [d]) (h : c < d) : rillbedlaw06_in.f x f t = some true := by
  rw [in_is, tl, tl, tl, hx, hf, ht, less_same, less_nil, less_cons, decide_eq_true h]
  rfl
end
/-! ### Keys -/
def metaB (l : List ByteArray) : ByteArray := ⟨#[109]⟩ ++ joinB l ⟨#[0]⟩
theorem metaB_data (l : List ByteArray) : (metaB l).data.toList = 109 :: jl l := by
  unfold metaB
  rw [app_data, jl_data]
  rfl
theorem metaB_ne (l : List ByteArray) : ¬ (metaB l).toList = [] := by
  rw [tl, metaB_data]
  simp
def blockB (l : List ByteArray) (i : Int) : ByteArray := ⟨#[100]⟩ ++ joinB l ⟨#[0]⟩ ++ ⟨#[0, 0]⟩ ++ strOfNums [i / 256 % 256, i % 256]
theorem blockB_data (l : List ByteArray) (i : Int) (h0 : 0 ≤ i) (h : i < 32) : (blockB l i).data.toList = 100 :: (jl l ++ [0, 0, 0, UInt8.ofNat i.toNat]) := by
  unfold blockB
  rw [app_data, app_data, app_data, jl_data, strOfNums_data]
  have e1 : i / 256 % 256 = 0 := by omega
  have e2 : i % 256 = i := by omega
  rw [e1, e2]
  simp
theorem pre_ne (la lb X Z : List (List UInt8)) (h : ∀ x ∈ la, x ≠ []) (e : lb ++ [] :: X = la ++ Z) : ∃ t, lb = la ++ t := by
  induction la generalizing lb with
  | nil => exact ⟨lb, rfl⟩
  | cons x la ih =>
    cases lb with
    | nil => exact absurd (List.cons.inj e).1.symm (h x (by simp))
    | cons y lb =>
      obtain ⟨e1, e2⟩ := List.cons.inj e
      obtain ⟨t, et⟩ := ih lb (fun z hz => h z (by simp [hz])) e2
      exact ⟨t, by rw [e1, et]; rfl⟩
theorem name_ne (x : ByteArray) (h : nameB x = true) : x.data.toList ≠ [] := by
  intro e
  have := size_len x
  have := name_one x h
  rw [e] at *
  simp only [List.length_nil] at *
  omega
theorem map_ne (l : List ByteArray) (h : rightB l = true) : ∀ x ∈ l.map (·.data.toList), x ≠ [] := by
  intro x hx
  obtain ⟨y, hy, rfl⟩ := List.mem_map.1 hx
  exact name_ne y (right_names l h y hy)
theorem map_pre' (w l : List ByteArray) (t : List (List UInt8)) (h : l.map (·.data.toList) = w.map (·.data.toList) ++ t) : w <+: l := map_pre w l t h
theorem head_ne (b : List ByteArray) (hb : b ≠ []) (rb : rightB b = true) (r : List UInt8) : jl b ≠ 0 :: r := by
  intro e
  have h1 := sp_jl b hb (right_no b rb)
  rw [e] at h1
  have h2 : sp (0 :: r) = [] :: sp r := rfl
  rw [h2] at h1
  exact map_ne b rb [] (by rw [← h1]; simp) rfl
section
variable {a b : List ByteArray} (ra : rightB a = true) (rb : rightB b = true)
include ra rb
theorem blk_pre (ha : a ≠ []) (hb : b ≠ []) (k : UInt8) (s : List UInt8) (e : jl b ++ [0, 0, 0, k] = jl a ++ s) (hs : tailB s) : a <+: b := by
  have e1 := sp_jl a ha (right_no a ra)
  have e2 := sp_jl b hb (right_no b rb)
  have e3 : sp (jl b ++ [0, 0, 0, k]) = b.map (·.data.toList) ++ [] :: sp [0, k] := by
    rw [show jl b ++ [0, 0, 0, k] = jl b ++ 0 :: [0, 0, k] from rfl, sp_app, e2]
    rfl
  rcases hs with rfl | ⟨r, rfl⟩
  · rw [List.append_nil] at e
    rw [e, e1] at e3
    obtain ⟨t, h⟩ := pre_ne (a.map (·.data.toList)) (b.map (·.data.toList)) (sp [0, k]) [] (map_ne a ra) (by rw [← e3, List.append_nil])
    exact map_pre a b t h
  · rw [e, sp_app, e1] at e3
    obtain ⟨t, h⟩ := pre_ne (a.map (·.data.toList)) (b.map (·.data.toList)) (sp [0, k]) (sp r) (map_ne a ra) e3.symm
    exact map_pre a b t h
theorem blk_same (hb : b ≠ []) (k : UInt8) (r : List UInt8) (e : jl b ++ [0, 0, 0, k] = (jl a ++ [0]) ++ 0 :: r) : a = b := by
  by_cases ha : a = []
  · subst ha
    exfalso
    have e' : jl b ++ [0, 0, 0, k] = 0 :: 0 :: r := e
    cases hj : jl b with
    | nil => exact jl_ne b hb rb hj
    | cons c t =>
      rw [hj] at e'
      exact head_ne b hb rb t (by rw [hj, (List.cons.inj e').1])
  · have e' : jl b ++ [0, 0, 0, k] = jl a ++ 0 :: (0 :: r) := by rw [e]; simp
    have h1 := blk_pre ra rb ha hb k _ e' (.inr ⟨_, rfl⟩)
    obtain ⟨t, rfl⟩ := h1
    have e1 := sp_jl a ha (right_no a ra)
    have e2 := sp_jl (a ++ t) hb (right_no _ rb)
    have e3 : sp (jl (a ++ t) ++ [0, 0, 0, k]) = (a ++ t).map (·.data.toList) ++ [] :: sp [0, k] := by
      rw [show jl (a ++ t) ++ [0, 0, 0, k] = jl (a ++ t) ++ 0 :: [0, 0, k] from rfl, sp_app, e2]
      rfl
    rw [e', sp_app, e1, List.map_append, List.append_assoc] at e3
    have e4 := List.append_cancel_left e3
    cases t with
    | nil => rw [List.append_nil]
    | cons y t =>
      exfalso
      have e5 : sp (0 :: r) = [] :: sp r := rfl
      rw [e5] at e4
      have e6 := (List.cons.inj e4).1
      exact name_ne y (right_names _ rb y (by simp)) e6.symm
end
/-! ### What the program gives -/
theorem below_is (l : List ByteArray) (hl : l.length ≤ 1000000) (hj : (joinB l ⟨#[0]⟩).size ≤ 1000000) (k : Nat) (hk : l.length < k) (hr : rightB l = true) :
    key_Below.f k l = some (if (l.length : Int) = 0 then ((⟨#[109]⟩ : ByteArray) ++ ⟨#[0]⟩, (⟨#[110]⟩ : ByteArray)) else (metaB l ++ ⟨#[0]⟩, metaB l ++ ⟨#[1]⟩)) := by
  unfold key_Below.f key_whole.f key_Subtree.f key_sorts.f
  rw [Option.bind_some, within_r _ _ (Nat.le_refl _) l hl hj k hk, within_r _ _ (Nat.le_refl _) l hl hj k hk, Option.bind_some, Option.bind_some, Option.bind_some, Option.bind_some]
  simp only [if_pos hr]
  by_cases h0 : (l.length : Int) = 0
  · simp only [if_pos h0]
    rw [if_pos (by rw [tl, tl]; decide), if_pos (by decide)]
  · simp only [if_neg h0]
    have e : ¬ (⟨#[109]⟩ ++ joinB l ⟨#[0]⟩ : ByteArray).toList = [] := metaB_ne l
    rw [if_pos (by rw [beq_eq_false_iff_ne.2 e]; rfl), if_pos (by rw [ByteArray.size_append, szl1]; omega)]
    rfl
theorem blocks_is (l : List ByteArray) (hl : l.length ≤ 1000000) (hj : (joinB l ⟨#[0]⟩).size ≤ 1000000) (k : Nat) (hk : l.length < k) (hr : rightB l = true) :
    key_Blocks.f k l = some (((⟨#[100]⟩ ++ joinB l ⟨#[0]⟩) ++ ⟨#[0]⟩) ++ ⟨#[0]⟩, ((⟨#[100]⟩ ++ joinB l ⟨#[0]⟩) ++ ⟨#[0]⟩) ++ ⟨#[1]⟩) := by
  unfold key_Blocks.f
  rw [key_right_is l hl k hk, Option.bind_some, if_pos hr, joint_is l hl hj, Option.bind_some, if_pos (by omega), if_pos (by rw [ByteArray.size_append, szl1]; omega), if_pos (by rw [ByteArray.size_append, ByteArray.size_append, szl1, szl1]; omega)]
theorem block_r (l : List ByteArray) (hl : l.length ≤ 1000000) (hj : (joinB l ⟨#[0]⟩).size ≤ 1000000) (k : Nat) (hk : l.length < k) (hr : rightB l = true) (i : Int) (h0 : 0 ≤ i) (h : i < 32) :
    key_Block.f k l i = some (if (l.length : Int) = 0 then ⟨#[]⟩ else blockB l i) := by
  unfold key_Block.f
  rw [key_right_is l hl k hk, Option.bind_some, if_pos hr]
  by_cases h0' : (l.length : Int) = 0
  · rw [if_pos h0', if_pos h0']
  · rw [if_neg h0', if_neg h0', if_neg (by omega), if_neg (by omega), joint_is l hl hj, Option.bind_some, if_pos (by omega), if_pos (by rw [ByteArray.size_append, szl1]; omega), Option.bind_some, if_pos (by rw [ByteArray.size_append, ByteArray.size_append, szl1, szl2, strOfNums_size]; simp only [List.length_cons, List.length_nil]; omega)]
    rfl
theorem subtree_nil (k : Nat) (hk : 0 < k) : key_Subtree.f k [] = some (⟨#[109]⟩, ⟨#[110]⟩, ⟨#[100]⟩, ⟨#[101]⟩) := by
  unfold key_Subtree.f key_sorts.f
  rw [Option.bind_some, within_r _ _ (Nat.le_refl _) [] (by simp) (by rw [joinB_nil]; decide) k (by simpa using hk), within_r _ _ (Nat.le_refl _) [] (by simp) (by rw [joinB_nil]; decide) k (by simpa using hk), Option.bind_some, Option.bind_some]
  rfl
end Go.Proofs.YthafpbidfgmacaaDoor.Q
