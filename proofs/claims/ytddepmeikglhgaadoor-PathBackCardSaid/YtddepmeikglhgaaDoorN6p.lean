/- PathBack's plain statement: what is told of names is read as these; what is read is told just so. -/
import Derived.Test.YtddepmeikglhgaaDoorN4p
import Derived.Test.YtddepmeikglhgaaDoorN3p
import Derived.Test.YtddepmeikglhgaaDoorRrillbedlaw05PathBack
namespace Go.Proofs.YtddepmeikglhgaaDoor.Q
open Go.RowKit Go.Proofs.YtddepmeikglhgaaDoorW.PrintWords Go.Proofs.YtddepmeikglhgaaDoorW.PrintLast Go.Proofs.YtddepmeikglhgaaDoorW.PrintMore
set_option linter.unusedVariables false

theorem good_of {x : ByteArray} (h : badB x = false) : checkP x = 0 := by
  unfold badB at h
  have : (checkP x == 0) = true := by
    cases hc : (checkP x == 0) with
    | true => rfl
    | false => rw [hc] at h; cases h
  exact beq_iff_eq.1 this
theorem check_good {x : ByteArray} (h : checkP x = 0) : x.toList ≠ [] ∧ x.data.toList.elem 47 = false ∧ x.size ≤ 16 := by
  unfold checkP at h
  split at h
  · cases h
  · rename_i h1
    split at h
    · cases h
    · rename_i h2
      refine ⟨fun e => h1 (.inl e), ?_, by omega⟩
      rw [Bool.eq_false_iff]
      intro e
      exact h1 (.inr (.inr (.inr (.inl (by rw [tl]; exact e)))))
/-- Names joined, split again. -/
theorem spl_join : ∀ (l : List (List UInt8)) (x : List UInt8), (∀ y ∈ x :: l, y.elem 47 = false) → spl (Lib.join (x :: l) [47]) = x :: l := by
  intro l
  induction l with
  | nil =>
    intro x h
    rw [Lib.join_one]
    exact spl_none x (h x List.mem_cons_self)
  | cons a t ih =>
    intro x h
    have e : Lib.join (x :: a :: t) [47] = x ++ 47 :: Lib.join (a :: t) [47] := by
      rw [Lib.join_cons, Lib.join_cons]
      simp [Lib.joinTail]
    rw [e, spl_slash _ _ (h x List.mem_cons_self), ih a (fun y hy => h y (List.mem_cons_of_mem _ hy))]
/-- A text split, joined again. -/
theorem join_spl : ∀ l : List UInt8, Lib.join (spl l) [47] = l := by
  intro l
  induction l with
  | nil => rfl
  | cons c t ih =>
    obtain ⟨h, r, hr⟩ := List.exists_cons_of_ne_nil (spl_ne t)
    rw [hr] at ih
    by_cases hc : c = 47
    · rw [hc, spl, if_pos rfl, hr, Lib.join_cons]
      rw [Lib.join_cons] at ih
      simp only [Lib.joinTail, List.map_cons, List.flatten_cons, List.nil_append, List.singleton_append] at ih ⊢
      rw [List.cons_append, ih]
    · rw [spl_cons c t hc, hr]
      simp only [conH]
      rw [Lib.join_cons] at ih ⊢
      rw [List.append_assoc, ih]
      rfl
theorem join_slash (a : List UInt8) (b : List UInt8) (r : List (List UInt8)) : Lib.join (a :: b :: r) [47] = a ++ 47 :: Lib.join (b :: r) [47] := by
  rw [Lib.join_cons, Lib.join_cons]
  simp [Lib.joinTail]
theorem join_slash0 (r : List (List UInt8)) (a : List UInt8) (h : r ≠ []) : Lib.join (a :: r) [47] = a ++ 47 :: Lib.join r [47] := by
  obtain ⟨b, t, rfl⟩ := List.exists_cons_of_ne_nil h
  exact join_slash a b t
theorem goP_good : ∀ (l : List ByteArray) (n : Nat), (∀ x ∈ l, checkP x = 0) → n + l.length ≤ 6 → goP n l = 0
  | [], n, _, _ => rfl
  | x :: t, n, h, hn => by
    rw [List.length_cons] at hn
    simp only [goP]
    rw [if_pos (h x List.mem_cons_self), if_neg (by omega)]
    exact goP_good t (n + 1) (fun y hy => h y (List.mem_cons_of_mem _ hy)) (by omega)
theorem goP_all : ∀ (l : List ByteArray) (n : Nat), goP n l = 0 → ∀ x ∈ l, checkP x = 0
  | [], n, _ => by simp
  | x :: t, n, h => by
    simp only [goP] at h
    split at h
    · rename_i h1
      split at h
      · cases h
      · intro y hy
        rcases List.mem_cons.1 hy with rfl | hy
        · exact h1
        · exact goP_all t (n + 1) h y hy
    · rename_i h1
      exact absurd h h1
theorem map_mk (l : List ByteArray) : (l.map (·.data.toList)).map mkB = l := by
  rw [List.map_map]
  conv => rhs; rw [← List.map_id l]
  apply List.map_congr_left
  intro x _
  exact mkB_of x
/-- What stands ahead of the first slash. -/
def preB (snap : ByteArray) : List UInt8 := if snap.toList = [] then [] else snap.data.toList ++ [58]
theorem pre_snap (snap : ByteArray) (h : snap.toList = [] ∨ (checkP snap = 0 ∧ snap.toList.elem 58 = false)) : snapB (mkB (preB snap)) = (snap, 0) ∧ (preB snap).elem 47 = false := by
  unfold preB snapB
  by_cases he : snap.toList = []
  · rw [if_pos he]
    refine ⟨?_, rfl⟩
    rw [if_pos (by rw [tl, mkB_data])]
    have : snap = ⟨#[]⟩ := WideShapes.bytes_inj (by rw [← tl, he])
    rw [this]
  · rw [if_neg he]
    rcases h with h | ⟨h1, h2⟩
    · exact absurd h he
    · obtain ⟨_, h4, _⟩ := check_good h1
      refine ⟨?_, ?_⟩
      · rw [if_neg (by rw [tl, mkB_data]; simp), mkB_data]
        simp only [List.getLast?_append, List.getLast?_singleton, Option.some_or, List.dropLast_concat, if_true]
        rw [mkB_of, if_neg (by rw [h2]; decide), h1]
      · rw [List.elem_eq_mem, decide_eq_false_iff_not] at h4 ⊢
        simp [h4]
theorem snap_pre (a : List UInt8) (h : (snapB (mkB a)).2 = 0) : ((snapB (mkB a)).1.toList = [] ∨ (checkP (snapB (mkB a)).1 = 0 ∧ (snapB (mkB a)).1.toList.elem 58 = false)) ∧ preB (snapB (mkB a)).1 = a := by
  unfold snapB at h ⊢
  by_cases he : (mkB a).toList = []
  · rw [if_pos he]
    rw [tl, mkB_data] at he
    refine ⟨.inl (by rw [tl]), ?_⟩
    rw [he]
    unfold preB
    rw [if_pos (by rw [tl])]
  · rw [if_neg he] at h ⊢
    rw [mkB_data] at h ⊢
    split at h
    · rename_i h1
      rw [if_pos h1]
      split at h
      · cases h
      · rename_i h2
        rw [if_neg h2]
        have h' : checkP (mkB a.dropLast) = 0 := h
        refine ⟨.inr ⟨h', by simpa using h2⟩, ?_⟩
        show preB (mkB a.dropLast) = a
        unfold preB
        rw [if_neg (check_good h').1, mkB_data]
        have hne : a ≠ [] := by
          rintro rfl
          simp at h1
        rw [List.getLast?_eq_some_getLast hne] at h1
        injection h1 with h1
        rw [← h1]
        exact List.dropLast_concat_getLast hne
    · cases h
theorem text_data (snap : ByteArray) (l : List ByteArray) : (if snap.toList = [] then (⟨#[47]⟩ : ByteArray) ++ joinB l ⟨#[47]⟩ else (snap ++ ⟨#[58]⟩) ++ (⟨#[47]⟩ ++ joinB l ⟨#[47]⟩)).data.toList = preB snap ++ 47 :: Lib.join (l.map (·.data.toList)) [47] := by
  unfold preB
  split
  · rw [app_data]
    simp [joinB]
  · rw [app_data, app_data, app_data]
    simp [joinB]
theorem textP_ok (snap : ByteArray) (l : List ByteArray) (h : (textP snap l).2 = 0) : (snap.toList = [] ∨ (checkP snap = 0 ∧ snap.toList.elem 58 = false)) ∧ (∀ x ∈ l, checkP x = 0) ∧ l.length ≤ 6 ∧ (textP snap l).1.data.toList = preB snap ++ 47 :: Lib.join (l.map (·.data.toList)) [47] := by
  unfold textP at h ⊢
  split at h
  · cases h
  · rename_i h1
    rw [if_neg h1]
    split at h
    · cases h
    · rename_i h2
      rw [if_neg h2]
      have h1' : ((!snap.toList.isEmpty && (badB snap || snap.toList.elem 58)) || l.any badB) = false := Bool.eq_false_iff.2 h1
      rw [Bool.or_eq_false_iff] at h1'
      obtain ⟨p1, p2⟩ := h1'
      refine ⟨?_, ?_, by omega, text_data snap l⟩
      · by_cases he : snap.toList = []
        · exact .inl he
        · right
          have hem : snap.toList.isEmpty = false := by simpa using he
          rw [hem, Bool.not_false, Bool.true_and, Bool.or_eq_false_iff] at p1
          exact ⟨good_of p1.1, p1.2⟩
      · intro x hx
        rw [List.any_eq_false] at p2
        exact good_of (by simpa using p2 x hx)
theorem textP_of (snap : ByteArray) (l : List ByteArray) (h1 : snap.toList = [] ∨ (checkP snap = 0 ∧ snap.toList.elem 58 = false)) (h2 : ∀ x ∈ l, checkP x = 0) (h3 : l.length ≤ 6) :
    textP snap l = (mkB (preB snap ++ 47 :: Lib.join (l.map (·.data.toList)) [47]), 0) := by
  have e : (if snap.toList = [] then (⟨#[47]⟩ : ByteArray) ++ joinB l ⟨#[47]⟩ else (snap ++ ⟨#[58]⟩) ++ (⟨#[47]⟩ ++ joinB l ⟨#[47]⟩)) = mkB (preB snap ++ 47 :: Lib.join (l.map (·.data.toList)) [47]) :=
    WideShapes.bytes_inj (by rw [text_data, mkB_data])
  unfold textP
  rw [e, if_neg, if_neg (by omega)]
  rw [Bool.not_eq_true, Bool.or_eq_false_iff]
  refine ⟨?_, ?_⟩
  · rcases h1 with h | ⟨h, h'⟩
    · rw [h]
      rfl
    · have hb : badB snap = false := by unfold badB; rw [h]; rfl
      rw [hb, h']
      simp
  · rw [List.any_eq_false]
    intro x hx
    have hb : badB x = false := by unfold badB; rw [h2 x hx]; rfl
    rw [hb]
    decide
theorem join_len : ∀ l : List ByteArray, (∀ x ∈ l, x.size ≤ 16) → (Lib.join (l.map (·.data.toList)) [47]).length ≤ 17 * l.length := by
  intro l h
  have := join_size 16 ⟨#[47]⟩ l h
  rw [← size_len] at this
  unfold joinB at this
  rw [show (⟨#[47]⟩ : ByteArray).data.toList = [47] from rfl] at this
  simp only at this
  have e : (⟨#[47]⟩ : ByteArray).size = 1 := rfl
  rw [e] at this
  omega
/-- What is told is read. -/
theorem parse_text (snap : ByteArray) (l : List ByteArray) (h : (textP snap l).2 = 0) : parseP (textP snap l).1 = (snap, l, 0) := by
  obtain ⟨h1, h2, h3, h4⟩ := textP_ok snap l h
  obtain ⟨s1, s2⟩ := pre_snap snap h1
  have hx : ∀ x ∈ l, x.size ≤ 16 := fun x hx => (check_good (h2 x hx)).2.2
  have hp : (preB snap).length ≤ 17 := by
    unfold preB
    split
    · simp
    · rename_i he
      rcases h1 with h1 | ⟨h1, _⟩
      · exact absurd h1 he
      · have := (check_good h1).2.2
        rw [List.length_append, size_len]
        simp; omega
  have hz : (textP snap l).1.size ≤ 120 := by
    rw [← size_len, h4, List.length_append, List.length_cons]
    have := join_len l hx
    omega
  unfold parseP
  rw [if_neg (by omega), h4, spl_slash _ _ s2]
  cases l with
  | nil =>
    rw [List.map_nil, Lib.join_nil]
    simp only [spl, s1]
    rfl
  | cons x t =>
    have hj : spl (Lib.join ((x :: t).map (·.data.toList)) [47]) = (x :: t).map (·.data.toList) := by
      rw [List.map_cons]
      apply spl_join
      intro y hy
      rw [← List.map_cons (f := fun z : ByteArray => z.data.toList)] at hy
      obtain ⟨z, hz, rfl⟩ := List.mem_map.1 hy
      exact (check_good (h2 z hz)).2.1
    rw [hj, List.map_cons]
    simp only [s1, if_true]
    rw [if_neg (by
      intro e
      have := (List.cons.inj e).1
      exact (check_good (h2 x List.mem_cons_self)).1 (by rw [tl]; exact this)), ← List.map_cons (f := fun z : ByteArray => z.data.toList), map_mk]
    unfold outP
    rw [if_pos (goP_good _ 0 h2 (by omega))]
/-- What is read is told. -/
theorem text_parse (p : ByteArray) (h : (parseP p).2.2 = 0) : textP (parseP p).1 (parseP p).2.1 = (p, 0) ∧ (parseP p).1.size ≤ 1000 ∧ ∀ x ∈ (parseP p).2.1, x.size ≤ 1000 := by
  have hj := join_spl p.data.toList
  unfold parseP at h ⊢
  split at h
  · cases h
  rename_i hz
  rw [if_neg hz]
  obtain ⟨a, w, haw⟩ := List.exists_cons_of_ne_nil (spl_ne p.data.toList)
  rw [haw] at h hj ⊢
  cases w with
  | nil => cases h
  | cons b r =>
    simp only at h ⊢
    split at h
    · rename_i h4
      rw [if_pos h4]
      obtain ⟨s1, s2⟩ := snap_pre a h4
      have hsz : (snapB (mkB a)).1.size ≤ 1000 := by
        rcases s1 with s | ⟨s, _⟩
        · rw [← size_len, ← tl, s]
          simp
        · have := (check_good s).2.2
          omega
      rw [join_slash] at hj
      split at h
      · rename_i hb
        rw [if_pos hb]
        refine ⟨?_, hsz, by simp⟩
        rw [textP_of _ _ s1 (by simp) (by simp), s2]
        rw [hb, Lib.join_one] at hj
        rw [List.map_nil, Lib.join_nil, hj, mkB_of]
      · rename_i hb
        rw [if_neg hb]
        unfold outP at h ⊢
        split at h
        · rename_i hg
          rw [if_pos hg]
          have hall := goP_all _ 0 hg
          refine ⟨?_, hsz, fun x hx => by have := (check_good (hall x hx)).2.2; omega⟩
          rw [textP_of _ _ s1 hall (by have := goP_len _ 0 (by omega) hg; omega), s2]
          rw [List.map_map]
          have e : ((fun x : ByteArray => x.data.toList) ∘ mkB) = id := by
            funext x
            exact mkB_data x
          rw [e, List.map_id, hj, mkB_of]
        · rename_i hg
          exact absurd h hg
    · rename_i h4
      exact absurd h h4
theorem within_self (l : List ByteArray) : withinB l l = true := by
  unfold withinB
  rw [List.take_length]
  exact decide_eq_true rfl
theorem within_nil (l : List ByteArray) : withinB [] l = true := by
  unfold withinB
  exact decide_eq_true rfl
theorem within_up (l : List ByteArray) : withinB l.dropLast l = true := by
  unfold withinB
  rw [List.length_dropLast, List.dropLast_eq_take]
  exact decide_eq_true rfl
theorem not_within_up (l : List ByteArray) (h : ¬ (l.length : Int) = 0) : withinB l l.dropLast = false := by
  unfold withinB
  apply decide_eq_false
  intro e
  have := congrArg List.length e
  rw [List.length_take, List.length_dropLast] at this
  omega
theorem back_j2 (k : Nat) (hk : 1000 ≤ k) (l : List ByteArray) (hl : l.length ≤ 30) : rillbedlaw05_PathBack.j2 (k + 1) l = some true := by
  have hu : path_Up.f l = some (l.dropLast, l.getLastD ByteArray.empty) := by
    show upF l = _
    unfold upF
    rw [if_pos (by omega)]
  have ha := awake_is k (by omega)
  rw [rillbedlaw05_PathBack.j2, hu]
  simp only [Option.bind_some]
  rw [within_is l l (by omega) _ (by omega), within_self]
  simp only [Option.bind_some, if_true]
  rw [within_is l.dropLast l (by rw [List.length_dropLast]; omega) _ (by rw [List.length_dropLast]; omega), within_up]
  simp only [Option.bind_some, if_true]
  rw [within_is [] l (by simp) _ (by simp; omega), within_nil]
  simp only [Option.bind_some, if_true]
  by_cases h : (l.length : Int) = 0
  · rw [if_pos h, ha]
    rfl
  · rw [if_neg h, within_is l l.dropLast (by omega) _ (by omega), not_within_up l h, ha]
    rfl
theorem back_j1 (k : Nat) (hk : 200000 ≤ k) (l : List ByteArray) (hl : l.length ≤ 30) (p : ByteArray) (hp : p.size ≤ 1000) : rillbedlaw05_PathBack.j1 (k + 2) l p = some true := by
  have h2 := back_j2 k (by omega) l hl
  have hlen := parse_len p
  rw [rillbedlaw05_PathBack.j1, parse_is p (by omega) _ (by omega), Option.bind_some, h2]
  by_cases h : (parseP p).2.2 = 0
  · obtain ⟨e, s1, s2⟩ := text_parse p h
    rw [if_pos h, text_is _ s1 _ (by omega) s2, e]
    simp
  · rw [if_neg h]
theorem pathBack_pure (a0 : ByteArray) (l1 : List ByteArray) (a2 : ByteArray) (hl1 : l1.length ≤ 9223372036854775807) : ∃ k, rillbedlaw05_PathBack.f k a0 l1 a2 = some true := by
  obtain ⟨k, hk⟩ : ∃ k : Nat, k = 200000 := ⟨_, rfl⟩
  refine ⟨k + 3, ?_⟩
  have ha := awake_is (k + 2) (by omega)
  obtain ⟨b, hb, hf⟩ := few_is l1 hl1 (k + 3) (by omega)
  unfold rillbedlaw05_PathBack.f
  rw [hb, Option.bind_some]
  have hT : rillbedlaw05_PathBack.j0 (k + 3) a0 l1 a2 true = some true := by
    rw [rillbedlaw05_PathBack.j0, if_pos rfl, ha]
    rfl
  cases b with
  | false =>
    rw [if_neg (by decide)]
    exact hT
  | true =>
    obtain ⟨h1, h2⟩ := hf rfl
    rw [if_pos rfl]
    by_cases h3 : (a0.size : Int) > 200
    · rw [if_pos h3]
      exact hT
    · rw [if_neg h3]
      by_cases h4 : (a2.size : Int) > 1000
      · rw [decide_eq_true h4]
        exact hT
      · rw [decide_eq_false h4]
        have hj := back_j1 k (by omega) l1 h1 a2 (by omega)
        rw [rillbedlaw05_PathBack.j0, if_neg (by decide), text_is a0 (by omega) l1 (by omega) (fun x hx => by have := h2 x hx; omega), Option.bind_some, hj]
        by_cases h5 : (textP a0 l1).2 = 0
        · have hz : (textP a0 l1).1.size ≤ 100000 := by
            obtain ⟨q1, q2, q3, q4⟩ := textP_ok a0 l1 h5
            rw [← size_len, q4, List.length_append, List.length_cons]
            have := join_len l1 (fun x hx => (check_good (q2 x hx)).2.2)
            have hp : (preB a0).length ≤ 1000 := by
              unfold preB
              split
              · simp
              · rw [List.length_append, size_len]
                simp; omega
            omega
          rw [if_pos h5, parse_is _ hz _ (by omega), parse_text a0 l1 h5]
          simp only [Option.bind_some, if_true]
          rw [same_is _ _ (by omega) _ (by omega)]
          simp
        · rw [if_neg h5]
theorem pathBackWalk (a0 : ByteArray) (A1 : Option Addr) (c1 : Nat) (l1 : List ByteArray) (a2 : ByteArray) (W : World) (hC : Kd.C Kd.string W A1 l1.length l1) (hc : l1.length ≤ c1) (hl : l1.length ≤ 9223372036854775807) :
    Calls Tryd.prog 5 #[.string a0, .slice A1 l1.length c1, .string a2] W fun e w' => e = .returned (.bool true) ∧ Below W.heap.size W w' := by
  obtain ⟨k, h⟩ := pathBack_pure a0 l1 a2 hl
  exact rillbedlaw05_PathBack.calls k a0 A1 c1 l1 a2 true W hC hc h
end Go.Proofs.YtddepmeikglhgaaDoor.Q
