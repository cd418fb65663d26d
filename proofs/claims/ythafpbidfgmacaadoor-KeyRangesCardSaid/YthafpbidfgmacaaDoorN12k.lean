/- What a right path's keys are taken apart into. -/
import Derived.Test.YthafpbidfgmacaaDoorN11k
import Derived.Test.YthafpbidfgmacaaDoorN2b
import Derived.Test.YthafpbidfgmacaaDoorQD
namespace Go.Proofs.YthafpbidfgmacaaDoor.Q
open Go.RowKit Go.Proofs.YthafpbidfgmacaaDoorW.PrintWords Go.Proofs.YthafpbidfgmacaaDoorW.PrintLast Go.Proofs.YthafpbidfgmacaaDoorW.PrintMore
set_option linter.unusedVariables false

theorem parts_sp_loop (x0 : ByteArray) (hs : x0.size ≤ 100000) : ∀ (d k i from_ : Nat) (x3 : List ByteArray), from_ ≤ i → i ≤ x0.size → x0.size - i = d → d < k → x3.length ≤ i → (0 : UInt8) ∉ (x0.data.toList.take i).drop from_ →
    ∃ l, partsL k x0 x3 (from_ : Int) (i : Int) = some (x3 ++ l) ∧ l.map (·.data.toList) = sp (x0.data.toList.drop from_) := by
  intro d
  induction d with
  | zero =>
    intro k i from_ x3 h0 h1 hd hk hx hz
    obtain ⟨k, rfl⟩ : ∃ m, k = m + 1 := ⟨k - 1, by omega⟩
    have hi : i = x0.size := by omega
    have ht : x0.data.toList.take i = x0.data.toList := List.take_of_length_le (by rw [size_len]; omega)
    rw [ht] at hz
    refine ⟨[x0.extract from_ i], ?_, ?_⟩
    · simp only [partsL]
      rw [if_pos (by omega), if_pos (by omega), if_pos (by omega), if_pos (by omega)]
      rfl
    · rw [List.map_cons, List.map_nil, ext_data, ht, sp_none _ hz]
  | succ d ih =>
    intro k i from_ x3 h0 h1 hd hk hx hz
    obtain ⟨k, rfl⟩ : ∃ m, k = m + 1 := ⟨k - 1, by omega⟩
    obtain ⟨b, hb⟩ := byte_at x0 i (by omega)
    have hw : wrap64 ((i : Int) + 1) = ((i + 1 : Nat) : Int) := by rw [wrap_small (by omega) (by omega)]; omega
    have hbt := bt_nat x0 i b hb
    obtain ⟨hl, he⟩ := List.getElem?_eq_some_iff.1 hb
    by_cases hb0 : b = 0
    · have hzz : bt x0 (i : Int) = 0 := by rw [hbt, hb0]; rfl
      obtain ⟨l, e1, e2⟩ := ih k (i + 1) (i + 1) (x3 ++ [x0.extract from_ i]) (by omega) (by omega) (by omega) (by omega) (by simp; omega) (by rw [List.drop_of_length_le (by rw [List.length_take]; omega)]; simp)
      refine ⟨x0.extract from_ i :: l, ?_, ?_⟩
      · simp only [partsL]
        rw [if_neg (by omega), if_pos (by omega), if_pos (by omega), if_pos hzz, if_pos (by omega), if_pos (by omega), if_pos (by omega), hw]
        rw [List.append_assoc] at e1
        exact e1
      · have hdr : x0.data.toList.drop i = 0 :: x0.data.toList.drop (i + 1) := by rw [List.drop_eq_getElem_cons hl, he, hb0]
        have hsp : x0.data.toList.drop from_ = (x0.data.toList.take i).drop from_ ++ 0 :: x0.data.toList.drop (i + 1) := by
          rw [← hdr, List.drop_take]
          conv => lhs; rw [← List.take_append_drop (i - from_) (x0.data.toList.drop from_)]
          rw [List.drop_drop, Nat.add_sub_cancel' h0]
        rw [List.map_cons, e2, hsp, sp_app, sp_none _ hz, ext_data]
        rfl
    · have hzz : ¬ bt x0 (i : Int) = 0 := by
        rw [hbt]
        intro h
        exact hb0 (UInt8.toNat_inj.1 (show b.toNat = 0 by omega))
      have hz' : (0 : UInt8) ∉ (x0.data.toList.take (i + 1)).drop from_ := by
        rw [List.take_add_one, hb, List.drop_append_of_le_length (by rw [List.length_take]; omega)]
        intro h
        rcases List.mem_append.1 h with h | h
        · exact hz h
        · have : (0 : UInt8) = b := by simpa using h
          exact hb0 this.symm
      obtain ⟨l, e1, e2⟩ := ih k (i + 1) from_ x3 (by omega) (by omega) (by omega) (by omega) (by omega) hz'
      refine ⟨l, ?_, e2⟩
      simp only [partsL]
      rw [if_neg (by omega), if_pos (by omega), if_pos (by omega), if_neg hzz, hw]
      exact e1
theorem map_inj (l l' : List ByteArray) (h : l.map (·.data.toList) = l'.map (·.data.toList)) : l = l' := by
  have h1 := map_pre l' l [] (by rw [List.append_nil]; exact h)
  have h2 := map_pre l l' [] (by rw [List.append_nil]; exact h.symm)
  exact h2.eq_of_length_le h1.length_le
theorem parts_right (s : ByteArray) (l : List ByteArray) (hs : s.size ≤ 100000) (hn : l ≠ []) (hr : rightB l = true) (e : s.data.toList = jl l) : key_parts.f s = some l := by
  obtain ⟨l', e1, e2⟩ := parts_sp_loop s hs s.size (s.size + 1) 0 0 [] (by omega) (by omega) (by omega) (by omega) (by simp) (by simp)
  rw [List.nil_append] at e1
  rw [List.drop_zero, e, sp_jl l hn (right_no l hr)] at e2
  rw [map_inj l' l e2] at e1
  exact e1
theorem join_len' (c : UInt8) (l : List ByteArray) (hx : ∀ x ∈ l, x.size ≤ 16) : (Lib.join (l.map (·.data.toList)) [c]).length ≤ 17 * l.length := by
  induction l with
  | nil => exact Nat.le_refl _
  | cons x t ih =>
    have h1 := hx x (by simp)
    have h2 := ih (fun y hy => hx y (by simp [hy]))
    have h3 := size_len x
    cases t with
    | nil =>
      simp only [List.map_cons, List.map_nil, Lib.join, List.length_cons, List.length_nil]
      simp
      omega
    | cons y t =>
      rw [List.map_cons, join_more _ _ _ (by simp), List.length_append, List.length_append, List.length_cons, h3]
      simp only [List.length_cons, List.length_nil] at h2 ⊢
      omega
theorem right_size (c : UInt8) (l : List ByteArray) (h : rightB l = true) : l.length ≤ 6 ∧ (joinB l ⟨#[c]⟩).size ≤ 102 := by
  have h6 : l.length ≤ 6 := by
    simp only [rightB, Bool.and_eq_true, decide_eq_true_eq] at h
    exact h.2
  refine ⟨h6, ?_⟩
  have hx : ∀ x ∈ l, x.size ≤ 16 := by
    intro x hx
    have := right_names l h x hx
    simp only [nameB, Bool.and_eq_true, decide_eq_true_eq] at this
    exact this.2.1
  rw [← size_len, joinB_data]
  have := join_len' c l hx
  show (Lib.join _ [c]).length ≤ _
  omega
theorem slash (l : List ByteArray) (h : rightB l = true) : strings_Join.f l ⟨#[47]⟩ = some (joinB l ⟨#[47]⟩) := by
  obtain ⟨h1, h2⟩ := right_size 47 l h
  unfold strings_Join.f joinF
  rw [if_pos ⟨by omega, by omega⟩]
theorem prefix_c (a : ByteArray) (b c : UInt8) (t : List UInt8) (h : a.data.toList = b :: t) : strings_HasPrefix.f a ⟨#[c]⟩ = some (b == c) := by rw [prefix_is, h]
theorem take_m (l : List ByteArray) (h : rightB l = true) (k : Nat) (hk : 1000 ≤ k) : key_Take.f k (metaB l) = some (109, l, 0, 0) := by
  obtain ⟨h1, h2⟩ := right_size 0 l h
  have hd := metaB_data l
  unfold key_Take.f
  by_cases hn : l = []
  · subst hn
    rw [if_pos (by rw [tl, hd]; rfl)]
  · have hj := jl_ne l hn h
    have hz : (metaB l).size = (joinB l ⟨#[0]⟩).size + 1 := by unfold metaB; rw [ByteArray.size_append, szl1]; omega
    have hx := rest_data _ _ _ hd
    have hxs : ((metaB l).extract 1 (metaB l).size).size ≤ 100000 := by rw [← size_len, hx, ← jl_data, size_len]; omega
    rw [if_neg (by rw [tl, hd]; intro e; exact hj (List.cons.inj e).2), prefix_c _ _ _ _ hd, Option.bind_some, if_pos (by decide), if_pos (by omega), parts_right _ l hxs hn h hx, Option.bind_some, meta_r l (by omega) (by omega) k (by omega), if_pos h, Option.bind_some, if_pos (show (⟨#[109]⟩ ++ joinB l ⟨#[0]⟩ : ByteArray).toList = (metaB l).toList from rfl)]
theorem take_d (l : List ByteArray) (hn : l ≠ []) (h : rightB l = true) (i : Int) (i0 : 0 ≤ i) (i1 : i < 32) (k : Nat) (hk : 3000 ≤ k) : key_Take.f k (blockB l i) = some (100, l, i, 0) := by
  obtain ⟨h1, h2⟩ := right_size 0 l h
  obtain ⟨k, rfl⟩ : ∃ m, k = m + 2 := ⟨k - 2, by omega⟩
  have hd := blockB_data l i i0 i1
  have hj := jl_ne l hn h
  have hjl : (jl l).length = (joinB l ⟨#[0]⟩).size := by rw [← jl_data, size_len]
  have hj1 : 1 ≤ (jl l).length := by cases hq : jl l with | nil => exact absurd hq hj | cons _ _ => simp
  have hz : (blockB l i).size = (1 + (jl l).length) + 4 := by rw [← size_len, hd]; simp; omega
  have hu : (blockB l i).data.toList[1 + (jl l).length + 2]? = some 0 := by rw [hd, show 1 + (jl l).length + 2 = ((jl l).length + 2) + 1 by omega, List.getElem?_cons_succ, List.getElem?_append_right (by omega)]; simp
  have hv : (blockB l i).data.toList[1 + (jl l).length + 3]? = some (UInt8.ofNat i.toNat) := by rw [hd, show 1 + (jl l).length + 3 = ((jl l).length + 3) + 1 by omega, List.getElem?_cons_succ, List.getElem?_append_right (by omega)]; simp
  have hx : ((blockB l i).extract 1 (1 + (jl l).length)).data.toList = jl l := by
    rw [ext_data, hd, show 1 + (jl l).length = (jl l).length + 1 by omega, List.take_succ_cons, List.take_left', List.drop_succ_cons, List.drop_zero]
    rfl
  have hxs : ((blockB l i).extract 1 (1 + (jl l).length)).size = (jl l).length := by rw [← size_len, hx]
  have ex : joinB l ⟨#[0]⟩ = (blockB l i).extract 1 (1 + (jl l).length) := WideShapes.bytes_inj (by rw [jl_data, hx])
  have hl0 : ¬ (l.length : Int) = 0 := fun e => hn (List.eq_nil_of_length_eq_zero (by omega))
  have key := d_key (blockB l i) (1 + (jl l).length) k 0 0 0 (UInt8.ofNat i.toNat) l hz (by omega) (by omega) (by omega) (bt_nat _ _ _ hu) (bt_nat _ _ _ hv) (parts_right _ l (by omega) hn h hx) hl0 (by omega) (by omega) ex (by rw [hd, hx])
  unfold key_Take.f
  rw [if_neg (by rw [tl, hd]; intro e; exact absurd (List.cons.inj e).1 (by decide)), prefix_c _ _ _ _ hd, Option.bind_some, if_neg (by decide), prefix_c _ _ _ _ hd, Option.bind_some, if_pos (by decide), decide_eq_true (show (((blockB l i).size : Nat) : Int) > 5 by omega), key]
  unfold dTake
  have e8 : ((UInt8.ofNat i.toNat).toNat : Int) = i := by
    rw [UInt8.toNat_ofNat']
    omega
  rw [e8, if_pos ⟨h, by show (0 : Int) * 256 + i < 32; omega, rfl, rfl⟩]
  show some (100, l, (0 : Int) * 256 + i, (0 : Int)) = _
  rw [show (0 : Int) * 256 + i = i by omega]
theorem takes_m (l : List ByteArray) (h : rightB l = true) (k : Nat) (hk : 1000 ≤ k) : rillbedlaw06_takes.f k (metaB l) 109 (joinB l ⟨#[47]⟩) 0 = some true := by
  unfold rillbedlaw06_takes.f
  rw [take_m l h k hk, Option.bind_some]
  dsimp only
  rw [if_pos rfl, slash l h, Option.bind_some, if_pos rfl, if_pos rfl]
  rfl
theorem takes_d (l : List ByteArray) (hn : l ≠ []) (h : rightB l = true) (i : Int) (i0 : 0 ≤ i) (i1 : i < 32) (k : Nat) (hk : 3000 ≤ k) : rillbedlaw06_takes.f k (blockB l i) 100 (joinB l ⟨#[47]⟩) i = some true := by
  unfold rillbedlaw06_takes.f
  rw [take_d l hn h i i0 i1 k hk, Option.bind_some]
  dsimp only
  rw [if_pos rfl, slash l h, Option.bind_some, if_pos rfl, if_pos rfl]
  rfl
end Go.Proofs.YthafpbidfgmacaaDoor.Q
