/- Plain: what is put is taken as what it was; what is taken has that text. -/
import Derived.Test.YtniblmpihnhglaaE17
import Derived.Test.YtniblmpihnhglaaE14
import Derived.Test.YtniblmpihnhglaaD21
namespace Go.Proofs.Ytniblmpihnhglaa
open Go.RowKit
set_option linter.unusedVariables false

theorem take_app {A B : List UInt8} (n : Nat) (h : A.length = n) : (A ++ B).take n = A := by subst h; exact List.take_left ..
theorem drop_app {A B : List UInt8} (n : Nat) (h : A.length = n) : (A ++ B).drop n = B := by subst h; exact List.drop_left ..
theorem metaL_length (k s m t : Nat) : (metaL k s m t).length = 21 := by
  unfold metaL
  simp only [List.length_append, beB_length]
theorem drop_more (L : List UInt8) (a b : Nat) : L.drop (a + b) = (L.drop a).drop b := by rw [List.drop_drop]
theorem put_take {x : Me} (hx : x.ok) (hm : mayX x = true) : tK (metaL x.k x.s x.m x.t) = x.k ∧ tS (metaL x.k x.s x.m x.t) = x.s ∧ tM (metaL x.k x.s x.m x.t) = x.m ∧ tT (metaL x.k x.s x.m x.t) = x.t := by
  have d1 : (metaL x.k x.s x.m x.t).drop 1 = beB x.s 4 ++ (beB x.m 8 ++ beB x.t 8) := by unfold metaL; exact drop_app 1 (beB_length _ _)
  have d5 : (metaL x.k x.s x.m x.t).drop 5 = beB x.m 8 ++ beB x.t 8 := by rw [show 5 = 1 + 4 from rfl, drop_more, d1]; exact drop_app 4 (beB_length _ _)
  have d13 : (metaL x.k x.s x.m x.t).drop 13 = beB x.t 8 := by rw [show 13 = 5 + 8 from rfl, drop_more, d5]; exact drop_app 8 (beB_length _ _)
  unfold tK tS tM tT
  rw [d1, d5, d13]
  refine ⟨?_, ?_, ?_, ?_⟩
  · unfold metaL; rw [take_app 1 (beB_length _ _)]; exact beN_beB 1 _ hx.1
  · rw [take_app 4 (beB_length _ _)]; exact beN_beB 4 _ hx.2.1
  · rw [take_app 8 (beB_length _ _)]; exact beN_beB 8 _ hx.2.2.1
  · rw [List.take_of_length_le (by rw [beB_length]; exact Nat.le_refl _)]; exact beN_beB 8 _ hx.2.2.2
theorem put_take_V {x : Me} (hx : x.ok) (hm : mayX x = true) : tV (metaL x.k x.s x.m x.t) = meV x ∧ tE (metaL x.k x.s x.m x.t) = 0 := by
  obtain ⟨h1, h2, h3, h4⟩ := put_take hx hm
  have ho : tOK (metaL x.k x.s x.m x.t) = true := by
    unfold tOK
    rw [h1, h2, h3, decide_eq_true (metaL_length _ _ _ _), Bool.true_and]
    exact hm
  unfold tV tE
  rw [ho, if_pos rfl, h1, h2, h3, h4, if_neg (by rw [metaL_length]; omega)]
  exact ⟨rfl, rfl⟩
theorem take_put {L : List UInt8} (h : tOK L = true) : metaL (tK L) (tS L) (tM L) (tT L) = L ∧ mayM (tK L) (tS L) (tM L) = true := by
  unfold tOK at h
  rw [Bool.and_eq_true, decide_eq_true_eq] at h
  refine ⟨?_, h.2⟩
  have hl := h.1
  have e1 : beB (tK L) 1 = L.take 1 := by have := beB_beN (L.take 1); rwa [List.length_take, show min 1 L.length = 1 by omega] at this
  have e2 : beB (tS L) 4 = (L.drop 1).take 4 := by have := beB_beN ((L.drop 1).take 4); rwa [List.length_take, List.length_drop, show min 4 (L.length - 1) = 4 by omega] at this
  have e3 : beB (tM L) 8 = (L.drop 5).take 8 := by have := beB_beN ((L.drop 5).take 8); rwa [List.length_take, List.length_drop, show min 8 (L.length - 5) = 8 by omega] at this
  have e4 : beB (tT L) 8 = (L.drop 13).take 8 := by have := beB_beN ((L.drop 13).take 8); rwa [List.length_take, List.length_drop, show min 8 (L.length - 13) = 8 by omega] at this
  unfold metaL
  rw [e1, e2, e3, e4, List.take_of_length_le (l := L.drop 13) (by rw [List.length_drop]; omega)]
  rw [show L.drop 13 = (L.drop 5).drop 8 by rw [List.drop_drop], List.take_append_drop, show L.drop 5 = (L.drop 1).drop 4 by rw [List.drop_drop], List.take_append_drop, List.take_append_drop]
theorem tOK_length {L : List UInt8} (h : tOK L = true) : L.length = 21 := by
  unfold tOK at h
  rw [Bool.and_eq_true, decide_eq_true_eq] at h
  exact h.1

theorem cLen_le (k : Nat) : cLen k ≤ 10 := by unfold cLen; split <;> (try split) <;> omega
theorem cOK_form {L : List UInt8} (h : cOK L = true) : L ≠ [] ∧ cKind L = true ∧ L.length = cLen (cK L) ∧ mayC (cK L) (cN L) (cO L) (cY L) = true := by
  unfold cOK at h
  simp only [Bool.and_eq_true, decide_eq_true_eq] at h
  obtain ⟨⟨⟨h1, h2⟩, h3⟩, h4⟩ := h
  refine ⟨?_, h2, h3, h4⟩
  rintro rfl
  simp at h1
theorem changeL_ck (k n op y : Nat) (hk : k < 256) (h4 : k = 1 ∨ k = 2 ∨ k = 3 ∨ k = 4) : cK (changeL k n op y) = k ∧ (changeL k n op y).length = cLen k := by
  unfold changeL cLen
  split
  · rename_i h
    subst h
    refine ⟨?_, by simp only [List.length_append, beB_length]⟩
    unfold cK
    rw [take_app 1 (beB_length _ _)]; exact beN_beB 1 _ hk
  split
  · rename_i h
    subst h
    refine ⟨?_, by simp only [List.length_append, beB_length]⟩
    unfold cK
    rw [take_app 1 (beB_length _ _)]; exact beN_beB 1 _ hk
  · refine ⟨?_, by simp only [List.length_append, beB_length]⟩
    unfold cK
    rw [take_app 1 (beB_length _ _)]; exact beN_beB 1 _ hk
theorem putc_take {c : Ch} (hc : c.ok) (hm : mayY c = true) : cTV (changeL c.k c.n c.op c.y) = chW c ∧ cTE (changeL c.k c.n c.op c.y) = 0 := by
  have hf := mayY_form hm
  obtain ⟨h1, hlen⟩ := changeL_ck c.k c.n c.op c.y hc.1 (by omega)
  have hkd : cKind (changeL c.k c.n c.op c.y) = true := by unfold cKind; rw [h1, decide_eq_true_eq]; omega
  have hfields : cN (changeL c.k c.n c.op c.y) = c.n ∧ cO (changeL c.k c.n c.op c.y) = c.op ∧ cY (changeL c.k c.n c.op c.y) = c.y := by
    unfold cN cO cY
    rw [h1]
    by_cases h3 : c.k = 3
    · rw [if_pos h3, if_pos h3, if_pos h3]
      have e : changeL c.k c.n c.op c.y = beB 3 1 ++ (beB c.op 1 ++ beB c.y 8) := by unfold changeL; rw [if_pos h3]
      have d1 : (changeL c.k c.n c.op c.y).drop 1 = beB c.op 1 ++ beB c.y 8 := by rw [e]; exact drop_app 1 (beB_length _ _)
      have d2 : (changeL c.k c.n c.op c.y).drop 2 = beB c.y 8 := by rw [show 2 = 1 + 1 from rfl, drop_more, d1]; exact drop_app 1 (beB_length _ _)
      refine ⟨by omega, ?_, ?_⟩
      · rw [d1, take_app 1 (beB_length _ _)]; exact beN_beB 1 _ hc.2.2.1
      · rw [d2, List.take_of_length_le (by rw [beB_length]; exact Nat.le_refl _)]; exact beN_beB 8 _ hc.2.2.2
    · rw [if_neg h3, if_neg h3, if_neg h3]
      refine ⟨?_, by omega, by omega⟩
      by_cases h4 : c.k = 4
      · rw [if_pos h4]
        have e : changeL c.k c.n c.op c.y = beB 4 1 ++ beB c.n 8 := by unfold changeL; rw [if_neg h3, if_pos h4]
        rw [e, drop_app 1 (beB_length _ _), List.take_of_length_le (by rw [beB_length]; exact Nat.le_refl _)]
        exact beN_beB 8 _ hc.2.1
      · rw [if_neg h4]
        have e : changeL c.k c.n c.op c.y = beB c.k 1 ++ beB c.n 4 := by unfold changeL; rw [if_neg h3, if_neg h4]
        rw [e, drop_app 1 (beB_length _ _), List.take_of_length_le (by rw [beB_length]; exact Nat.le_refl _)]
        exact beN_beB 4 _ (by omega)
  have hne : changeL c.k c.n c.op c.y ≠ [] := by
    intro h
    rw [h] at hlen
    have : 5 ≤ cLen c.k := by unfold cLen; split <;> (try split) <;> omega
    simp at hlen
    omega
  have hmm : mayC (cK (changeL c.k c.n c.op c.y)) (cN (changeL c.k c.n c.op c.y)) (cO (changeL c.k c.n c.op c.y)) (cY (changeL c.k c.n c.op c.y)) = true := by
    rw [h1, hfields.1, hfields.2.1, hfields.2.2]; exact hm
  obtain ⟨g1, g2⟩ := cT_good hne hkd (by rw [hlen, h1]) hmm
  rw [g1, g2, h1, hfields.1, hfields.2.1, hfields.2.2]
  exact ⟨rfl, rfl⟩
theorem take_putc {L : List UInt8} (h : cOK L = true) : changeL (cK L) (cN L) (cO L) (cY L) = L := by
  obtain ⟨hne, hkd, hlen, hm⟩ := cOK_form h
  have hk := kinds_of hkd
  have hl1 : 1 ≤ L.length := by
    cases L with
    | nil => exact absurd rfl hne
    | cons a t => simp
  have e1 : beB (cK L) 1 = L.take 1 := by have := beB_beN (L.take 1); rwa [List.length_take, show min 1 L.length = 1 by omega] at this
  unfold changeL
  by_cases h3 : cK L = 3
  · have hl : L.length = 10 := by rw [hlen, h3]; rfl
    rw [if_pos h3, ← h3, e1]
    have hO : cO L = beN ((L.drop 1).take 1) := by unfold cO; rw [if_pos h3]
    have hY : cY L = beN ((L.drop 2).take 8) := by unfold cY; rw [if_pos h3]
    have e2 : beB (cO L) 1 = (L.drop 1).take 1 := by rw [hO]; have := beB_beN ((L.drop 1).take 1); rwa [List.length_take, List.length_drop, show min 1 (L.length - 1) = 1 by omega] at this
    have e3 : beB (cY L) 8 = (L.drop 2).take 8 := by rw [hY]; have := beB_beN ((L.drop 2).take 8); rwa [List.length_take, List.length_drop, show min 8 (L.length - 2) = 8 by omega] at this
    rw [e2, e3, List.take_of_length_le (l := L.drop 2) (by rw [List.length_drop]; omega), show L.drop 2 = (L.drop 1).drop 1 by rw [List.drop_drop], List.take_append_drop, List.take_append_drop]
  · rw [if_neg h3]
    by_cases h4 : cK L = 4
    · have hl : L.length = 9 := by rw [hlen, h4]; rfl
      rw [if_pos h4, ← h4, e1]
      have hN : cN L = beN ((L.drop 1).take 8) := by unfold cN; rw [if_neg h3, if_pos h4]
      have e2 : beB (cN L) 8 = (L.drop 1).take 8 := by rw [hN]; have := beB_beN ((L.drop 1).take 8); rwa [List.length_take, List.length_drop, show min 8 (L.length - 1) = 8 by omega] at this
      rw [e2, List.take_of_length_le (l := L.drop 1) (by rw [List.length_drop]; omega), List.take_append_drop]
    · have hl : L.length = 5 := by rw [hlen]; unfold cLen; rw [if_neg h3, if_neg h4]
      rw [if_neg h4, e1]
      have hN : cN L = beN ((L.drop 1).take 4) := by unfold cN; rw [if_neg h3, if_neg h4]
      have e2 : beB (cN L) 4 = (L.drop 1).take 4 := by rw [hN]; have := beB_beN ((L.drop 1).take 4); rwa [List.length_take, List.length_drop, show min 4 (L.length - 1) = 4 by omega] at this
      rw [e2, List.take_of_length_le (l := L.drop 1) (by rw [List.length_drop]; omega), List.take_append_drop]
theorem cOK_length {L : List UInt8} (h : cOK L = true) : L.length ≤ 10 := by
  obtain ⟨_, _, hlen, _⟩ := cOK_form h
  rw [hlen]
  exact cLen_le _
theorem tE_zero (L : List UInt8) : tE L = 0 ↔ tOK L = true := by
  unfold tE
  by_cases h : L.length < 21
  · rw [if_pos h]
    refine ⟨fun h => absurd h (by decide), fun h2 => ?_⟩
    have := tOK_length h2
    omega
  · rw [if_neg h]
    by_cases h2 : tOK L = true
    · rw [if_pos h2]; exact ⟨fun _ => h2, fun _ => rfl⟩
    · rw [if_neg h2]; exact ⟨fun h => absurd h (by decide), fun h => absurd h h2⟩
theorem cTE_zero (L : List UInt8) : cTE L = 0 ↔ cOK L = true := by
  constructor
  · intro h
    unfold cTE at h
    split at h
    · exact absurd h (by decide)
    split at h
    · split at h
      · exact absurd h (by decide)
      split at h
      · assumption
      · exact absurd h (by decide)
    · exact absurd h (by decide)
  · intro h
    obtain ⟨h1, h2, h3, h4⟩ := cOK_form h
    exact (cT_good h1 h2 h3 h4).2
end Go.Proofs.Ytniblmpihnhglaa
