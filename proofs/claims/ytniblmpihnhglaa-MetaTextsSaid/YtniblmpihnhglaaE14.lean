/- What TakeChange makes of any text, of both. -/
import Derived.Test.YtniblmpihnhglaaE13
namespace Go.Proofs.Ytniblmpihnhglaa
open Go.RowKit
set_option linter.unusedVariables false

theorem ck_get {L : List UInt8} (h : L ≠ []) : ∃ y : UInt8, L[0]? = some y ∧ y.toNat = cK L := by
  cases L with
  | nil => exact absurd rfl h
  | cons a t => exact ⟨a, rfl, by simp [cK, beN]⟩
theorem cT_none : cTV [] = chV 0 0 0 0 ∧ cTE [] = 10 := ⟨rfl, rfl⟩
theorem cT_kind {L : List UInt8} (h : L ≠ []) (hk : cKind L = false) : cTV L = chV 0 0 0 0 ∧ cTE L = 4 := by
  have ho : cOK L = false := by unfold cOK; rw [hk]; simp
  unfold cTV cTE
  rw [ho, if_neg h, if_neg (show ¬ cKind L = true by rw [hk]; decide)]
  exact ⟨rfl, rfl⟩
theorem cT_less {L : List UInt8} (h : L ≠ []) (hk : cKind L = true) (hl : L.length < cLen (cK L)) : cTV L = chV 0 0 0 0 ∧ cTE L = 10 := by
  have ho : cOK L = false := by unfold cOK; rw [decide_eq_false (by omega : ¬ L.length = cLen (cK L))]; simp
  unfold cTV cTE
  rw [ho, if_neg h, if_pos hk, if_pos hl]
  exact ⟨rfl, rfl⟩
theorem cT_more {L : List UInt8} (h : L ≠ []) (hk : cKind L = true) (hl : cLen (cK L) < L.length) : cTV L = chV 0 0 0 0 ∧ cTE L = 4 := by
  have ho : cOK L = false := by unfold cOK; rw [decide_eq_false (by omega : ¬ L.length = cLen (cK L))]; simp
  unfold cTV cTE
  rw [ho, if_neg h, if_pos hk, if_neg (show ¬ L.length < cLen (cK L) by omega)]
  exact ⟨rfl, rfl⟩
theorem cT_bad {L : List UInt8} (h : L ≠ []) (hk : cKind L = true) (hl : L.length = cLen (cK L)) (hm : mayC (cK L) (cN L) (cO L) (cY L) = false) : cTV L = chV 0 0 0 0 ∧ cTE L = 4 := by
  have ho : cOK L = false := by unfold cOK; rw [hm]; simp
  unfold cTV cTE
  rw [ho, if_neg h, if_pos hk, if_neg (show ¬ L.length < cLen (cK L) by omega)]
  exact ⟨rfl, rfl⟩
theorem cT_good {L : List UInt8} (h : L ≠ []) (hk : cKind L = true) (hl : L.length = cLen (cK L)) (hm : mayC (cK L) (cN L) (cO L) (cY L) = true) : cTV L = chV (cK L) (cN L) (cO L) (cY L) ∧ cTE L = 0 := by
  have ho : cOK L = true := by
    unfold cOK
    rw [hm, hk, decide_eq_true hl]
    cases L with
    | nil => exact absurd rfl h
    | cons a t => rfl
  unfold cTV cTE
  rw [ho, if_neg h, if_pos hk, if_neg (show ¬ L.length < cLen (cK L) by omega)]
  exact ⟨rfl, rfl⟩
theorem whole_drop (L : List UInt8) (n : Nat) (h : n ≤ L.length) : wholeE (L.drop n) 0 = if L.length = n then 0 else 4 := by
  unfold wholeE
  rw [if_pos rfl]
  by_cases hn : L.length = n
  · rw [if_pos hn, if_pos (List.drop_of_length_le (by omega))]
  · rw [if_neg hn, if_neg (fun h => by have := congrArg List.length h; rw [List.length_drop] at this; simp at this; omega)]
theorem whole_ten (L : List UInt8) : wholeE L 10 = 10 := by unfold wholeE; rw [if_neg (by decide)]
theorem kinds_of {L : List UInt8} (h : cKind L = true) : cK L = 1 ∨ cK L = 2 ∨ cK L = 3 ∨ cK L = 4 := by
  unfold cKind at h
  rw [decide_eq_true_eq] at h
  omega

theorem ctake_any (L : List UInt8) (w : World) (hl : L.length ≤ 10000) : Calls Try.prog 43 #[.string (strL L)] w (CTakeP L w) := by
  unfold CTakeP
  by_cases hL : L = []
  · subst hL
    exact ctake_none w
  have h1 : 1 ≤ L.length := by
    cases L with
    | nil => exact absurd rfl hL
    | cons a t => simp
  obtain ⟨a1, a2, a3⟩ := fix_go L 1 (by omega) h1
  have hk : beN (fixO L 0 (1 : Nat)) = cK L := by rw [a1]; rfl
  cases hkd : cKind L with
  | false =>
    rw [(cT_kind hL hkd).1, (cT_kind hL hkd).2]
    have hn : cK L ≠ 1 ∧ cK L ≠ 2 ∧ cK L ≠ 3 ∧ cK L ≠ 4 := by
      unfold cKind at hkd
      rw [decide_eq_false_iff_not] at hkd
      omega
    exact ctake_kind L (L.drop 1) (cK L) 0 w hL hl hk a2 a3 hn
  | true =>
    by_cases h3 : cK L = 3
    · have hlen : cLen (cK L) = 10 := by rw [h3]; rfl
      by_cases hs : L.length < 10
      · rw [(cT_less hL hkd (by omega)).1, (cT_less hL hkd (by omega)).2]
        by_cases h2 : 2 ≤ L.length
        · obtain ⟨b1, b2, b3⟩ := fix_go (L.drop 1) 1 (by omega) (by rw [List.length_drop]; omega)
          rw [List.drop_drop] at b2
          have c3 := fix_less (L.drop (1 + 1)) 8 (by omega) (by rw [List.length_drop]; omega)
          exact ctake_mark_torn L _ _ _ (cK L) _ _ 0 0 10 10 w hL hl hk a2 a3 h3 b2 b3 rfl rfl c3 rfl (whole_ten _) (by decide)
        · have b3 := fix_less (L.drop 1) 1 (by omega) (by rw [List.length_drop]; omega)
          exact ctake_mark_torn L _ _ _ (cK L) _ _ 0 10 10 10 w hL hl hk a2 a3 h3 rfl b3 rfl rfl (fix_torn _ _) rfl (whole_ten _) (by decide)
      · obtain ⟨b1, b2, b3⟩ := fix_go (L.drop 1) 1 (by omega) (by rw [List.length_drop]; omega)
        rw [List.drop_drop] at b2
        obtain ⟨c1, c2, c3⟩ := fix_go (L.drop (1 + 1)) 8 (by omega) (by rw [List.length_drop]; omega)
        rw [List.drop_drop] at c2
        have hO : beN (fixO (L.drop 1) 0 (1 : Nat)) = cO L := by rw [b1]; unfold cO; rw [if_pos h3]
        have hY : beN (fixO (L.drop (1 + 1)) 0 (8 : Nat)) = cY L := by rw [c1]; unfold cY; rw [if_pos h3]
        have hN : cN L = 0 := by unfold cN; rw [if_pos h3]
        have hw := whole_drop L (1 + 1 + 8) (by omega)
        by_cases he : L.length = 10
        · rw [if_pos (by omega)] at hw
          cases hm : mayC (cK L) (cN L) (cO L) (cY L) with
          | false =>
            rw [(cT_bad hL hkd (by omega) hm).1, (cT_bad hL hkd (by omega) hm).2]
            rw [hN] at hm
            exact ctake_mark_bad L _ _ _ (cK L) _ _ 0 0 0 4 w hL hl hk a2 a3 h3 b2 b3 hO c2 c3 hY hw hm rfl
          | true =>
            rw [(cT_good hL hkd (by omega) hm).1, (cT_good hL hkd (by omega) hm).2, hN]
            rw [hN] at hm
            exact ctake_mark_good L _ _ _ (cK L) _ _ 0 0 0 0 w hL hl hk a2 a3 h3 b2 b3 hO c2 c3 hY hw hm rfl
        · rw [if_neg (by omega)] at hw
          rw [(cT_more hL hkd (by omega)).1, (cT_more hL hkd (by omega)).2]
          exact ctake_mark_torn L _ _ _ (cK L) _ _ 0 0 0 4 w hL hl hk a2 a3 h3 b2 b3 hO c2 c3 hY hw (by decide)
    · have hO : cO L = 0 := by unfold cO; rw [if_neg h3]
      have hY : cY L = 0 := by unfold cY; rw [if_neg h3]
      by_cases h4 : cK L = 4
      · have hlen : cLen (cK L) = 9 := by rw [h4]; rfl
        by_cases hs : L.length < 9
        · rw [(cT_less hL hkd (by omega)).1, (cT_less hL hkd (by omega)).2]
          have b3 := fix_less (L.drop 1) 8 (by omega) (by rw [List.length_drop]; omega)
          exact ctake_stamp_torn L _ _ (cK L) _ 0 10 10 w hL hl hk a2 a3 h4 rfl b3 rfl (whole_ten _) (by decide)
        · obtain ⟨b1, b2, b3⟩ := fix_go (L.drop 1) 8 (by omega) (by rw [List.length_drop]; omega)
          rw [List.drop_drop] at b2
          have hN : beN (fixO (L.drop 1) 0 (8 : Nat)) = cN L := by rw [b1]; unfold cN; rw [if_neg h3, if_pos h4]
          have hw := whole_drop L (1 + 8) (by omega)
          by_cases he : L.length = 9
          · rw [if_pos (by omega)] at hw
            cases hm : mayC (cK L) (cN L) (cO L) (cY L) with
            | false =>
              rw [(cT_bad hL hkd (by omega) hm).1, (cT_bad hL hkd (by omega) hm).2]
              rw [hO, hY] at hm
              exact ctake_stamp_bad L _ _ (cK L) _ 0 0 4 w hL hl hk a2 a3 h4 b2 b3 hN hw hm rfl
            | true =>
              rw [(cT_good hL hkd (by omega) hm).1, (cT_good hL hkd (by omega) hm).2, hO, hY]
              rw [hO, hY] at hm
              exact ctake_stamp_good L _ _ (cK L) _ 0 0 0 w hL hl hk a2 a3 h4 b2 b3 hN hw hm rfl
          · rw [if_neg (by omega)] at hw
            rw [(cT_more hL hkd (by omega)).1, (cT_more hL hkd (by omega)).2]
            exact ctake_stamp_torn L _ _ (cK L) _ 0 0 4 w hL hl hk a2 a3 h4 b2 b3 hN hw (by decide)
      · have h12 : cK L = 1 ∨ cK L = 2 := by have := kinds_of hkd; omega
        have hlen : cLen (cK L) = 5 := by unfold cLen; rw [if_neg h3, if_neg h4]
        by_cases hs : L.length < 5
        · rw [(cT_less hL hkd (by omega)).1, (cT_less hL hkd (by omega)).2]
          have b3 := fix_less (L.drop 1) 4 (by omega) (by rw [List.length_drop]; omega)
          exact ctake_size_torn L _ _ (cK L) _ 0 10 10 w hL hl hk a2 a3 h12 rfl b3 rfl (whole_ten _) (by decide)
        · obtain ⟨b1, b2, b3⟩ := fix_go (L.drop 1) 4 (by omega) (by rw [List.length_drop]; omega)
          rw [List.drop_drop] at b2
          have hN : beN (fixO (L.drop 1) 0 (4 : Nat)) = cN L := by rw [b1]; unfold cN; rw [if_neg h3, if_neg h4]
          have hw := whole_drop L (1 + 4) (by omega)
          by_cases he : L.length = 5
          · rw [if_pos (by omega)] at hw
            cases hm : mayC (cK L) (cN L) (cO L) (cY L) with
            | false =>
              rw [(cT_bad hL hkd (by omega) hm).1, (cT_bad hL hkd (by omega) hm).2]
              rw [hO, hY] at hm
              exact ctake_size_bad L _ _ (cK L) _ 0 0 4 w hL hl hk a2 a3 h12 b2 b3 hN hw hm rfl
            | true =>
              rw [(cT_good hL hkd (by omega) hm).1, (cT_good hL hkd (by omega) hm).2, hO, hY]
              rw [hO, hY] at hm
              exact ctake_size_good L _ _ (cK L) _ 0 0 0 w hL hl hk a2 a3 h12 b2 b3 hN hw hm rfl
          · rw [if_neg (by omega)] at hw
            rw [(cT_more hL hkd (by omega)).1, (cT_more hL hkd (by omega)).2]
            exact ctake_size_torn L _ _ (cK L) _ 0 0 4 w hL hl hk a2 a3 h12 b2 b3 hN hw (by decide)

theorem rctake_any (L : List UInt8) (w : World) (hl : L.length ≤ 10000) : Calls Try.prog 44 #[.string (strL L)] w (CTakeP L w) := by
  unfold CTakeP
  by_cases hL : L = []
  · subst hL
    exact rctake_none w
  obtain ⟨y, hy, hyk⟩ := ck_get hL
  cases hkd : cKind L with
  | false =>
    rw [(cT_kind hL hkd).1, (cT_kind hL hkd).2]
    have hn : y.toNat = 0 ∨ 4 < y.toNat := by
      unfold cKind at hkd
      rw [decide_eq_false_iff_not] at hkd
      omega
    exact rctake_kind L y w hy hl hn
  | true =>
    have HO : cK L ≠ 3 → cO L = 0 ∧ cY L = 0 := fun h => by unfold cO cY; rw [if_neg h, if_neg h]; exact ⟨rfl, rfl⟩
    rcases kinds_of hkd with h | h | h | h
    · obtain ⟨ho, hyy⟩ := HO (by omega)
      have hlen : cLen (cK L) = 5 := by rw [h]; rfl
      rcases Nat.lt_trichotomy L.length 5 with hs | hs | hs
      · rw [(cT_less hL hkd (by omega)).1, (cT_less hL hkd (by omega)).2]
        exact rctake_less1 L y w hy hl (by omega) hs
      · have hN : beN ((L.drop 1).take (5 - 1)) = cN L := by unfold cN; rw [if_neg (by omega), if_neg (by omega)]
        cases hm : mayC (cK L) (cN L) (cO L) (cY L) with
        | false =>
          rw [(cT_bad hL hkd (by omega) hm).1, (cT_bad hL hkd (by omega) hm).2]
          rw [h, ho, hyy] at hm
          exact rctake_bad1 L y w hy hl (by omega) hs _ hN hm
        | true =>
          rw [(cT_good hL hkd (by omega) hm).1, (cT_good hL hkd (by omega) hm).2]
          rw [h, ho, hyy] at hm ⊢
          exact rctake_good1 L y w hy hl (by omega) hs _ hN hm
      · rw [(cT_more hL hkd (by omega)).1, (cT_more hL hkd (by omega)).2]
        exact rctake_more1 L y w hy hl (by omega) hs
    · obtain ⟨ho, hyy⟩ := HO (by omega)
      have hlen : cLen (cK L) = 5 := by rw [h]; rfl
      rcases Nat.lt_trichotomy L.length 5 with hs | hs | hs
      · rw [(cT_less hL hkd (by omega)).1, (cT_less hL hkd (by omega)).2]
        exact rctake_less2 L y w hy hl (by omega) hs
      · have hN : beN ((L.drop 1).take (5 - 1)) = cN L := by unfold cN; rw [if_neg (by omega), if_neg (by omega)]
        cases hm : mayC (cK L) (cN L) (cO L) (cY L) with
        | false =>
          rw [(cT_bad hL hkd (by omega) hm).1, (cT_bad hL hkd (by omega) hm).2]
          rw [h, ho, hyy] at hm
          exact rctake_bad2 L y w hy hl (by omega) hs _ hN hm
        | true =>
          rw [(cT_good hL hkd (by omega) hm).1, (cT_good hL hkd (by omega) hm).2]
          rw [h, ho, hyy] at hm ⊢
          exact rctake_good2 L y w hy hl (by omega) hs _ hN hm
      · rw [(cT_more hL hkd (by omega)).1, (cT_more hL hkd (by omega)).2]
        exact rctake_more2 L y w hy hl (by omega) hs
    · have hlen : cLen (cK L) = 10 := by rw [h]; rfl
      rcases Nat.lt_trichotomy L.length 10 with hs | hs | hs
      · rw [(cT_less hL hkd (by omega)).1, (cT_less hL hkd (by omega)).2]
        exact rctake_less3 L y w hy hl (by omega) hs
      · obtain ⟨z, hz⟩ : ∃ z, L[1]? = some z := ⟨_, List.getElem?_eq_getElem (by omega)⟩
        have hn : cN L = 0 := by unfold cN; rw [if_pos h]
        have hO : cO L = z.toNat := by
          unfold cO
          rw [if_pos h, show L.drop 1 = z :: L.drop 2 from by
            obtain ⟨hlt, rfl⟩ := List.getElem?_eq_some_iff.1 hz
            rw [List.drop_eq_getElem_cons hlt]]
          simp [beN]
        have hY : beN ((L.drop 2).take 8) = cY L := by unfold cY; rw [if_pos h]
        cases hm : mayC (cK L) (cN L) (cO L) (cY L) with
        | false =>
          rw [(cT_bad hL hkd (by omega) hm).1, (cT_bad hL hkd (by omega) hm).2]
          rw [h, hn, hO] at hm
          exact rctake_bad3 L y w hy hl (by omega) hs z _ hz hY hm
        | true =>
          rw [(cT_good hL hkd (by omega) hm).1, (cT_good hL hkd (by omega) hm).2]
          rw [h, hn, hO] at hm ⊢
          exact rctake_good3 L y w hy hl (by omega) hs z _ hz hY hm
      · rw [(cT_more hL hkd (by omega)).1, (cT_more hL hkd (by omega)).2]
        exact rctake_more3 L y w hy hl (by omega) hs
    · obtain ⟨ho, hyy⟩ := HO (by omega)
      have hlen : cLen (cK L) = 9 := by rw [h]; rfl
      rcases Nat.lt_trichotomy L.length 9 with hs | hs | hs
      · rw [(cT_less hL hkd (by omega)).1, (cT_less hL hkd (by omega)).2]
        exact rctake_less4 L y w hy hl (by omega) hs
      · have hN : beN ((L.drop 1).take (9 - 1)) = cN L := by unfold cN; rw [if_neg (by omega), if_pos h]
        cases hm : mayC (cK L) (cN L) (cO L) (cY L) with
        | false =>
          rw [(cT_bad hL hkd (by omega) hm).1, (cT_bad hL hkd (by omega) hm).2]
          rw [h, ho, hyy] at hm
          exact rctake_bad4 L y w hy hl (by omega) hs _ hN hm
        | true =>
          rw [(cT_good hL hkd (by omega) hm).1, (cT_good hL hkd (by omega) hm).2]
          rw [h, ho, hyy] at hm ⊢
          exact rctake_good4 L y w hy hl (by omega) hs _ hN hm
      · rw [(cT_more hL hkd (by omega)).1, (cT_more hL hkd (by omega)).2]
        exact rctake_more4 L y w hy hl (by omega) hs
end Go.Proofs.Ytniblmpihnhglaa
