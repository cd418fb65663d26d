/- KeyRanges' plain statement. -/
import Derived.Test.YthafpbidfgmacaaDoorN12k
import Derived.Test.YthafpbidfgmacaaDoorQRangesF
namespace Go.Proofs.YthafpbidfgmacaaDoor.Q
open Go.RowKit Go.Proofs.YthafpbidfgmacaaDoorW.PrintWords Go.Proofs.YthafpbidfgmacaaDoorW.PrintLast Go.Proofs.YthafpbidfgmacaaDoorW.PrintMore
set_option linter.unusedVariables false

theorem pre_anti {a b : List ByteArray} (h1 : a <+: b) (h2 : b <+: a) : a = b := h1.eq_of_length_le h2.length_le
theorem d100 (l : List ByteArray) : (⟨#[100]⟩ ++ joinB l ⟨#[0]⟩ : ByteArray).data.toList = 100 :: jl l := by
  rw [app_data, jl_data]
  rfl
theorem plus (x : ByteArray) (c : UInt8) : (x ++ ⟨#[c]⟩ : ByteArray).data.toList = x.data.toList ++ [c] := by rw [app_data]
theorem ranges (a b : List ByteArray) (ra : rightB a = true) (rb : rightB b = true) (j : Int) (j0 : 0 ≤ j) (j1 : j < 32) :
    ∃ m0 m1 d0 d1 B0 B1 C0 C1, (∀ k, 1000 ≤ k → key_Subtree.f k a = some (m0, m1, d0, d1)) ∧ (∀ k, 1000 ≤ k → key_Below.f k a = some (B0, B1)) ∧ (∀ k, 1000 ≤ k → key_Blocks.f k a = some (C0, C1)) ∧
      rillbedlaw06_in.f (metaB b) m0 m1 = some (decide (a <+: b)) ∧ rillbedlaw06_in.f (metaB b) B0 B1 = some (decide (a <+: b) && !decide (b <+: a)) ∧
      (b ≠ [] → rillbedlaw06_in.f (blockB b j) d0 d1 = some (decide (a <+: b)) ∧ rillbedlaw06_in.f (blockB b j) m0 m1 = some false ∧ rillbedlaw06_in.f (metaB b) d0 d1 = some false ∧
        rillbedlaw06_in.f (blockB b j) C0 C1 = some (decide (a <+: b) && decide (b <+: a))) := by
  obtain ⟨g1, g2⟩ := right_size 0 a ra
  have hmb := metaB_data b
  have hbb := blockB_data b j j0 j1
  have hC : ∀ k, 1000 ≤ k → key_Blocks.f k a = some (((⟨#[100]⟩ ++ joinB a ⟨#[0]⟩) ++ ⟨#[0]⟩) ++ ⟨#[0]⟩, ((⟨#[100]⟩ ++ joinB a ⟨#[0]⟩) ++ ⟨#[0]⟩) ++ ⟨#[1]⟩) := fun k hk => blocks_is a (by omega) (by omega) k (by omega) ra
  have c0 : (((⟨#[100]⟩ ++ joinB a ⟨#[0]⟩) ++ ⟨#[0]⟩) ++ ⟨#[0]⟩ : ByteArray).data.toList = 100 :: ((jl a ++ [0]) ++ [0]) := by rw [plus, plus, d100]; rfl
  have c1 : (((⟨#[100]⟩ ++ joinB a ⟨#[0]⟩) ++ ⟨#[0]⟩) ++ ⟨#[1]⟩ : ByteArray).data.toList = 100 :: ((jl a ++ [0]) ++ [1]) := by rw [plus, plus, d100]; rfl
  have F6 : b ≠ [] → rillbedlaw06_in.f (blockB b j) (((⟨#[100]⟩ ++ joinB a ⟨#[0]⟩) ++ ⟨#[0]⟩) ++ ⟨#[0]⟩) (((⟨#[100]⟩ ++ joinB a ⟨#[0]⟩) ++ ⟨#[0]⟩) ++ ⟨#[1]⟩) = some (decide (a <+: b) && decide (b <+: a)) := by
    intro hb
    by_cases e : a = b
    · rw [decide_eq_true (by rw [e]; exact List.prefix_refl b : a <+: b), decide_eq_true (by rw [e]; exact List.prefix_refl b : b <+: a)]
      exact low_yes hbb c0 c1 [0, UInt8.ofNat j.toNat] (by rw [e]; simp)
    · rw [show (decide (a <+: b) && decide (b <+: a)) = false by
        rw [Bool.and_eq_false_iff]
        by_cases h : a <+: b
        · exact .inr (decide_eq_false (fun h2 => e (pre_anti h h2)))
        · exact .inl (decide_eq_false h)]
      exact low_no hbb c0 c1 (fun r h => e (blk_same ra rb hb _ r h))
  by_cases ha : a = []
  · subst ha
    refine ⟨⟨#[109]⟩, ⟨#[110]⟩, ⟨#[100]⟩, ⟨#[101]⟩, ⟨#[109]⟩ ++ ⟨#[0]⟩, ⟨#[110]⟩, _, _, fun k hk => subtree_nil k (by omega), fun k hk => (below_is [] (by simp) (by omega) k (by simpa using (by omega : 0 < k)) ra).trans (by rw [if_pos (show ((([] : List ByteArray).length : Nat) : Int) = 0 from rfl)]), hC, ?_, ?_, fun hb => ⟨?_, ?_, ?_, F6 hb⟩⟩
    · rw [decide_eq_true (List.nil_prefix : [] <+: b)]
      exact in_first 110 hmb rfl rfl (by decide)
    · have h0 : (⟨#[109]⟩ ++ ⟨#[0]⟩ : ByteArray).data.toList = [109, 0] := by rw [plus]; rfl
      have h1 : (⟨#[110]⟩ : ByteArray).data.toList = [110] := rfl
      rw [decide_eq_true (List.nil_prefix : [] <+: b), Bool.true_and, in_is, tl, tl, tl, hmb, h0, h1, less_same, less_cons, decide_eq_true (show (109 : UInt8) < 110 by decide), Bool.true_or, Bool.and_true]
      cases hj : jl b with
      | nil =>
        have : b = [] := by
          by_cases hb : b = []
          · exact hb
          · exact absurd hj (jl_ne b hb rb)
        rw [this]
        rfl
      | cons c t =>
        have hb : b ≠ [] := by
          rintro rfl
          exact absurd hj (by show ¬ ([] = c :: t); simp)
        have hc : c ≠ 0 := by
          rintro rfl
          exact head_ne b hb rb t hj
        have hlt : ¬ c < 0 := by
          intro h
          have : c.toNat < 0 := h
          omega
        rw [less_cons, decide_eq_false hlt, beq_eq_false_iff_ne.2 hc, decide_eq_false (fun h => hb (List.prefix_nil.1 h))]
        rfl
    · rw [decide_eq_true (List.nil_prefix : [] <+: b)]
      exact in_first 101 hbb rfl rfl (by decide)
    · exact in_less 109 [] hbb rfl (by decide)
    · exact in_more 101 [] hmb rfl (by decide) (by decide)
  · have ha0 : ¬ (a.length : Int) = 0 := fun e => ha (List.eq_nil_of_length_eq_zero (by omega))
    have m0 : (⟨#[109]⟩ ++ joinB a ⟨#[0]⟩ : ByteArray).data.toList = 109 :: jl a := metaB_data a
    have m1 : ((⟨#[109]⟩ ++ joinB a ⟨#[0]⟩) ++ ⟨#[1]⟩ : ByteArray).data.toList = 109 :: (jl a ++ [1]) := by rw [plus, m0]; rfl
    have d0 := d100 a
    have d1 : ((⟨#[100]⟩ ++ joinB a ⟨#[0]⟩) ++ ⟨#[1]⟩ : ByteArray).data.toList = 100 :: (jl a ++ [1]) := by rw [plus, d0]; rfl
    have b0 : (metaB a ++ ⟨#[0]⟩ : ByteArray).data.toList = 109 :: (jl a ++ [0]) := by rw [plus, metaB_data]; rfl
    have b1 : (metaB a ++ ⟨#[1]⟩ : ByteArray).data.toList = 109 :: (jl a ++ [1]) := by rw [plus, metaB_data]; rfl
    refine ⟨_, _, _, _, metaB a ++ ⟨#[0]⟩, metaB a ++ ⟨#[1]⟩, _, _, fun k hk => subtree_r a (by omega) (by omega) k (by omega) ha0 ra, fun k hk => (below_is a (by omega) (by omega) k (by omega) ra).trans (by rw [if_neg ha0]), hC, ?_, ?_, fun hb => ⟨?_, ?_, ?_, F6 hb⟩⟩
    · by_cases p : a <+: b
      · rw [decide_eq_true p]
        obtain ⟨t, rfl⟩ := p
        obtain ⟨s, e, hs⟩ := jl_pre a ha t
        exact in_yes hmb m0 m1 s hs e
      · rw [decide_eq_false p]
        exact in_no hmb m0 m1 (fun s e hs => p (pre_of_jl a b ha ra rb s e hs))
    · by_cases p : a <+: b
      · rw [decide_eq_true p, Bool.true_and]
        by_cases q : b <+: a
        · rw [decide_eq_true q]
          have e := pre_anti p q
          refine low_no hmb b0 b1 (fun r h => ?_)
          rw [← e] at h
          have := congrArg List.length h
          rw [List.length_append, List.length_cons] at this
          omega
        · rw [decide_eq_false q]
          obtain ⟨t, ht⟩ := p
          obtain ⟨s, e, hs⟩ := jl_pre a ha t
          rw [ht] at e
          rcases hs with rfl | ⟨r, rfl⟩
          · rw [List.append_nil] at e
            exact absurd (by rw [jl_inj a b ra rb e]; exact List.prefix_refl b) q
          · exact low_yes hmb b0 b1 r e
      · rw [decide_eq_false p, Bool.false_and]
        exact low_no hmb b0 b1 (fun r h => p (pre_of_jl a b ha ra rb _ h (.inr ⟨r, rfl⟩)))
    · by_cases p : a <+: b
      · rw [decide_eq_true p]
        obtain ⟨t, rfl⟩ := p
        obtain ⟨s, e, hs⟩ := jl_pre a ha t
        refine in_yes hbb d0 d1 (s ++ [0, 0, 0, UInt8.ofNat j.toNat]) ?_ (by rw [e, List.append_assoc])
        rcases hs with rfl | ⟨r, rfl⟩
        · exact .inr ⟨_, rfl⟩
        · exact .inr ⟨_, rfl⟩
      · rw [decide_eq_false p]
        exact in_no hbb d0 d1 (fun s e hs => p (blk_pre ra rb ha hb _ s e hs))
    · exact in_less 109 _ hbb m0 (by decide)
    · exact in_more 100 _ hmb d1 (by decide) (by decide)
theorem less_head (c : UInt8) (p s t : List UInt8) : Op.bytesLess (c :: (p ++ s)) (c :: (p ++ t)) = Op.bytesLess s t := less_app (c :: p) s t
theorem blocks_order (a : List ByteArray) (i k : Int) (i0 : 0 ≤ i) (i1 : i < 32) (k0 : 0 ≤ k) (k1 : k < 32) : Op.bytesLess (blockB a i).toList (blockB a k).toList = decide (i < k) := by
  rw [tl, tl, blockB_data a i i0 i1, blockB_data a k k0 k1, less_head, less_same, less_same, less_same, less_cons, less_nil, Bool.and_false, Bool.or_false]
  refine decide_eq_decide.2 ?_
  show (UInt8.ofNat i.toNat).toNat < (UInt8.ofNat k.toNat).toNat ↔ _
  rw [UInt8.toNat_ofNat', UInt8.toNat_ofNat']
  omega
theorem works_r (k : Nat) (hk : 12 ≤ k) : rillbedlaw06_works.f k = some true := at_rounds (g := fun k => rillbedlaw06_works.f k) (fun k => rillbedlaw06_works.mono k) hk works_ok
theorem keyRanges_plain (a b : List ByteArray) (ha : a.length ≤ 9223372036854775807) (hb : b.length ≤ 9223372036854775807) (n0 n1 : Int) (h0 : 0 ≤ n0) (h0' : n0 < 256) (h1 : 0 ≤ n1) (h1' : n1 < 256) :
    ∃ k, rillbedlaw06_KeyRanges.f k a b n0 n1 = some true := by
  obtain ⟨k, hk⟩ : ∃ k : Nat, k = 5000 := ⟨_, rfl⟩
  refine ⟨k + 3, ?_⟩
  obtain ⟨b0, hb0, hf0⟩ := few_is a ha (k + 3) (by omega)
  obtain ⟨b1, hb1, hf1⟩ := few_is b hb (k + 3) (by omega)
  have hT : rillbedlaw06_KeyRanges.j0 (k + 3) a b true n0 n1 = some true := by
    rw [rillbedlaw06_KeyRanges.j0, if_pos rfl, works_r _ (by omega)]
    rfl
  unfold rillbedlaw06_KeyRanges.f
  rw [hb0, Option.bind_some]
  cases b0 with
  | false => rw [if_neg (by decide), hT]
  | true =>
  rw [if_pos rfl, hb1, Option.bind_some]
  cases b1 with
  | false => rw [if_neg (by decide), hT]
  | true =>
  obtain ⟨g0, x0⟩ := hf0 rfl
  obtain ⟨g1, x1⟩ := hf1 rfl
  have z0 := join_size a g0 x0
  have z1 := join_size b g1 x1
  have m0 := fun k (hk : 1000 ≤ k) => meta_r a (by omega) (by omega) k (by omega)
  have m1 := fun k (hk : 1000 ≤ k) => meta_r b (by omega) (by omega) k (by omega)
  have hE : (⟨#[]⟩ : ByteArray).toList = [] := by rw [tl]
  rw [if_pos rfl]
  cases ra : rightB a with
  | false => rw [show key_Meta.f (k + 3) a = some ⟨#[]⟩ from by rw [m0 _ (by omega), ra]; rfl, Option.bind_some, if_pos hE, hT]
  | true =>
  have w0 : ∀ k, 1000 ≤ k → key_Meta.f k a = some (metaB a) := fun k hk => (m0 k hk).trans (by rw [if_pos ra]; rfl)
  rw [w0 _ (by omega), Option.bind_some, if_neg (metaB_ne a)]
  cases rb : rightB b with
  | false => rw [show key_Meta.f (k + 3) b = some ⟨#[]⟩ from by rw [m1 _ (by omega), rb]; rfl, Option.bind_some, show ((⟨#[]⟩ : ByteArray).toList == ([] : List UInt8)) = true from by rw [hE]; rfl, hT]
  | true =>
  have w1 : ∀ k, 1000 ≤ k → key_Meta.f k b = some (metaB b) := fun k hk => (m1 k hk).trans (by rw [if_pos rb]; rfl)
  rw [w1 _ (by omega), Option.bind_some, show ((metaB b).toList == ([] : List UInt8)) = false from beq_eq_false_iff_ne.2 (metaB_ne b), rillbedlaw06_KeyRanges.j0, if_neg (by decide)]
  have ti := Int.tmod_nonneg 32 h0
  have ti' := Int.tmod_lt_of_pos n0 (show (0 : Int) < 32 by decide)
  have tk := Int.tmod_nonneg 32 h1
  have tk' := Int.tmod_lt_of_pos n1 (show (0 : Int) < 32 by decide)
  rw [wrap_small (i := Int.tmod n0 32) (by omega) (by omega), wrap_small (i := Int.tmod n1 32) (by omega) (by omega)]
  generalize Int.tmod n0 32 = i at ti ti'
  generalize Int.tmod n1 32 = j at tk tk'
  obtain ⟨M0, M1, D0, D1, B0, B1, C0, C1, hS, hB, hC, F1, F2, F⟩ := ranges a b ra rb j tk tk'
  rw [hS _ (by omega), Option.bind_some, begins_is b a (by omega) _ (by omega), Option.bind_some, Option.bind_some, begins_is a b (by omega) _ (by omega), Option.bind_some]
  dsimp only
  have hbk := fun k (hk : 1000 ≤ k) => block_r b (by omega) (by omega) k (by omega) rb j tk tk'
  have hak := fun k (hk : 1000 ≤ k) => block_r a (by omega) (by omega) k (by omega) ra i ti ti'
  have hw : (rillbedlaw06_works.f k).bind (fun t => some t) = some true := by rw [works_r k (by omega)]; rfl
  have hmeta : ((metaB a).toList == (metaB b).toList) = (decide (a <+: b) && decide (b <+: a)) := by
    by_cases e : a = b
    · rw [decide_eq_true (by rw [e]; exact List.prefix_refl b : a <+: b), decide_eq_true (by rw [e]; exact List.prefix_refl b : b <+: a), e]
      simp
    · rw [show (decide (a <+: b) && decide (b <+: a)) = false by
        rw [Bool.and_eq_false_iff]
        by_cases h : a <+: b
        · exact .inr (decide_eq_false (fun h2 => e (pre_anti h h2)))
        · exact .inl (decide_eq_false h)]
      refine beq_eq_false_iff_ne.2 (fun h => e ?_)
      rw [tl, tl, metaB_data, metaB_data] at h
      exact jl_inj a b ra rb (List.cons.inj h).2.symm
  -- the last join
  have hJ2 : ∀ (q : Bool), q = (decide (a <+: b) && decide (b <+: a)) → rillbedlaw06_KeyRanges.j2 (k + 1) a b i j (decide (a <+: b)) q (if (a.length : Int) = 0 then ⟨#[]⟩ else blockB a i) (if (b.length : Int) = 0 then ⟨#[]⟩ else blockB b j) false M0 M1 D0 D1 = some true := by
    intro q hq
    rw [rillbedlaw06_KeyRanges.j2, if_neg (by decide)]
    by_cases nb : (b.length : Int) = 0
    · rw [if_pos nb, if_pos nb, if_pos hE, hw]
    · have hbn : b ≠ [] := fun e => nb (by rw [e]; rfl)
      obtain ⟨F3, F4, F5, F6⟩ := F hbn
      rw [if_neg nb, if_neg nb, F3, Option.bind_some, bne_self_eq_false, if_neg (by decide), F4, Option.bind_some, if_neg (by decide), w1 _ (by omega), Option.bind_some, F5, Option.bind_some, if_neg (by decide), slash b rb, Option.bind_some, takes_d b hbn rb j tk tk' _ (by omega), Option.bind_some, if_pos rfl, hC _ (by omega), Option.bind_some]
      dsimp only
      rw [F6, Option.bind_some, hq, bne_self_eq_false, if_neg (by decide)]
      by_cases na : (a.length : Int) = 0
      · rw [if_pos na, hw]
      · rw [if_neg na, if_neg na]
        by_cases e : a = b
        · rw [decide_eq_true (by rw [e]; exact List.prefix_refl b : a <+: b), decide_eq_true (by rw [e]; exact List.prefix_refl b : b <+: a), Bool.and_true, if_pos rfl, ← e, blocks_order a i j ti ti' tk tk', beq_self_eq_true, if_pos rfl, hw]
        · rw [show (decide (a <+: b) && decide (b <+: a)) = false by
            rw [Bool.and_eq_false_iff]
            by_cases h : a <+: b
            · exact .inr (decide_eq_false (fun h2 => e (pre_anti h h2)))
            · exact .inl (decide_eq_false h)]
          rw [if_neg (by decide), if_neg, hw]
          intro h
          rw [tl, tl, blockB_data a i ti ti', blockB_data b j tk tk'] at h
          have h' := (List.cons.inj h).2
          have hl : (jl a).length = (jl b).length := by
            have := congrArg List.length h'
            simp only [List.length_append, List.length_cons, List.length_nil] at this
            omega
          exact e (jl_inj a b ra rb (List.append_inj h' hl).1.symm)
  have hJ1 : ∀ (q : Bool), q = (decide (a <+: b) && decide (b <+: a)) → rillbedlaw06_KeyRanges.j1 (k + 2) a b i j (decide (a <+: b)) q M0 M1 D0 D1 = some true := by
    intro q hq
    rw [rillbedlaw06_KeyRanges.j1, hak _ (by omega), Option.bind_some, hbk _ (by omega), Option.bind_some, w1 _ (by omega), Option.bind_some, F1, Option.bind_some, bne_self_eq_false, if_neg (by decide), Option.bind_some, hB _ (by omega), Option.bind_some]
    dsimp only
    rw [F2, Option.bind_some]
    have hj := hJ2 q hq
    by_cases p : a <+: b
    · rw [decide_eq_true p] at hq hj ⊢
      rw [if_pos rfl]
      rw [Bool.true_and] at hq ⊢
      rw [← hq, bne_self_eq_false, if_neg (by decide), w0 _ (by omega), Option.bind_some, Option.bind_some, hmeta, decide_eq_true p, Bool.true_and, ← hq, bne_self_eq_false, if_neg (by decide), Option.bind_some, slash b rb, Option.bind_some, takes_m b rb _ (by omega), Option.bind_some, if_pos rfl]
      cases q with
      | true => rw [if_pos rfl]; exact hj
      | false =>
        rw [if_neg (by decide), Option.bind_some, Option.bind_some]
        have hl : Op.bytesLess (metaB b).toList (metaB a).toList = false := by
          obtain ⟨t, rfl⟩ := p
          rw [tl, tl, metaB_data, metaB_data, less_same]
          by_cases han : a = []
          · subst han
            exact less_nil _
          · obtain ⟨s, e, _⟩ := jl_pre a han t
            rw [e, less_pre]
        rw [hl]
        exact hj
    · rw [decide_eq_false p] at hq hj ⊢
      rw [Bool.false_and] at hq
      subst hq
      rw [if_neg (by decide), Bool.false_and, bne_self_eq_false, if_neg (by decide), w0 _ (by omega), Option.bind_some, Option.bind_some, hmeta, decide_eq_false p, Bool.false_and, bne_self_eq_false, if_neg (by decide), Option.bind_some, slash b rb, Option.bind_some, takes_m b rb _ (by omega), Option.bind_some, if_pos rfl]
      exact hj
  by_cases p : a <+: b
  · rw [if_pos (decide_eq_true p)]
    exact hJ1 _ (by rw [decide_eq_true p, Bool.true_and])
  · rw [if_neg (by rw [decide_eq_false p]; decide)]
    exact hJ1 false (by rw [decide_eq_false p, Bool.false_and])
end Go.Proofs.YthafpbidfgmacaaDoor.Q
