/- KeyBack's plain statement. -/
import Derived.Test.YthafpbidfgmacaaDoorN9k
import Derived.Test.YthafpbidfgmacaaDoorQrillbedlaw06KeyBack
namespace Go.Proofs.YthafpbidfgmacaaDoor.Q
open Go.RowKit Go.Proofs.YthafpbidfgmacaaDoorW.PrintWords Go.Proofs.YthafpbidfgmacaaDoorW.PrintLast Go.Proofs.YthafpbidfgmacaaDoorW.PrintMore
set_option linter.unusedVariables false

theorem works_is' (k : Nat) (hk : 12 ≤ k) : rillbedlaw06_works.f k = some true := at_rounds (g := fun k => rillbedlaw06_works.f k) (fun k => rillbedlaw06_works.mono k) hk works_ok
def metaB (l : List ByteArray) : ByteArray := ⟨#[109]⟩ ++ joinB l ⟨#[0]⟩
theorem metaB_data (l : List ByteArray) : (metaB l).data.toList = 109 :: jl l := by
  unfold metaB
  rw [app_data, jl_data]
  rfl
theorem metaB_ne (l : List ByteArray) : ¬ (metaB l).toList = [] := by
  rw [tl, metaB_data]
  simp
/-- What moves: a key whose path lies within the one that is moved. -/
theorem moved (l from_ dst : List ByteArray) (rl : rightB l = true) (rf : rightB from_ = true) (rt : rightB dst = true) (hf : from_ ≠ []) (ht : dst ≠ []) :
    (from_ <+: l → ∃ s, tailB s ∧ (metaB l).data.toList = 109 :: (jl from_ ++ s) ∧ (mvP (metaB l) from_ dst).data.toList = 109 :: (jl dst ++ s)) ∧ (¬ from_ <+: l → mvP (metaB l) from_ dst = metaB l) := by
  have e : mvP (metaB l) from_ dst = mvS (metaB l) (joinB from_ ⟨#[0]⟩) (joinB dst ⟨#[0]⟩) := by
    unfold mvP
    rw [if_neg]
    rintro (h | h | h | h | h)
    · exact metaB_ne l h
    · exact hf (List.eq_nil_of_length_eq_zero (by omega))
    · exact ht (List.eq_nil_of_length_eq_zero (by omega))
    · rw [rf] at h; exact absurd h (by decide)
    · rw [rt] at h; exact absurd h (by decide)
  rw [e]
  constructor
  · rintro ⟨t, rfl⟩
    obtain ⟨s, h1, h2⟩ := jl_pre from_ hf t
    have h3 : (metaB (from_ ++ t)).data.toList = 109 :: (jl from_ ++ s) := by rw [metaB_data, h1]
    refine ⟨s, h2, h3, ?_⟩
    have := mv_yes (metaB (from_ ++ t)) (joinB from_ ⟨#[0]⟩) (joinB dst ⟨#[0]⟩) s (by rw [jl_data]; exact h3) h2
    rw [jl_data] at this
    exact this
  · intro hn
    refine mv_no _ _ _ _ (metaB_data l) (fun s h1 h2 => hn ?_)
    rw [jl_data] at h1
    exact pre_of_jl from_ l hf rf rl s h1 h2
/-- Moved back. -/
theorem moved_back (x : ByteArray) (from_ dst : List ByteArray) (rf : rightB from_ = true) (rt : rightB dst = true) (hf : from_ ≠ []) (ht : dst ≠ []) (s : List UInt8) (hs : tailB s) (hx : x.data.toList = 109 :: (jl dst ++ s)) :
    (mvP x dst from_).data.toList = 109 :: (jl from_ ++ s) := by
  have e : mvP x dst from_ = mvS x (joinB dst ⟨#[0]⟩) (joinB from_ ⟨#[0]⟩) := by
    unfold mvP
    rw [if_neg]
    rintro (h | h | h | h | h)
    · rw [tl, hx] at h; exact absurd h (by simp)
    · exact ht (List.eq_nil_of_length_eq_zero (by omega))
    · exact hf (List.eq_nil_of_length_eq_zero (by omega))
    · rw [rt] at h; exact absurd h (by decide)
    · rw [rf] at h; exact absurd h (by decide)
  rw [e]
  have := mv_yes x (joinB dst ⟨#[0]⟩) (joinB from_ ⟨#[0]⟩) s (by rw [jl_data]; exact hx) hs
  rw [jl_data] at this
  exact this
theorem less_head (c : UInt8) (p s t : List UInt8) : Op.bytesLess (c :: (p ++ s)) (c :: (p ++ t)) = Op.bytesLess s t := less_app (c :: p) s t
theorem tail_in (x : ByteArray) (dst : List ByteArray) (s : List UInt8) (hs : tailB s) (hx : x.data.toList = 109 :: (jl dst ++ s)) : rillbedlaw06_in.f x (⟨#[109]⟩ ++ joinB dst ⟨#[0]⟩) ((⟨#[109]⟩ ++ joinB dst ⟨#[0]⟩) ++ ⟨#[1]⟩) = some true := by
  have h1 : (⟨#[109]⟩ ++ joinB dst ⟨#[0]⟩ : ByteArray).data.toList = 109 :: (jl dst ++ []) := by rw [List.append_nil]; exact metaB_data dst
  have h2 : ((⟨#[109]⟩ ++ joinB dst ⟨#[0]⟩) ++ ⟨#[1]⟩ : ByteArray).data.toList = 109 :: (jl dst ++ [1]) := by rw [app_data, h1, List.append_nil]; rfl
  rw [in_is, tl, tl, tl, hx, h1, h2, less_head, less_head, less_nil]
  rcases hs with rfl | ⟨r, rfl⟩
  · rfl
  · rfl
theorem keyBack_plain (l0 l1 a b : List ByteArray) (h0 : l0.length ≤ 9223372036854775807) (h1 : l1.length ≤ 9223372036854775807) (ha : a.length ≤ 9223372036854775807) (hb : b.length ≤ 9223372036854775807) :
    ∃ k, rillbedlaw06_KeyBack.f k l0 l1 a b = some true := by
  obtain ⟨k, hk⟩ : ∃ k : Nat, k = 3000 := ⟨_, rfl⟩
  refine ⟨k + 2, ?_⟩
  obtain ⟨b0, hb0, hf0⟩ := few_is l0 h0 (k + 2) (by omega)
  obtain ⟨b1, hb1, hf1⟩ := few_is l1 h1 (k + 2) (by omega)
  obtain ⟨b2, hb2, hf2⟩ := few_is a ha (k + 2) (by omega)
  obtain ⟨b3, hb3, hf3⟩ := few_is b hb (k + 2) (by omega)
  have hT : rillbedlaw06_KeyBack.j0 (k + 2) a b true l0 l1 = some true := by
    rw [rillbedlaw06_KeyBack.j0, if_pos rfl, works_is' _ (by omega)]
    rfl
  unfold rillbedlaw06_KeyBack.f
  rw [hb0, Option.bind_some]
  cases b0 with
  | false => rw [if_neg (by decide), hT]
  | true =>
  rw [if_pos rfl, hb1, Option.bind_some]
  cases b1 with
  | false => rw [if_neg (by decide), hT]
  | true =>
  rw [if_pos rfl, hb2, Option.bind_some]
  cases b2 with
  | false => rw [if_neg (by decide), hT]
  | true =>
  rw [if_pos rfl, hb3, Option.bind_some]
  cases b3 with
  | false => rw [if_neg (by decide), hT]
  | true =>
  obtain ⟨g0, x0⟩ := hf0 rfl
  obtain ⟨g1, x1⟩ := hf1 rfl
  obtain ⟨g2, x2⟩ := hf2 rfl
  obtain ⟨g3, x3⟩ := hf3 rfl
  have z0 := join_size l0 g0 x0
  have z1 := join_size l1 g1 x1
  have z2 := join_size a g2 x2
  have z3 := join_size b g3 x3
  have m0 := fun k (hk : 1000 ≤ k) => meta_r l0 (by omega) (by omega) k (by omega)
  have m1 := fun k (hk : 1000 ≤ k) => meta_r l1 (by omega) (by omega) k (by omega)
  have m2 := fun k (hk : 1000 ≤ k) => meta_r a (by omega) (by omega) k (by omega)
  have m3 := fun k (hk : 1000 ≤ k) => meta_r b (by omega) (by omega) k (by omega)
  have hE : (⟨#[]⟩ : ByteArray).toList = [] := by rw [tl]
  rw [if_pos rfl]
  cases r0 : rightB l0 with
  | false => rw [show key_Meta.f (k + 2) l0 = some ⟨#[]⟩ from by rw [m0 _ (by omega), r0]; rfl, Option.bind_some, if_pos hE, hT]
  | true =>
  have w0 : ∀ k, 1000 ≤ k → key_Meta.f k l0 = some (metaB l0) := fun k hk => (m0 k hk).trans (by rw [if_pos r0]; rfl)
  rw [w0 _ (by omega), Option.bind_some, if_neg (metaB_ne l0)]
  cases r1 : rightB l1 with
  | false => rw [show key_Meta.f (k + 2) l1 = some ⟨#[]⟩ from by rw [m1 _ (by omega), r1]; rfl, Option.bind_some, if_pos hE, hT]
  | true =>
  have w1 : ∀ k, 1000 ≤ k → key_Meta.f k l1 = some (metaB l1) := fun k hk => (m1 k hk).trans (by rw [if_pos r1]; rfl)
  rw [w1 _ (by omega), Option.bind_some, if_neg (metaB_ne l1)]
  cases r2 : rightB a with
  | false => rw [show key_Meta.f (k + 2) a = some ⟨#[]⟩ from by rw [m2 _ (by omega), r2]; rfl, Option.bind_some, if_pos hE, hT]
  | true =>
  have w2 : ∀ k, 1000 ≤ k → key_Meta.f k a = some (metaB a) := fun k hk => (m2 k hk).trans (by rw [if_pos r2]; rfl)
  rw [w2 _ (by omega), Option.bind_some, if_neg (metaB_ne a)]
  cases r3 : rightB b with
  | false => rw [show key_Meta.f (k + 2) b = some ⟨#[]⟩ from by rw [m3 _ (by omega), r3]; rfl, Option.bind_some, if_pos hE, hT]
  | true =>
  have w3 : ∀ k, 1000 ≤ k → key_Meta.f k b = some (metaB b) := fun k hk => (m3 k hk).trans (by rw [if_pos r3]; rfl)
  rw [w3 _ (by omega), Option.bind_some, if_neg (metaB_ne b)]
  by_cases na : (a.length : Int) = 0
  · rw [if_pos na, hT]
  rw [if_neg na]
  by_cases nb : (b.length : Int) = 0
  · rw [show ((b.length : Int) == 0) = true from beq_iff_eq.2 nb, hT]
  rw [show ((b.length : Int) == 0) = false from beq_eq_false_iff_ne.2 nb]
  have hna : a ≠ [] := fun e => na (by rw [e]; rfl)
  have hnb : b ≠ [] := fun e => nb (by rw [e]; rfl)
  rw [rillbedlaw06_KeyBack.j0, if_neg (by decide), w0 _ (by omega), Option.bind_some, w1 _ (by omega), Option.bind_some]
  obtain ⟨M0, M0'⟩ := moved l0 a b r0 r2 r3 hna hnb
  obtain ⟨M1, M1'⟩ := moved l1 a b r1 r2 r3 hna hnb
  have s0 : (metaB l0).size ≤ 100000 := by unfold metaB; rw [ByteArray.size_append, szl1]; omega
  have s1 : (metaB l1).size ≤ 100000 := by unfold metaB; rw [ByteArray.size_append, szl1]; omega
  have v0 := kmove_is k (by omega) (metaB l0) a b s0 g2 x2 g3 x3
  have v1 := kmove_is k (by omega) (metaB l1) a b s1 g2 x2 g3 x3
  rw [v0, Option.bind_some, v1, Option.bind_some, subtree_r b (by omega) (by omega) _ (by omega) (by omega) r3, Option.bind_some, begins_is l0 a (by omega) _ (by omega), Option.bind_some, begins_is l1 a (by omega) _ (by omega), Option.bind_some]
  have hW : ∀ (x7 x9 : ByteArray) (p : Bool), (p = true → ∃ s, tailB s ∧ x7.data.toList = 109 :: (jl a ++ s) ∧ x9.data.toList = 109 :: (jl b ++ s) ∧ x9.size ≤ 100000) → rillbedlaw06_KeyBack.j1 (k + 1) a b x7 x9 p false = some true := by
    intro x7 x9 p hp
    have hw : (rillbedlaw06_works.f k).bind (fun t => some t) = some true := by rw [works_is' k (by omega)]; rfl
    rw [rillbedlaw06_KeyBack.j1, if_neg (by decide)]
    cases p with
    | false => rw [if_neg (by decide), hw]
    | true =>
      obtain ⟨s, hs, e7, e9, sz⟩ := hp rfl
      rw [if_pos rfl, begins_is a b (by omega) _ (by omega), Option.bind_some]
      by_cases c1 : b <+: a
      · rw [if_pos (decide_eq_true c1), hw]
      · rw [if_neg (by rw [decide_eq_false c1]; decide), begins_is b a (by omega) _ (by omega), Option.bind_some]
        by_cases c2 : a <+: b
        · rw [if_pos (decide_eq_true c2), hw]
        · rw [if_neg (by rw [decide_eq_false c2]; decide)]
          obtain ⟨k', rfl⟩ : ∃ m, k = m + 1 := ⟨k - 1, by omega⟩
          rw [kmove_is k' (by omega) x9 b a sz g3 x3 g2 x2, Option.bind_some, if_pos (by rw [tl, tl, moved_back x9 a b r2 r3 hna hnb s hs e9, e7]), hw]
  have hsz : ∀ (x : ByteArray) (l : List ByteArray) (s : List UInt8), (joinB l ⟨#[0]⟩).size ≤ 4020 → x.data.toList = 109 :: (jl b ++ s) → 109 :: jl l = 109 :: (jl a ++ s) → x.size ≤ 100000 := by
    intro x l s hl hx h
    have e1 := congrArg List.length h
    have e2 := size_len x
    rw [hx] at e2
    have e3 := size_len (joinB l ⟨#[0]⟩)
    have e4 := size_len (joinB b ⟨#[0]⟩)
    rw [jl_data] at e3 e4
    simp only [List.length_cons, List.length_append] at e1 e2
    omega
  by_cases p : a <+: l0
  · obtain ⟨s, hs, e1, e2⟩ := M0 p
    have hw9 := hsz _ l0 s z0 e2 (by rw [← metaB_data, e1])
    rw [decide_eq_true p, if_pos rfl]
    have ein := tail_in _ b s hs e2
    rw [ein, Option.bind_some, if_pos rfl]
    by_cases q : a <+: l1
    · obtain ⟨s', hs', f1, f2⟩ := M1 q
      have hl1 : Op.bytesLess (mvP (metaB l0) a b).toList (mvP (metaB l1) a b).toList = Op.bytesLess (metaB l0).toList (metaB l1).toList := by
        rw [tl, tl, tl, tl, e1, e2, f1, f2, less_head, less_head]
      rw [decide_eq_true q, if_pos rfl, hl1, bne_self_eq_false]
      exact hW _ _ true (fun _ => ⟨s, hs, e1, e2, hw9⟩)
    · rw [decide_eq_false q, if_neg (by decide)]
      exact hW _ _ true (fun _ => ⟨s, hs, e1, e2, hw9⟩)
  · have e := M0' p
    rw [decide_eq_false p, if_neg (by decide)]
    rw [e, if_pos rfl]
    exact hW _ _ false (fun h => absurd h (by decide))
theorem keyBackWalk (A0 : Option Addr) (c0 : Nat) (l0 : List ByteArray) (A1 : Option Addr) (c1 : Nat) (l1 : List ByteArray) (A2 : Option Addr) (c2 : Nat) (l2 : List ByteArray) (A3 : Option Addr) (c3 : Nat) (l3 : List ByteArray) (W : World)
    (h0 : l0.length ≤ c0 ∧ Kd.C Kd.string W A0 l0.length l0 ∧ l0.length ≤ 9223372036854775807) (h1 : l1.length ≤ c1 ∧ Kd.C Kd.string W A1 l1.length l1 ∧ l1.length ≤ 9223372036854775807)
    (hC2 : Kd.C Kd.string W A2 l2.length l2) (hc2 : l2.length ≤ c2) (hl2 : l2.length ≤ 9223372036854775807) (hC3 : Kd.C Kd.string W A3 l3.length l3) (hc3 : l3.length ≤ c3) (hl3 : l3.length ≤ 9223372036854775807) :
    Calls Tryd.prog 9 #[.agg #[.slice A0 l0.length c0, .slice A1 l1.length c1], .slice A2 l2.length c2, .slice A3 l3.length c3] W fun e w' => e = .returned (.bool true) ∧ Below W.heap.size W w' := by
  obtain ⟨k, h⟩ := keyBack_plain l0 l1 l2 l3 h0.2.2 h1.2.2 hl2 hl3
  exact rillbedlaw06_KeyBack.calls k A0 c0 l0 A1 c1 l1 A2 c2 l2 A3 c3 l3 W h0.2.1 h0.1 h1.2.1 h1.1 hC2 hc2 hC3 hc3 h
end Go.Proofs.YthafpbidfgmacaaDoor.Q
