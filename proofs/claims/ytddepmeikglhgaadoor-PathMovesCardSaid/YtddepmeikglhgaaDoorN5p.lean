/- The plain statements of PathTexts, PathReturns, PathMoves. -/
import Derived.Test.YtddepmeikglhgaaDoorN4p
import Derived.Test.YtddepmeikglhgaaDoorRrillbedlaw05PathTexts
import Derived.Test.YtddepmeikglhgaaDoorRrillbedlaw05PathReturns
import Derived.Test.YtddepmeikglhgaaDoorRrillbedlaw05PathMoves
namespace Go.Proofs.YtddepmeikglhgaaDoor.Q
open Go.RowKit Go.Proofs.YtddepmeikglhgaaDoorW.PrintWords Go.Proofs.YtddepmeikglhgaaDoorW.PrintLast Go.Proofs.YtddepmeikglhgaaDoorW.PrintMore
set_option linter.unusedVariables false

theorem pathTexts_pure (a0 : ByteArray) (l1 : List ByteArray) (hl : l1.length ≤ 9223372036854775807) : ∃ k, rillbedlaw05_PathTexts.f k a0 l1 = some true := by
  obtain ⟨k, hk⟩ : ∃ k : Nat, k = 200000 := ⟨_, rfl⟩
  refine ⟨k + 1, ?_⟩
  have ha := awake_is k (by omega)
  obtain ⟨b, hb, hf⟩ := few_is l1 hl (k + 1) (by omega)
  unfold rillbedlaw05_PathTexts.f
  rw [hb]
  simp only [Option.bind_some, rillbedlaw05_PathTexts.j0, ha, if_true]
  cases b with
  | false => rfl
  | true =>
    obtain ⟨h1, h2⟩ := hf rfl
    rw [if_pos rfl]
    by_cases h : (a0.size : Int) > 200
    · rw [decide_eq_true h]
      rfl
    · rw [decide_eq_false h, if_neg (by decide), text_is a0 (by omega) l1 (by omega) (fun x hx => by have := h2 x hx; omega), rtext_is a0 (by omega) l1 (by omega) (fun x hx => by have := h2 x hx; omega) _ (by omega)]
      simp only [Option.bind_some, if_true]
theorem pathTextsWalk (a0 : ByteArray) (A1 : Option Addr) (c1 : Nat) (l1 : List ByteArray) (W : World) (hC : Kd.C Kd.string W A1 l1.length l1) (hc : l1.length ≤ c1) (hl : l1.length ≤ 9223372036854775807) :
    Calls Tryd.prog 4 #[.string a0, .slice A1 l1.length c1] W fun e w' => e = .returned (.bool true) ∧ Below W.heap.size W w' := by
  obtain ⟨k, h⟩ := pathTexts_pure a0 l1 hl
  exact rillbedlaw05_PathTexts.calls k a0 A1 c1 l1 true W hC hc h

theorem within_app (a b : List ByteArray) : withinB a (a ++ b) = true := by
  unfold withinB
  rw [List.take_left]
  exact decide_eq_true rfl
theorem move_is (l fr dt : List ByteArray) (h0 : l.length ≤ 1000000) (h1 : fr.length ≤ 1000000) (h2 : dt.length ≤ 1000000) : path_Move.f l fr dt = some (if withinB fr l = true then dt ++ l.drop fr.length else l) := by
  show moveF l fr dt = _
  unfold moveF
  rw [if_pos ⟨h0, h1, h2⟩]
theorem pathReturns_pure (l0 l1 l2 : List ByteArray) (hl0 : l0.length ≤ 9223372036854775807) (hl1 : l1.length ≤ 9223372036854775807) (hl2 : l2.length ≤ 9223372036854775807) : ∃ k, rillbedlaw05_PathReturns.f k l0 l1 l2 = some true := by
  obtain ⟨k, hk⟩ : ∃ k : Nat, k = 200000 := ⟨_, rfl⟩
  refine ⟨k + 1, ?_⟩
  have ha := awake_is k (by omega)
  obtain ⟨b0, hb0, hf0⟩ := few_is l0 hl0 (k + 1) (by omega)
  obtain ⟨b1, hb1, hf1⟩ := few_is l1 hl1 (k + 1) (by omega)
  obtain ⟨b2, hb2, hf2⟩ := few_is l2 hl2 (k + 1) (by omega)
  unfold rillbedlaw05_PathReturns.f
  rw [hb0, hb1, hb2]
  simp only [Option.bind_some, rillbedlaw05_PathReturns.j0, ha, if_true]
  cases b0 with
  | false => rfl
  | true =>
    cases b1 with
    | false => rfl
    | true =>
      cases b2 with
      | false => rfl
      | true =>
        have h0 := (hf0 rfl).1
        have h1 := (hf1 rfl).1
        have h2 := (hf2 rfl).1
        clear hf0 hf1 hf2 hb0 hb1 hb2
        rw [if_pos rfl, if_pos rfl, if_neg (by decide), List.nil_append, if_pos (by rw [List.length_nil]; omega), if_pos (by omega), move_is _ _ _ (by rw [List.length_append]; omega) (by omega) (by omega), within_app, if_pos rfl, List.drop_left]
        rw [Option.bind_some, within_is l2 (l2 ++ l0) (by omega) _ (by omega), within_app, Option.bind_some, if_pos rfl, if_pos (by rw [wrap_small (by omega) (by omega), List.length_append]; omega), move_is _ _ _ (by rw [List.length_append]; omega) (by omega) (by omega), within_app, if_pos rfl, List.drop_left]
        simp only [Option.bind_some]
        rw [same_is _ _ (by rw [List.length_append]; omega) _ (by rw [List.length_append]; omega)]
        simp
theorem pathReturnsWalk (A0 : Option Addr) (c0 : Nat) (l0 : List ByteArray) (A1 : Option Addr) (c1 : Nat) (l1 : List ByteArray) (A2 : Option Addr) (c2 : Nat) (l2 : List ByteArray) (W : World)
    (hC0 : Kd.C Kd.string W A0 l0.length l0) (hc0 : l0.length ≤ c0) (hl0 : l0.length ≤ 9223372036854775807) (hC1 : Kd.C Kd.string W A1 l1.length l1) (hc1 : l1.length ≤ c1) (hl1 : l1.length ≤ 9223372036854775807) (hC2 : Kd.C Kd.string W A2 l2.length l2) (hc2 : l2.length ≤ c2) (hl2 : l2.length ≤ 9223372036854775807) :
    Calls Tryd.prog 6 #[.slice A0 l0.length c0, .slice A1 l1.length c1, .slice A2 l2.length c2] W fun e w' => e = .returned (.bool true) ∧ Below W.heap.size W w' := by
  obtain ⟨k, h⟩ := pathReturns_pure l0 l1 l2 hl0 hl1 hl2
  exact rillbedlaw05_PathReturns.calls k A0 c0 l0 A1 c1 l1 A2 c2 l2 true W hC0 hc0 hC1 hc1 hC2 hc2 h

theorem spoil_loop (l2 : List ByteArray) (h2 : l2.length ≤ 30) : ∀ (d k i : Nat) (m : List ByteArray), m.length ≤ 1000 → i ≤ m.length → m.length - i = d → d + 100 < k → rillbedlaw05_PathMoves.l0 k l2 l2 m (i : Int) = some true := by
  intro d
  induction d with
  | zero =>
    intro k i m hm h1 hd hk
    obtain ⟨k, rfl⟩ : ∃ m, k = m + 1 := ⟨k - 1, by omega⟩
    simp only [rillbedlaw05_PathMoves.l0]
    rw [if_neg (by omega), rsame_is _ _ (by omega) _ (by omega), awake_is _ (by omega)]
    simp
  | succ d ih =>
    intro k i m hm h1 hd hk
    obtain ⟨k, rfl⟩ : ∃ m, k = m + 1 := ⟨k - 1, by omega⟩
    rw [rillbedlaw05_PathMoves.l0, if_pos (by omega), if_pos (by omega), wrap_small (by omega) (by omega)]
    have := ih k (i + 1) (m.set (i : Int).toNat ⟨#[115, 112, 111, 105, 108, 116]⟩) (by rw [List.length_set]; omega) (by rw [List.length_set]; omega) (by rw [List.length_set]; omega) (by omega)
    rw [show ((i + 1 : Nat) : Int) = (i : Int) + 1 from by omega] at this
    exact this
theorem pathMoves_pure (l0 l1 l2 : List ByteArray) (hl0 : l0.length ≤ 9223372036854775807) (hl1 : l1.length ≤ 9223372036854775807) (hl2 : l2.length ≤ 9223372036854775807) : ∃ k, rillbedlaw05_PathMoves.f k l0 l1 l2 = some true := by
  obtain ⟨k, hk⟩ : ∃ k : Nat, k = 200000 := ⟨_, rfl⟩
  refine ⟨k + 2, ?_⟩
  have ha := awake_is (k + 1) (by omega)
  obtain ⟨b0, hb0, hf0⟩ := few_is l0 hl0 (k + 2) (by omega)
  obtain ⟨b1, hb1, hf1⟩ := few_is l1 hl1 (k + 2) (by omega)
  obtain ⟨b2, hb2, hf2⟩ := few_is l2 hl2 (k + 2) (by omega)
  unfold rillbedlaw05_PathMoves.f
  rw [hb0, hb1, hb2]
  simp only [Option.bind_some, rillbedlaw05_PathMoves.j0, ha, if_true]
  cases b0 with
  | false => rfl
  | true =>
    cases b1 with
    | false => rfl
    | true =>
      cases b2 with
      | false => rfl
      | true =>
        have h0 := (hf0 rfl).1
        have h1 := (hf1 rfl).1
        have h2 := (hf2 rfl).1
        clear hf0 hf1 hf2 hb0 hb1 hb2
        have hu : path_Up.f l0 = some (l0.dropLast, l0.getLastD ByteArray.empty) := by
          show upF l0 = _
          unfold upF
          rw [if_pos (by omega)]
        have hv : rillbedref05_Up.f l0 = some (l0.dropLast, l0.getLastD ByteArray.empty) := hu
        have hm := move_is l0 l1 l2 (by omega) (by omega) (by omega)
        have hrm : rillbedref05_Move.f (k + 1) l0 l1 l2 = some (if withinB l1 l0 = true then l2 ++ l0.drop l1.length else l0) := hm
        have hlen : (if withinB l1 l0 = true then l2 ++ l0.drop l1.length else l0).length ≤ 100 := by
          split
          · rw [List.length_append, List.length_drop]; omega
          · omega
        rw [if_pos rfl, if_pos rfl, if_neg (by decide), List.nil_append, if_pos (by rw [List.length_nil]; omega), hu, hv]
        simp only [Option.bind_some]
        rw [hm]
        simp only [Option.bind_some]
        rw [within_is l1 l0 (by omega) _ (by omega), rwithin_is l1 l0 (by omega) _ (by omega)]
        simp only [Option.bind_some, bne_self_eq_false, Bool.false_eq_true, if_false]
        rw [rsame_is _ _ (by rw [List.length_dropLast]; omega) _ (by rw [List.length_dropLast]; omega)]
        simp only [Option.bind_some, decide_true, if_true]
        rw [hrm]
        simp only [Option.bind_some]
        generalize (if withinB l1 l0 = true then l2 ++ l0.drop l1.length else l0) = m at hlen ⊢
        rw [rsame_is m m (by omega) _ (by omega)]
        simp only [Option.bind_some, decide_true, Bool.not_true, rillbedlaw05_PathMoves.j1, Bool.false_eq_true, if_false]
        exact spoil_loop l2 h2 m.length k 0 m (by omega) (by omega) (by omega) (by omega)
theorem pathMovesWalk (A0 : Option Addr) (c0 : Nat) (l0 : List ByteArray) (A1 : Option Addr) (c1 : Nat) (l1 : List ByteArray) (A2 : Option Addr) (c2 : Nat) (l2 : List ByteArray) (W : World)
    (hC0 : Kd.C Kd.string W A0 l0.length l0) (hc0 : l0.length ≤ c0) (hl0 : l0.length ≤ 9223372036854775807) (hC1 : Kd.C Kd.string W A1 l1.length l1) (hc1 : l1.length ≤ c1) (hl1 : l1.length ≤ 9223372036854775807) (hC2 : Kd.C Kd.string W A2 l2.length l2) (hc2 : l2.length ≤ c2) (hl2 : l2.length ≤ 9223372036854775807) :
    Calls Tryd.prog 7 #[.slice A0 l0.length c0, .slice A1 l1.length c1, .slice A2 l2.length c2] W fun e w' => e = .returned (.bool true) ∧ Below W.heap.size W w' := by
  obtain ⟨k, h⟩ := pathMoves_pure l0 l1 l2 hl0 hl1 hl2
  exact rillbedlaw05_PathMoves.calls k A0 c0 l0 A1 c1 l1 A2 c2 l2 true W hC0 hc0 hC1 hc1 hC2 hc2 h
end Go.Proofs.YtddepmeikglhgaaDoor.Q
