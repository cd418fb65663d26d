/- The statement MetaBack, joined. -/
import Derived.Test.YtniblmpihnhglaaE24
namespace Go.Proofs.Ytniblmpihnhglaa
open Go.RowKit
set_option linter.unusedVariables false

set_option maxRecDepth 100000 in
set_option maxHeartbeats 1600000 in
theorem metaBack_long (x : Me) (c : Ch) (L : List UInt8) (w : World) (hl : 1000 < L.length) :
    Calls Try.prog 13 #[meV x, chW c, .string (strL L)] w fun e w' => e = .returned (.bool true) ∧ Bl w w' := by
  have hsz := strL_size L
  have hd : decide ((1000 : Int) < (L.length : Int)) = true := decide_eq_true (by omega)
  unfold meV chW
  clear hl
  go_enter Try.func13, Try.ntmps13
  go_wp2_with (go_at_call 39; refine (mawake_any _).mono ?_; rintro e w1 ⟨rfl, h⟩; have B1 := Lib.hid h; clear h)
  go_ret
  exact ⟨rfl, (((Bl.refl w).alloc _).alloc _).trans B1.out⟩

theorem metaBack_on (x : Me) (c : Ch) (L : List UInt8) (w : World) (hx : x.ok) (hc : c.ok) :
    Calls Try.prog 13 #[meV x, chW c, .string (strL L)] w fun e w' => e = .returned (.bool true) ∧ Bl w w' := by
  by_cases hl : 1000 < L.length
  · exact metaBack_long x c L w hl
  have hl' : L.length ≤ 1000 := by omega
  obtain ⟨x2, hx2, hV2, hP2⟩ := tV_me L
  obtain ⟨y2, hy2, hW2, hQ2⟩ := cTV_ch L
  -- of the meta
  obtain ⟨S, E, x1, F1, hput, htk1, h1⟩ : ∃ S E, ∃ x1 : Me, ∃ F1, (∀ w, Calls Try.prog 49 #[.agg #[.int .u8 x.k, .int .u32 x.s, .int .u64 x.m, .int .u64 x.t]] w fun e w' => e = .returned (.tuple #[.string (strL S), .int .i64 E]) ∧ Bl w w') ∧
      (∀ w, Calls Try.prog 51 #[.string (strL S)] w fun e w' => e = .returned (.tuple #[.agg #[.int .u8 x1.k, .int .u32 x1.s, .int .u64 x1.m, .int .u64 x1.t], .int .i64 F1]) ∧ Bl w w') ∧
      ((E = 0 ∧ F1 = 0 ∧ x = x1) ∨ E = 4) := by
    have hp := fun w => mput_any x.k x.s x.m x.t w hx.1 hx.2.1 hx.2.2.1 hx.2.2.2
    unfold MPutP chk at hp
    by_cases hm : mayX x = true
    · have hm' : mayM x.k x.s x.m = true := hm
      refine ⟨metaL x.k x.s x.m x.t, 0, x, 0, fun w => ?_, fun w => ?_, .inl ⟨rfl, rfl, rfl⟩⟩
      · have := hp w
        rw [if_pos hm', if_pos hm'] at this
        exact this
      · have h := take_any (metaL x.k x.s x.m x.t) w (by rw [metaL_length]; omega)
        unfold TakeP at h
        rw [(put_take_V hx hm).1, (put_take_V hx hm).2] at h
        exact h
    · have hm' : ¬ mayM x.k x.s x.m = true := hm
      refine ⟨[], 4, ⟨0, 0, 0, 0⟩, 10, fun w => ?_, fun w => ?_, .inr rfl⟩
      · have := hp w
        rw [if_neg hm', if_neg hm'] at this
        exact this
      · exact take_any [] w (by simp)
  -- of the change
  obtain ⟨U, G, y1, H1, hpc, htc1, h2⟩ : ∃ U G, ∃ y1 : Ch, ∃ H1, (∀ w, Calls Try.prog 40 #[.agg #[.int .u8 c.k, .int .u64 c.n, .int .u8 c.op, .int .u64 c.y]] w fun e w' => e = .returned (.tuple #[.string (strL U), .int .i64 G]) ∧ Bl w w') ∧
      (∀ w, Calls Try.prog 43 #[.string (strL U)] w fun e w' => e = .returned (.tuple #[.agg #[.int .u8 y1.k, .int .u64 y1.n, .int .u8 y1.op, .int .u64 y1.y], .int .i64 H1]) ∧ Bl w w') ∧
      ((G = 0 ∧ H1 = 0 ∧ c = y1) ∨ G = 4) := by
    have hp := fun w => cput_any c.k c.n c.op c.y w hc.1 hc.2.1 hc.2.2.1 hc.2.2.2
    unfold CPutP cE at hp
    by_cases hm : mayY c = true
    · have hm' : mayC c.k c.n c.op c.y = true := hm
      refine ⟨changeL c.k c.n c.op c.y, 0, c, 0, fun w => ?_, fun w => ?_, .inl ⟨rfl, rfl, rfl⟩⟩
      · have := hp w
        rw [if_pos hm', if_pos hm'] at this
        exact this
      · have hf := mayY_form hm
        have h := ctake_any (changeL c.k c.n c.op c.y) w (by
          have := (changeL_ck c.k c.n c.op c.y hc.1 (by omega)).2
          have := cLen_le c.k
          omega)
        unfold CTakeP at h
        rw [(putc_take hc hm).1, (putc_take hc hm).2] at h
        exact h
    · have hm' : ¬ mayC c.k c.n c.op c.y = true := hm
      refine ⟨[], 4, ⟨0, 0, 0, 0⟩, 10, fun w => ?_, fun w => ?_, .inr rfl⟩
      · have := hp w
        rw [if_neg hm', if_neg hm'] at this
        exact this
      · exact ctake_any [] w (by simp)
  have hB : BK x c L S U E G x1 x2 y1 y2 F1 H1 (tE L) (cTE L) (if mayM x2.k x2.s x2.m = true then metaL x2.k x2.s x2.m x2.t else []) (if mayC y2.k y2.n y2.op y2.y = true then changeL y2.k y2.n y2.op y2.y else []) (chk x2.k x2.s x2.m) (cE y2.k y2.n y2.op y2.y) := by
    refine ⟨hput, htk1, hpc, htc1, fun w => ?_, fun w => ?_, fun w => mput_any x2.k x2.s x2.m x2.t w hx2.1 hx2.2.1 hx2.2.2.1 hx2.2.2.2, fun w => cput_any y2.k y2.n y2.op y2.y w hy2.1 hy2.2.1 hy2.2.2.1 hy2.2.2.2⟩
    · have h := take_any L w (by omega)
      unfold TakeP at h
      rw [hV2] at h
      exact h
    · have h := ctake_any L w (by omega)
      unfold CTakeP at h
      rw [hW2] at h
      exact h
  unfold meV chW
  by_cases ht : tOK L = true
  · have hco : ¬ cOK L = true := fun h => by have := cOK_length h; have := tOK_length ht; omega
    have g1 : tE L = 0 := (tE_zero L).2 ht
    have g2 : cTE L ≠ 0 := fun h => hco ((cTE_zero L).1 h)
    obtain ⟨p1, p2⟩ := hP2 ht
    have g3 : L = (if mayM x2.k x2.s x2.m = true then metaL x2.k x2.s x2.m x2.t else []) := by rw [if_pos p2, p1]
    have g4 : chk x2.k x2.s x2.m = 0 := by unfold chk; rw [if_pos p2]
    rcases h1 with ⟨a1, a2, a3⟩ | a1
    · rcases h2 with ⟨b1, b2, b3⟩ | b1
      · exact metaBack_TTm x c L S U E G x1 x2 y1 y2 F1 H1 _ _ _ _ _ _ w hl' hB a1 a2 a3 b1 b2 b3 g1 g2 g3 g4
      · exact metaBack_TFm x c L S U E G x1 x2 y1 y2 F1 H1 _ _ _ _ _ _ w hl' hB a1 a2 a3 b1 g1 g2 g3 g4
    · rcases h2 with ⟨b1, b2, b3⟩ | b1
      · exact metaBack_FTm x c L S U E G x1 x2 y1 y2 F1 H1 _ _ _ _ _ _ w hl' hB a1 b1 b2 b3 g1 g2 g3 g4
      · exact metaBack_FFm x c L S U E G x1 x2 y1 y2 F1 H1 _ _ _ _ _ _ w hl' hB a1 b1 g1 g2 g3 g4
  have g1 : tE L ≠ 0 := fun h => ht ((tE_zero L).1 h)
  by_cases hco : cOK L = true
  · have g2 : cTE L = 0 := (cTE_zero L).2 hco
    obtain ⟨p1, p2⟩ := hQ2 hco
    have g3 : L = (if mayC y2.k y2.n y2.op y2.y = true then changeL y2.k y2.n y2.op y2.y else []) := by rw [if_pos p2, p1]
    have g4 : cE y2.k y2.n y2.op y2.y = 0 := by unfold cE; rw [if_pos p2]
    rcases h1 with ⟨a1, a2, a3⟩ | a1
    · rcases h2 with ⟨b1, b2, b3⟩ | b1
      · exact metaBack_TTc x c L S U E G x1 x2 y1 y2 F1 H1 _ _ _ _ _ _ w hl' hB a1 a2 a3 b1 b2 b3 g1 g2 g3 g4
      · exact metaBack_TFc x c L S U E G x1 x2 y1 y2 F1 H1 _ _ _ _ _ _ w hl' hB a1 a2 a3 b1 g1 g2 g3 g4
    · rcases h2 with ⟨b1, b2, b3⟩ | b1
      · exact metaBack_FTc x c L S U E G x1 x2 y1 y2 F1 H1 _ _ _ _ _ _ w hl' hB a1 b1 b2 b3 g1 g2 g3 g4
      · exact metaBack_FFc x c L S U E G x1 x2 y1 y2 F1 H1 _ _ _ _ _ _ w hl' hB a1 b1 g1 g2 g3 g4
  · have g2 : cTE L ≠ 0 := fun h => hco ((cTE_zero L).1 h)
    rcases h1 with ⟨a1, a2, a3⟩ | a1
    · rcases h2 with ⟨b1, b2, b3⟩ | b1
      · exact metaBack_TTn x c L S U E G x1 x2 y1 y2 F1 H1 _ _ _ _ _ _ w hl' hB a1 a2 a3 b1 b2 b3 g1 g2
      · exact metaBack_TFn x c L S U E G x1 x2 y1 y2 F1 H1 _ _ _ _ _ _ w hl' hB a1 a2 a3 b1 g1 g2
    · rcases h2 with ⟨b1, b2, b3⟩ | b1
      · exact metaBack_FTn x c L S U E G x1 x2 y1 y2 F1 H1 _ _ _ _ _ _ w hl' hB a1 b1 b2 b3 g1 g2
      · exact metaBack_FFn x c L S U E G x1 x2 y1 y2 F1 H1 _ _ _ _ _ _ w hl' hB a1 b1 g1 g2
theorem metaBack_walk (v0 : Value) (x : Me) (h0 : MetaArg v0 x) (v1 : Value) (c : Ch) (h1 : ChangeArg v1 c) (s : ByteArray) (_ : s.size ≤ maxLen) (w : World) : Calls Try.prog 13 #[v0, v1, .string s] w fun e w' => e = .returned (.bool true) ∧ Bl w w' := by
  obtain ⟨rfl, hx⟩ := h0
  obtain ⟨rfl, hc⟩ := h1
  exact metaBack_on x c s.data.toList w hx hc
end Go.Proofs.Ytniblmpihnhglaa
