/- The statement MetaTexts, walked. -/
import Derived.Test.YtniblmpihnhglaaE20
import Derived.Test.YtniblmpihnhglaaE5
import Derived.Test.YtniblmpihnhglaaE8
namespace Go.Proofs.Ytniblmpihnhglaa
open Go.RowKit
set_option linter.unusedVariables false

set_option maxRecDepth 100000 in
set_option maxHeartbeats 1600000 in
theorem rput_no (k s m t : Nat) (w : World) (hm : m < 18446744073709551616) (hM : mayM k s m = false) :
    Calls Try.prog 50 #[.agg #[.int .u8 k, .int .u32 s, .int .u64 m, .int .u64 t]] w fun x w' => x = .returned (.tuple #[.string (strL []), .int .i64 4]) ∧ Bl w w' := by
  have RM : Hid (∀ w, Calls Try.prog 77 #[.agg #[.int .u8 k, .int .u32 s, .int .u64 m, .int .u64 t]] w fun x w' => x = .returned (.bool false) ∧ Bl w w') := Lib.hid (fun w => by
    have := rmay_any k s m t w (by omega) (by omega)
    unfold RMayP at this
    rwa [hM] at this)
  clear hm hM
  go_enter Try.func50, Try.ntmps50
  go_wp2_with (go_at_call 77; refine (RM.out _).mono ?_; rintro e w1 ⟨rfl, h⟩; have B1 := Lib.hid h; clear h)
  go_ret2
  exact ⟨rfl, ((Bl.refl w).alloc _).trans B1.out⟩
theorem rput_any (k s m t : Nat) (w : World) (hk : k < 256) (hs : s < 4294967296) (hm : m < 18446744073709551616) (ht : t < 18446744073709551616) :
    Calls Try.prog 50 #[.agg #[.int .u8 k, .int .u32 s, .int .u64 m, .int .u64 t]] w (MPutP k s m t w) := by
  unfold MPutP chk
  cases hM : mayM k s m with
  | true => exact rput_yes k s m t w hk hs hm ht hM
  | false => exact rput_no k s m t w hm hM
theorem tV_form (L : List UInt8) : ∃ x : Me, tV L = .agg #[.int .u8 x.k, .int .u32 x.s, .int .u64 x.m, .int .u64 x.t] := by
  unfold tV
  split
  · exact ⟨⟨_, _, _, _⟩, rfl⟩
  · exact ⟨⟨0, 0, 0, 0⟩, rfl⟩

set_option maxRecDepth 100000 in
set_option maxHeartbeats 1600000 in
theorem metaTexts_on (x : Me) (L : List UInt8) (w : World) (hx : x.ok) : Calls Try.prog 11 #[meV x, .string (strL L)] w fun e w' => e = .returned (.bool true) ∧ Bl w w' := by
  have hsz := strL_size L
  have K0 := Lib.hid (mc_new x w)
  have N0 : Hid (Bl w (w.alloc (mO x))) := Lib.hid ((Bl.refl w).alloc _)
  by_cases hl : 1000 < L.length
  · have hd : decide ((1000 : Int) < (L.length : Int)) = true := decide_eq_true (by omega)
    unfold meV
    clear hl
    go_enter Try.func11, Try.ntmps11
    go_wp2_with (go_at_call 39; refine (mawake_any _).mono ?_; rintro e w1 ⟨rfl, h⟩; have B1 := Lib.hid h; clear h)
    go_ret
    exact ⟨rfl, N0.out.trans B1.out⟩
  have hd : decide ((1000 : Int) < (L.length : Int)) = false := decide_eq_false (by omega)
  have PU := Lib.hid (fun w => mput_any x.k x.s x.m x.t w hx.1 hx.2.1 hx.2.2.1 hx.2.2.2)
  have RP := Lib.hid (fun w => rput_any x.k x.s x.m x.t w hx.1 hx.2.1 hx.2.2.1 hx.2.2.2)
  have CH := Lib.hid (fun w => check_any x.k x.s x.m x.t w)
  have TK := Lib.hid (fun w => take_any L w (by omega))
  have RT := Lib.hid (fun w => rtake_any L w (by omega))
  unfold MPutP at PU RP
  unfold ChkP at CH
  unfold TakeP at TK
  unfold RTakeP at RT
  obtain ⟨y, hV⟩ := tV_form L
  rw [hV] at TK RT
  generalize strL (if mayM x.k x.s x.m = true then metaL x.k x.s x.m x.t else []) = S at PU RP
  generalize chk x.k x.s x.m = E at PU RP CH
  generalize tE L = F at TK RT
  unfold meV
  clear hl hx hV
  go_enter Try.func11, Try.ntmps11
  go_wp2_with (first
    | (go_at_call 39; refine (mawake_any _).mono ?_; rintro e w8 ⟨rfl, h⟩; have B8 := Lib.hid h; clear h)
    | (go_at_call 47; refine (CH.out _).mono ?_; rintro e w7 ⟨rfl, h⟩; have B7 := Lib.hid h; clear c0 c1 c2 c3; obtain ⟨p0, p1, p2, p3, _, _, _, _⟩ := four_cells (K1.out.bl h); obtain ⟨q0, q1, q2, q3, _, _, _, _⟩ := four_cells (K2.out.bl h); clear h)
    | (go_at_call 52; refine (RT.out _).mono ?_; rintro e w6 ⟨rfl, h⟩; have B6 := Lib.hid h; have K1 : Hid (MC w5.heap.size y (w6.alloc (mO y))) := Lib.hid (((mc_new y w5).bl h).alloc _); have K2 := Lib.hid (mc_new y w6); obtain ⟨c0, c1, c2, c3, _, _, _, _⟩ := four_cells (((((((K0.out.bl B2.out).bl B4.out).bl B5.out).alloc (mO y)).bl h).alloc (mO y))); clear h)
    | (go_at_call 51; refine (TK.out _).mono ?_; rintro e w5 ⟨rfl, h⟩; have B5 := Lib.hid h; clear h)
    | (go_at_call 50; refine (RP.out _).mono ?_; rintro e w4 ⟨rfl, h⟩; have B4 := Lib.hid h; clear c0 c1 c2 c3 h)
    | (go_at_call 49; refine (PU.out _).mono ?_; rintro e w2 ⟨rfl, h⟩; have B2 := Lib.hid h; obtain ⟨c0, c1, c2, c3, _, _, _, _⟩ := four_cells (K0.out.bl h); clear h))
  go_ret
  exact ⟨rfl, (((((((N0.out.trans B2.out).trans B4.out).trans B5.out).alloc _).trans B6.out).alloc _).trans B7.out).trans B8.out⟩
theorem metaTexts_walk (v0 : Value) (x : Me) (h0 : MetaArg v0 x) (s : ByteArray) (_ : s.size ≤ maxLen) (w : World) : Calls Try.prog 11 #[v0, .string s] w fun e w' => e = .returned (.bool true) ∧ Bl w w' := by
  obtain ⟨rfl, hx⟩ := h0
  exact metaTexts_on x s.data.toList w hx
end Go.Proofs.Ytniblmpihnhglaa
