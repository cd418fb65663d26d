/- Walks of the statements of layer 2 but CrcTells and CrcKnown. -/
import Derived.Test.YtllnnokgjomfcaaDoorC4
import Derived.Deep.RegionWith
namespace Go.Proofs.YtllnnokgjomfcaaDoor
open Go.RowKit
set_option linter.unusedVariables false

theorem sum_at (s : ByteArray) (v : Nat) (hv : upd 0 s.data.toList = v) (hs : s.size ≤ 140737488351232) (w : World) (hw : Fo w) :
    Calls Tryd.prog 10 #[.string s] w fun e w' => e = .returned (.int .u32 (v : Nat)) ∧ w = w' := by
  have := sum_any s w hs hw; rwa [hv] at this
theorem sum_nothing (w : World) (hw : Fo w) : Calls Tryd.prog 10 #[.string ⟨#[]⟩] w fun e w' => e = .returned (.int .u32 0) ∧ w = w' :=
  sum_at ⟨#[]⟩ 0 (by decide +kernel) (by decide) w hw
theorem sum_a (w : World) (hw : Fo w) : Calls Tryd.prog 10 #[.string ⟨#[97]⟩] w fun e w' => e = .returned (.int .u32 3251651376) ∧ w = w' :=
  sum_at ⟨#[97]⟩ 3251651376 (by decide +kernel) (by decide) w hw
theorem sum_nine (w : World) (hw : Fo w) : Calls Tryd.prog 10 #[.string ⟨#[49, 50, 51, 52, 53, 54, 55, 56, 57]⟩] w fun e w' => e = .returned (.int .u32 3808858755) ∧ w = w' :=
  sum_at ⟨#[49, 50, 51, 52, 53, 54, 55, 56, 57]⟩ 3808858755 (by decide +kernel) (by decide) w hw
theorem join_at (a b : Nat) (n : Int) (v : Nat) (hv : joinN a b (clamp n) = v) (ha : a < 4294967296) (hb : b < 4294967296) (w : World) (hw : Fo w) :
    Calls Tryd.prog 14 #[.int .u32 a, .int .u32 b, .int .i64 n] w fun e w' => JPost v w e w' := by
  have := join_any a b n w ha hb hw; rwa [hv] at this
theorem join_minus (w : World) (hw : Fo w) : Calls Tryd.prog 14 #[.int .u32 7, .int .u32 9, .int .i64 (-1)] w fun e w' => JPost 14 w e w' :=
  join_at 7 9 (-1) 14 (by decide +kernel) (by omega) (by omega) w hw

set_option maxHeartbeats 400000 in
theorem works_any (w : World) (hw : Fo w) : Calls Tryd.prog 9 #[] w fun e w' => e = .returned (.bool true) ∧ Bl w w' := by
  have H := Lib.hid hw
  clear hw
  go_enter Tryd.func9, Tryd.ntmps9
  go_wp2_with (first | (go_at_call_of 10 (Value.string ⟨#[]⟩); refine (sum_nothing _ H.out).mono ?_; rintro e w' ⟨rfl, rfl⟩) | (go_at_call_of 10 (Value.string ⟨#[97]⟩); refine (sum_a _ H.out).mono ?_; rintro e w' ⟨rfl, rfl⟩) | (go_at_call 10; refine (sum_nine _ H.out).mono ?_; rintro e w' ⟨rfl, rfl⟩) | (go_at_call 14; refine (join_minus _ H.out).mono ?_; rintro e w' ⟨rfl, hb⟩))
  go_ret
  exact ⟨rfl, by assumption⟩

theorem wf_u32 {a : Int} (h : (Lit.int .u32 a).wf = true) : ∃ n : Nat, a = n ∧ n < 4294967296 := by
  have : 0 ≤ a ∧ a ≤ 4294967295 := by simpa [Lit.wf, IntKind.min, IntKind.max, IntKind.signed, IntKind.bits] using h
  exact ⟨a.toNat, by omega, by omega⟩
theorem wf_i64 {a : Int} (h : (Lit.int .i64 a).wf = true) : -9223372036854775808 ≤ a ∧ a ≤ 9223372036854775807 := by simpa [Lit.wf, IntKind.min, IntKind.max, IntKind.signed, IntKind.bits] using h

set_option maxHeartbeats 400000 in
theorem crcSums_walk (a0 : Int) (w0 : (Lit.int .u32 a0).wf = true) (s : ByteArray) (hs : s.size ≤ 9223372036854775807) (w : World) (hw : Fo w) :
    Calls Tryd.prog 3 #[.int .u32 a0, .string s] w fun e w' => e = .returned (.bool true) ∧ Bl w w' := by
  obtain ⟨c, rfl, hc⟩ := wf_u32 w0
  clear w0
  have H := Lib.hid hw
  clear hw
  by_cases hl : 10000 < s.size
  · go_enter Tryd.func3, Tryd.ntmps3
    go_wp2_with (go_at_call 9; refine (works_any _ H.out).mono ?_; rintro e w' ⟨rfl, hb⟩)
    go_ret
    exact ⟨rfl, by assumption⟩
  · have h47 : s.size ≤ 140737488351232 := by omega
    go_enter Tryd.func3, Tryd.ntmps3
    go_wp2_with (first | (go_at_call 9; refine (works_any _ H.out).mono ?_; rintro e w' ⟨rfl, hb⟩) | (go_at_call 10; refine (sum_any _ _ h47 H.out).mono ?_; rintro e w' ⟨rfl, rfl⟩) | (go_at_call 11; refine (rsum_any _ _ h47).mono ?_; rintro e w' ⟨rfl, rfl⟩) | (go_at_call 12; refine (update_any _ _ _ hc h47 H.out).mono ?_; rintro e w' ⟨rfl, rfl⟩) | (go_at_call 13; refine (rupdate_any _ _ _ hc h47).mono ?_; rintro e w' ⟨rfl, rfl⟩))
    go_ret
    exact ⟨rfl, by assumption⟩

set_option maxHeartbeats 400000 in
theorem crcJoins_walk (a0 : Int) (w0 : (Lit.int .u32 a0).wf = true) (a1 : Int) (w1 : (Lit.int .u32 a1).wf = true) (n : Int) (w2 : (Lit.int .i64 n).wf = true) (w : World) (hw : Fo w) :
    Calls Tryd.prog 4 #[.int .u32 a0, .int .u32 a1, .int .i64 n] w fun e w' => e = .returned (.bool true) ∧ Bl w w' := by
  obtain ⟨a, rfl, ha⟩ := wf_u32 w0
  obtain ⟨b, rfl, hb⟩ := wf_u32 w1
  clear w0 w1 w2
  have H := Lib.hid hw
  clear hw
  go_enter Tryd.func4, Tryd.ntmps4
  go_wp2_with (first | (go_at_call 14; refine (join_any _ _ _ _ ha hb H.out).mono ?_; rintro e wa ⟨rfl, hba⟩) | (go_at_call 15; refine (rjoin_any _ _ _ _ ha hb).mono ?_; rintro e wb ⟨rfl, hbb⟩) | (go_at_call 9; refine (works_any _ ((H.out.bl hba).bl hbb)).mono ?_; rintro e w' ⟨rfl, hbc⟩))
  go_ret
  exact ⟨rfl, (hba.trans hbb).trans hbc⟩

set_option maxHeartbeats 400000 in
theorem crcApart_walk (a0 : Int) (w0 : (Lit.int .u32 a0).wf = true) (a1 : Int) (w1 : (Lit.int .u32 a1).wf = true) (s : ByteArray) (hs : s.size ≤ 9223372036854775807) (w : World) (hw : Fo w) :
    Calls Tryd.prog 7 #[.int .u32 a0, .int .u32 a1, .string s] w fun e w' => e = .returned (.bool true) ∧ Bl w w' := by
  obtain ⟨a, rfl, ha⟩ := wf_u32 w0
  obtain ⟨b, rfl, hb⟩ := wf_u32 w1
  clear w0 w1
  have H := Lib.hid hw
  clear hw
  by_cases hl : 10000 < s.size
  · go_enter Tryd.func7, Tryd.ntmps7
    go_wp2_with (go_at_call 9; refine (works_any _ H.out).mono ?_; rintro e w' ⟨rfl, hb⟩)
    go_ret
    exact ⟨rfl, by assumption⟩
  · have h47 : s.size ≤ 140737488351232 := by omega
    have A1 := Lib.hid (fun w hw => update_any a s w ha h47 hw)
    have A2 := Lib.hid (fun w hw => update_any b s w hb h47 hw)
    have he : ((((upd a s.data.toList : Nat) : Int) == ((upd b s.data.toList : Nat) : Int)) == ((a : Int) == (b : Int))) = true := by
      rw [beq_iff_eq, Bool.eq_iff_iff, beq_iff_eq, beq_iff_eq]
      constructor
      · intro h
        rw [upd_inj s.data.toList ha hb (by omega)]
      · intro h
        rw [show a = b from by omega]
    generalize upd a s.data.toList = x at *
    generalize upd b s.data.toList = y at *
    go_enter Tryd.func7, Tryd.ntmps7
    go_wp2_with fail
    refine (A1.out _ H.out).mono ?_
    rintro e w' ⟨rfl, rfl⟩
    go_wp2_with fail
    refine (A2.out _ H.out).mono ?_
    rintro e w' ⟨rfl, rfl⟩
    go_wp2_with (go_at_call 9; refine (works_any _ H.out).mono ?_; rintro e w' ⟨rfl, hb⟩)
    go_ret
    exact ⟨rfl, by assumption⟩
end Go.Proofs.YtllnnokgjomfcaaDoor
