/- The walk of CrcBoth. -/
import Derived.Test.YtllnnokgjomfcaaDoorC5
namespace Go.Proofs.YtllnnokgjomfcaaDoor
open Go.RowKit
set_option linter.unusedVariables false

theorem clamp_nat (n : Nat) (h : n ≤ 65535) : clamp (n : Int) = n := by unfold clamp; omega
theorem list_append (a b : ByteArray) : (a ++ b).data.toList = a.data.toList ++ b.data.toList := by simp [ByteArray.data_append]
theorem list_length (a : ByteArray) : a.data.toList.length = a.size := Array.length_toList

set_option maxHeartbeats 800000 in
theorem crcBoth_walk (s : ByteArray) (hs : s.size ≤ 9223372036854775807) (t : ByteArray) (ht : t.size ≤ 9223372036854775807) (w : World) (hw : Fo w) :
    Calls Tryd.prog 5 #[.string s, .string t] w fun e w' => e = .returned (.bool true) ∧ Bl w w' := by
  have H := Lib.hid hw
  clear hw
  by_cases hl : 10000 < s.size
  · go_enter Tryd.func5, Tryd.ntmps5
    go_wp2_with (go_at_call 9; refine (works_any _ H.out).mono ?_; rintro e w' ⟨rfl, hb⟩)
    go_ret
    exact ⟨rfl, by assumption⟩
  · by_cases hm : 10000 < t.size
    · go_enter Tryd.func5, Tryd.ntmps5
      go_wp2_with (go_at_call 9; refine (works_any _ H.out).mono ?_; rintro e w' ⟨rfl, hb⟩)
      go_ret
      exact ⟨rfl, by assumption⟩
    · have l1 : upd 0 s.data.toList < 4294967296 := upd_lt _ (by omega)
      have l2 : upd 0 t.data.toList < 4294967296 := upd_lt _ (by omega)
      have S1 : Hid (∀ w, Fo w → Calls Tryd.prog 10 #[.string (s ++ t)] w fun e w' => e = .returned (.int .u32 (upd 0 (s.data.toList ++ t.data.toList) : Nat)) ∧ w = w') := Lib.hid (fun w hw => by
        have := sum_any (s ++ t) w (by rw [ByteArray.size_append]; omega) hw
        rwa [list_append] at this)
      have S2 := Lib.hid (fun w hw => sum_any s w (by omega) hw)
      have S3 := Lib.hid (fun w hw => sum_any t w (by omega) hw)
      have U1 := Lib.hid (fun w hw => update_any (upd 0 s.data.toList) t w l1 (by omega) hw)
      have J1 := Lib.hid (fun w hw => join_any (upd 0 s.data.toList) (upd 0 t.data.toList) (t.size : Int) w l1 l2 hw)
      rw [clamp_nat _ (by omega), ← list_length t, join_sums, list_length t] at J1
      rw [← upd_append] at U1
      generalize upd 0 (s.data.toList ++ t.data.toList) = V at *
      generalize upd 0 s.data.toList = A at *
      generalize upd 0 t.data.toList = B at *
      clear l1 l2
      go_enter Tryd.func5, Tryd.ntmps5
      go_wp2_with (first | (go_at_call_of 10 (Value.string (s ++ t)); refine (S1.out _ H.out).mono ?_; rintro e w' ⟨rfl, rfl⟩) | (go_at_call_of 10 (Value.string s); refine (S2.out _ H.out).mono ?_; rintro e w' ⟨rfl, rfl⟩) | (go_at_call_of 10 (Value.string t); refine (S3.out _ H.out).mono ?_; rintro e w' ⟨rfl, rfl⟩) | (go_at_call 12; refine (U1.out _ H.out).mono ?_; rintro e w' ⟨rfl, rfl⟩) | (go_at_call 14; refine (J1.out _ H.out).mono ?_; rintro e wj ⟨rfl, hbj⟩) | (go_at_call 9; refine (works_any _ (H.out.bl hbj)).mono ?_; rintro e w' ⟨rfl, hb⟩))
      go_ret
      exact ⟨rfl, hbj.trans hb⟩
end Go.Proofs.YtllnnokgjomfcaaDoor
