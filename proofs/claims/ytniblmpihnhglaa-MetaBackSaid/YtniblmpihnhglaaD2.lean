/- Walks of codec's numbers out of bytes. -/
import Derived.Test.YtniblmpihnhglaaD1
namespace Go.Proofs.Ytniblmpihnhglaa
open Go.RowKit
set_option linter.unusedVariables false

def GetP (p : Nat) (L : List UInt8) (e : Int) (width : Nat) (k : IntKind) (w : World) (x : Ending) (w' : World) : Prop :=
  x = .returned (.int k (beN (fixO L e width) : Nat)) ∧ Rd p (fixL L e width) (fixE L e width) w' ∧ Only p w w'

set_option maxHeartbeats 800000 in
theorem get_u8 (p : Nat) (L : List UInt8) (e : Int) (w : World) (hl : L.length ≤ 140737488351232) (hr : Rd p L e w) :
    Calls Try.prog 67 #[.pointer (some ⟨p, 0, none⟩), .int .i64 1] w fun x w' => GetP p L e 1 .u8 w x w' := by
  have F1 := Lib.hid (fixed_any p L e 1 w hl hr)
  have ho : (fixO L e 1).length ≤ 1 := fixO_length L e 1 1 (by omega)
  clear hr hl
  have hG : Hid (∀ x w', x = Ending.returned (.int .u8 (beN (fixO L e 1) : Nat)) → Rd p (fixL L e 1) (fixE L e 1) w' → Only p w w' → GetP p L e 1 .u8 w x w') := fun x w' h1 h2 h3 => ⟨h1, h2, h3⟩
  unfold FixP at F1
  generalize hO : fixO L e 1 = O at *
  generalize fixL L e 1 = L2 at *
  generalize fixE L e 1 = e2 at *
  clear hO
  have hsz := strL_size O
  go_enter Try.func67, Try.ntmps67
  go_wp2_with (go_at_call 33; refine F1.out.mono ?_; rintro e w1 ⟨rfl, hrd, hon⟩; have HRD := Lib.hid hrd; have HON := Lib.hid hon; clear hrd hon)
  go_loop [6, 13] (fun v6 v13 => ∃ k : Nat, k ≤ O.length ∧ v13 = .int .i64 k ∧ v6 = .int .u64 (beN (O.take k) : Nat)) (fun _ v => O.length - (intOf v).toNat)
  case atStart => exact ⟨0, by omega, rfl, rfl⟩
  case round =>
    obtain ⟨k, hk, rfl, rfl⟩ := hrel
    by_cases hlt : k < O.length
    · obtain ⟨b, hb⟩ : ∃ b, O[k]? = some b := ⟨_, List.getElem?_eq_getElem hlt⟩
      have hx : beN (O.take k) < 72057594037927936 := beN_take_lt O k 7 (by omega)
      have hbl := b.toNat_lt
      have ho2 := or_byte _ _ hx hbl
      have HS := Lib.hid (beN_take O k b hb)
      have hget : ∀ h, (strL O)[k]'h = b := fun h => strL_get O k b hb h
      clear hb
      generalize beN (O.take k) = x at *
      generalize hy : x * 256 + b.toNat = y at *
      have HY := Lib.hid hy
      clear hy
      go_wp2_with fail
      go_round
      case rel => exact ⟨k + 1, by omega, by go_num, by rw [HS.out]⟩
      case measure => simp [intOf]; omega
    · have hall : O.take k = O := List.take_of_length_le (by omega)
      have hlast := beN_take_lt O k 1 (by omega)
      rw [hall] at hlast ⊢
      have hlast' : beN O < 256 := hlast
      have HG := Lib.hid (hG.out _ w1 rfl HRD.out HON.out)
      clear hG hall hlast
      generalize beN O = x at *
      go_wp2_with fail
      go_ret
      exact HG.out
set_option maxHeartbeats 400000 in
theorem r_u8 (p : Nat) (L : List UInt8) (e : Int) (w : World) (hl : L.length ≤ 140737488351232) (hr : Rd p L e w) :
    Calls Try.prog 31 #[.pointer (some ⟨p, 0, none⟩)] w fun x w' => GetP p L e 1 .u8 w x w' := by
  have F1 := Lib.hid (get_u8 p L e w hl hr)
  go_enter Try.func31, Try.ntmps31
  go_wp2_with (go_at_call 67; refine F1.out.mono ?_; rintro e w1 ⟨rfl, hrd, hon⟩)
  go_ret
  exact ⟨rfl, hrd, hon⟩

set_option maxHeartbeats 800000 in
theorem get_u16 (p : Nat) (L : List UInt8) (e : Int) (w : World) (hl : L.length ≤ 140737488351232) (hr : Rd p L e w) :
    Calls Try.prog 66 #[.pointer (some ⟨p, 0, none⟩), .int .i64 2] w fun x w' => GetP p L e 2 .u16 w x w' := by
  have F1 := Lib.hid (fixed_any p L e 2 w hl hr)
  have ho : (fixO L e 2).length ≤ 2 := fixO_length L e 2 2 (by omega)
  clear hr hl
  have hG : Hid (∀ x w', x = Ending.returned (.int .u16 (beN (fixO L e 2) : Nat)) → Rd p (fixL L e 2) (fixE L e 2) w' → Only p w w' → GetP p L e 2 .u16 w x w') := fun x w' h1 h2 h3 => ⟨h1, h2, h3⟩
  unfold FixP at F1
  generalize hO : fixO L e 2 = O at *
  generalize fixL L e 2 = L2 at *
  generalize fixE L e 2 = e2 at *
  clear hO
  have hsz := strL_size O
  go_enter Try.func66, Try.ntmps66
  go_wp2_with (go_at_call 33; refine F1.out.mono ?_; rintro e w1 ⟨rfl, hrd, hon⟩; have HRD := Lib.hid hrd; have HON := Lib.hid hon; clear hrd hon)
  go_loop [6, 13] (fun v6 v13 => ∃ k : Nat, k ≤ O.length ∧ v13 = .int .i64 k ∧ v6 = .int .u64 (beN (O.take k) : Nat)) (fun _ v => O.length - (intOf v).toNat)
  case atStart => exact ⟨0, by omega, rfl, rfl⟩
  case round =>
    obtain ⟨k, hk, rfl, rfl⟩ := hrel
    by_cases hlt : k < O.length
    · obtain ⟨b, hb⟩ : ∃ b, O[k]? = some b := ⟨_, List.getElem?_eq_getElem hlt⟩
      have hx : beN (O.take k) < 72057594037927936 := beN_take_lt O k 7 (by omega)
      have hbl := b.toNat_lt
      have ho2 := or_byte _ _ hx hbl
      have HS := Lib.hid (beN_take O k b hb)
      have hget : ∀ h, (strL O)[k]'h = b := fun h => strL_get O k b hb h
      clear hb
      generalize beN (O.take k) = x at *
      generalize hy : x * 256 + b.toNat = y at *
      have HY := Lib.hid hy
      clear hy
      go_wp2_with fail
      go_round
      case rel => exact ⟨k + 1, by omega, by go_num, by rw [HS.out]⟩
      case measure => simp [intOf]; omega
    · have hall : O.take k = O := List.take_of_length_le (by omega)
      have hlast := beN_take_lt O k 2 (by omega)
      rw [hall] at hlast ⊢
      have hlast' : beN O < 65536 := hlast
      have HG := Lib.hid (hG.out _ w1 rfl HRD.out HON.out)
      clear hG hall hlast
      generalize beN O = x at *
      go_wp2_with fail
      go_ret
      exact HG.out
set_option maxHeartbeats 400000 in
theorem r_u16 (p : Nat) (L : List UInt8) (e : Int) (w : World) (hl : L.length ≤ 140737488351232) (hr : Rd p L e w) :
    Calls Try.prog 30 #[.pointer (some ⟨p, 0, none⟩)] w fun x w' => GetP p L e 2 .u16 w x w' := by
  have F1 := Lib.hid (get_u16 p L e w hl hr)
  go_enter Try.func30, Try.ntmps30
  go_wp2_with (go_at_call 66; refine F1.out.mono ?_; rintro e w1 ⟨rfl, hrd, hon⟩)
  go_ret
  exact ⟨rfl, hrd, hon⟩

set_option maxHeartbeats 800000 in
theorem get_u32 (p : Nat) (L : List UInt8) (e : Int) (w : World) (hl : L.length ≤ 140737488351232) (hr : Rd p L e w) :
    Calls Try.prog 70 #[.pointer (some ⟨p, 0, none⟩), .int .i64 4] w fun x w' => GetP p L e 4 .u32 w x w' := by
  have F1 := Lib.hid (fixed_any p L e 4 w hl hr)
  have ho : (fixO L e 4).length ≤ 4 := fixO_length L e 4 4 (by omega)
  clear hr hl
  have hG : Hid (∀ x w', x = Ending.returned (.int .u32 (beN (fixO L e 4) : Nat)) → Rd p (fixL L e 4) (fixE L e 4) w' → Only p w w' → GetP p L e 4 .u32 w x w') := fun x w' h1 h2 h3 => ⟨h1, h2, h3⟩
  unfold FixP at F1
  generalize hO : fixO L e 4 = O at *
  generalize fixL L e 4 = L2 at *
  generalize fixE L e 4 = e2 at *
  clear hO
  have hsz := strL_size O
  go_enter Try.func70, Try.ntmps70
  go_wp2_with (go_at_call 33; refine F1.out.mono ?_; rintro e w1 ⟨rfl, hrd, hon⟩; have HRD := Lib.hid hrd; have HON := Lib.hid hon; clear hrd hon)
  go_loop [6, 13] (fun v6 v13 => ∃ k : Nat, k ≤ O.length ∧ v13 = .int .i64 k ∧ v6 = .int .u64 (beN (O.take k) : Nat)) (fun _ v => O.length - (intOf v).toNat)
  case atStart => exact ⟨0, by omega, rfl, rfl⟩
  case round =>
    obtain ⟨k, hk, rfl, rfl⟩ := hrel
    by_cases hlt : k < O.length
    · obtain ⟨b, hb⟩ : ∃ b, O[k]? = some b := ⟨_, List.getElem?_eq_getElem hlt⟩
      have hx : beN (O.take k) < 72057594037927936 := beN_take_lt O k 7 (by omega)
      have hbl := b.toNat_lt
      have ho2 := or_byte _ _ hx hbl
      have HS := Lib.hid (beN_take O k b hb)
      have hget : ∀ h, (strL O)[k]'h = b := fun h => strL_get O k b hb h
      clear hb
      generalize beN (O.take k) = x at *
      generalize hy : x * 256 + b.toNat = y at *
      have HY := Lib.hid hy
      clear hy
      go_wp2_with fail
      go_round
      case rel => exact ⟨k + 1, by omega, by go_num, by rw [HS.out]⟩
      case measure => simp [intOf]; omega
    · have hall : O.take k = O := List.take_of_length_le (by omega)
      have hlast := beN_take_lt O k 4 (by omega)
      rw [hall] at hlast ⊢
      have hlast' : beN O < 4294967296 := hlast
      have HG := Lib.hid (hG.out _ w1 rfl HRD.out HON.out)
      clear hG hall hlast
      generalize beN O = x at *
      go_wp2_with fail
      go_ret
      exact HG.out
set_option maxHeartbeats 400000 in
theorem r_u32 (p : Nat) (L : List UInt8) (e : Int) (w : World) (hl : L.length ≤ 140737488351232) (hr : Rd p L e w) :
    Calls Try.prog 38 #[.pointer (some ⟨p, 0, none⟩)] w fun x w' => GetP p L e 4 .u32 w x w' := by
  have F1 := Lib.hid (get_u32 p L e w hl hr)
  go_enter Try.func38, Try.ntmps38
  go_wp2_with (go_at_call 70; refine F1.out.mono ?_; rintro e w1 ⟨rfl, hrd, hon⟩)
  go_ret
  exact ⟨rfl, hrd, hon⟩

set_option maxHeartbeats 800000 in
theorem get_u64 (p : Nat) (L : List UInt8) (e : Int) (w : World) (hl : L.length ≤ 140737488351232) (hr : Rd p L e w) :
    Calls Try.prog 69 #[.pointer (some ⟨p, 0, none⟩), .int .i64 8] w fun x w' => GetP p L e 8 .u64 w x w' := by
  have F1 := Lib.hid (fixed_any p L e 8 w hl hr)
  have ho : (fixO L e 8).length ≤ 8 := fixO_length L e 8 8 (by omega)
  clear hr hl
  have hG : Hid (∀ x w', x = Ending.returned (.int .u64 (beN (fixO L e 8) : Nat)) → Rd p (fixL L e 8) (fixE L e 8) w' → Only p w w' → GetP p L e 8 .u64 w x w') := fun x w' h1 h2 h3 => ⟨h1, h2, h3⟩
  unfold FixP at F1
  generalize hO : fixO L e 8 = O at *
  generalize fixL L e 8 = L2 at *
  generalize fixE L e 8 = e2 at *
  clear hO
  have hsz := strL_size O
  go_enter Try.func69, Try.ntmps69
  go_wp2_with (go_at_call 33; refine F1.out.mono ?_; rintro e w1 ⟨rfl, hrd, hon⟩; have HRD := Lib.hid hrd; have HON := Lib.hid hon; clear hrd hon)
  go_loop [6, 13] (fun v6 v13 => ∃ k : Nat, k ≤ O.length ∧ v13 = .int .i64 k ∧ v6 = .int .u64 (beN (O.take k) : Nat)) (fun _ v => O.length - (intOf v).toNat)
  case atStart => exact ⟨0, by omega, rfl, rfl⟩
  case round =>
    obtain ⟨k, hk, rfl, rfl⟩ := hrel
    by_cases hlt : k < O.length
    · obtain ⟨b, hb⟩ : ∃ b, O[k]? = some b := ⟨_, List.getElem?_eq_getElem hlt⟩
      have hx : beN (O.take k) < 72057594037927936 := beN_take_lt O k 7 (by omega)
      have hbl := b.toNat_lt
      have ho2 := or_byte _ _ hx hbl
      have HS := Lib.hid (beN_take O k b hb)
      have hget : ∀ h, (strL O)[k]'h = b := fun h => strL_get O k b hb h
      clear hb
      generalize beN (O.take k) = x at *
      generalize hy : x * 256 + b.toNat = y at *
      have HY := Lib.hid hy
      clear hy
      go_wp2_with fail
      go_round
      case rel => exact ⟨k + 1, by omega, by go_num, by rw [HS.out]⟩
      case measure => simp [intOf]; omega
    · have hall : O.take k = O := List.take_of_length_le (by omega)
      have hlast := beN_take_lt O k 8 (by omega)
      rw [hall] at hlast ⊢
      have hlast' : beN O < 18446744073709551616 := hlast
      have HG := Lib.hid (hG.out _ w1 rfl HRD.out HON.out)
      clear hG hall hlast
      generalize beN O = x at *
      go_wp2_with fail
      go_ret
      exact HG.out
set_option maxHeartbeats 400000 in
theorem r_u64 (p : Nat) (L : List UInt8) (e : Int) (w : World) (hl : L.length ≤ 140737488351232) (hr : Rd p L e w) :
    Calls Try.prog 35 #[.pointer (some ⟨p, 0, none⟩)] w fun x w' => GetP p L e 8 .u64 w x w' := by
  have F1 := Lib.hid (get_u64 p L e w hl hr)
  go_enter Try.func35, Try.ntmps35
  go_wp2_with (go_at_call 69; refine F1.out.mono ?_; rintro e w1 ⟨rfl, hrd, hon⟩)
  go_ret
  exact ⟨rfl, hrd, hon⟩
end Go.Proofs.Ytniblmpihnhglaa
