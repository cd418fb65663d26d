/- Walks of layer 7: Take of the reference. -/
import Derived.Test.YtniblmpihnhglaaE6
import Derived.Deep.RegionWith
namespace Go.Proofs.Ytniblmpihnhglaa
open Go.RowKit
set_option linter.unusedVariables false

set_option maxHeartbeats 800000 in
theorem rnum_any (L O : List UInt8) (a b : Nat) (w : World) (hO : O = (L.drop a).take (b - a)) (hab : a ≤ b) (h8 : b - a ≤ 8) (hb : b ≤ L.length) (hl : L.length ≤ 10000) :
    Calls Try.prog 75 #[.string (strL L), .int .i64 a, .int .i64 b] w fun x w' => x = .returned (.int .u64 (beN O : Nat)) ∧ w = w' := by
  have hsz := strL_size L
  have hOl : O.length = b - a := by rw [hO, List.length_take, List.length_drop]; omega
  have HO := Lib.hid hO
  clear hO
  go_enter Try.func75, Try.ntmps75
  go_wp2_with fail
  go_loop [7, 8] (fun v7 v8 => ∃ k : Nat, k ≤ b - a ∧ v8 = .int .i64 ((a + k : Nat) : Int) ∧ v7 = .int .u64 (beN (O.take k) : Nat)) (fun _ v => b - (intOf v).toNat)
  case atStart => exact ⟨0, by omega, rfl, rfl⟩
  case round =>
    obtain ⟨k, hk, rfl, rfl⟩ := hrel
    by_cases hlt : k < b - a
    · obtain ⟨y, hy⟩ : ∃ y, O[k]? = some y := ⟨_, List.getElem?_eq_getElem (by omega)⟩
      have hx : beN (O.take k) < 72057594037927936 := beN_take_lt O k 7 (by omega)
      have hbl := y.toNat_lt
      have HS := Lib.hid (beN_take O k y hy)
      have hLy : L[a + k]? = some y := by
        rw [HO.out, List.getElem?_take, if_pos hlt, List.getElem?_drop] at hy; exact hy
      have hget : ∀ h, (strL L)[a + k]'h = y := fun h => strL_get L (a + k) y hLy h
      clear hy hLy
      generalize beN (O.take k) = x at *
      generalize hj : a + k = j at *
      have HJ := Lib.hid hj
      have hjb : j < b := by omega
      clear hj
      go_wp2_with fail
      go_round
      case rel => exact ⟨k + 1, by omega, by have := HJ.out; go_num, by rw [HS.out]; go_num⟩
      case measure => simp [intOf]; omega
    · have hkk : k = b - a := by omega
      have hall : O.take k = O := List.take_of_length_le (by omega)
      rw [hall]
      have HJ := Lib.hid (by omega : a + k = b)
      clear hall
      generalize a + k = j at *
      obtain rfl := HJ.out
      go_wp2_with fail
      go_ret
      exact ⟨rfl, rfl⟩

def RTakeP (L : List UInt8) (w : World) (x : Ending) (w' : World) : Prop := x = .returned (.tuple #[tV L, .int .i64 (tE L)]) ∧ Bl w w'
set_option maxRecDepth 100000 in
set_option maxHeartbeats 1600000 in
theorem rtake_short (L : List UInt8) (w : World) (h : L.length < 21) :
    Calls Try.prog 52 #[.string (strL L)] w fun x w' => x = .returned (.tuple #[metaV 0 0 0 0, .int .i64 10]) ∧ Bl w w' := by
  have hsz := strL_size L
  go_enter Try.func52, Try.ntmps52
  go_wp2_with fail
  exact bodyPost_ret (v := .tuple #[.agg #[.int .u8 0, .int .u32 0, .int .u64 0, .int .u64 0], .int .i64 10]) (by simp [results, Try.results52, go_sem]) rfl ⟨rfl, (Bl.refl w).alloc _⟩

end Go.Proofs.Ytniblmpihnhglaa
