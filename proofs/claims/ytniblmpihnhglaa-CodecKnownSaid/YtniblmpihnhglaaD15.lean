import Derived.Test.YtniblmpihnhglaaD8
namespace Go.Proofs.Ytniblmpihnhglaa
open Go.RowKit
set_option linter.unusedVariables false

/-! Writers and readers that are none. -/
theorem nil_33 (n : Int) (w : World) : Calls Try.prog 33 #[.pointer none, .int .i64 n] w fun x w' => x = .returned (.string ⟨#[]⟩) ∧ w = w' := by
  go_enter Try.func33, Try.ntmps33
  go_wp2_with fail
  go_ret
  exact ⟨rfl, rfl⟩
theorem nil_21 (w : World) : Calls Try.prog 21 #[.pointer none] w fun x w' => x = .returned (.int .i64 1) ∧ w = w' := by
  go_enter Try.func21, Try.ntmps21
  go_wp2_with fail
  go_ret
  exact ⟨rfl, rfl⟩
theorem nil_23 (w : World) : Calls Try.prog 23 #[.pointer none] w fun x w' => x = .returned (.string ⟨#[]⟩) ∧ w = w' := by
  go_enter Try.func23, Try.ntmps23
  go_wp2_with fail
  go_ret
  exact ⟨rfl, rfl⟩
set_option maxRecDepth 100000 in
theorem nil_get64 (w : World) : Calls Try.prog 69 #[.pointer none, .int .i64 8] w fun x w' => x = .returned (.int .u64 0) ∧ w = w' := by
  go_enter Try.func69, Try.ntmps69
  go_wp2_with (go_at_call 33; refine (nil_33 _ _).mono ?_; rintro e w1 ⟨rfl, rfl⟩)
  go_loop [6, 13] (fun v6 v13 => v6 = .int .u64 0 ∧ v13 = .int .i64 0) (fun _ _ => 0)
  case atStart => exact ⟨rfl, rfl⟩
  case round =>
    obtain ⟨rfl, rfl⟩ := hrel
    go_wp2_with fail
    go_ret
    exact ⟨rfl, rfl⟩
set_option maxRecDepth 100000 in
theorem nil_get16 (w : World) : Calls Try.prog 66 #[.pointer none, .int .i64 2] w fun x w' => x = .returned (.int .u16 0) ∧ w = w' := by
  go_enter Try.func66, Try.ntmps66
  go_wp2_with (go_at_call 33; refine (nil_33 _ _).mono ?_; rintro e w1 ⟨rfl, rfl⟩)
  go_loop [6, 13] (fun v6 v13 => v6 = .int .u64 0 ∧ v13 = .int .i64 0) (fun _ _ => 0)
  case atStart => exact ⟨rfl, rfl⟩
  case round =>
    obtain ⟨rfl, rfl⟩ := hrel
    go_wp2_with fail
    go_ret
    exact ⟨rfl, rfl⟩
theorem nil_35 (w : World) : Calls Try.prog 35 #[.pointer none] w fun x w' => x = .returned (.int .u64 0) ∧ w = w' := by
  go_enter Try.func35, Try.ntmps35
  go_wp2_with (go_at_call 69; refine (nil_get64 _).mono ?_; rintro e w1 ⟨rfl, rfl⟩)
  go_ret
  exact ⟨rfl, rfl⟩
theorem nil_30 (w : World) : Calls Try.prog 30 #[.pointer none] w fun x w' => x = .returned (.int .u16 0) ∧ w = w' := by
  go_enter Try.func30, Try.ntmps30
  go_wp2_with (go_at_call 66; refine (nil_get16 _).mono ?_; rintro e w1 ⟨rfl, rfl⟩)
  go_ret
  exact ⟨rfl, rfl⟩
theorem nil_32 (w : World) : Calls Try.prog 32 #[.pointer none] w fun x w' => x = .returned (.string ⟨#[]⟩) ∧ w = w' := by
  go_enter Try.func32, Try.ntmps32
  go_wp2_with (first
    | (go_at_call 30; refine (nil_30 _).mono ?_; rintro e w1 ⟨rfl, rfl⟩)
    | (go_at_call 33; refine (nil_33 _ _).mono ?_; rintro e w1 ⟨rfl, rfl⟩))
  go_ret
  exact ⟨rfl, rfl⟩
theorem nil_63 (n : Int) (w : World) : Calls Try.prog 63 #[.pointer none, .int .u8 n, .int .i64 1] w fun x w' => x = .returned (.tuple #[]) ∧ w = w' := by
  go_enter Try.func63, Try.ntmps63
  go_wp2_with fail
  exact bodyPost_ret (results_none rfl _ _ _) rfl ⟨rfl, rfl⟩
theorem nil_25 (n : Int) (w : World) : Calls Try.prog 25 #[.pointer none, .int .u8 n] w fun x w' => x = .returned (.tuple #[]) ∧ w = w' := by
  go_enter Try.func25, Try.ntmps25
  go_wp2_with (go_at_call 63; refine (nil_63 _ _).mono ?_; rintro e w1 ⟨rfl, rfl⟩)
  go_end0
  exact ⟨rfl, rfl⟩
theorem nil_28 (s : ByteArray) (w : World) : Calls Try.prog 28 #[.pointer none, .string s] w fun x w' => x = .returned (.tuple #[]) ∧ w = w' := by
  go_enter Try.func28, Try.ntmps28
  go_wp2_with fail
  exact bodyPost_ret (results_none rfl _ _ _) rfl ⟨rfl, rfl⟩
theorem nil_17 (w : World) : Calls Try.prog 17 #[.pointer none] w fun x w' => x = .returned (.tuple #[.string ⟨#[]⟩, .int .i64 1]) ∧ w = w' := by
  go_enter Try.func17, Try.ntmps17
  go_wp2_with fail
  go_ret2
  exact ⟨rfl, rfl⟩

/-! Readers at given bytes. -/
theorem rd_to {p : Nat} {L L' : List UInt8} {e e' : Int} {w : World} (h : Rd p L e w) (h1 : L = L') (h2 : e = e') : Rd p L' e' w := by subst h1 h2; exact h
theorem c_u8 (p : Nat) (L : List UInt8) (e : Int) (v : Nat) (L' : List UInt8) (e' : Int) (hv : beN (fixO L e 1) = v) (hL : fixL L e 1 = L') (he : fixE L e 1 = e') (hl : L.length ≤ 140737488351232) (w : World) (hr : Rd p L e w) :
    Calls Try.prog 31 #[.pointer (some ⟨p, 0, none⟩)] w fun x w' => x = .returned (.int .u8 v) ∧ Rd p L' e' w' ∧ Only p w w' :=
  (r_u8 p L e w hl hr).mono fun x w' h => ⟨h.1.trans (by rw [← hv]; rfl), rd_to h.2.1 hL he, h.2.2⟩
theorem c_u16 (p : Nat) (L : List UInt8) (e : Int) (v : Nat) (L' : List UInt8) (e' : Int) (hv : beN (fixO L e 2) = v) (hL : fixL L e 2 = L') (he : fixE L e 2 = e') (hl : L.length ≤ 140737488351232) (w : World) (hr : Rd p L e w) :
    Calls Try.prog 30 #[.pointer (some ⟨p, 0, none⟩)] w fun x w' => x = .returned (.int .u16 v) ∧ Rd p L' e' w' ∧ Only p w w' :=
  (r_u16 p L e w hl hr).mono fun x w' h => ⟨h.1.trans (by rw [← hv]; rfl), rd_to h.2.1 hL he, h.2.2⟩
theorem c_text (p : Nat) (L : List UInt8) (e : Int) (v : ByteArray) (L' : List UInt8) (e' : Int) (hv : strL (txtO L e) = v) (hL : txtL L e = L') (he : txtE L e = e') (hl : L.length ≤ 140737488351232) (w : World) (hr : Rd p L e w) :
    Calls Try.prog 32 #[.pointer (some ⟨p, 0, none⟩)] w fun x w' => x = .returned (.string v) ∧ Rd p L' e' w' ∧ Only p w w' :=
  (r_text p L e w hl hr).mono fun x w' h => ⟨h.1.trans (by rw [hv]), rd_to h.2.1 hL he, h.2.2⟩
theorem c_fixed (p : Nat) (L : List UInt8) (e n : Int) (v : ByteArray) (L' : List UInt8) (e' : Int) (hv : strL (fixO L e n) = v) (hL : fixL L e n = L') (he : fixE L e n = e') (hl : L.length ≤ 140737488351232) (w : World) (hr : Rd p L e w) :
    Calls Try.prog 33 #[.pointer (some ⟨p, 0, none⟩), .int .i64 n] w fun x w' => x = .returned (.string v) ∧ Rd p L' e' w' ∧ Only p w w' :=
  (fixed_any p L e n w hl hr).mono fun x w' h => ⟨h.1.trans (by rw [hv]), rd_to h.2.1 hL he, h.2.2⟩
theorem c_rest (p : Nat) (L : List UInt8) (e : Int) (v : ByteArray) (hv : strL L = v) (w : World) (hr : Rd p L e w) :
    Calls Try.prog 23 #[.pointer (some ⟨p, 0, none⟩)] w fun x w' => x = .returned (.string v) ∧ w = w' :=
  (r_rest p L e w hr).mono fun x w' h => ⟨h.1.trans (by rw [hv]), h.2⟩
theorem c_bytes (B p : Nat) (L : List UInt8) (v : ByteArray) (hv : strL L = v) (w : World) (hr : Wr B p L 0 w) :
    Calls Try.prog 17 #[.pointer (some ⟨p, 0, none⟩)] w fun x w' => x = .returned (.tuple #[.string v, .int .i64 0]) ∧ w = w' :=
  (w_bytes B p L w hr).mono fun x w' h => ⟨h.1.trans (by rw [hv]), h.2⟩
end Go.Proofs.Ytniblmpihnhglaa
