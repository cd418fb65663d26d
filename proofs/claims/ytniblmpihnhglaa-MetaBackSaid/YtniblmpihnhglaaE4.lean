/- Walks of layer 7: whole. -/
import Derived.Test.YtniblmpihnhglaaE3
namespace Go.Proofs.Ytniblmpihnhglaa
open Go.RowKit
set_option linter.unusedVariables false

def wholeE (L : List UInt8) (e : Int) : Int := if e = 0 then (if L = [] then 0 else 4) else e
theorem whole_any (p : Nat) (L : List UInt8) (e : Int) (w : World) (hr : Rd p L e w) :
    Calls Try.prog 74 #[.pointer (some ⟨p, 0, none⟩)] w fun x w' => x = .returned (.int .i64 (wholeE L e)) ∧ w = w' := by
  have E1 := Lib.hid (fun w h => r_err p L e w h)
  have E2 := Lib.hid (fun w h => r_rest p L e w h)
  have HR := Lib.hid hr
  clear hr
  by_cases he : e = 0
  · subst he
    by_cases hL : L = []
    · subst hL
      have hnil : (strL []).toList = [] := by kernel_rfl
      go_enter Try.func74, Try.ntmps74
      go_wp2_with (first
        | (go_at_call 21; refine (E1.out _ HR.out).mono ?_; rintro e w1 ⟨rfl, rfl⟩)
        | (go_at_call 23; refine (E2.out _ HR.out).mono ?_; rintro e w1 ⟨rfl, rfl⟩))
      go_ret
      exact ⟨rfl, rfl⟩
    · have hw : wholeE L 0 = 4 := by unfold wholeE; rw [if_pos rfl, if_neg hL]
      have hne : (strL L).toList.isEmpty = false := by
        rw [ByteArray.toList_eq]
        show L.isEmpty = false
        cases L with
        | nil => exact absurd rfl hL
        | cons a t => rfl
      rw [hw]
      clear hw
      go_enter Try.func74, Try.ntmps74
      go_wp2_with (first
        | (go_at_call 21; refine (E1.out _ HR.out).mono ?_; rintro e w1 ⟨rfl, rfl⟩)
        | (go_at_call 23; refine (E2.out _ HR.out).mono ?_; rintro e w1 ⟨rfl, rfl⟩))
      go_ret
      exact ⟨rfl, rfl⟩
  · have hw : wholeE L e = e := by unfold wholeE; rw [if_neg he]
    have hb : (e != 0) = true := by simpa using he
    rw [hw]
    clear hw he
    go_enter Try.func74, Try.ntmps74
    go_wp2_with (first
      | (go_at_call 21; refine (E1.out _ HR.out).mono ?_; rintro e w1 ⟨rfl, rfl⟩)
      | (go_at_call 23; refine (E2.out _ HR.out).mono ?_; rintro e w1 ⟨rfl, rfl⟩))
    go_ret
    exact ⟨rfl, rfl⟩
end Go.Proofs.Ytniblmpihnhglaa
