/- Walks of codec.Reader's Text, Err, Rest, New; and of the reference's reader. -/
import Derived.Test.YtniblmpihnhglaaD2
namespace Go.Proofs.Ytniblmpihnhglaa
open Go.RowKit
set_option linter.unusedVariables false

/-- Text: its length, then so many bytes. -/
def txtN (L : List UInt8) (e : Int) : Nat := beN (fixO L e 2)
def txtO (L : List UInt8) (e : Int) : List UInt8 := fixO (fixL L e 2) (fixE L e 2) (txtN L e)
def txtL (L : List UInt8) (e : Int) : List UInt8 := fixL (fixL L e 2) (fixE L e 2) (txtN L e)
def txtE (L : List UInt8) (e : Int) : Int := fixE (fixL L e 2) (fixE L e 2) (txtN L e)
def TxtP (p : Nat) (L : List UInt8) (e : Int) (w : World) (x : Ending) (w' : World) : Prop :=
  x = .returned (.string (strL (txtO L e))) ∧ Rd p (txtL L e) (txtE L e) w' ∧ Only p w w'
theorem fixL_length (L : List UInt8) (e n : Int) : (fixL L e n).length ≤ L.length := by
  unfold fixL
  split
  · split
    · rw [List.length_drop]; omega
    · simp
  · omega
theorem txtN_lt (L : List UInt8) (e : Int) : txtN L e < 65536 := by
  have h := beN_lt (fixO L e 2)
  have h2 : 256 ^ (fixO L e 2).length ≤ 256 ^ 2 := Nat.pow_le_pow_right (by omega) (fixO_length L e 2 2 (by omega))
  have h3 : (256 : Nat) ^ 2 = 65536 := by decide
  unfold txtN
  omega

set_option maxHeartbeats 400000 in
theorem r_text (p : Nat) (L : List UInt8) (e : Int) (w : World) (hl : L.length ≤ 140737488351232) (hr : Rd p L e w) :
    Calls Try.prog 32 #[.pointer (some ⟨p, 0, none⟩)] w fun x w' => TxtP p L e w x w' := by
  have F1 := Lib.hid (r_u16 p L e w hl hr)
  have hl2 : (fixL L e 2).length ≤ 140737488351232 := Nat.le_trans (fixL_length L e 2) hl
  have hn : beN (fixO L e 2) < 65536 := txtN_lt L e
  have F2 : Hid (∀ w, Rd p (fixL L e 2) (fixE L e 2) w → Calls Try.prog 33 #[.pointer (some ⟨p, 0, none⟩), .int .i64 (beN (fixO L e 2) : Nat)] w fun x w' => FixP p (fixL L e 2) (fixE L e 2) (beN (fixO L e 2) : Nat) w x w') := Lib.hid (fun w hr => fixed_any p _ _ _ w hl2 hr)
  clear hr hl hl2
  have hG : Hid (∀ x w1 w2, FixP p (fixL L e 2) (fixE L e 2) (beN (fixO L e 2) : Nat) w1 x w2 → Only p w w1 → TxtP p L e w x w2) := fun x w1 w2 h ho => ⟨h.1, h.2.1, only_trans ho h.2.2⟩
  unfold GetP at F1
  generalize beN (fixO L e 2) = n at *
  go_enter Try.func32, Try.ntmps32
  go_wp2_with (go_at_call 30; refine F1.out.mono ?_; rintro e w1 ⟨rfl, hrd, hon⟩; have HRD := Lib.hid hrd; have HON := Lib.hid hon; clear hrd hon)
  refine (F2.out _ HRD.out).mono ?_
  rintro x w2 h2
  have hg := Lib.hid (hG.out _ _ _ h2 HON.out)
  obtain ⟨rfl, h3, h4⟩ := h2
  clear h3 h4 hG
  go_wp2_with fail
  go_ret
  exact hg.out

set_option maxHeartbeats 400000 in
theorem r_err (p : Nat) (L : List UInt8) (e : Int) (w : World) (hr : Rd p L e w) : Calls Try.prog 21 #[.pointer (some ⟨p, 0, none⟩)] w fun x w' => x = .returned (.int .i64 e) ∧ w = w' := by
  have c1 := hr.c1
  go_enter Try.func21, Try.ntmps21
  go_wp2_with fail
  go_ret
  exact ⟨rfl, rfl⟩
set_option maxHeartbeats 400000 in
theorem r_rest (p : Nat) (L : List UInt8) (e : Int) (w : World) (hr : Rd p L e w) : Calls Try.prog 23 #[.pointer (some ⟨p, 0, none⟩)] w fun x w' => x = .returned (.string (strL L)) ∧ w = w' := by
  have c0 := hr.c0
  go_enter Try.func23, Try.ntmps23
  go_wp2_with fail
  go_ret
  exact ⟨rfl, rfl⟩
def NewP (s : ByteArray) (w : World) (x : Ending) (w' : World) : Prop := x = .returned (.pointer (some ⟨w.heap.size, 0, none⟩)) ∧ w' = w.alloc (.cells #[.string s, .int .i64 0] 106)
set_option maxHeartbeats 400000 in
theorem r_new (s : ByteArray) (w : World) : Calls Try.prog 19 #[.string s] w fun x w' => NewP s w x w' := by
  go_enter Try.func19, Try.ntmps19
  go_wp2_with fail
  go_ret
  exact ⟨rfl, rfl⟩
theorem rd_new (L : List UInt8) (w : World) : Rd w.heap.size L 0 (w.alloc (.cells #[.string (strL L), .int .i64 0] 106)) := heap_alloc_new _ _

/-- The reference's reader at block q: its text, and what is left of it. -/
def Rr (q : Nat) (S L : List UInt8) (e : Int) (w : World) : Prop :=
  ∃ at_ : Nat, w.heap[q]? = some (.cells #[.string (strL S), .int .i64 at_, .bool (e != 0)] 46 (0, 0)) ∧ at_ ≤ S.length ∧ ((e = 0 ∧ L = S.drop at_) ∨ (e = 10 ∧ L = []))
def RFixP (q : Nat) (S L : List UInt8) (e n : Int) (w : World) (x : Ending) (w' : World) : Prop :=
  x = .returned (.string (strL (fixO L e n))) ∧ Rr q S (fixL L e n) (fixE L e n) w' ∧ Only q w w'
end Go.Proofs.Ytniblmpihnhglaa
