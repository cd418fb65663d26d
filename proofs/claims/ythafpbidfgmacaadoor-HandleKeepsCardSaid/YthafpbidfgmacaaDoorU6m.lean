/- HandleKeeps: every input. -/
import Derived.Test.YthafpbidfgmacaaDoorU4m
namespace Go.Proofs.YthafpbidfgmacaaDoor.Hd
open Go.RowKit Go.Proofs.YthafpbidfgmacaaDoor Go.Proofs.YthafpbidfgmacaaDoorW.PrintWords Go.Proofs.YthafpbidfgmacaaDoorW.PrintLast Go.Proofs.YthafpbidfgmacaaDoorW.PrintMore
set_option linter.unusedVariables false
set_option linter.unusedSimpArgs false
set_option maxRecDepth 100000 in
set_option maxHeartbeats 4000000 in
theorem keeps_no (v : Value) (n : Nat) (f : Nat → Act) (w : World) (ha : Acts w v n f) (hF : fewB n f = false) : Calls Tryd.prog 3 #[v] w fun e w' => e = .returned (.bool true) ∧ Below w.heap.size w w' := by
  have hf := Lib.hid (few_calls v n f w ha)
  rw [hF] at hf
  clear ha hF
  go_enter Tryd.func3, Tryd.ntmps3
  go_wp2_with (first | (go_at_call 12; refine hf.out.mono ?_; rintro e w' ⟨rfl, rfl⟩) | (go_at_call 13; refine (works_calls _).mono ?_; rintro e w2 ⟨rfl, hb⟩))
  go_ret
  exact ⟨rfl, hb⟩
set_option maxRecDepth 100000 in
set_option maxHeartbeats 8000000 in
theorem keeps_empty (A : Option Addr) (c : Nat) (f : Nat → Act) (w : World) : Calls Tryd.prog 3 #[.slice A 0 c] w fun e w' => e = .returned (.bool true) ∧ Below w.heap.size w w' := by
  have hf := Lib.hid (few_calls _ 0 f w (.inl ⟨rfl, A, c, rfl⟩))
  have hF : fewB 0 f = true := by simp [fewB]
  rw [hF] at hf
  have hn := Lib.hid (new_calls w)
  clear hF
  go_enter Tryd.func3, Tryd.ntmps3
  go_wp2_with (first | (go_at_call 12; refine hf.out.mono ?_; rintro e w' ⟨rfl, rfl⟩) | (go_at_call 14; refine hn.out.mono ?_; rintro e w1 ⟨rfl, hT, hb⟩; have HB := Lib.hid hb; clear hT hb))
  have HBw := Lib.hid (Below.trans HB.out (Below.mono (below_alloc (Below.refl w1.heap.size w1) (.cells #[.bool false, .string ⟨#[]⟩, .string ⟨#[]⟩, .bool false, .string ⟨#[]⟩, .string ⟨#[]⟩, .bool false, .string ⟨#[]⟩, .string ⟨#[]⟩, .bool false, .string ⟨#[]⟩, .string ⟨#[]⟩, .bool false, .string ⟨#[]⟩, .string ⟨#[]⟩, .bool false, .string ⟨#[]⟩, .string ⟨#[]⟩, .bool false, .string ⟨#[]⟩, .string ⟨#[]⟩, .bool false, .string ⟨#[]⟩, .string ⟨#[]⟩] 29)) HB.out.size))
  clear HB
  go_loopw [5] (fun i wr => i = .int .i64 0 ∧ Hid (Below w.heap.size w wr)) (fun i _ => 0)
  case atStart => exact ⟨rfl, HBw⟩
  case round =>
    clear HBw
    obtain ⟨rfl, HW⟩ := hrel
    go_wp2_with (go_at_call 13; refine (works_calls _).mono ?_; rintro e w2 ⟨rfl, hb⟩)
    go_ret
    exact ⟨rfl, Below.trans HW.out (hb.mono HW.out.size)⟩
theorem keeps_walk (v : Value) (n : Nat) (f : Nat → Act) (w : World) (ha : Acts w v n f) : Calls Tryd.prog 3 #[v] w fun e w' => e = .returned (.bool true) ∧ Below w.heap.size w w' := by
  cases hF : fewB n f with
  | false => exact keeps_no v n f w ha hF
  | true =>
    rcases ha with ⟨rfl, A, c, rfl⟩ | ⟨b, o, c, rfl, hc, hm, hat⟩
    · exact keeps_empty A c f w
    · exact keeps_some b o n c f w hc hm hat hF
end Go.Proofs.YthafpbidfgmacaaDoor.Hd
