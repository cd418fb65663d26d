/- Walks of layer 7: Put. -/
import Derived.Test.YtniblmpihnhglaaE2
namespace Go.Proofs.Ytniblmpihnhglaa
open Go.RowKit
set_option linter.unusedVariables false

/-- A meta's bytes. -/
def metaL (k s m t : Nat) : List UInt8 := beB k 1 ++ (beB s 4 ++ (beB m 8 ++ beB t 8))
def MPutP (k s m t : Nat) (w : World) (x : Ending) (w' : World) : Prop :=
  x = .returned (.tuple #[.string (strL (if mayM k s m then metaL k s m t else [])), .int .i64 (chk k s m)]) ∧ Bl w w'
set_option maxRecDepth 100000 in
set_option maxHeartbeats 1600000 in
theorem mput_any (k s m t : Nat) (w : World) (hk : k < 256) (hs : s < 4294967296) (hm : m < 18446744073709551616) (ht : t < 18446744073709551616) :
    Calls Try.prog 49 #[.agg #[.int .u8 k, .int .u32 s, .int .u64 m, .int .u64 t]] w (MPutP k s m t w) := by
  have CH := Lib.hid (fun w => check_any k s m t w)
  unfold MPutP
  by_cases hM : mayM k s m = true
  · have hc : chk k s m = 0 := by unfold chk; rw [if_pos hM]
    rw [if_pos hM, hc]
    unfold ChkP at CH
    rw [hc] at CH
    have HK := Lib.hid hk
    have HS := Lib.hid hs
    have HM := Lib.hid hm
    have HT := Lib.hid ht
    clear hM hc hk hs hm ht
    have BX : Hid (∀ w1, Bl (w.alloc (.cells #[.int .u8 k, .int .u32 s, .int .u64 m, .int .u64 t] 85)) w1 → w1.heap[w.heap.size]? = some (.cells #[.int .u8 k, .int .u32 s, .int .u64 m, .int .u64 t] 85 (0, 0)) ∧ w.heap.size < w1.heap.size) := Lib.hid (fun w1 hb => by
      have hlt : w.heap.size < (w.alloc (.cells #[.int .u8 k, .int .u32 s, .int .u64 m, .int .u64 t] 85)).heap.size := by show _ < (w.heap.push _).size; rw [Array.size_push]; omega
      exact ⟨(hb.block _ hlt).trans (heap_alloc_new _ _), Nat.lt_of_lt_of_le hlt hb.size⟩)
    have A0 : Hid (Bl w (w.alloc (.cells #[.int .u8 k, .int .u32 s, .int .u64 m, .int .u64 t] 85))) := Lib.hid ((Bl.refl w).alloc _)
    go_enter Try.func49, Try.ntmps49
    go_wp2_with (first
      | (go_at_call 17; refine (w_bytes _ _ _ _ W4.out.1).mono ?_; rintro e w7 ⟨rfl, rfl⟩)
      | (go_at_call 34; have := W3; refine (w_u64 _ _ _ t _ HT.out (by simp only [List.length_append, List.length_nil, beB_length]; decide) W3.out.1).mono ?_; rintro e w6 ⟨rfl, h⟩; have W4 := Lib.hid h; clear h)
      | (go_at_call 34; refine (w_u64 _ _ _ m _ HM.out (by simp only [List.length_append, List.length_nil, beB_length]; decide) W2.out.1).mono ?_; rintro e w5 ⟨rfl, h⟩; have W3 := Lib.hid h; have X3 := Lib.hid ((h.2.block w.heap.size (by have := Z.out; omega) (by have := Z.out; omega)).trans X2.out); have c3 : w5.cell? ⟨w.heap.size, 3, none⟩ = some (.int .u64 t) := by { rw [cell_of_row _ _ _ _ _ _ X3.out]; rfl }; clear h)
      | (go_at_call 27; refine (w_u32 _ _ _ s _ HS.out (by simp only [List.length_append, List.length_nil, beB_length]; decide) W1.out.1).mono ?_; rintro e w4 ⟨rfl, h⟩; have W2 := Lib.hid h; have X2 := Lib.hid ((h.2.block w.heap.size (by have := Z.out; omega) (by have := Z.out; omega)).trans X1.out); have c2 : w4.cell? ⟨w.heap.size, 2, none⟩ = some (.int .u64 m) := by { rw [cell_of_row _ _ _ _ _ _ X2.out]; rfl }; clear h)
      | (go_at_call 25; refine (w_u8 _ _ [] k _ HK.out (by decide) W0.out).mono ?_; rintro e w3 ⟨rfl, h⟩; have W1 := Lib.hid h; have X1 := Lib.hid ((h.2.block w.heap.size (by have := Z.out; omega) (by have := Z.out; omega)).trans X0.out); have c1 : w3.cell? ⟨w.heap.size, 1, none⟩ = some (.int .u32 s) := by { rw [cell_of_row _ _ _ _ _ _ X1.out]; rfl }; clear h)
      | (go_at_call 47; refine (CH.out _).mono ?_; rintro e w1 ⟨rfl, h⟩; have B1 := Lib.hid h; have bx := BX.out w1 h; have Z := Lib.hid bx.2; have W0 := Lib.hid (wr_new w1); have X0 : Hid ((w1.alloc (.cells #[.slice none 0 0, .int .i64 0] 29)).heap[w.heap.size]? = some (.cells #[.int .u8 k, .int .u32 s, .int .u64 m, .int .u64 t] 85 (0, 0))) := Lib.hid ((Below.heap_alloc _ _ _ bx.2).trans bx.1); have c0 : (w1.alloc (.cells #[.slice none 0 0, .int .i64 0] 29)).cell? ⟨w.heap.size, 0, none⟩ = some (.int .u8 k) := by { rw [cell_of_row _ _ _ _ _ _ X0.out]; rfl }; clear h bx))
    go_ret2
    have hL : [] ++ beB k 1 ++ beB s 4 ++ beB m 8 ++ beB t 8 = metaL k s m t := by simp [metaL, List.append_assoc]
    refine ⟨?_, ?_⟩
    · rw [← hL]
      rfl
    · have n0 : w.heap.size ≤ w1.heap.size := by have := Z.out; omega
      have a1 : Bl w w1 := A0.out.trans B1.out
      have a2 : Bl w (w1.alloc (.cells #[.slice none 0 0, .int .i64 0] 29)) := a1.alloc _
      exact Below.trans a2 (Below.trans (onlyB_below W1.out.2 n0 (by omega)) (Below.trans (onlyB_below W2.out.2 n0 (by omega)) (Below.trans (onlyB_below W3.out.2 n0 (by omega)) (onlyB_below W4.out.2 n0 (by omega)))))
  · have hc : chk k s m = 4 := by unfold chk; rw [if_neg hM]
    rw [if_neg hM, hc]
    unfold ChkP at CH
    rw [hc] at CH
    clear hM hc hk hs hm ht
    go_enter Try.func49, Try.ntmps49
    go_wp2_with (go_at_call 47; refine (CH.out _).mono ?_; rintro e w1 ⟨rfl, h⟩; have B1 := Lib.hid h; clear h)
    go_ret2
    exact ⟨rfl, ((Bl.refl w).alloc _).trans B1.out⟩
end Go.Proofs.Ytniblmpihnhglaa
