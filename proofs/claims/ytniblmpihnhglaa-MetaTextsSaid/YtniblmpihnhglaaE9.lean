/- Walks of layer 7: PutChange. -/
import Derived.Test.YtniblmpihnhglaaE4
import Derived.Test.YtniblmpihnhglaaE6
namespace Go.Proofs.Ytniblmpihnhglaa
open Go.RowKit
set_option linter.unusedVariables false

/-- A change's bytes. -/
def changeL (k n op y : Nat) : List UInt8 := if k = 3 then beB 3 1 ++ (beB op 1 ++ beB y 8) else if k = 4 then beB 4 1 ++ beB n 8 else beB k 1 ++ beB n 4
def cE (k n op y : Nat) : Int := if mayC k n op y then 0 else 4
def CPutP (k n op y : Nat) (w : World) (x : Ending) (w' : World) : Prop :=
  x = .returned (.tuple #[.string (strL (if mayC k n op y then changeL k n op y else [])), .int .i64 (cE k n op y)]) ∧ Bl w w'
abbrev C73 (k n op y : Nat) : Obj := .cells #[.int .u8 k, .int .u64 n, .int .u8 op, .int .u64 y] 73
abbrev W29 : Obj := .cells #[.slice none 0 0, .int .i64 0] 29
theorem c73_keep {k n op y : Nat} {w w1 : World} (h : Bl (w.alloc (C73 k n op y)) w1) : w1.heap[w.heap.size]? = some (.cells #[.int .u8 k, .int .u64 n, .int .u8 op, .int .u64 y] 73 (0, 0)) ∧ w.heap.size < w1.heap.size := by
  have hlt : w.heap.size < (w.alloc (C73 k n op y)).heap.size := by show _ < (w.heap.push _).size; rw [Array.size_push]; omega
  exact ⟨(h.block _ hlt).trans (heap_alloc_new _ _), Nat.lt_of_lt_of_le hlt h.size⟩

set_option maxRecDepth 100000 in
set_option maxHeartbeats 1600000 in
theorem cput_no (k n op y : Nat) (w : World) (hM : mayC k n op y = false) :
    Calls Try.prog 40 #[.agg #[.int .u8 k, .int .u64 n, .int .u8 op, .int .u64 y]] w fun x w' => x = .returned (.tuple #[.string (strL []), .int .i64 4]) ∧ Bl w w' := by
  have CH := Lib.hid (fun w => may_any k n op y w)
  unfold MayP at CH
  rw [hM] at CH
  clear hM
  go_enter Try.func40, Try.ntmps40
  go_wp2_with (go_at_call 71; refine (CH.out _).mono ?_; rintro e w1 ⟨rfl, h⟩; have B1 := Lib.hid h; clear h)
  go_ret2
  exact ⟨rfl, ((Bl.refl w).alloc _).trans B1.out⟩

set_option maxRecDepth 100000 in
set_option maxHeartbeats 1600000 in
theorem cput_size (k n op y : Nat) (w : World) (hk : k = 1 ∨ k = 2) (hn : n ≤ 2048) (hM : mayC k n op y = true) :
    Calls Try.prog 40 #[.agg #[.int .u8 k, .int .u64 n, .int .u8 op, .int .u64 y]] w fun x w' => x = .returned (.tuple #[.string (strL (beB k 1 ++ beB n 4)), .int .i64 0]) ∧ Bl w w' := by
  have CH := Lib.hid (fun w => may_any k n op y w)
  unfold MayP at CH
  rw [hM] at CH
  clear hM
  have hu : IntKind.u32.wrap (n : Int) = n := by rw [IntKind.wrap_u32]; omega
  have HK : Hid (k < 256) := Lib.hid (by show k < 256; omega)
  have HN : Hid (n < 4294967296) := Lib.hid (by show n < 4294967296; omega)
  have A0 : Hid (Bl w (w.alloc (C73 k n op y))) := Lib.hid ((Bl.refl w).alloc _)
  clear hn
  rcases hk with rfl | rfl
  all_goals
    go_enter Try.func40, Try.ntmps40
    go_wp2_with (first
      | (go_at_call 17; refine (w_bytes _ _ _ _ W2.out.1).mono ?_; rintro e w7 ⟨rfl, rfl⟩)
      | (go_at_call 27; have := W1; refine (w_u32 _ _ _ n _ HN.out (by simp only [List.length_append, List.length_nil, beB_length]; decide) W1.out.1).mono ?_; rintro e w4 ⟨rfl, h⟩; have W2 := Lib.hid h; clear h)
      | (go_at_call 25; refine (w_u8 _ _ [] _ _ HK.out (by decide) W0.out).mono ?_; rintro e w3 ⟨rfl, h⟩; have W1 := Lib.hid h; have X1 := Lib.hid ((h.2.block w.heap.size (by have := Z.out; omega) (by have := Z.out; omega)).trans X0.out); obtain ⟨c0, c1, c2, c3, _, _, _, _⟩ := four_cells X1.out; clear h)
      | (go_at_call 71; refine (CH.out _).mono ?_; rintro e w1 ⟨rfl, h⟩; have B1 := Lib.hid h; have bx := c73_keep h; have Z := Lib.hid bx.2; have W0 := Lib.hid (wr_new w1); have X0 := Lib.hid ((Below.heap_alloc w1 W29 _ bx.2).trans bx.1); obtain ⟨d0, d1, d2, d3, _, _, _, _⟩ := four_cells X0.out; clear h bx))
    go_ret2
    refine ⟨rfl, ?_⟩
    have n0 : w.heap.size ≤ w1.heap.size := by have := Z.out; omega
    have a1 : Bl w w1 := A0.out.trans B1.out
    exact Below.trans (a1.alloc W29) (Below.trans (onlyB_below W1.out.2 n0 (by omega)) (onlyB_below W2.out.2 n0 (by omega)))

set_option maxRecDepth 100000 in
set_option maxHeartbeats 1600000 in
theorem cput_stamp (n op y : Nat) (w : World) (hn : n < 18446744073709551616) (hM : mayC 4 n op y = true) :
    Calls Try.prog 40 #[.agg #[.int .u8 4, .int .u64 n, .int .u8 op, .int .u64 y]] w fun x w' => x = .returned (.tuple #[.string (strL (beB 4 1 ++ beB n 8)), .int .i64 0]) ∧ Bl w w' := by
  have CH := Lib.hid (fun w => may_any 4 n op y w)
  unfold MayP at CH
  rw [hM] at CH
  clear hM
  have HN := Lib.hid hn
  have A0 : Hid (Bl w (w.alloc (C73 4 n op y))) := Lib.hid ((Bl.refl w).alloc _)
  clear hn
  go_enter Try.func40, Try.ntmps40
  go_wp2_with (first
    | (go_at_call 17; refine (w_bytes _ _ _ _ W2.out.1).mono ?_; rintro e w7 ⟨rfl, rfl⟩)
    | (go_at_call 34; have := W1; refine (w_u64 _ _ _ n _ HN.out (by simp only [List.length_append, List.length_nil, beB_length]; decide) W1.out.1).mono ?_; rintro e w4 ⟨rfl, h⟩; have W2 := Lib.hid h; clear h)
    | (go_at_call 25; refine (w_u8 _ _ [] 4 _ (by decide) (by decide) W0.out).mono ?_; rintro e w3 ⟨rfl, h⟩; have W1 := Lib.hid h; have X1 := Lib.hid ((h.2.block w.heap.size (by have := Z.out; omega) (by have := Z.out; omega)).trans X0.out); obtain ⟨c0, c1, c2, c3, _, _, _, _⟩ := four_cells X1.out; clear h)
    | (go_at_call 71; refine (CH.out _).mono ?_; rintro e w1 ⟨rfl, h⟩; have B1 := Lib.hid h; have bx := c73_keep h; have Z := Lib.hid bx.2; have W0 := Lib.hid (wr_new w1); have X0 := Lib.hid ((Below.heap_alloc w1 W29 _ bx.2).trans bx.1); obtain ⟨d0, d1, d2, d3, _, _, _, _⟩ := four_cells X0.out; clear h bx))
  go_ret2
  refine ⟨rfl, ?_⟩
  have n0 : w.heap.size ≤ w1.heap.size := by have := Z.out; omega
  have a1 : Bl w w1 := A0.out.trans B1.out
  exact Below.trans (a1.alloc W29) (Below.trans (onlyB_below W1.out.2 n0 (by omega)) (onlyB_below W2.out.2 n0 (by omega)))

set_option maxRecDepth 100000 in
set_option maxHeartbeats 1600000 in
theorem cput_mark (n op y : Nat) (w : World) (ho : op < 256) (hy : y < 18446744073709551616) (hM : mayC 3 n op y = true) :
    Calls Try.prog 40 #[.agg #[.int .u8 3, .int .u64 n, .int .u8 op, .int .u64 y]] w fun x w' => x = .returned (.tuple #[.string (strL (beB 3 1 ++ beB op 1 ++ beB y 8)), .int .i64 0]) ∧ Bl w w' := by
  have CH := Lib.hid (fun w => may_any 3 n op y w)
  unfold MayP at CH
  rw [hM] at CH
  clear hM
  have HO := Lib.hid ho
  have HY := Lib.hid hy
  have A0 : Hid (Bl w (w.alloc (C73 3 n op y))) := Lib.hid ((Bl.refl w).alloc _)
  clear ho hy
  go_enter Try.func40, Try.ntmps40
  go_wp2_with (first
    | (go_at_call 17; refine (w_bytes _ _ _ _ W3.out.1).mono ?_; rintro e w7 ⟨rfl, rfl⟩)
    | (go_at_call 34; refine (w_u64 _ _ _ y _ HY.out (by simp only [List.length_append, List.length_nil, beB_length]; decide) W2.out.1).mono ?_; rintro e w5 ⟨rfl, h⟩; have W3 := Lib.hid h; clear h)
    | (go_at_call 25; have := W1; refine (w_u8 _ _ _ op _ HO.out (by simp only [List.length_append, List.length_nil, beB_length]; decide) W1.out.1).mono ?_; rintro e w4 ⟨rfl, h⟩; have W2 := Lib.hid h; have X2 := Lib.hid ((h.2.block w.heap.size (by have := Z.out; omega) (by have := Z.out; omega)).trans X1.out); obtain ⟨g0, g1, g2, g3, _, _, _, _⟩ := four_cells X2.out; clear h)
    | (go_at_call 25; refine (w_u8 _ _ [] 3 _ (by decide) (by decide) W0.out).mono ?_; rintro e w3 ⟨rfl, h⟩; have W1 := Lib.hid h; have X1 := Lib.hid ((h.2.block w.heap.size (by have := Z.out; omega) (by have := Z.out; omega)).trans X0.out); obtain ⟨c0, c1, c2, c3, _, _, _, _⟩ := four_cells X1.out; clear h)
    | (go_at_call 71; refine (CH.out _).mono ?_; rintro e w1 ⟨rfl, h⟩; have B1 := Lib.hid h; have bx := c73_keep h; have Z := Lib.hid bx.2; have W0 := Lib.hid (wr_new w1); have X0 := Lib.hid ((Below.heap_alloc w1 W29 _ bx.2).trans bx.1); obtain ⟨d0, d1, d2, d3, _, _, _, _⟩ := four_cells X0.out; clear h bx))
  go_ret2
  refine ⟨rfl, ?_⟩
  have n0 : w.heap.size ≤ w1.heap.size := by have := Z.out; omega
  have a1 : Bl w w1 := A0.out.trans B1.out
  exact Below.trans (a1.alloc W29) (Below.trans (onlyB_below W1.out.2 n0 (by omega)) (Below.trans (onlyB_below W2.out.2 n0 (by omega)) (onlyB_below W3.out.2 n0 (by omega))))

theorem mayC_form {k n op y : Nat} (h : mayC k n op y = true) : ((k = 1 ∨ k = 2) ∧ n ≤ 2048) ∨ k = 4 ∨ k = 3 := by
  unfold mayC at h
  rw [decide_eq_true_eq] at h
  omega
theorem cput_any (k n op y : Nat) (w : World) (hk : k < 256) (hn : n < 18446744073709551616) (ho : op < 256) (hy : y < 18446744073709551616) :
    Calls Try.prog 40 #[.agg #[.int .u8 k, .int .u64 n, .int .u8 op, .int .u64 y]] w (CPutP k n op y w) := by
  unfold CPutP cE
  by_cases hM : mayC k n op y = true
  · rw [if_pos hM, if_pos hM]
    rcases mayC_form hM with ⟨h1, h2⟩ | rfl | rfl
    · have : changeL k n op y = beB k 1 ++ beB n 4 := by unfold changeL; rw [if_neg (by omega), if_neg (by omega)]
      rw [this]
      exact cput_size k n op y w h1 h2 hM
    · exact cput_stamp n op y w hn hM
    · have : changeL 3 n op y = beB 3 1 ++ beB op 1 ++ beB y 8 := by unfold changeL; rw [if_pos rfl, List.append_assoc]
      rw [this]
      exact cput_mark n op y w ho hy hM
  · rw [if_neg hM, if_neg hM]
    exact cput_no k n op y w (by simpa using hM)
end Go.Proofs.Ytniblmpihnhglaa
