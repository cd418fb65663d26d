/- Walks of layer 7: TakeChange. -/
import Derived.Test.YtniblmpihnhglaaE9
import Derived.Test.YtniblmpihnhglaaE7
namespace Go.Proofs.Ytniblmpihnhglaa
open Go.RowKit
set_option linter.unusedVariables false

/-- A change as a value. -/
def chV (k n op y : Nat) : Value := .agg #[.int .u8 k, .int .u64 n, .int .u8 op, .int .u64 y]
/-- What TakeChange makes of a text: how long such a text is, its fields. -/
def cK (L : List UInt8) : Nat := beN (L.take 1)
def cLen (k : Nat) : Nat := if k = 3 then 10 else if k = 4 then 9 else 5
def cN (L : List UInt8) : Nat := if cK L = 3 then 0 else if cK L = 4 then beN ((L.drop 1).take 8) else beN ((L.drop 1).take 4)
def cO (L : List UInt8) : Nat := if cK L = 3 then beN ((L.drop 1).take 1) else 0
def cY (L : List UInt8) : Nat := if cK L = 3 then beN ((L.drop 2).take 8) else 0
def cKind (L : List UInt8) : Bool := decide (1 ≤ cK L ∧ cK L ≤ 4)
def cOK (L : List UInt8) : Bool := !L.isEmpty && cKind L && decide (L.length = cLen (cK L)) && mayC (cK L) (cN L) (cO L) (cY L)
def cTE (L : List UInt8) : Int := if L = [] then 10 else if cKind L = true then (if L.length < cLen (cK L) then 10 else if cOK L then 0 else 4) else 4
def cTV (L : List UInt8) : Value := if cOK L then chV (cK L) (cN L) (cO L) (cY L) else chV 0 0 0 0
def CTakeP (L : List UInt8) (w : World) (x : Ending) (w' : World) : Prop := x = .returned (.tuple #[cTV L, .int .i64 (cTE L)]) ∧ Bl w w'

abbrev Z73 : Obj := .cells #[.int .u8 0, .int .u64 0, .int .u8 0, .int .u64 0] 73
abbrev K73 (k : Nat) : Obj := .cells #[.int .u8 k, .int .u64 0, .int .u8 0, .int .u64 0] 73
abbrev tcW (L : List UInt8) (w : World) : World := (w.alloc Z73).alloc (.cells #[.string (strL L), .int .i64 0] 106)
theorem tcW_size (L : List UInt8) (w : World) : (tcW L w).heap.size = w.heap.size + 2 := by
  show ((w.heap.push _).push _).size = _
  rw [Array.size_push, Array.size_push]
theorem tc_rd (L : List UInt8) (w : World) : Rd (w.heap.size + 1) L 0 (tcW L w) := by
  have := rd_new L (w.alloc Z73)
  rwa [show (w.alloc Z73).heap.size = w.heap.size + 1 from Array.size_push ..] at this
/-- The result's block, as it was made. -/
theorem tc_zero {L : List UInt8} {w w2 : World} (h : Only (w.heap.size + 1) (tcW L w) w2) : w2.heap[w.heap.size]? = some (.cells #[.int .u8 0, .int .u64 0, .int .u8 0, .int .u64 0] 73 (0, 0)) := by
  have hz := tcW_size L w
  rw [h.block _ (by omega) (by intro e; have := Option.some.inj e; omega)]
  rw [Below.heap_alloc _ _ _ (by show _ < (w.heap.push _).size; rw [Array.size_push]; omega)]
  exact heap_alloc_new _ _
theorem tc_below {L : List UInt8} {w w2 : World} (h : Only (w.heap.size + 1) (tcW L w) w2) : Bl w w2 :=
  Below.trans (((Bl.refl w).alloc _).alloc _) (only_below h (by omega) (by rw [tcW_size]; omega))

set_option maxRecDepth 100000 in
set_option maxHeartbeats 1600000 in
theorem ctake_none (w : World) : Calls Try.prog 43 #[.string (strL [])] w fun x w' => x = .returned (.tuple #[chV 0 0 0 0, .int .i64 10]) ∧ Bl w w' := by
  have hnil : (strL []).toList = [] := by kernel_rfl
  go_enter Try.func43, Try.ntmps43
  go_wp2_with fail
  refine bodyPost_ret (v := .tuple #[.agg #[.int .u8 0, .int .u64 0, .int .u8 0, .int .u64 0], .int .i64 10]) (by simp [results, Try.results43, go_sem, *]) rfl ⟨rfl, ?_⟩
  exact (Bl.refl w).alloc _

theorem strL_ne {L : List UInt8} (h : L ≠ []) : (strL L).toList.isEmpty = false := by
  rw [ByteArray.toList_eq]
  show L.isEmpty = false
  cases L with
  | nil => exact absurd rfl h
  | cons a t => rfl

set_option maxRecDepth 100000 in
set_option maxHeartbeats 1600000 in
theorem ctake_kind (L L1 : List UInt8) (k : Nat) (e1 : Int) (w : World) (hL : L ≠ []) (hl : L.length ≤ 10000) (hk : beN (fixO L 0 (1 : Nat)) = k) (h1 : fixL L 0 (1 : Nat) = L1) (f1 : fixE L 0 (1 : Nat) = e1) (hne : k ≠ 1 ∧ k ≠ 2 ∧ k ≠ 3 ∧ k ≠ 4) :
    Calls Try.prog 43 #[.string (strL L)] w fun x w' => x = .returned (.tuple #[chV 0 0 0 0, .int .i64 4]) ∧ Bl w w' := by
  have hnil := strL_ne hL
  have R1 := Lib.hid (fun w' h => r_u8 (w.heap.size + 1) L 0 w' (by omega) h)
  unfold GetP at R1
  rw [hk, h1, f1] at R1
  have RD0 := Lib.hid (tc_rd L w)
  have g1 : ((k : Int) == 1) = false := by rw [beq_eq_false_iff_ne]; omega
  have g2 : ((k : Int) == 2) = false := by rw [beq_eq_false_iff_ne]; omega
  have g3 : ((k : Int) == 3) = false := by rw [beq_eq_false_iff_ne]; omega
  have g4 : ((k : Int) == 4) = false := by rw [beq_eq_false_iff_ne]; omega
  clear hL hl hk h1 f1 hne
  go_enter Try.func43, Try.ntmps43
  go_wp2_with (first
    | (go_at_call 31; refine (R1.out _ RD0.out).mono ?_; rintro e w2 ⟨rfl, h⟩; have W1 := Lib.hid h; have X1 := Lib.hid ((Below.heap_alloc w2 (K73 k) _ (by have := (Array.getElem?_eq_some_iff.1 (tc_zero h.2)).1; exact this)).trans (tc_zero h.2)); obtain ⟨c0, c1, c2, c3, f0, f1, f2, f3⟩ := four_cells X1.out; clear h)
    | (go_at_call 19; refine (r_new _ _).mono ?_; rintro e w1 ⟨rfl, rfl⟩))
  refine bodyPost_ret (v := .tuple #[.agg #[.int .u8 0, .int .u64 0, .int .u8 0, .int .u64 0], .int .i64 4]) (by simp [results, Try.results43, go_sem, *]) rfl ⟨rfl, ?_⟩
  have B1 := (tc_below W1.out.2).alloc (K73 k)
  first | exact B1 | exact (((B1.setCell (Nat.le_refl _) _).setCell (Nat.le_refl _) _).setCell (Nat.le_refl _) _).setCell (Nat.le_refl _) _
end Go.Proofs.Ytniblmpihnhglaa
