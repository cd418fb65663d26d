/- The statement MetaChanges, walked. -/
import Derived.Test.YtniblmpihnhglaaE20
namespace Go.Proofs.Ytniblmpihnhglaa
open Go.RowKit
set_option linter.unusedVariables false

theorem cTV_form (L : List UInt8) : ∃ a b c d : Nat, cTV L = .agg #[.int .u8 a, .int .u64 b, .int .u8 c, .int .u64 d] := by
  unfold cTV
  split
  · exact ⟨_, _, _, _, rfl⟩
  · exact ⟨0, 0, 0, 0, rfl⟩
/-- Four cells at a block, of whatever struct of this shape. -/
def C4C (b : Nat) (T : TypeId) (k n op y : Nat) (w : World) : Prop := w.heap[b]? = some (.cells #[.int .u8 k, .int .u64 n, .int .u8 op, .int .u64 y] T (0, 0))
theorem C4C.bl {b : Nat} {T : TypeId} {k n op y : Nat} {w w' : World} (h : C4C b T k n op y w) (hb : Bl w w') : C4C b T k n op y w' := (hb.block _ (Array.getElem?_eq_some_iff.1 h).1).trans h
theorem c4c_new (T : TypeId) (k n op y : Nat) (w : World) : C4C w.heap.size T k n op y (w.alloc (C4 k n op y T)) := heap_alloc_new _ _

set_option maxRecDepth 100000 in
set_option maxHeartbeats 1600000 in
theorem metaChanges_on (c : Ch) (L : List UInt8) (w : World) (hc : c.ok) : Calls Try.prog 8 #[chW c, .string (strL L)] w fun e w' => e = .returned (.bool true) ∧ Bl w w' := by
  have hsz := strL_size L
  have K0 := Lib.hid (cc_new c w)
  have N0 : Hid (Bl w (w.alloc (cO73 c))) := Lib.hid ((Bl.refl w).alloc _)
  by_cases hl : 1000 < L.length
  · have hd : decide ((1000 : Int) < (L.length : Int)) = true := decide_eq_true (by omega)
    unfold chW
    clear hl
    go_enter Try.func8, Try.ntmps8
    go_wp2_with (go_at_call 39; refine (mawake_any _).mono ?_; rintro e w1 ⟨rfl, h⟩; have B1 := Lib.hid h; clear h)
    go_ret
    exact ⟨rfl, N0.out.trans B1.out⟩
  have hd : decide ((1000 : Int) < (L.length : Int)) = false := decide_eq_false (by omega)
  have PC := Lib.hid (fun w => cput_any c.k c.n c.op c.y w hc.1 hc.2.1 hc.2.2.1 hc.2.2.2)
  have RP := Lib.hid (fun w => rcput_any c.k c.n c.op c.y w hc.1 hc.2.1 hc.2.2.1 hc.2.2.2)
  have TK := Lib.hid (fun w => ctake_any L w (by omega))
  have RT := Lib.hid (fun w => rctake_any L w (by omega))
  unfold CPutP at PC RP
  unfold CTakeP at TK RT
  obtain ⟨k, n, op, y, hV⟩ := cTV_form L
  rw [hV] at TK RT
  generalize strL (if mayC c.k c.n c.op c.y = true then changeL c.k c.n c.op c.y else []) = S at PC RP
  generalize cE c.k c.n c.op c.y = E at PC RP
  generalize cTE L = F at TK RT
  unfold chW
  clear hl hc hV
  go_enter Try.func8, Try.ntmps8
  go_wp2_with (first
    | (go_at_call 44; refine (RT.out _).mono ?_; rintro e w6 ⟨rfl, h⟩; have B6 := Lib.hid h; clear h)
    | (go_at_call 43; refine (TK.out _).mono ?_; rintro e w5 ⟨rfl, h⟩; have B5 := Lib.hid h; clear h)
    | (go_at_call 41; refine (RP.out _).mono ?_; rintro e w4 ⟨rfl, h⟩; have B4 := Lib.hid h; clear h)
    | (go_at_call 42; refine (theirs_any _ _ _ _ _).mono ?_; rintro e w3 ⟨rfl, h⟩; have B3 := Lib.hid h; clear h)
    | (go_at_call 40; refine (PC.out _).mono ?_; rintro e w2 ⟨rfl, h⟩; have B2 := Lib.hid h; obtain ⟨c0, c1, c2, c3, _, _, _, _⟩ := four_cells (K0.out.bl h); clear h))
  have K1 : Hid (C4C w5.heap.size 73 k n op y (w6.alloc (C4 k n op y 77))) := Lib.hid (((c4c_new 73 k n op y w5).bl B6.out).bl ((Bl.refl _).alloc _))
  have K2 := Lib.hid (c4c_new 77 k n op y w6)
  have N1 : Hid (Bl w (w6.alloc (C4 k n op y 77))) := Lib.hid (((((((N0.out.trans B2.out).trans B3.out).trans B4.out).trans B5.out).alloc _).trans B6.out).alloc _)
  clear c0 c1 c2 c3
  generalize hV : w6.alloc (.cells #[.int .u8 k, .int .u64 n, .int .u8 op, .int .u64 y] 77) = V at K1 K2 N1 ⊢
  have KS : Hid (∀ w', Bl V w' → (((w'.cell? ⟨w5.heap.size, 0, none⟩ = some (.int .u8 k) ∧ w'.cell? ⟨w5.heap.size, 1, none⟩ = some (.int .u64 n) ∧ w'.cell? ⟨w5.heap.size, 2, none⟩ = some (.int .u8 op) ∧ w'.cell? ⟨w5.heap.size, 3, none⟩ = some (.int .u64 y)) ∧
  (w'.cell? ⟨w6.heap.size, 0, none⟩ = some (.int .u8 k) ∧ w'.cell? ⟨w6.heap.size, 1, none⟩ = some (.int .u64 n) ∧ w'.cell? ⟨w6.heap.size, 2, none⟩ = some (.int .u8 op) ∧ w'.cell? ⟨w6.heap.size, 3, none⟩ = some (.int .u64 y))) ∧ Bl V w')) := Lib.hid (fun w' hb => by
    obtain ⟨a0, a1, a2, a3, _⟩ := four_cells (K1.out.bl hb)
    obtain ⟨b0, b1, b2, b3, _⟩ := four_cells (K2.out.bl hb)
    exact ⟨⟨⟨a0, a1, a2, a3⟩, b0, b1, b2, b3⟩, hb⟩)
  clear hV
  go_region_held_law (fun w' => ((w'.cell? ⟨w5.heap.size, 0, none⟩ = some (.int .u8 k) ∧ w'.cell? ⟨w5.heap.size, 1, none⟩ = some (.int .u64 n) ∧ w'.cell? ⟨w5.heap.size, 2, none⟩ = some (.int .u8 op) ∧ w'.cell? ⟨w5.heap.size, 3, none⟩ = some (.int .u64 y)) ∧
  (w'.cell? ⟨w6.heap.size, 0, none⟩ = some (.int .u8 k) ∧ w'.cell? ⟨w6.heap.size, 1, none⟩ = some (.int .u64 n) ∧ w'.cell? ⟨w6.heap.size, 2, none⟩ = some (.int .u8 op) ∧ w'.cell? ⟨w6.heap.size, 3, none⟩ = some (.int .u64 y))) ∧ Bl V w')
    (first
      | assumption
      | exact KS.out _ (Bl.refl V).drew
      | exact KS.out _ (Bl.trans (And.right (by assumption)) (by assumption)))
    (first
      | (go_at_call 39; refine (mawake_any _).mono ?_; rintro e w' ⟨rfl, hb⟩)
      | (go_at_call 42; refine (theirs_any _ _ _ _ _).mono ?_; rintro e w' ⟨rfl, hb⟩))
  all_goals go_wp2_with fail
  all_goals go_ret
  all_goals exact ⟨rfl, N1.out.trans (And.right (by assumption))⟩
theorem metaChanges_walk (v0 : Value) (c : Ch) (h0 : ChangeArg v0 c) (s : ByteArray) (_ : s.size ≤ maxLen) (w : World) : Calls Try.prog 8 #[v0, .string s] w fun e w' => e = .returned (.bool true) ∧ Bl w w' := by
  obtain ⟨rfl, hc⟩ := h0
  exact metaChanges_on c s.data.toList w hc
end Go.Proofs.Ytniblmpihnhglaa
