import Derived.Test.YtniblmpihnhglaaD13
namespace Go.Proofs.Ytniblmpihnhglaa
open Go.RowKit
set_option linter.unusedVariables false

def bytesOf (b : Bool) (L : List UInt8) : List UInt8 := if b then [] else L
def errOf (b : Bool) : Int := if b then 3 else 0
theorem wb_bytes {B p q : Nat} {L : List UInt8} {b : Bool} {w : World} (h : WBoth B p q L b w) :
    Calls Try.prog 17 #[.pointer (some ⟨p, 0, none⟩)] w fun x w' => x = .returned (.tuple #[.string (strL (bytesOf b L)), .int .i64 (errOf b)]) ∧ Bl w w' := by
  obtain ⟨M, h1, h2, h3, h4, h5⟩ := h
  cases b
  · exact (w_bytes B p L w h1).mono fun x w' ⟨e, e2⟩ => ⟨e, by rw [← e2]; exact Bl.refl w⟩
  · exact (we_bytes B p L 3 w (by decide) h1).mono fun x w' ⟨e, n, e2⟩ => ⟨e, by rw [e2]; exact (Bl.refl w).drewN n⟩
theorem rb_bytes {B p q : Nat} {L : List UInt8} {b : Bool} {w : World} (h : WBoth B p q L b w) :
    Calls Try.prog 18 #[.pointer (some ⟨q, 0, none⟩)] w fun x w' => x = .returned (.tuple #[.string (strL (bytesOf b L)), .int .i64 (errOf b)]) ∧ w = w' := by
  obtain ⟨M, h1, h2, h3, h4, h5⟩ := h
  cases b
  · rw [h3 rfl] at h2
    exact rw_bytes q L w h2
  · exact rwe_bytes q M w h2
theorem wboth_new (w : World) : WBoth (w.heap.size + 2) w.heap.size (w.heap.size + 1) [] false ((w.alloc (.cells #[.slice none 0 0, .int .i64 0] 29)).alloc (.cells #[.string ⟨#[]⟩, .bool false] 32)) := by
  have hs : (w.alloc (.cells #[.slice none 0 0, .int .i64 0] 29)).heap.size = w.heap.size + 1 := Array.size_push _
  refine ⟨[], ⟨.slice none 0 0, ?_, World.ownsRow_nil _ _ _ _, by omega, ?_⟩, ?_, fun _ => rfl, by omega, by omega⟩
  · exact (Below.heap_alloc _ _ _ (by omega)).trans (heap_alloc_new _ _)
  · show _ ≤ ((w.alloc _).heap.push _).size
    rw [Array.size_push, hs]
    omega
  · have := rw_new (w.alloc (.cells #[.slice none 0 0, .int .i64 0] 29))
    rwa [hs] at this

set_option maxRecDepth 100000 in
set_option maxHeartbeats 1600000 in
theorem codecWrites_walk (v : Value) (l : List It) {w0 : World} (hv0 : Items w0 v l) (w : World) (e : w = w0 := by rfl) :
    Calls Try.prog 3 #[v] w fun x w' => x = .returned (.bool true) ∧ Bl w w' := by
  have hv : Items w v l := by rw [e]; exact hv0
  clear hv0 e
  have AW : Hid (∀ w, Calls Try.prog 15 #[] w fun x w' => x = .returned (.bool true) ∧ Bl w w') := Lib.hid awake_any
  have FEW := Lib.hid (few_any v l w hv)
  obtain ⟨va, vc, rfl⟩ := items_form hv
  have HV := Lib.hid hv
  have B0 := Lib.hid (wboth_new w)
  have K0 : Hid (Bl w ((w.alloc (.cells #[.slice none 0 0, .int .i64 0] 29)).alloc (.cells #[.string ⟨#[]⟩, .bool false] 32))) := Lib.hid (((Bl.refl w).alloc _).alloc _)
  have PUT : Hid (∀ (L : List UInt8) (b : Bool) (x : It) (w' : World), x.ok → x.few → L.length ≤ 100000000 → WBoth (w.heap.size + 2) w.heap.size (w.heap.size + 1) L b w' →
    Calls Try.prog 16 #[.pointer (some ⟨w.heap.size, 0, none⟩), .pointer (some ⟨w.heap.size + 1, 0, none⟩), .agg #[.int .u8 x.k, .int .u64 x.n, .string (strL x.s)]] w' (PutB (w.heap.size + 2) w.heap.size (w.heap.size + 1) L 70002 w')) :=
    Lib.hid (fun L b x w' hx hf hL h => put2_any _ _ _ x.k x.n x.s L b w' hx.2.1 (by unfold It.few at hf; omega) hL h)
  have WB := Lib.hid (fun (L : List UInt8) (b : Bool) (w' : World) (h : WBoth (w.heap.size + 2) w.heap.size (w.heap.size + 1) L b w') => wb_bytes h)
  have RB := Lib.hid (fun (L : List UInt8) (b : Bool) (w' : World) (h : WBoth (w.heap.size + 2) w.heap.size (w.heap.size + 1) L b w') => rb_bytes h)
  clear hv
  generalize hn : l.length = n at HV FEW ⊢
  have HNL := Lib.hid hn
  clear hn
  go_enter Try.func3, Try.ntmps3
  go_wp2_with (first
    | (go_at_call 14; refine FEW.out.mono ?_; rintro x w1 ⟨rfl, bb, rfl, hbb⟩; have HBB := Lib.hid hbb; clear hbb)
    | (go_at_call 15; refine (AW.out _).mono ?_; rintro e w1 ⟨rfl, h1⟩; have H1 := Lib.hid h1; clear h1))
  · go_ret
    exact ⟨rfl, H1.out⟩
  have hbt : bb = true := by
    have h0 : (!bb) = false := by assumption
    simpa using h0
  subst hbt
  obtain ⟨h60, hfew⟩ := HBB.out rfl
  have HF := Lib.hid hfew
  have hn60 : n ≤ 60 := by rw [← HNL.out]; exact h60
  clear hfew h60 HBB FEW
  simp only [Bool.not_true]
  go_loopw [5] (fun v5 wr => ∃ i : Nat, i ≤ n ∧ v5 = .int .i64 i ∧ Hid (∃ L b, L.length ≤ 70002 * i ∧ WBoth (w.heap.size + 2) w.heap.size (w.heap.size + 1) L b wr) ∧ Hid (Bl w wr)) (fun v _ => n - (intOf v).toNat)
  case atStart => exact ⟨0, by omega, rfl, ⟨[], false, by simp, B0.out⟩, K0⟩
  case round =>
    clear B0 K0
    obtain ⟨i, hi, rfl, hb, hk⟩ := hrel
    by_cases hlt : i < n
    · obtain ⟨x, hx⟩ : ∃ x, l[i]? = some x := ⟨_, List.getElem?_eq_getElem (by rw [HNL.out]; exact hlt)⟩
      have hit := HV.out
      rw [← HNL.out] at hit
      obtain ⟨a, rfl, c0, c1, c2⟩ := items_cells hit hk.out hx
      have hmem : x ∈ l := List.mem_of_getElem? hx
      have HX := Lib.hid (And.intro (HV.out.1 x hmem) (HF.out x hmem))
      obtain ⟨L, b, hL, hB⟩ := hb.out
      have HB := Lib.hid hB
      have HL := Lib.hid hL
      clear hb hB hL hit hx hmem
      go_wp2_with (first
        | (go_at_call 16; refine (PUT.out L b x _ HX.out.1 HX.out.2 (by have := HL.out; omega) HB.out).mono ?_; rintro x w2 ⟨rfl, ⟨L2, b2, h4, h5⟩, h6⟩; have HL2 := Lib.hid h4; have HB2 := Lib.hid h5; have O2 := Lib.hid h6; clear h4 h5 h6)
        | (go_at_call 17; refine (WB.out L2 b2 _ HB2.out).mono ?_; rintro x w3 ⟨rfl, h7⟩; have B3 := Lib.hid h7; have HB3 := Lib.hid (wboth_bl HB2.out h7); clear h7)
        | (go_at_call 18; refine (RB.out L2 b2 _ HB3.out).mono ?_; rintro x w4 ⟨rfl, rfl⟩))
      go_roundw
      case rel => exact ⟨i + 1, by omega, by go_num, ⟨L2, b2, by have := HL.out; have := HL2.out; omega, HB3.out⟩, Below.trans (Below.trans hk.out (onlyB2_below O2.out (Nat.le_refl _) (Nat.le_succ _) (by omega))) (Below.mono B3.out (Nat.le_trans hk.out.size O2.out.size))⟩
      case measure => simp only [intOf]; omega
    · have hin : i = n := by omega
      subst hin
      go_wp2_with (go_at_call 15; refine (AW.out _).mono ?_; rintro e w1 ⟨rfl, h1⟩; have H1 := Lib.hid h1; clear h1)
      go_ret
      exact ⟨rfl, hk.out.trans H1.out⟩
end Go.Proofs.Ytniblmpihnhglaa
