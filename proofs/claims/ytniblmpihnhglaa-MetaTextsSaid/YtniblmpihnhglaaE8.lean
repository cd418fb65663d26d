/- Walks of layer 7: Take of the reference. -/
import Derived.Test.YtniblmpihnhglaaE7
import Derived.Deep.DeepCutAuto
namespace Go.Proofs.Ytniblmpihnhglaa
open Go.RowKit
set_option linter.unusedVariables false

abbrev Z85 : Obj := .cells #[.int .u8 0, .int .u32 0, .int .u64 0, .int .u64 0] 85
abbrev M85 (K S M T : Nat) : Obj := .cells #[.int .u8 K, .int .u32 S, .int .u64 M, .int .u64 T] 85
theorem ref_blocks {w w1 : World} {K S M T : Nat} (h : Bl ((w.alloc Z85).alloc (M85 K S M T)).drew w1) :
    w1.heap[w.heap.size]? = some (.cells #[.int .u8 0, .int .u32 0, .int .u64 0, .int .u64 0] 85 (0, 0)) ∧ w1.heap[w.heap.size + 1]? = some (.cells #[.int .u8 K, .int .u32 S, .int .u64 M, .int .u64 T] 85 (0, 0)) := by
  have z1 : (w.alloc Z85).heap.size = w.heap.size + 1 := Array.size_push ..
  have z2 : ((w.alloc Z85).alloc (M85 K S M T)).drew.heap.size = w.heap.size + 2 := by show (((w.heap.push _).push _)).size = _; rw [Array.size_push, Array.size_push]
  refine ⟨?_, ?_⟩
  · rw [h.block _ (by omega)]
    show ((w.alloc Z85).alloc (M85 K S M T)).heap[w.heap.size]? = _
    rw [Below.heap_alloc _ _ _ (by omega)]
    exact heap_alloc_new _ _
  · rw [h.block _ (by omega)]
    show ((w.alloc Z85).alloc (M85 K S M T)).heap[w.heap.size + 1]? = _
    rw [← z1]
    exact heap_alloc_new _ _
set_option maxRecDepth 100000 in
set_option maxHeartbeats 4000000 in
theorem rtake_on (L : List UInt8) (w : World) (K S M T : Nat) (hl : L.length ≤ 10000) (h : 21 ≤ L.length) (hK : tK L = K) (hS : tS L = S) (hM : tM L = M) (hT : tT L = T) (V : Value) (E : Int) (hV : (if (decide (L.length = 21) && mayM K S M) = true then metaV K S M T else metaV 0 0 0 0) = V) (hE : (if (decide (L.length = 21) && mayM K S M) = true then (0 : Int) else 4) = E) :
    Calls Try.prog 52 #[.string (strL L)] w fun x w' => x = .returned (.tuple #[V, .int .i64 E]) ∧ Bl w w' := by
  have HV := Lib.hid hV
  have HE := Lib.hid hE
  clear hV hE
  have hsz := strL_size L
  obtain ⟨y, hy⟩ : ∃ y, L[0]? = some y := ⟨_, List.getElem?_eq_getElem (by omega)⟩
  have hky : (y.toNat : Int) = K := by
    rw [← hK]; unfold tK
    cases L with
    | nil => simp at h
    | cons z t => simp at hy; subst hy; simp [beN]
  have hget : ∀ h, (strL L)[0]'h = y := fun h => strL_get L 0 y hy h
  have hS1 : S < 4294967296 := by rw [← hS]; exact beN_take_lt (L.drop 1) 4 4 (by omega)
  have hM1 : M < 18446744073709551616 := by rw [← hM]; exact beN_take_lt (L.drop 5) 8 8 (by omega)
  have hu : IntKind.u32.wrap (S : Int) = S := by rw [IntKind.wrap_u32]; omega
  have N1 : Hid (∀ w, Calls Try.prog 75 #[.string (strL L), .int .i64 1, .int .i64 5] w fun x w' => x = .returned (.int .u64 (S : Int)) ∧ w = w') := Lib.hid (fun w => by
    have := rnum_any L _ 1 5 w rfl (by omega) (by omega) (by omega) hl
    rw [show beN ((L.drop 1).take (5 - 1)) = S from hS] at this; exact this)
  have N2 : Hid (∀ w, Calls Try.prog 75 #[.string (strL L), .int .i64 5, .int .i64 13] w fun x w' => x = .returned (.int .u64 (M : Int)) ∧ w = w') := Lib.hid (fun w => by
    have := rnum_any L _ 5 13 w rfl (by omega) (by omega) (by omega) hl
    rw [show beN ((L.drop 5).take (13 - 5)) = M from hM] at this; exact this)
  have N3 : Hid (∀ w, Calls Try.prog 75 #[.string (strL L), .int .i64 13, .int .i64 21] w fun x w' => x = .returned (.int .u64 (T : Int)) ∧ w = w') := Lib.hid (fun w => by
    have := rnum_any L _ 13 21 w rfl (by omega) (by omega) (by omega) hl
    rw [show beN ((L.drop 13).take (21 - 13)) = T from hT] at this; exact this)
  have RM := Lib.hid (fun w' => rmay_any K S M T w' (by omega) (by omega))
  have hnl : ¬ L.length < 21 := by omega
  have i0 : (0 : Int) < (L.length : Int) := by omega
  have i1 : 0 < L.length := by omega
  have HL := Lib.hid h
  clear hy hK hS hM hT hl hM1 hnl h
  have i2 : decide ((L.length : Int) < 21) = false := decide_eq_false (by have := HL.out; omega)
  have hS2 := Lib.hid hS1
  clear hS1
  go_enter Try.func52, Try.ntmps52
  go_upto_region 3 with fail
  go_cut [4] (fun s4 wx => s4 = .pointer (some ⟨w.heap.size + 1, 0, none⟩) ∧ wx = ((w.alloc Z85).alloc (M85 K S M T)).drew)
  case first =>
    clear RM HL hS2
    go_region_with (first
      | (go_at_call_of 75 (Value.int .i64 1); refine (N1.out _).mono ?_; rintro e w' ⟨rfl, rfl⟩)
      | (go_at_call_of 75 (Value.int .i64 21); refine (N3.out _).mono ?_; rintro e w' ⟨rfl, rfl⟩)
      | (go_at_call_of 75 (Value.int .i64 5); refine (N2.out _).mono ?_; rintro e w' ⟨rfl, rfl⟩))
    all_goals (go_wp2_with fail; go_meet; exact ⟨rfl, rfl⟩)
  case rest =>
    obtain ⟨rfl, rfl⟩ := hcut
    have i3 : decide ((L.length : Int) < 21) = false := decide_eq_false (by have := HL.out; omega)
    have B0 : Hid (Bl w ((w.alloc Z85).alloc (M85 K S M T)).drew) := Lib.hid (((Bl.refl w).alloc _).alloc _).drew
    by_cases h21 : L.length = 21
    · have i4 : decide ((21 : Int) < (L.length : Int)) = false := decide_eq_false (by omega)
      have hd : decide (L.length = 21) = true := decide_eq_true h21
      rw [hd, Bool.true_and] at HV HE
      unfold RMayP at RM
      by_cases hm : mayM K S M = true
      · rw [hm] at RM
        rw [if_pos hm] at HV HE
        clear h21 hd hm
        obtain rfl := HV.out
        obtain rfl := HE.out
        go_wp2_with (go_at_call 77; refine (RM.out _).mono ?_; rintro e w1 ⟨rfl, h⟩; have B1 := Lib.hid h; have X1 := Lib.hid (ref_blocks h); obtain ⟨c0, c1, c2, c3, f0, f1, f2, f3⟩ := four_cells X1.out.1; obtain ⟨d0, d1, d2, d3, _, _, _, _⟩ := four_cells X1.out.2; clear h)
        refine bodyPost_ret (v := .tuple #[.agg #[.int .u8 K, .int .u32 S, .int .u64 M, .int .u64 T], .int .i64 0]) (by simp [results, Try.results52, go_sem, *]) rfl ⟨rfl, ?_⟩
        exact ((((B0.out.trans B1.out).setCell (Nat.le_refl _) _).setCell (Nat.le_refl _) _).setCell (Nat.le_refl _) _).setCell (Nat.le_refl _) _
      · have hm' : mayM K S M = false := by simpa using hm
        rw [hm'] at RM
        rw [if_neg hm] at HV HE
        clear h21 hd hm hm'
        obtain rfl := HV.out
        obtain rfl := HE.out
        go_wp2_with (go_at_call 77; refine (RM.out _).mono ?_; rintro e w1 ⟨rfl, h⟩; have B1 := Lib.hid h; have X1 := Lib.hid (ref_blocks h); obtain ⟨c0, c1, c2, c3, f0, f1, f2, f3⟩ := four_cells X1.out.1; obtain ⟨d0, d1, d2, d3, _, _, _, _⟩ := four_cells X1.out.2; clear h)
        refine bodyPost_ret (v := .tuple #[.agg #[.int .u8 0, .int .u32 0, .int .u64 0, .int .u64 0], .int .i64 4]) (by simp [results, Try.results52, go_sem, *]) rfl ⟨rfl, ?_⟩
        exact ((((B0.out.trans B1.out).setCell (Nat.le_refl _) _).setCell (Nat.le_refl _) _).setCell (Nat.le_refl _) _).setCell (Nat.le_refl _) _
    · have i4 : decide ((21 : Int) < (L.length : Int)) = true := decide_eq_true (by have := HL.out; omega)
      have hd : decide (L.length = 21) = false := decide_eq_false h21
      rw [hd, Bool.false_and, if_neg (by decide)] at HV HE
      clear h21 hd
      obtain rfl := HV.out
      obtain rfl := HE.out
      have X1 := Lib.hid (ref_blocks (w := w) (K := K) (S := S) (M := M) (T := T) (Bl.refl _))
      obtain ⟨c0, c1, c2, c3, f0, f1, f2, f3⟩ := four_cells X1.out.1
      go_wp2_with fail
      refine bodyPost_ret (v := .tuple #[.agg #[.int .u8 0, .int .u32 0, .int .u64 0, .int .u64 0], .int .i64 4]) (by simp [results, Try.results52, go_sem, *]) rfl ⟨rfl, ?_⟩
      first | exact B0.out | exact (((B0.out.setCell (Nat.le_refl _) _).setCell (Nat.le_refl _) _).setCell (Nat.le_refl _) _).setCell (Nat.le_refl _) _

theorem rtake_any (L : List UInt8) (w : World) (hl : L.length ≤ 10000) : Calls Try.prog 52 #[.string (strL L)] w (RTakeP L w) := by
  unfold RTakeP
  by_cases h1 : L.length < 21
  · have ho : tOK L = false := by unfold tOK; rw [decide_eq_false (by omega)]; rfl
    unfold tV tE
    rw [ho, if_pos h1]
    exact rtake_short L w h1
  · refine rtake_on L w _ _ _ _ hl (by omega) rfl rfl rfl rfl _ _ rfl ?_
    unfold tE
    rw [if_neg h1]
    rfl
end Go.Proofs.Ytniblmpihnhglaa
