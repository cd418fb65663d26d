import Derived.Test.YtniblmpihnhglaaD18
import Derived.Deep.RegionWith
namespace Go.Proofs.Ytniblmpihnhglaa
open Go.RowKit
set_option linter.unusedVariables false

def ReadP (p : Nat) (L' : List UInt8) (e' : Int) (bb : Bool) (w : World) (x : Ending) (w' : World) : Prop := x = .returned (.bool bb) ∧ Rd p L' e' w' ∧ Only p w w'

set_option maxRecDepth 100000 in
set_option maxHeartbeats 1600000 in
theorem rd37_0 (p k n : Nat) (S L : List UInt8) (e : Int) (w : World) (hk : k % 6 = 0) (hn : n < 18446744073709551616) (hl : L.length ≤ 10000000) (hS : S.length ≤ 1000000) (h : Rd p L e w) :
    Calls Try.prog 37 #[.pointer (some ⟨p, 0, none⟩), .agg #[.int .u8 k, .int .u64 n, .string (strL S)]] w (ReadP p (fixL L e 1) (fixE L e 1) (((beN (fixO L e 1) : Nat) : Int) == ((n % 256 : Nat) : Int)) w) := by
  have hr : (k : Int).tmod 6 = 0 := by rw [Int.tmod_eq_emod_of_nonneg (by omega)]; omega
  have R0 : Hid (Rd p L e (w.alloc (.cells #[.int .u8 k, .int .u64 n, .string (strL S)] 36)).drew) := Lib.hid (rd_bl2 h ((Bl.refl w).alloc _).drew)
  have F : Hid (∀ w', Rd p L e w' → Calls Try.prog 31 #[.pointer (some ⟨p, 0, none⟩)] w' fun x w'' => x = .returned (.int .u8 (beN (fixO L e 1) : Nat)) ∧ Rd p (fixL L e 1) (fixE L e 1) w'' ∧ Only p w' w'') := Lib.hid (fun w' hr => r_u8 p L e w' (by omega) hr)
  have hw : IntKind.u8.wrap (n : Int) = ((n % 256 : Nat) : Int) := by rw [IntKind.wrap_u8]; omega
  have hbox := heap_alloc_new w (.cells #[.int .u8 k, .int .u64 n, .string (strL S)] 36)
  have hne : w.heap.size ≠ p := by have := h.lt; omega
  have G : Hid (∀ w1 : World, Only p (w.alloc (.cells #[.int .u8 k, .int .u64 n, .string (strL S)] 36)).drew w1 → w1.cell? ⟨w.heap.size, 1, none⟩ = some (.int .u64 n)) := Lib.hid (fun w1 ho => by
    have := (ho.block w.heap.size (by show _ < (w.heap.push _).size; rw [Array.size_push]; omega) (fun h => by cases h; omega)).trans hbox
    rw [cell_of_row _ _ _ _ _ _ this]; rfl)
  have hO : Hid (Only p w (w.alloc (.cells #[.int .u8 k, .int .u64 n, .string (strL S)] 36)).drew) := Lib.hid (only_of_below ((Bl.refl w).alloc _).drew _)
  have HK := Lib.hid hk
  clear h hl hn hk hbox hne hS
  generalize n % 256 = m at hw ⊢
  generalize beN (fixO L e 1) = q at *
  go_enter Try.func37, Try.ntmps37
  go_wp2_with fail
  go_region_with (go_at_call 31; refine (F.out _ R0.out).mono ?_; rintro x w1 ⟨rfl, h1, h2⟩; have R1 := Lib.hid h1; have O1 := Lib.hid h2; have g1 := G.out w1 h2; clear h1 h2)
  all_goals go_wp2_with fail
  all_goals go_ret
  all_goals exact ⟨rfl, R1.out, only_trans hO.out O1.out⟩

set_option maxRecDepth 100000 in
set_option maxHeartbeats 1600000 in
theorem rd37_1 (p k n : Nat) (S L : List UInt8) (e : Int) (w : World) (hk : k % 6 = 1) (hn : n < 18446744073709551616) (hl : L.length ≤ 10000000) (hS : S.length ≤ 1000000) (h : Rd p L e w) :
    Calls Try.prog 37 #[.pointer (some ⟨p, 0, none⟩), .agg #[.int .u8 k, .int .u64 n, .string (strL S)]] w (ReadP p (fixL L e 2) (fixE L e 2) (((beN (fixO L e 2) : Nat) : Int) == ((n % 65536 : Nat) : Int)) w) := by
  have hr : (k : Int).tmod 6 = 1 := by rw [Int.tmod_eq_emod_of_nonneg (by omega)]; omega
  have R0 : Hid (Rd p L e (w.alloc (.cells #[.int .u8 k, .int .u64 n, .string (strL S)] 36)).drew) := Lib.hid (rd_bl2 h ((Bl.refl w).alloc _).drew)
  have F : Hid (∀ w', Rd p L e w' → Calls Try.prog 30 #[.pointer (some ⟨p, 0, none⟩)] w' fun x w'' => x = .returned (.int .u16 (beN (fixO L e 2) : Nat)) ∧ Rd p (fixL L e 2) (fixE L e 2) w'' ∧ Only p w' w'') := Lib.hid (fun w' hr => r_u16 p L e w' (by omega) hr)
  have hw : IntKind.u16.wrap (n : Int) = ((n % 65536 : Nat) : Int) := by rw [IntKind.wrap_u16]; omega
  have hbox := heap_alloc_new w (.cells #[.int .u8 k, .int .u64 n, .string (strL S)] 36)
  have hne : w.heap.size ≠ p := by have := h.lt; omega
  have G : Hid (∀ w1 : World, Only p (w.alloc (.cells #[.int .u8 k, .int .u64 n, .string (strL S)] 36)).drew w1 → w1.cell? ⟨w.heap.size, 1, none⟩ = some (.int .u64 n)) := Lib.hid (fun w1 ho => by
    have := (ho.block w.heap.size (by show _ < (w.heap.push _).size; rw [Array.size_push]; omega) (fun h => by cases h; omega)).trans hbox
    rw [cell_of_row _ _ _ _ _ _ this]; rfl)
  have hO : Hid (Only p w (w.alloc (.cells #[.int .u8 k, .int .u64 n, .string (strL S)] 36)).drew) := Lib.hid (only_of_below ((Bl.refl w).alloc _).drew _)
  have HK := Lib.hid hk
  clear h hl hn hk hbox hne hS
  generalize n % 65536 = m at hw ⊢
  generalize beN (fixO L e 2) = q at *
  go_enter Try.func37, Try.ntmps37
  go_wp2_with fail
  go_region_with (go_at_call 30; refine (F.out _ R0.out).mono ?_; rintro x w1 ⟨rfl, h1, h2⟩; have R1 := Lib.hid h1; have O1 := Lib.hid h2; have g1 := G.out w1 h2; clear h1 h2)
  all_goals go_wp2_with fail
  all_goals go_ret
  all_goals exact ⟨rfl, R1.out, only_trans hO.out O1.out⟩

set_option maxRecDepth 100000 in
set_option maxHeartbeats 1600000 in
theorem rd37_2 (p k n : Nat) (S L : List UInt8) (e : Int) (w : World) (hk : k % 6 = 2) (hn : n < 18446744073709551616) (hl : L.length ≤ 10000000) (hS : S.length ≤ 1000000) (h : Rd p L e w) :
    Calls Try.prog 37 #[.pointer (some ⟨p, 0, none⟩), .agg #[.int .u8 k, .int .u64 n, .string (strL S)]] w (ReadP p (fixL L e 4) (fixE L e 4) (((beN (fixO L e 4) : Nat) : Int) == ((n % 4294967296 : Nat) : Int)) w) := by
  have hr : (k : Int).tmod 6 = 2 := by rw [Int.tmod_eq_emod_of_nonneg (by omega)]; omega
  have R0 : Hid (Rd p L e (w.alloc (.cells #[.int .u8 k, .int .u64 n, .string (strL S)] 36)).drew) := Lib.hid (rd_bl2 h ((Bl.refl w).alloc _).drew)
  have F : Hid (∀ w', Rd p L e w' → Calls Try.prog 38 #[.pointer (some ⟨p, 0, none⟩)] w' fun x w'' => x = .returned (.int .u32 (beN (fixO L e 4) : Nat)) ∧ Rd p (fixL L e 4) (fixE L e 4) w'' ∧ Only p w' w'') := Lib.hid (fun w' hr => r_u32 p L e w' (by omega) hr)
  have hw : IntKind.u32.wrap (n : Int) = ((n % 4294967296 : Nat) : Int) := by rw [IntKind.wrap_u32]; omega
  have hbox := heap_alloc_new w (.cells #[.int .u8 k, .int .u64 n, .string (strL S)] 36)
  have hne : w.heap.size ≠ p := by have := h.lt; omega
  have G : Hid (∀ w1 : World, Only p (w.alloc (.cells #[.int .u8 k, .int .u64 n, .string (strL S)] 36)).drew w1 → w1.cell? ⟨w.heap.size, 1, none⟩ = some (.int .u64 n)) := Lib.hid (fun w1 ho => by
    have := (ho.block w.heap.size (by show _ < (w.heap.push _).size; rw [Array.size_push]; omega) (fun h => by cases h; omega)).trans hbox
    rw [cell_of_row _ _ _ _ _ _ this]; rfl)
  have hO : Hid (Only p w (w.alloc (.cells #[.int .u8 k, .int .u64 n, .string (strL S)] 36)).drew) := Lib.hid (only_of_below ((Bl.refl w).alloc _).drew _)
  have HK := Lib.hid hk
  clear h hl hn hk hbox hne hS
  generalize n % 4294967296 = m at hw ⊢
  generalize beN (fixO L e 4) = q at *
  go_enter Try.func37, Try.ntmps37
  go_wp2_with fail
  go_region_with (go_at_call 38; refine (F.out _ R0.out).mono ?_; rintro x w1 ⟨rfl, h1, h2⟩; have R1 := Lib.hid h1; have O1 := Lib.hid h2; have g1 := G.out w1 h2; clear h1 h2)
  all_goals go_wp2_with fail
  all_goals go_ret
  all_goals exact ⟨rfl, R1.out, only_trans hO.out O1.out⟩

set_option maxRecDepth 100000 in
set_option maxHeartbeats 1600000 in
theorem rd37_3 (p k n : Nat) (S L : List UInt8) (e : Int) (w : World) (hk : k % 6 = 3) (hn : n < 18446744073709551616) (hl : L.length ≤ 10000000) (hS : S.length ≤ 1000000) (h : Rd p L e w) :
    Calls Try.prog 37 #[.pointer (some ⟨p, 0, none⟩), .agg #[.int .u8 k, .int .u64 n, .string (strL S)]] w (ReadP p (fixL L e 8) (fixE L e 8) (((beN (fixO L e 8) : Nat) : Int) == (n : Int)) w) := by
  have hr : (k : Int).tmod 6 = 3 := by rw [Int.tmod_eq_emod_of_nonneg (by omega)]; omega
  have R0 : Hid (Rd p L e (w.alloc (.cells #[.int .u8 k, .int .u64 n, .string (strL S)] 36)).drew) := Lib.hid (rd_bl2 h ((Bl.refl w).alloc _).drew)
  have F : Hid (∀ w', Rd p L e w' → Calls Try.prog 35 #[.pointer (some ⟨p, 0, none⟩)] w' fun x w'' => x = .returned (.int .u64 (beN (fixO L e 8) : Nat)) ∧ Rd p (fixL L e 8) (fixE L e 8) w'' ∧ Only p w' w'') := Lib.hid (fun w' hr => r_u64 p L e w' (by omega) hr)
  have hbox := heap_alloc_new w (.cells #[.int .u8 k, .int .u64 n, .string (strL S)] 36)
  have hne : w.heap.size ≠ p := by have := h.lt; omega
  have G : Hid (∀ w1 : World, Only p (w.alloc (.cells #[.int .u8 k, .int .u64 n, .string (strL S)] 36)).drew w1 → w1.cell? ⟨w.heap.size, 1, none⟩ = some (.int .u64 n)) := Lib.hid (fun w1 ho => by
    have := (ho.block w.heap.size (by show _ < (w.heap.push _).size; rw [Array.size_push]; omega) (fun h => by cases h; omega)).trans hbox
    rw [cell_of_row _ _ _ _ _ _ this]; rfl)
  have hO : Hid (Only p w (w.alloc (.cells #[.int .u8 k, .int .u64 n, .string (strL S)] 36)).drew) := Lib.hid (only_of_below ((Bl.refl w).alloc _).drew _)
  have HK := Lib.hid hk
  clear h hl hn hk hbox hne hS
  generalize beN (fixO L e 8) = q at *
  go_enter Try.func37, Try.ntmps37
  go_wp2_with fail
  go_region_with (go_at_call 35; refine (F.out _ R0.out).mono ?_; rintro x w1 ⟨rfl, h1, h2⟩; have R1 := Lib.hid h1; have O1 := Lib.hid h2; have g1 := G.out w1 h2; clear h1 h2)
  all_goals go_wp2_with fail
  all_goals go_ret
  all_goals exact ⟨rfl, R1.out, only_trans hO.out O1.out⟩

set_option maxRecDepth 100000 in
set_option maxHeartbeats 1600000 in
theorem rd37_4 (p k n : Nat) (S L : List UInt8) (e : Int) (w : World) (hk : k % 6 = 4) (hn : n < 18446744073709551616) (hl : L.length ≤ 10000000) (hS : S.length ≤ 1000000) (h : Rd p L e w) :
    Calls Try.prog 37 #[.pointer (some ⟨p, 0, none⟩), .agg #[.int .u8 k, .int .u64 n, .string (strL S)]] w (ReadP p (fixL L e S.length) (fixE L e S.length) ((strL (fixO L e S.length)).toList == (strL S).toList) w) := by
  have hr : (k : Int).tmod 6 = 4 := by rw [Int.tmod_eq_emod_of_nonneg (by omega)]; omega
  have R0 : Hid (Rd p L e (w.alloc (.cells #[.int .u8 k, .int .u64 n, .string (strL S)] 36)).drew) := Lib.hid (rd_bl2 h ((Bl.refl w).alloc _).drew)
  have F : Hid (∀ w', Rd p L e w' → Calls Try.prog 33 #[.pointer (some ⟨p, 0, none⟩), .int .i64 (S.length : Nat)] w' fun x w'' => x = .returned (.string (strL (fixO L e S.length))) ∧ Rd p (fixL L e S.length) (fixE L e S.length) w'' ∧ Only p w' w'') := Lib.hid (fun w' hr => fixed_any p L e S.length w' (by omega) hr)
  have hz := strL_size S
  have hbox := heap_alloc_new w (.cells #[.int .u8 k, .int .u64 n, .string (strL S)] 36)
  have hne : w.heap.size ≠ p := by have := h.lt; omega
  have G : Hid (∀ w1 : World, Only p (w.alloc (.cells #[.int .u8 k, .int .u64 n, .string (strL S)] 36)).drew w1 → w1.cell? ⟨w.heap.size, 2, none⟩ = some (.string (strL S))) := Lib.hid (fun w1 ho => by
    have := (ho.block w.heap.size (by show _ < (w.heap.push _).size; rw [Array.size_push]; omega) (fun h => by cases h; omega)).trans hbox
    rw [cell_of_row _ _ _ _ _ _ this]; rfl)
  have hO : Hid (Only p w (w.alloc (.cells #[.int .u8 k, .int .u64 n, .string (strL S)] 36)).drew) := Lib.hid (only_of_below ((Bl.refl w).alloc _).drew _)
  have HK := Lib.hid hk
  clear h hl hn hk hbox hne hS
  generalize strL (fixO L e S.length) = q at *
  generalize strL S = s at *
  go_enter Try.func37, Try.ntmps37
  go_wp2_with fail
  go_region_with (go_at_call 33; refine (F.out _ R0.out).mono ?_; rintro x w1 ⟨rfl, h1, h2⟩; have R1 := Lib.hid h1; have O1 := Lib.hid h2; have g1 := G.out w1 h2; clear h1 h2)
  all_goals go_wp2_with fail
  all_goals go_ret
  all_goals exact ⟨rfl, R1.out, only_trans hO.out O1.out⟩

set_option maxRecDepth 100000 in
set_option maxHeartbeats 1600000 in
theorem rd37_5 (p k n : Nat) (S L : List UInt8) (e : Int) (w : World) (hk : k % 6 = 5) (hn : n < 18446744073709551616) (hl : L.length ≤ 10000000) (hS : S.length ≤ 1000000) (h : Rd p L e w) :
    Calls Try.prog 37 #[.pointer (some ⟨p, 0, none⟩), .agg #[.int .u8 k, .int .u64 n, .string (strL S)]] w (ReadP p (txtL L e) (txtE L e) ((strL (txtO L e)).toList == (strL S).toList) w) := by
  have hr : (k : Int).tmod 6 = 5 := by rw [Int.tmod_eq_emod_of_nonneg (by omega)]; omega
  have R0 : Hid (Rd p L e (w.alloc (.cells #[.int .u8 k, .int .u64 n, .string (strL S)] 36)).drew) := Lib.hid (rd_bl2 h ((Bl.refl w).alloc _).drew)
  have F : Hid (∀ w', Rd p L e w' → Calls Try.prog 32 #[.pointer (some ⟨p, 0, none⟩)] w' fun x w'' => x = .returned (.string (strL (txtO L e))) ∧ Rd p (txtL L e) (txtE L e) w'' ∧ Only p w' w'') := Lib.hid (fun w' hr => r_text p L e w' (by omega) hr)
  have hbox := heap_alloc_new w (.cells #[.int .u8 k, .int .u64 n, .string (strL S)] 36)
  have hne : w.heap.size ≠ p := by have := h.lt; omega
  have G : Hid (∀ w1 : World, Only p (w.alloc (.cells #[.int .u8 k, .int .u64 n, .string (strL S)] 36)).drew w1 → w1.cell? ⟨w.heap.size, 2, none⟩ = some (.string (strL S))) := Lib.hid (fun w1 ho => by
    have := (ho.block w.heap.size (by show _ < (w.heap.push _).size; rw [Array.size_push]; omega) (fun h => by cases h; omega)).trans hbox
    rw [cell_of_row _ _ _ _ _ _ this]; rfl)
  have hO : Hid (Only p w (w.alloc (.cells #[.int .u8 k, .int .u64 n, .string (strL S)] 36)).drew) := Lib.hid (only_of_below ((Bl.refl w).alloc _).drew _)
  have HK := Lib.hid hk
  clear h hl hn hk hbox hne hS
  generalize strL (txtO L e) = q at *
  generalize strL S = s at *
  go_enter Try.func37, Try.ntmps37
  go_wp2_with fail
  go_region_with (go_at_call 32; refine (F.out _ R0.out).mono ?_; rintro x w1 ⟨rfl, h1, h2⟩; have R1 := Lib.hid h1; have O1 := Lib.hid h2; have g1 := G.out w1 h2; clear h1 h2)
  all_goals go_wp2_with fail
  all_goals go_ret
  all_goals exact ⟨rfl, R1.out, only_trans hO.out O1.out⟩
end Go.Proofs.Ytniblmpihnhglaa
