import Derived.Test.YtniblmpihnhglaaD9
namespace Go.Proofs.Ytniblmpihnhglaa
open Go.RowKit
set_option linter.unusedVariables false

set_option maxRecDepth 100000 in
set_option maxHeartbeats 800000 in
theorem one_fixed (p q k : Nat) (n : Int) (S L : List UInt8) (e : Int) (w : World) (hk : k % 6 = 4) (hS : S.length ≤ 6000) (hL : L.length ≤ S.length) (h : Both p q S L e w) :
    Calls Try.prog 20 #[.pointer (some ⟨p, 0, none⟩), .pointer (some ⟨q, 0, none⟩), .agg #[.int .u8 k, .int .i64 n]] w (OneP p q S w) := by
  have H0 : Hid (Both p q S L e (w.alloc (.cells #[.int .u8 k, .int .i64 n] 49))) := Lib.hid (both_bl h ((Bl.refl w).alloc _))
  have HS := Lib.hid hS
  have HL := Lib.hid hL
  have hr : (k : Int).tmod 6 = 4 := by rw [Int.tmod_eq_emod_of_nonneg (by omega)]; omega
  have F1 := Lib.hid (fixed_any p L e n _ (by omega) H0.out.1)
  have F2 : Hid (∀ w', Rr q S L e w' → Calls Try.prog 61 #[.pointer (some ⟨q, 0, none⟩), .int .i64 n] w' fun x w'' => RFixP q S L e n w' x w'') := Lib.hid (fun w' h' => rr_fixed q S L e n w' (by omega) h')
  have hl : Hid ((fixL L e n).length ≤ L.length) := Lib.hid (fixL_length L e n)
  have G : Hid (∀ w1 : World, Only p (w.alloc (.cells #[.int .u8 k, .int .i64 n] 49)) w1 → w1.cell? ⟨w.heap.size, 1, none⟩ = some (.int .i64 n)) := Lib.hid (fun w1 h1 => by
    have : w1.heap[w.heap.size]? = some (.cells #[.int .u8 k, .int .i64 n] 49 (0, 0)) := (h1.block w.heap.size (by show _ < (w.heap.push _).size; rw [Array.size_push]; omega) (fun x => by cases x; exact absurd h.1.lt (by omega))).trans (heap_alloc_new _ _)
    rw [cell_of_row _ _ _ _ _ _ this]; rfl)
  clear h hS hL hk
  unfold FixP at F1
  unfold RFixP at F2
  generalize strL (fixO L e n) = v at *
  go_enter Try.func20, Try.ntmps20
  go_wp2_with (first
    | (go_at_call 33; refine F1.out.mono ?_; rintro x w1 ⟨rfl, h1, h2⟩; have H1 := Lib.hid h1; have O1 := Lib.hid h2; have gc := G.out _ h2; clear h1 h2)
    | (go_at_call 61; refine (F2.out _ (both_mid H0.out O1.out)).mono ?_; rintro x w2 ⟨rfl, h3, h4⟩; have H2 := Lib.hid h3; have O2 := Lib.hid h4; clear h3 h4))
  go_ret
  refine ⟨rfl, ⟨_, _, Nat.le_trans hl.out HL.out, both_step H0.out O1.out H1.out O2.out H2.out⟩, only2_trans (only2_bl ((Bl.refl w).alloc _)) (only2_trans (only2_l O1.out) (only2_r O2.out))⟩

set_option maxRecDepth 100000 in
set_option maxHeartbeats 800000 in
theorem one_text (p q k : Nat) (n : Int) (S L : List UInt8) (e : Int) (w : World) (hk : k % 6 = 5) (hS : S.length ≤ 6000) (hL : L.length ≤ S.length) (h : Both p q S L e w) :
    Calls Try.prog 20 #[.pointer (some ⟨p, 0, none⟩), .pointer (some ⟨q, 0, none⟩), .agg #[.int .u8 k, .int .i64 n]] w (OneP p q S w) := by
  have H0 : Hid (Both p q S L e (w.alloc (.cells #[.int .u8 k, .int .i64 n] 49))) := Lib.hid (both_bl h ((Bl.refl w).alloc _))
  have HS := Lib.hid hS
  have HL := Lib.hid hL
  have hr : (k : Int).tmod 6 = 5 := by rw [Int.tmod_eq_emod_of_nonneg (by omega)]; omega
  have F1 := Lib.hid (r_text p L e _ (by omega) H0.out.1)
  have F2 : Hid (∀ w', Rr q S L e w' → Calls Try.prog 62 #[.pointer (some ⟨q, 0, none⟩)] w' fun x w'' => x = .returned (.string (strL (txtO L e))) ∧ Rr q S (txtL L e) (txtE L e) w'' ∧ Only q w' w'') := Lib.hid (fun w' h' => rr_text q S L e w' (by omega) h')
  have hl : Hid ((txtL L e).length ≤ L.length) := Lib.hid (txtL_length L e)
  clear h hS hL hk
  unfold TxtP at F1
  generalize strL (txtO L e) = v at *
  go_enter Try.func20, Try.ntmps20
  go_wp2_with (first
    | (go_at_call 32; refine F1.out.mono ?_; rintro x w1 ⟨rfl, h1, h2⟩; have H1 := Lib.hid h1; have O1 := Lib.hid h2; clear h1 h2)
    | (go_at_call 62; refine (F2.out _ (both_mid H0.out O1.out)).mono ?_; rintro x w2 ⟨rfl, h3, h4⟩; have H2 := Lib.hid h3; have O2 := Lib.hid h4; clear h3 h4))
  go_ret
  refine ⟨rfl, ⟨_, _, Nat.le_trans hl.out HL.out, both_step H0.out O1.out H1.out O2.out H2.out⟩, only2_trans (only2_bl ((Bl.refl w).alloc _)) (only2_trans (only2_l O1.out) (only2_r O2.out))⟩

theorem one_any (p q k : Nat) (n : Int) (S L : List UInt8) (e : Int) (w : World) (hS : S.length ≤ 6000) (hL : L.length ≤ S.length) (h : Both p q S L e w) :
    Calls Try.prog 20 #[.pointer (some ⟨p, 0, none⟩), .pointer (some ⟨q, 0, none⟩), .agg #[.int .u8 k, .int .i64 n]] w (OneP p q S w) := by
  rcases (by omega : k % 6 = 0 ∨ k % 6 = 1 ∨ k % 6 = 2 ∨ k % 6 = 3 ∨ k % 6 = 4 ∨ k % 6 = 5) with h6 | h6 | h6 | h6 | h6 | h6
  · exact one_1 p q k n S L e w h6 hS hL h
  · exact one_2 p q k n S L e w h6 hS hL h
  · exact one_4 p q k n S L e w h6 hS hL h
  · exact one_8 p q k n S L e w h6 hS hL h
  · exact one_fixed p q k n S L e w h6 hS hL h
  · exact one_text p q k n S L e w h6 hS hL h

/-- A slice of so many asks, as the walk meets it. -/
def Asks (w : World) (v : Value) (n : Nat) : Prop :=
  (v = .slice none 0 0 ∧ n = 0) ∨ ∃ a cap, v = .slice (some a) n cap ∧ ∀ i, i < n → ∃ (k : Nat) (m : Int), w.cell? (a.add (i * 2)) = some (.int .u8 k) ∧ w.cell? (a.add (i * 2 + 1)) = some (.int .i64 m)
theorem asks_form {w : World} {v : Value} {n : Nat} (h : Asks w v n) : ∃ a c, v = .slice a n c := by
  rcases h with ⟨rfl, rfl⟩ | ⟨a, cap, rfl, _⟩
  · exact ⟨_, _, rfl⟩
  · exact ⟨_, _, rfl⟩
end Go.Proofs.Ytniblmpihnhglaa
