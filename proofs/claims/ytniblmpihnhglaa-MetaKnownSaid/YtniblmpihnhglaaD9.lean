import Derived.Test.YtniblmpihnhglaaD8
namespace Go.Proofs.Ytniblmpihnhglaa
open Go.RowKit
set_option linter.unusedVariables false

/-- Only blocks p and q have turned, and what is new. -/
structure Only2 (p q : Nat) (w w' : World) : Prop where
  os : w'.os = w.os
  tape : w'.tape = w.tape
  output : w'.output = w.output
  size : w.heap.size ≤ w'.heap.size
  block : ∀ k, k < w.heap.size → k ≠ p → k ≠ q → w'.heap[k]? = w.heap[k]?
theorem only2_refl (p q : Nat) (w : World) : Only2 p q w w := ⟨rfl, rfl, rfl, Nat.le_refl _, fun _ _ _ _ => rfl⟩
theorem only2_trans {p q : Nat} {a b c : World} (h : Only2 p q a b) (k : Only2 p q b c) : Only2 p q a c :=
  ⟨k.os.trans h.os, k.tape.trans h.tape, k.output.trans h.output, Nat.le_trans h.size k.size, fun i hi h1 h2 => (k.block i (Nat.lt_of_lt_of_le hi h.size) h1 h2).trans (h.block i hi h1 h2)⟩
theorem only2_l {p q : Nat} {a b : World} (h : Only p a b) : Only2 p q a b := ⟨h.os, h.tape, h.output, h.size, fun k hk h1 _ => h.block k hk (fun e => h1 (by cases e; rfl))⟩
theorem only2_r {p q : Nat} {a b : World} (h : Only q a b) : Only2 p q a b := ⟨h.os, h.tape, h.output, h.size, fun k hk _ h1 => h.block k hk (fun e => h1 (by cases e; rfl))⟩
theorem only2_bl {p q : Nat} {a b : World} (h : Bl a b) : Only2 p q a b := ⟨h.os, h.tape, h.output, h.size, fun k hk _ _ => h.block k hk⟩
theorem only2_below {p q n : Nat} {a b : World} (h : Only2 p q a b) (hp : n ≤ p) (hq : n ≤ q) (hn : n ≤ a.heap.size) : Below n a b :=
  ⟨h.os, h.tape, h.output, h.size, fun k hk => h.block k (by omega) (by omega) (by omega)⟩
theorem rr_lt {q : Nat} {S L : List UInt8} {e : Int} {w : World} (h : Rr q S L e w) : q < w.heap.size := by obtain ⟨a, h, _⟩ := h; exact (Array.getElem?_eq_some_iff.1 h).1
theorem rd_block {p : Nat} {L : List UInt8} {e : Int} {a b : World} (h : Rd p L e a) (k : b.heap[p]? = a.heap[p]?) : Rd p L e b := k.trans h
theorem rr_block {q : Nat} {S L : List UInt8} {e : Int} {a b : World} (h : Rr q S L e a) (k : b.heap[q]? = a.heap[q]?) : Rr q S L e b := by
  obtain ⟨i, h1, h2, h3⟩ := h; exact ⟨i, k.trans h1, h2, h3⟩

/-- Both readers, at the same. -/
def Both (p q : Nat) (S L : List UInt8) (e : Int) (w : World) : Prop := Rd p L e w ∧ Rr q S L e w ∧ p ≠ q
theorem both_bl {p q : Nat} {S L : List UInt8} {e : Int} {a b : World} (h : Both p q S L e a) (k : Bl a b) : Both p q S L e b :=
  ⟨rd_block h.1 (k.block p h.1.lt), rr_block h.2.1 (k.block q (rr_lt h.2.1)), h.2.2⟩
theorem both_step {p q : Nat} {S L L' : List UInt8} {e e' : Int} {a b c : World} (h : Both p q S L e a) (hp : Only p a b) (h1 : Rd p L' e' b) (hq : Only q b c) (h2 : Rr q S L' e' c) : Both p q S L' e' c :=
  ⟨rd_block h1 (hq.block p h1.lt (fun x => h.2.2 (by cases x; rfl))), h2, h.2.2⟩
theorem both_mid {p q : Nat} {S L : List UInt8} {e : Int} {a b : World} (h : Both p q S L e a) (hp : Only p a b) : Rr q S L e b :=
  rr_block h.2.1 (hp.block q (rr_lt h.2.1) (fun x => h.2.2 (by cases x; rfl)))
def OneP (p q : Nat) (S : List UInt8) (w : World) (x : Ending) (w' : World) : Prop :=
  x = .returned (.bool true) ∧ (∃ L e, L.length ≤ S.length ∧ Both p q S L e w') ∧ Only2 p q w w'
theorem txtL_length (L : List UInt8) (e : Int) : (txtL L e).length ≤ L.length := Nat.le_trans (fixL_length _ _ _) (fixL_length _ _ _)
theorem beN_lt8 (l : List UInt8) (h : l.length ≤ 8) : beN l < 18446744073709551616 := by
  have := beN_take_lt l 8 8 (Nat.le_refl _)
  rwa [List.take_of_length_le h] at this

set_option maxRecDepth 100000 in
set_option maxHeartbeats 800000 in
theorem one_1 (p q k : Nat) (n : Int) (S L : List UInt8) (e : Int) (w : World) (hk : k % 6 = 0) (hS : S.length ≤ 6000) (hL : L.length ≤ S.length) (h : Both p q S L e w) :
    Calls Try.prog 20 #[.pointer (some ⟨p, 0, none⟩), .pointer (some ⟨q, 0, none⟩), .agg #[.int .u8 k, .int .i64 n]] w (OneP p q S w) := by
  have H0 : Hid (Both p q S L e (w.alloc (.cells #[.int .u8 k, .int .i64 n] 49))) := Lib.hid (both_bl h ((Bl.refl w).alloc _))
  have HS := Lib.hid hS
  have HL := Lib.hid hL
  have hr : (k : Int).tmod 6 = 0 := by rw [Int.tmod_eq_emod_of_nonneg (by omega)]; omega
  have F1 := Lib.hid (r_u8 p L e _ (by omega) H0.out.1)
  have F2 : Hid (∀ w', Rr q S L e w' → Calls Try.prog 60 #[.pointer (some ⟨q, 0, none⟩), .int .i64 1] w' fun x w'' => RNumP q S L e 1 w' x w'') := Lib.hid (fun w' h' => rr_number q S L e 1 w' (by decide) (by omega) h')
  have hu : IntKind.u64.wrap ((beN (fixO L e 1) : Nat) : Int) = (beN (fixO L e 1) : Nat) := IntWalk.u64_in _ (by have := beN_lt8 (fixO L e 1) (fixO_length L e 1 8 (by decide)); omega)
  have hl : Hid ((fixL L e 1).length ≤ L.length) := Lib.hid (fixL_length L e 1)
  clear h hS hL hk
  unfold GetP at F1
  unfold RNumP at F2
  have e0 : ((1 : Nat) : Int) = 1 := rfl
  rw [e0] at F1
  have F2' : Hid (∀ w', Rr q S L e w' → Calls Try.prog 60 #[.pointer (some ⟨q, 0, none⟩), .int .i64 1] w' fun x w'' => x = .returned (.int .u64 (beN (fixO L e 1) : Nat)) ∧ Rr q S (fixL L e 1) (fixE L e 1) w'' ∧ Only q w' w'') := F2
  clear F2 e0
  generalize beN (fixO L e 1) = v at *
  go_enter Try.func20, Try.ntmps20
  go_wp2_with (first
    | (go_at_call 31; refine F1.out.mono ?_; rintro x w1 ⟨rfl, h1, h2⟩; have H1 := Lib.hid h1; have O1 := Lib.hid h2; clear h1 h2)
    | (go_at_call 60; refine (F2'.out _ (both_mid H0.out O1.out)).mono ?_; rintro x w2 ⟨rfl, h3, h4⟩; have H2 := Lib.hid h3; have O2 := Lib.hid h4; clear h3 h4))
  go_ret
  refine ⟨rfl, ⟨_, _, Nat.le_trans hl.out HL.out, both_step H0.out O1.out H1.out O2.out H2.out⟩, only2_trans (only2_bl ((Bl.refl w).alloc _)) (only2_trans (only2_l O1.out) (only2_r O2.out))⟩

set_option maxRecDepth 100000 in
set_option maxHeartbeats 800000 in
theorem one_2 (p q k : Nat) (n : Int) (S L : List UInt8) (e : Int) (w : World) (hk : k % 6 = 1) (hS : S.length ≤ 6000) (hL : L.length ≤ S.length) (h : Both p q S L e w) :
    Calls Try.prog 20 #[.pointer (some ⟨p, 0, none⟩), .pointer (some ⟨q, 0, none⟩), .agg #[.int .u8 k, .int .i64 n]] w (OneP p q S w) := by
  have H0 : Hid (Both p q S L e (w.alloc (.cells #[.int .u8 k, .int .i64 n] 49))) := Lib.hid (both_bl h ((Bl.refl w).alloc _))
  have HS := Lib.hid hS
  have HL := Lib.hid hL
  have hr : (k : Int).tmod 6 = 1 := by rw [Int.tmod_eq_emod_of_nonneg (by omega)]; omega
  have F1 := Lib.hid (r_u16 p L e _ (by omega) H0.out.1)
  have F2 : Hid (∀ w', Rr q S L e w' → Calls Try.prog 60 #[.pointer (some ⟨q, 0, none⟩), .int .i64 2] w' fun x w'' => RNumP q S L e 2 w' x w'') := Lib.hid (fun w' h' => rr_number q S L e 2 w' (by decide) (by omega) h')
  have hu : IntKind.u64.wrap ((beN (fixO L e 2) : Nat) : Int) = (beN (fixO L e 2) : Nat) := IntWalk.u64_in _ (by have := beN_lt8 (fixO L e 2) (fixO_length L e 2 8 (by decide)); omega)
  have hl : Hid ((fixL L e 2).length ≤ L.length) := Lib.hid (fixL_length L e 2)
  clear h hS hL hk
  unfold GetP at F1
  unfold RNumP at F2
  have e0 : ((2 : Nat) : Int) = 2 := rfl
  rw [e0] at F1
  have F2' : Hid (∀ w', Rr q S L e w' → Calls Try.prog 60 #[.pointer (some ⟨q, 0, none⟩), .int .i64 2] w' fun x w'' => x = .returned (.int .u64 (beN (fixO L e 2) : Nat)) ∧ Rr q S (fixL L e 2) (fixE L e 2) w'' ∧ Only q w' w'') := F2
  clear F2 e0
  generalize beN (fixO L e 2) = v at *
  go_enter Try.func20, Try.ntmps20
  go_wp2_with (first
    | (go_at_call 30; refine F1.out.mono ?_; rintro x w1 ⟨rfl, h1, h2⟩; have H1 := Lib.hid h1; have O1 := Lib.hid h2; clear h1 h2)
    | (go_at_call 60; refine (F2'.out _ (both_mid H0.out O1.out)).mono ?_; rintro x w2 ⟨rfl, h3, h4⟩; have H2 := Lib.hid h3; have O2 := Lib.hid h4; clear h3 h4))
  go_ret
  refine ⟨rfl, ⟨_, _, Nat.le_trans hl.out HL.out, both_step H0.out O1.out H1.out O2.out H2.out⟩, only2_trans (only2_bl ((Bl.refl w).alloc _)) (only2_trans (only2_l O1.out) (only2_r O2.out))⟩

set_option maxRecDepth 100000 in
set_option maxHeartbeats 800000 in
theorem one_4 (p q k : Nat) (n : Int) (S L : List UInt8) (e : Int) (w : World) (hk : k % 6 = 2) (hS : S.length ≤ 6000) (hL : L.length ≤ S.length) (h : Both p q S L e w) :
    Calls Try.prog 20 #[.pointer (some ⟨p, 0, none⟩), .pointer (some ⟨q, 0, none⟩), .agg #[.int .u8 k, .int .i64 n]] w (OneP p q S w) := by
  have H0 : Hid (Both p q S L e (w.alloc (.cells #[.int .u8 k, .int .i64 n] 49))) := Lib.hid (both_bl h ((Bl.refl w).alloc _))
  have HS := Lib.hid hS
  have HL := Lib.hid hL
  have hr : (k : Int).tmod 6 = 2 := by rw [Int.tmod_eq_emod_of_nonneg (by omega)]; omega
  have F1 := Lib.hid (r_u32 p L e _ (by omega) H0.out.1)
  have F2 : Hid (∀ w', Rr q S L e w' → Calls Try.prog 60 #[.pointer (some ⟨q, 0, none⟩), .int .i64 4] w' fun x w'' => RNumP q S L e 4 w' x w'') := Lib.hid (fun w' h' => rr_number q S L e 4 w' (by decide) (by omega) h')
  have hu : IntKind.u64.wrap ((beN (fixO L e 4) : Nat) : Int) = (beN (fixO L e 4) : Nat) := IntWalk.u64_in _ (by have := beN_lt8 (fixO L e 4) (fixO_length L e 4 8 (by decide)); omega)
  have hl : Hid ((fixL L e 4).length ≤ L.length) := Lib.hid (fixL_length L e 4)
  clear h hS hL hk
  unfold GetP at F1
  unfold RNumP at F2
  have e0 : ((4 : Nat) : Int) = 4 := rfl
  rw [e0] at F1
  have F2' : Hid (∀ w', Rr q S L e w' → Calls Try.prog 60 #[.pointer (some ⟨q, 0, none⟩), .int .i64 4] w' fun x w'' => x = .returned (.int .u64 (beN (fixO L e 4) : Nat)) ∧ Rr q S (fixL L e 4) (fixE L e 4) w'' ∧ Only q w' w'') := F2
  clear F2 e0
  generalize beN (fixO L e 4) = v at *
  go_enter Try.func20, Try.ntmps20
  go_wp2_with (first
    | (go_at_call 38; refine F1.out.mono ?_; rintro x w1 ⟨rfl, h1, h2⟩; have H1 := Lib.hid h1; have O1 := Lib.hid h2; clear h1 h2)
    | (go_at_call 60; refine (F2'.out _ (both_mid H0.out O1.out)).mono ?_; rintro x w2 ⟨rfl, h3, h4⟩; have H2 := Lib.hid h3; have O2 := Lib.hid h4; clear h3 h4))
  go_ret
  refine ⟨rfl, ⟨_, _, Nat.le_trans hl.out HL.out, both_step H0.out O1.out H1.out O2.out H2.out⟩, only2_trans (only2_bl ((Bl.refl w).alloc _)) (only2_trans (only2_l O1.out) (only2_r O2.out))⟩

set_option maxRecDepth 100000 in
set_option maxHeartbeats 800000 in
theorem one_8 (p q k : Nat) (n : Int) (S L : List UInt8) (e : Int) (w : World) (hk : k % 6 = 3) (hS : S.length ≤ 6000) (hL : L.length ≤ S.length) (h : Both p q S L e w) :
    Calls Try.prog 20 #[.pointer (some ⟨p, 0, none⟩), .pointer (some ⟨q, 0, none⟩), .agg #[.int .u8 k, .int .i64 n]] w (OneP p q S w) := by
  have H0 : Hid (Both p q S L e (w.alloc (.cells #[.int .u8 k, .int .i64 n] 49))) := Lib.hid (both_bl h ((Bl.refl w).alloc _))
  have HS := Lib.hid hS
  have HL := Lib.hid hL
  have hr : (k : Int).tmod 6 = 3 := by rw [Int.tmod_eq_emod_of_nonneg (by omega)]; omega
  have F1 := Lib.hid (r_u64 p L e _ (by omega) H0.out.1)
  have F2 : Hid (∀ w', Rr q S L e w' → Calls Try.prog 60 #[.pointer (some ⟨q, 0, none⟩), .int .i64 8] w' fun x w'' => RNumP q S L e 8 w' x w'') := Lib.hid (fun w' h' => rr_number q S L e 8 w' (by decide) (by omega) h')
  have hl : Hid ((fixL L e 8).length ≤ L.length) := Lib.hid (fixL_length L e 8)
  clear h hS hL hk
  unfold GetP at F1
  unfold RNumP at F2
  have e0 : ((8 : Nat) : Int) = 8 := rfl
  rw [e0] at F1
  have F2' : Hid (∀ w', Rr q S L e w' → Calls Try.prog 60 #[.pointer (some ⟨q, 0, none⟩), .int .i64 8] w' fun x w'' => x = .returned (.int .u64 (beN (fixO L e 8) : Nat)) ∧ Rr q S (fixL L e 8) (fixE L e 8) w'' ∧ Only q w' w'') := F2
  clear F2 e0
  generalize beN (fixO L e 8) = v at *
  go_enter Try.func20, Try.ntmps20
  go_wp2_with (first
    | (go_at_call 35; refine F1.out.mono ?_; rintro x w1 ⟨rfl, h1, h2⟩; have H1 := Lib.hid h1; have O1 := Lib.hid h2; clear h1 h2)
    | (go_at_call 60; refine (F2'.out _ (both_mid H0.out O1.out)).mono ?_; rintro x w2 ⟨rfl, h3, h4⟩; have H2 := Lib.hid h3; have O2 := Lib.hid h4; clear h3 h4))
  go_ret
  refine ⟨rfl, ⟨_, _, Nat.le_trans hl.out HL.out, both_step H0.out O1.out H1.out O2.out H2.out⟩, only2_trans (only2_bl ((Bl.refl w).alloc _)) (only2_trans (only2_l O1.out) (only2_r O2.out))⟩
end Go.Proofs.Ytniblmpihnhglaa
