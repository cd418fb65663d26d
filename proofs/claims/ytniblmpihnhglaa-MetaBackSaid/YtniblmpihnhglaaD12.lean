import Derived.Test.YtniblmpihnhglaaD10
namespace Go.Proofs.Ytniblmpihnhglaa
open Go.RowKit
set_option linter.unusedVariables false

theorem wr_only {B p q : Nat} {L : List UInt8} {e : Int} {a b : World} (h : Wr B p L e a) (ho : Only q a b) (hq : q < B) (hne : q ≠ p) : Wr B p L e b := by
  obtain ⟨v, h1, h2, h3, h4⟩ := h
  refine ⟨v, (ho.block p (by omega) (fun x => hne (by cases x; rfl))).trans h1, h2.kept ho ?_, h3, Nat.le_trans h4 ho.size⟩
  cases hv : v.ownBlock with
  | none => exact .inl rfl
  | some g => exact .inr (fun x => by cases x; have := (h2.lt _ hv).1; omega)
theorem rw_onlyB {B p q : Nat} {L : List UInt8} {b : Bool} {a c : World} (h : Rw q L b a) (ho : OnlyB B p a c) (hq : q < B) (hne : q ≠ p) : Rw q L b c := (ho.block q hq hne).trans h

/-- Both writers, at the same: so many bytes, and whether a text was too long. -/
def WBoth (B p q : Nat) (L : List UInt8) (b : Bool) (w : World) : Prop := ∃ M, Wr B p L (if b then 3 else 0) w ∧ Rw q M b w ∧ (b = false → M = L) ∧ p ≠ q ∧ q < B
theorem wboth_bl {B p q : Nat} {L : List UInt8} {b : Bool} {x y : World} (h : WBoth B p q L b x) (k : Bl x y) : WBoth B p q L b y := by
  obtain ⟨M, h1, h2, h3, h4, h5⟩ := h
  exact ⟨M, wr_below h1 k, (k.block q h2.lt).trans h2, h3, h4, h5⟩
/-- Below block B only blocks p and q have turned. -/
structure OnlyB2 (B p q : Nat) (w w' : World) : Prop where
  os : w'.os = w.os
  tape : w'.tape = w.tape
  output : w'.output = w.output
  size : w.heap.size ≤ w'.heap.size
  block : ∀ k, k < B → k ≠ p → k ≠ q → w'.heap[k]? = w.heap[k]?
theorem onlyB2_refl (B p q : Nat) (w : World) : OnlyB2 B p q w w := ⟨rfl, rfl, rfl, Nat.le_refl _, fun _ _ _ _ => rfl⟩
theorem onlyB2_trans {B p q : Nat} {a b c : World} (h : OnlyB2 B p q a b) (k : OnlyB2 B p q b c) : OnlyB2 B p q a c :=
  ⟨k.os.trans h.os, k.tape.trans h.tape, k.output.trans h.output, Nat.le_trans h.size k.size, fun i hi h1 h2 => (k.block i hi h1 h2).trans (h.block i hi h1 h2)⟩
theorem onlyB2_l {B p q : Nat} {a b : World} (h : OnlyB B p a b) : OnlyB2 B p q a b := ⟨h.os, h.tape, h.output, h.size, fun k hk h1 _ => h.block k hk h1⟩
theorem onlyB2_r {B p q : Nat} {a b : World} (h : Only q a b) (hB : B ≤ a.heap.size) : OnlyB2 B p q a b := ⟨h.os, h.tape, h.output, h.size, fun k hk _ h1 => h.block k (by omega) (fun e => h1 (by cases e; rfl))⟩
theorem onlyB2_bl {B p q : Nat} {a b : World} (h : Bl a b) (hB : B ≤ a.heap.size) : OnlyB2 B p q a b := ⟨h.os, h.tape, h.output, h.size, fun k hk _ _ => h.block k (by omega)⟩
theorem onlyB2_below {B p q n : Nat} {a b : World} (h : OnlyB2 B p q a b) (hp : n ≤ p) (hq : n ≤ q) (hB : n ≤ B) : Below n a b :=
  ⟨h.os, h.tape, h.output, h.size, fun k hk => h.block k (by omega) (by omega) (by omega)⟩
/-- An item by value. -/
def itemV (k : Nat) (n : Nat) (S : List UInt8) : Value := .agg #[.int .u8 k, .int .u64 n, .string (strL S)]
/-- The bytes that an item adds; whether it is too long. -/
def putL (k n : Nat) (S : List UInt8) : List UInt8 :=
  if k % 6 = 0 then beB (n % 256) 1 else if k % 6 = 1 then beB (n % 65536) 2 else if k % 6 = 2 then beB (n % 4294967296) 4 else if k % 6 = 3 then beB n 8 else if k % 6 = 4 then S else beB S.length 2 ++ S
def PutB (B p q : Nat) (L : List UInt8) (m : Nat) (w : World) (x : Ending) (w' : World) : Prop :=
  x = .returned (.tuple #[]) ∧ (∃ L' b', L'.length ≤ L.length + m ∧ WBoth B p q L' b' w') ∧ OnlyB2 B p q w w'

theorem put_fin {B p q m : Nat} {L D : List UInt8} {w a w1 w2 : World} (hA : OnlyB2 B p q w a) (P1 : Wr B p (L ++ D) 0 w1 ∧ OnlyB B p a w1) (P2 : Rw q (L ++ D) false w2 ∧ Only q w1 w2) (hne : p ≠ q) (hq : q < B) (hm : D.length ≤ m) :
    PutB B p q L m w (.returned (.tuple #[])) w2 := by
  have hB : B ≤ w1.heap.size := by obtain ⟨v, _, _, _, h⟩ := P1.1; exact h
  exact ⟨rfl, ⟨L ++ D, false, by rw [List.length_append]; omega, L ++ D, wr_only P1.1 P2.2 hq (Ne.symm hne), P2.1, fun _ => rfl, hne, hq⟩, onlyB2_trans hA (onlyB2_trans (onlyB2_l P1.2) (onlyB2_r P2.2 hB))⟩
theorem put_fin_l {B p q m : Nat} {L M : List UInt8} {w a w1 w2 : World} (hA : OnlyB2 B p q w a) (P1 : Wr B p L 3 w1 ∧ OnlyB B p a w1) (P2 : Rw q M true w2 ∧ Only q w1 w2) (hne : p ≠ q) (hq : q < B) :
    PutB B p q L m w (.returned (.tuple #[])) w2 := by
  have hB : B ≤ w1.heap.size := by obtain ⟨v, _, _, _, h⟩ := P1.1; exact h
  exact ⟨rfl, ⟨L, true, by omega, M, wr_only P1.1 P2.2 hq (Ne.symm hne), P2.1, (fun h => by cases h), hne, hq⟩, onlyB2_trans hA (onlyB2_trans (onlyB2_l P1.2) (onlyB2_r P2.2 hB))⟩
theorem put_fin_t {B p q m : Nat} {L M : List UInt8} {w a w2 : World} (hA : OnlyB2 B p q w a) (P1 : Wr B p L 3 a) (P2 : Rw q M true w2 ∧ Only q a w2) (hne : p ≠ q) (hq : q < B) :
    PutB B p q L m w (.returned (.tuple #[])) w2 := put_fin_l hA ⟨P1, onlyB_refl _ _ _⟩ P2 hne hq
theorem put_fin_s {B p q m : Nat} {L M : List UInt8} {w a : World} (hA : OnlyB2 B p q w a) (P1 : Wr B p L 3 a) (P2 : Rw q M true a) (hne : p ≠ q) (hq : q < B) :
    PutB B p q L m w (.returned (.tuple #[])) a := put_fin_l hA ⟨P1, onlyB_refl _ _ _⟩ ⟨P2, only_refl _ _⟩ hne hq

set_option maxRecDepth 100000 in
set_option maxHeartbeats 800000 in
theorem put2_0f (B p q k n : Nat) (S L : List UInt8) (w : World) (hk : k % 6 = 0) (hn : n < 18446744073709551616) (hS : S.length ≤ 70000) (hL : L.length ≤ 100000000) (h : WBoth B p q L false w) :
    Calls Try.prog 16 #[.pointer (some ⟨p, 0, none⟩), .pointer (some ⟨q, 0, none⟩), itemV k n S] w (PutB B p q L 70002 w) := by
  unfold itemV
  generalize hO : Obj.cells #[.int .u8 k, .int .u64 n, .string (strL S)] 36 = O
  have hB0 : B ≤ w.heap.size := by obtain ⟨M, h1, _⟩ := h; obtain ⟨v, _, _, _, h4⟩ := h1; exact h4
  have hr : (k : Int).tmod 6 = 0 := by rw [Int.tmod_eq_emod_of_nonneg (by omega)]; omega
  have hA : Hid (OnlyB2 B p q w (w.alloc O)) := Lib.hid (onlyB2_bl ((Bl.refl w).alloc _) hB0)
  obtain ⟨M, h1, h2, h3, h4, h5⟩ := wboth_bl h ((Bl.refl w).alloc O)
  have HE := Lib.hid h3
  have H1 : Hid (Wr B p L 0 (w.alloc O)) := Lib.hid h1
  have H4 := Lib.hid h4
  have H5 := Lib.hid h5
  have HL := Lib.hid hL
  have HS := Lib.hid hS
  have HN := Lib.hid hn
  have hbox : (w.alloc O).heap[w.heap.size]? = some (.cells #[.int .u8 k, .int .u64 n, .string (strL S)] 36 (0, 0)) := by rw [← hO]; exact heap_alloc_new _ _
  have hpl : p < B := by obtain ⟨v, _, _, h, _⟩ := h1; exact h
  have G : Hid (∀ w1 : World, OnlyB B p (w.alloc O) w1 → w1.heap[w.heap.size]? = some (.cells #[.int .u8 k, .int .u64 n, .string (strL S)] 36 (0, 0))) := Lib.hid (fun w1 ho => (ho.other w.heap.size (by show _ < (w.heap.push O).size; rw [Array.size_push]; omega) (by omega) (by rw [hbox]; intro c fz h; cases h)).trans hbox)
  have g0 : (w.alloc O).cell? ⟨w.heap.size, 0, none⟩ = some (.int .u8 k) := by rw [cell_of_row _ _ _ _ _ _ hbox]; rfl
  have g1 : (w.alloc O).cell? ⟨w.heap.size, 1, none⟩ = some (.int .u64 n) := by rw [cell_of_row _ _ _ _ _ _ hbox]; rfl
  have g2 : (w.alloc O).cell? ⟨w.heap.size, 2, none⟩ = some (.string (strL S)) := by rw [cell_of_row _ _ _ _ _ _ hbox]; rfl
  have H2 : Hid (Rw q L false (w.alloc O)) := Lib.hid (by have := HE.out rfl; rw [← this]; exact h2)
  have hw : IntKind.u8.wrap (n : Int) = ((n % 256 : Nat) : Int) := by rw [IntKind.wrap_u8]; omega
  have hu : IntKind.u64.wrap ((n % 256 : Nat) : Int) = ((n % 256 : Nat) : Int) := IntWalk.u64_in _ (by omega)
  have HV : Hid (n % 256 < 256) := Lib.hid (Nat.mod_lt _ (by decide))
  have HV2 : Hid (n % 256 < 18446744073709551616) := Lib.hid (by omega)
  generalize hm : n % 256 = m at hw hu HV HV2
  clear hm
  clear h hk hn hS hL h1 h2 h3 h4 h5 hbox hpl hB0
  subst hO
  go_enter Try.func16, Try.ntmps16
  go_wp2_with (first
    | (go_at_call 25; refine (w_u8 B p L m _ HV.out (by have := HL.out; omega) H1.out).mono ?_; rintro x w1 ⟨rfl, ha, hb⟩; have P1 := Lib.hid (And.intro ha hb); have hbx := G.out w1 hb; have e1 : w1.cell? ⟨w.heap.size, 1, none⟩ = some (.int .u64 n) := by { rw [cell_of_row _ _ _ _ _ _ hbx]; rfl }; have e2 : w1.cell? ⟨w.heap.size, 2, none⟩ = some (.string (strL S)) := by { rw [cell_of_row _ _ _ _ _ _ hbx]; rfl }; have R1 := Lib.hid (rw_onlyB H2.out hb H5.out (Ne.symm H4.out)); clear ha hb hbx)
    | (go_at_call 57; refine (rw_number q m 1 L _ HV2.out (by decide) (by decide) (by have := HL.out; omega) R1.out).mono ?_; rintro x w2 ⟨rfl, ha, hb⟩; have P2 := Lib.hid (And.intro ha hb); clear ha hb))
  go_end0
  exact put_fin hA.out P1.out P2.out H4.out H5.out (by rw [beB_length]; omega)

set_option maxRecDepth 100000 in
set_option maxHeartbeats 800000 in
theorem put2_0t (B p q k n : Nat) (S L : List UInt8) (w : World) (hk : k % 6 = 0) (hn : n < 18446744073709551616) (hS : S.length ≤ 70000) (hL : L.length ≤ 100000000) (h : WBoth B p q L true w) :
    Calls Try.prog 16 #[.pointer (some ⟨p, 0, none⟩), .pointer (some ⟨q, 0, none⟩), itemV k n S] w (PutB B p q L 70002 w) := by
  unfold itemV
  generalize hO : Obj.cells #[.int .u8 k, .int .u64 n, .string (strL S)] 36 = O
  have hB0 : B ≤ w.heap.size := by obtain ⟨M, h1, _⟩ := h; obtain ⟨v, _, _, _, h4⟩ := h1; exact h4
  have hr : (k : Int).tmod 6 = 0 := by rw [Int.tmod_eq_emod_of_nonneg (by omega)]; omega
  have hA : Hid (OnlyB2 B p q w (w.alloc O)) := Lib.hid (onlyB2_bl ((Bl.refl w).alloc _) hB0)
  obtain ⟨M, h1, h2, h3, h4, h5⟩ := wboth_bl h ((Bl.refl w).alloc O)
  have HE := Lib.hid h3
  have H1 : Hid (Wr B p L 3 (w.alloc O)) := Lib.hid h1
  have H4 := Lib.hid h4
  have H5 := Lib.hid h5
  have HL := Lib.hid hL
  have HS := Lib.hid hS
  have HN := Lib.hid hn
  have hbox : (w.alloc O).heap[w.heap.size]? = some (.cells #[.int .u8 k, .int .u64 n, .string (strL S)] 36 (0, 0)) := by rw [← hO]; exact heap_alloc_new _ _
  have hpl : p < B := by obtain ⟨v, _, _, h, _⟩ := h1; exact h
  have G : Hid (∀ w1 : World, OnlyB B p (w.alloc O) w1 → w1.heap[w.heap.size]? = some (.cells #[.int .u8 k, .int .u64 n, .string (strL S)] 36 (0, 0))) := Lib.hid (fun w1 ho => (ho.other w.heap.size (by show _ < (w.heap.push O).size; rw [Array.size_push]; omega) (by omega) (by rw [hbox]; intro c fz h; cases h)).trans hbox)
  have g0 : (w.alloc O).cell? ⟨w.heap.size, 0, none⟩ = some (.int .u8 k) := by rw [cell_of_row _ _ _ _ _ _ hbox]; rfl
  have g1 : (w.alloc O).cell? ⟨w.heap.size, 1, none⟩ = some (.int .u64 n) := by rw [cell_of_row _ _ _ _ _ _ hbox]; rfl
  have g2 : (w.alloc O).cell? ⟨w.heap.size, 2, none⟩ = some (.string (strL S)) := by rw [cell_of_row _ _ _ _ _ _ hbox]; rfl
  have H2 : Hid (Rw q M true (w.alloc O)) := Lib.hid h2
  have hw : IntKind.u8.wrap (n : Int) = ((n % 256 : Nat) : Int) := by rw [IntKind.wrap_u8]; omega
  have hu : IntKind.u64.wrap ((n % 256 : Nat) : Int) = ((n % 256 : Nat) : Int) := IntWalk.u64_in _ (by omega)
  have HV : Hid (n % 256 < 256) := Lib.hid (Nat.mod_lt _ (by decide))
  have HV2 : Hid (n % 256 < 18446744073709551616) := Lib.hid (by omega)
  generalize hm : n % 256 = m at hw hu HV HV2
  clear hm
  clear h hk hn hS hL h1 h2 h3 h4 h5 hbox hpl hB0
  subst hO
  go_enter Try.func16, Try.ntmps16
  go_wp2_with (first
    | (go_at_call 25; refine (we_u8 B p L 3 m _ (by decide) H1.out).mono ?_; rintro x w1 ⟨rfl, rfl⟩)
    | (go_at_call 57; refine (rwe_number q m 1 M _ HV2.out (by decide) (by decide) H2.out).mono ?_; rintro x w2 ⟨rfl, ha, hb⟩; have P2 := Lib.hid (And.intro ha hb); clear ha hb))
  go_end0
  exact put_fin_t hA.out H1.out P2.out H4.out H5.out

set_option maxRecDepth 100000 in
set_option maxHeartbeats 800000 in
theorem put2_1f (B p q k n : Nat) (S L : List UInt8) (w : World) (hk : k % 6 = 1) (hn : n < 18446744073709551616) (hS : S.length ≤ 70000) (hL : L.length ≤ 100000000) (h : WBoth B p q L false w) :
    Calls Try.prog 16 #[.pointer (some ⟨p, 0, none⟩), .pointer (some ⟨q, 0, none⟩), itemV k n S] w (PutB B p q L 70002 w) := by
  unfold itemV
  generalize hO : Obj.cells #[.int .u8 k, .int .u64 n, .string (strL S)] 36 = O
  have hB0 : B ≤ w.heap.size := by obtain ⟨M, h1, _⟩ := h; obtain ⟨v, _, _, _, h4⟩ := h1; exact h4
  have hr : (k : Int).tmod 6 = 1 := by rw [Int.tmod_eq_emod_of_nonneg (by omega)]; omega
  have hA : Hid (OnlyB2 B p q w (w.alloc O)) := Lib.hid (onlyB2_bl ((Bl.refl w).alloc _) hB0)
  obtain ⟨M, h1, h2, h3, h4, h5⟩ := wboth_bl h ((Bl.refl w).alloc O)
  have HE := Lib.hid h3
  have H1 : Hid (Wr B p L 0 (w.alloc O)) := Lib.hid h1
  have H4 := Lib.hid h4
  have H5 := Lib.hid h5
  have HL := Lib.hid hL
  have HS := Lib.hid hS
  have HN := Lib.hid hn
  have hbox : (w.alloc O).heap[w.heap.size]? = some (.cells #[.int .u8 k, .int .u64 n, .string (strL S)] 36 (0, 0)) := by rw [← hO]; exact heap_alloc_new _ _
  have hpl : p < B := by obtain ⟨v, _, _, h, _⟩ := h1; exact h
  have G : Hid (∀ w1 : World, OnlyB B p (w.alloc O) w1 → w1.heap[w.heap.size]? = some (.cells #[.int .u8 k, .int .u64 n, .string (strL S)] 36 (0, 0))) := Lib.hid (fun w1 ho => (ho.other w.heap.size (by show _ < (w.heap.push O).size; rw [Array.size_push]; omega) (by omega) (by rw [hbox]; intro c fz h; cases h)).trans hbox)
  have g0 : (w.alloc O).cell? ⟨w.heap.size, 0, none⟩ = some (.int .u8 k) := by rw [cell_of_row _ _ _ _ _ _ hbox]; rfl
  have g1 : (w.alloc O).cell? ⟨w.heap.size, 1, none⟩ = some (.int .u64 n) := by rw [cell_of_row _ _ _ _ _ _ hbox]; rfl
  have g2 : (w.alloc O).cell? ⟨w.heap.size, 2, none⟩ = some (.string (strL S)) := by rw [cell_of_row _ _ _ _ _ _ hbox]; rfl
  have H2 : Hid (Rw q L false (w.alloc O)) := Lib.hid (by have := HE.out rfl; rw [← this]; exact h2)
  have hw : IntKind.u16.wrap (n : Int) = ((n % 65536 : Nat) : Int) := by rw [IntKind.wrap_u16]; omega
  have hu : IntKind.u64.wrap ((n % 65536 : Nat) : Int) = ((n % 65536 : Nat) : Int) := IntWalk.u64_in _ (by omega)
  have HV : Hid (n % 65536 < 65536) := Lib.hid (Nat.mod_lt _ (by decide))
  have HV2 : Hid (n % 65536 < 18446744073709551616) := Lib.hid (by omega)
  generalize hm : n % 65536 = m at hw hu HV HV2
  clear hm
  clear h hk hn hS hL h1 h2 h3 h4 h5 hbox hpl hB0
  subst hO
  go_enter Try.func16, Try.ntmps16
  go_wp2_with (first
    | (go_at_call 26; refine (w_u16 B p L m _ HV.out (by have := HL.out; omega) H1.out).mono ?_; rintro x w1 ⟨rfl, ha, hb⟩; have P1 := Lib.hid (And.intro ha hb); have hbx := G.out w1 hb; have e1 : w1.cell? ⟨w.heap.size, 1, none⟩ = some (.int .u64 n) := by { rw [cell_of_row _ _ _ _ _ _ hbx]; rfl }; have e2 : w1.cell? ⟨w.heap.size, 2, none⟩ = some (.string (strL S)) := by { rw [cell_of_row _ _ _ _ _ _ hbx]; rfl }; have R1 := Lib.hid (rw_onlyB H2.out hb H5.out (Ne.symm H4.out)); clear ha hb hbx)
    | (go_at_call 57; refine (rw_number q m 2 L _ HV2.out (by decide) (by decide) (by have := HL.out; omega) R1.out).mono ?_; rintro x w2 ⟨rfl, ha, hb⟩; have P2 := Lib.hid (And.intro ha hb); clear ha hb))
  go_end0
  exact put_fin hA.out P1.out P2.out H4.out H5.out (by rw [beB_length]; omega)

set_option maxRecDepth 100000 in
set_option maxHeartbeats 800000 in
theorem put2_1t (B p q k n : Nat) (S L : List UInt8) (w : World) (hk : k % 6 = 1) (hn : n < 18446744073709551616) (hS : S.length ≤ 70000) (hL : L.length ≤ 100000000) (h : WBoth B p q L true w) :
    Calls Try.prog 16 #[.pointer (some ⟨p, 0, none⟩), .pointer (some ⟨q, 0, none⟩), itemV k n S] w (PutB B p q L 70002 w) := by
  unfold itemV
  generalize hO : Obj.cells #[.int .u8 k, .int .u64 n, .string (strL S)] 36 = O
  have hB0 : B ≤ w.heap.size := by obtain ⟨M, h1, _⟩ := h; obtain ⟨v, _, _, _, h4⟩ := h1; exact h4
  have hr : (k : Int).tmod 6 = 1 := by rw [Int.tmod_eq_emod_of_nonneg (by omega)]; omega
  have hA : Hid (OnlyB2 B p q w (w.alloc O)) := Lib.hid (onlyB2_bl ((Bl.refl w).alloc _) hB0)
  obtain ⟨M, h1, h2, h3, h4, h5⟩ := wboth_bl h ((Bl.refl w).alloc O)
  have HE := Lib.hid h3
  have H1 : Hid (Wr B p L 3 (w.alloc O)) := Lib.hid h1
  have H4 := Lib.hid h4
  have H5 := Lib.hid h5
  have HL := Lib.hid hL
  have HS := Lib.hid hS
  have HN := Lib.hid hn
  have hbox : (w.alloc O).heap[w.heap.size]? = some (.cells #[.int .u8 k, .int .u64 n, .string (strL S)] 36 (0, 0)) := by rw [← hO]; exact heap_alloc_new _ _
  have hpl : p < B := by obtain ⟨v, _, _, h, _⟩ := h1; exact h
  have G : Hid (∀ w1 : World, OnlyB B p (w.alloc O) w1 → w1.heap[w.heap.size]? = some (.cells #[.int .u8 k, .int .u64 n, .string (strL S)] 36 (0, 0))) := Lib.hid (fun w1 ho => (ho.other w.heap.size (by show _ < (w.heap.push O).size; rw [Array.size_push]; omega) (by omega) (by rw [hbox]; intro c fz h; cases h)).trans hbox)
  have g0 : (w.alloc O).cell? ⟨w.heap.size, 0, none⟩ = some (.int .u8 k) := by rw [cell_of_row _ _ _ _ _ _ hbox]; rfl
  have g1 : (w.alloc O).cell? ⟨w.heap.size, 1, none⟩ = some (.int .u64 n) := by rw [cell_of_row _ _ _ _ _ _ hbox]; rfl
  have g2 : (w.alloc O).cell? ⟨w.heap.size, 2, none⟩ = some (.string (strL S)) := by rw [cell_of_row _ _ _ _ _ _ hbox]; rfl
  have H2 : Hid (Rw q M true (w.alloc O)) := Lib.hid h2
  have hw : IntKind.u16.wrap (n : Int) = ((n % 65536 : Nat) : Int) := by rw [IntKind.wrap_u16]; omega
  have hu : IntKind.u64.wrap ((n % 65536 : Nat) : Int) = ((n % 65536 : Nat) : Int) := IntWalk.u64_in _ (by omega)
  have HV : Hid (n % 65536 < 65536) := Lib.hid (Nat.mod_lt _ (by decide))
  have HV2 : Hid (n % 65536 < 18446744073709551616) := Lib.hid (by omega)
  generalize hm : n % 65536 = m at hw hu HV HV2
  clear hm
  clear h hk hn hS hL h1 h2 h3 h4 h5 hbox hpl hB0
  subst hO
  go_enter Try.func16, Try.ntmps16
  go_wp2_with (first
    | (go_at_call 26; refine (we_u16 B p L 3 m _ (by decide) H1.out).mono ?_; rintro x w1 ⟨rfl, rfl⟩)
    | (go_at_call 57; refine (rwe_number q m 2 M _ HV2.out (by decide) (by decide) H2.out).mono ?_; rintro x w2 ⟨rfl, ha, hb⟩; have P2 := Lib.hid (And.intro ha hb); clear ha hb))
  go_end0
  exact put_fin_t hA.out H1.out P2.out H4.out H5.out

set_option maxRecDepth 100000 in
set_option maxHeartbeats 800000 in
theorem put2_2f (B p q k n : Nat) (S L : List UInt8) (w : World) (hk : k % 6 = 2) (hn : n < 18446744073709551616) (hS : S.length ≤ 70000) (hL : L.length ≤ 100000000) (h : WBoth B p q L false w) :
    Calls Try.prog 16 #[.pointer (some ⟨p, 0, none⟩), .pointer (some ⟨q, 0, none⟩), itemV k n S] w (PutB B p q L 70002 w) := by
  unfold itemV
  generalize hO : Obj.cells #[.int .u8 k, .int .u64 n, .string (strL S)] 36 = O
  have hB0 : B ≤ w.heap.size := by obtain ⟨M, h1, _⟩ := h; obtain ⟨v, _, _, _, h4⟩ := h1; exact h4
  have hr : (k : Int).tmod 6 = 2 := by rw [Int.tmod_eq_emod_of_nonneg (by omega)]; omega
  have hA : Hid (OnlyB2 B p q w (w.alloc O)) := Lib.hid (onlyB2_bl ((Bl.refl w).alloc _) hB0)
  obtain ⟨M, h1, h2, h3, h4, h5⟩ := wboth_bl h ((Bl.refl w).alloc O)
  have HE := Lib.hid h3
  have H1 : Hid (Wr B p L 0 (w.alloc O)) := Lib.hid h1
  have H4 := Lib.hid h4
  have H5 := Lib.hid h5
  have HL := Lib.hid hL
  have HS := Lib.hid hS
  have HN := Lib.hid hn
  have hbox : (w.alloc O).heap[w.heap.size]? = some (.cells #[.int .u8 k, .int .u64 n, .string (strL S)] 36 (0, 0)) := by rw [← hO]; exact heap_alloc_new _ _
  have hpl : p < B := by obtain ⟨v, _, _, h, _⟩ := h1; exact h
  have G : Hid (∀ w1 : World, OnlyB B p (w.alloc O) w1 → w1.heap[w.heap.size]? = some (.cells #[.int .u8 k, .int .u64 n, .string (strL S)] 36 (0, 0))) := Lib.hid (fun w1 ho => (ho.other w.heap.size (by show _ < (w.heap.push O).size; rw [Array.size_push]; omega) (by omega) (by rw [hbox]; intro c fz h; cases h)).trans hbox)
  have g0 : (w.alloc O).cell? ⟨w.heap.size, 0, none⟩ = some (.int .u8 k) := by rw [cell_of_row _ _ _ _ _ _ hbox]; rfl
  have g1 : (w.alloc O).cell? ⟨w.heap.size, 1, none⟩ = some (.int .u64 n) := by rw [cell_of_row _ _ _ _ _ _ hbox]; rfl
  have g2 : (w.alloc O).cell? ⟨w.heap.size, 2, none⟩ = some (.string (strL S)) := by rw [cell_of_row _ _ _ _ _ _ hbox]; rfl
  have H2 : Hid (Rw q L false (w.alloc O)) := Lib.hid (by have := HE.out rfl; rw [← this]; exact h2)
  have hw : IntKind.u32.wrap (n : Int) = ((n % 4294967296 : Nat) : Int) := by rw [IntKind.wrap_u32]; omega
  have hu : IntKind.u64.wrap ((n % 4294967296 : Nat) : Int) = ((n % 4294967296 : Nat) : Int) := IntWalk.u64_in _ (by omega)
  have HV : Hid (n % 4294967296 < 4294967296) := Lib.hid (Nat.mod_lt _ (by decide))
  have HV2 : Hid (n % 4294967296 < 18446744073709551616) := Lib.hid (by omega)
  generalize hm : n % 4294967296 = m at hw hu HV HV2
  clear hm
  clear h hk hn hS hL h1 h2 h3 h4 h5 hbox hpl hB0
  subst hO
  go_enter Try.func16, Try.ntmps16
  go_wp2_with (first
    | (go_at_call 27; refine (w_u32 B p L m _ HV.out (by have := HL.out; omega) H1.out).mono ?_; rintro x w1 ⟨rfl, ha, hb⟩; have P1 := Lib.hid (And.intro ha hb); have hbx := G.out w1 hb; have e1 : w1.cell? ⟨w.heap.size, 1, none⟩ = some (.int .u64 n) := by { rw [cell_of_row _ _ _ _ _ _ hbx]; rfl }; have e2 : w1.cell? ⟨w.heap.size, 2, none⟩ = some (.string (strL S)) := by { rw [cell_of_row _ _ _ _ _ _ hbx]; rfl }; have R1 := Lib.hid (rw_onlyB H2.out hb H5.out (Ne.symm H4.out)); clear ha hb hbx)
    | (go_at_call 57; refine (rw_number q m 4 L _ HV2.out (by decide) (by decide) (by have := HL.out; omega) R1.out).mono ?_; rintro x w2 ⟨rfl, ha, hb⟩; have P2 := Lib.hid (And.intro ha hb); clear ha hb))
  go_end0
  exact put_fin hA.out P1.out P2.out H4.out H5.out (by rw [beB_length]; omega)

set_option maxRecDepth 100000 in
set_option maxHeartbeats 800000 in
theorem put2_2t (B p q k n : Nat) (S L : List UInt8) (w : World) (hk : k % 6 = 2) (hn : n < 18446744073709551616) (hS : S.length ≤ 70000) (hL : L.length ≤ 100000000) (h : WBoth B p q L true w) :
    Calls Try.prog 16 #[.pointer (some ⟨p, 0, none⟩), .pointer (some ⟨q, 0, none⟩), itemV k n S] w (PutB B p q L 70002 w) := by
  unfold itemV
  generalize hO : Obj.cells #[.int .u8 k, .int .u64 n, .string (strL S)] 36 = O
  have hB0 : B ≤ w.heap.size := by obtain ⟨M, h1, _⟩ := h; obtain ⟨v, _, _, _, h4⟩ := h1; exact h4
  have hr : (k : Int).tmod 6 = 2 := by rw [Int.tmod_eq_emod_of_nonneg (by omega)]; omega
  have hA : Hid (OnlyB2 B p q w (w.alloc O)) := Lib.hid (onlyB2_bl ((Bl.refl w).alloc _) hB0)
  obtain ⟨M, h1, h2, h3, h4, h5⟩ := wboth_bl h ((Bl.refl w).alloc O)
  have HE := Lib.hid h3
  have H1 : Hid (Wr B p L 3 (w.alloc O)) := Lib.hid h1
  have H4 := Lib.hid h4
  have H5 := Lib.hid h5
  have HL := Lib.hid hL
  have HS := Lib.hid hS
  have HN := Lib.hid hn
  have hbox : (w.alloc O).heap[w.heap.size]? = some (.cells #[.int .u8 k, .int .u64 n, .string (strL S)] 36 (0, 0)) := by rw [← hO]; exact heap_alloc_new _ _
  have hpl : p < B := by obtain ⟨v, _, _, h, _⟩ := h1; exact h
  have G : Hid (∀ w1 : World, OnlyB B p (w.alloc O) w1 → w1.heap[w.heap.size]? = some (.cells #[.int .u8 k, .int .u64 n, .string (strL S)] 36 (0, 0))) := Lib.hid (fun w1 ho => (ho.other w.heap.size (by show _ < (w.heap.push O).size; rw [Array.size_push]; omega) (by omega) (by rw [hbox]; intro c fz h; cases h)).trans hbox)
  have g0 : (w.alloc O).cell? ⟨w.heap.size, 0, none⟩ = some (.int .u8 k) := by rw [cell_of_row _ _ _ _ _ _ hbox]; rfl
  have g1 : (w.alloc O).cell? ⟨w.heap.size, 1, none⟩ = some (.int .u64 n) := by rw [cell_of_row _ _ _ _ _ _ hbox]; rfl
  have g2 : (w.alloc O).cell? ⟨w.heap.size, 2, none⟩ = some (.string (strL S)) := by rw [cell_of_row _ _ _ _ _ _ hbox]; rfl
  have H2 : Hid (Rw q M true (w.alloc O)) := Lib.hid h2
  have hw : IntKind.u32.wrap (n : Int) = ((n % 4294967296 : Nat) : Int) := by rw [IntKind.wrap_u32]; omega
  have hu : IntKind.u64.wrap ((n % 4294967296 : Nat) : Int) = ((n % 4294967296 : Nat) : Int) := IntWalk.u64_in _ (by omega)
  have HV : Hid (n % 4294967296 < 4294967296) := Lib.hid (Nat.mod_lt _ (by decide))
  have HV2 : Hid (n % 4294967296 < 18446744073709551616) := Lib.hid (by omega)
  generalize hm : n % 4294967296 = m at hw hu HV HV2
  clear hm
  clear h hk hn hS hL h1 h2 h3 h4 h5 hbox hpl hB0
  subst hO
  go_enter Try.func16, Try.ntmps16
  go_wp2_with (first
    | (go_at_call 27; refine (we_u32 B p L 3 m _ (by decide) H1.out).mono ?_; rintro x w1 ⟨rfl, rfl⟩)
    | (go_at_call 57; refine (rwe_number q m 4 M _ HV2.out (by decide) (by decide) H2.out).mono ?_; rintro x w2 ⟨rfl, ha, hb⟩; have P2 := Lib.hid (And.intro ha hb); clear ha hb))
  go_end0
  exact put_fin_t hA.out H1.out P2.out H4.out H5.out

set_option maxRecDepth 100000 in
set_option maxHeartbeats 800000 in
theorem put2_3f (B p q k n : Nat) (S L : List UInt8) (w : World) (hk : k % 6 = 3) (hn : n < 18446744073709551616) (hS : S.length ≤ 70000) (hL : L.length ≤ 100000000) (h : WBoth B p q L false w) :
    Calls Try.prog 16 #[.pointer (some ⟨p, 0, none⟩), .pointer (some ⟨q, 0, none⟩), itemV k n S] w (PutB B p q L 70002 w) := by
  unfold itemV
  generalize hO : Obj.cells #[.int .u8 k, .int .u64 n, .string (strL S)] 36 = O
  have hB0 : B ≤ w.heap.size := by obtain ⟨M, h1, _⟩ := h; obtain ⟨v, _, _, _, h4⟩ := h1; exact h4
  have hr : (k : Int).tmod 6 = 3 := by rw [Int.tmod_eq_emod_of_nonneg (by omega)]; omega
  have hA : Hid (OnlyB2 B p q w (w.alloc O)) := Lib.hid (onlyB2_bl ((Bl.refl w).alloc _) hB0)
  obtain ⟨M, h1, h2, h3, h4, h5⟩ := wboth_bl h ((Bl.refl w).alloc O)
  have HE := Lib.hid h3
  have H1 : Hid (Wr B p L 0 (w.alloc O)) := Lib.hid h1
  have H4 := Lib.hid h4
  have H5 := Lib.hid h5
  have HL := Lib.hid hL
  have HS := Lib.hid hS
  have HN := Lib.hid hn
  have hbox : (w.alloc O).heap[w.heap.size]? = some (.cells #[.int .u8 k, .int .u64 n, .string (strL S)] 36 (0, 0)) := by rw [← hO]; exact heap_alloc_new _ _
  have hpl : p < B := by obtain ⟨v, _, _, h, _⟩ := h1; exact h
  have G : Hid (∀ w1 : World, OnlyB B p (w.alloc O) w1 → w1.heap[w.heap.size]? = some (.cells #[.int .u8 k, .int .u64 n, .string (strL S)] 36 (0, 0))) := Lib.hid (fun w1 ho => (ho.other w.heap.size (by show _ < (w.heap.push O).size; rw [Array.size_push]; omega) (by omega) (by rw [hbox]; intro c fz h; cases h)).trans hbox)
  have g0 : (w.alloc O).cell? ⟨w.heap.size, 0, none⟩ = some (.int .u8 k) := by rw [cell_of_row _ _ _ _ _ _ hbox]; rfl
  have g1 : (w.alloc O).cell? ⟨w.heap.size, 1, none⟩ = some (.int .u64 n) := by rw [cell_of_row _ _ _ _ _ _ hbox]; rfl
  have g2 : (w.alloc O).cell? ⟨w.heap.size, 2, none⟩ = some (.string (strL S)) := by rw [cell_of_row _ _ _ _ _ _ hbox]; rfl
  have H2 : Hid (Rw q L false (w.alloc O)) := Lib.hid (by have := HE.out rfl; rw [← this]; exact h2)
  have HV : Hid (n < 18446744073709551616) := HN
  have HV2 : Hid (n < 18446744073709551616) := HN
  clear h hk hn hS hL h1 h2 h3 h4 h5 hbox hpl hB0
  subst hO
  go_enter Try.func16, Try.ntmps16
  go_wp2_with (first
    | (go_at_call 34; refine (w_u64 B p L n _ HV.out (by have := HL.out; omega) H1.out).mono ?_; rintro x w1 ⟨rfl, ha, hb⟩; have P1 := Lib.hid (And.intro ha hb); have hbx := G.out w1 hb; have e1 : w1.cell? ⟨w.heap.size, 1, none⟩ = some (.int .u64 n) := by { rw [cell_of_row _ _ _ _ _ _ hbx]; rfl }; have e2 : w1.cell? ⟨w.heap.size, 2, none⟩ = some (.string (strL S)) := by { rw [cell_of_row _ _ _ _ _ _ hbx]; rfl }; have R1 := Lib.hid (rw_onlyB H2.out hb H5.out (Ne.symm H4.out)); clear ha hb hbx)
    | (go_at_call 57; refine (rw_number q n 8 L _ HV2.out (by decide) (by decide) (by have := HL.out; omega) R1.out).mono ?_; rintro x w2 ⟨rfl, ha, hb⟩; have P2 := Lib.hid (And.intro ha hb); clear ha hb))
  go_end0
  exact put_fin hA.out P1.out P2.out H4.out H5.out (by rw [beB_length]; omega)

set_option maxRecDepth 100000 in
set_option maxHeartbeats 800000 in
theorem put2_3t (B p q k n : Nat) (S L : List UInt8) (w : World) (hk : k % 6 = 3) (hn : n < 18446744073709551616) (hS : S.length ≤ 70000) (hL : L.length ≤ 100000000) (h : WBoth B p q L true w) :
    Calls Try.prog 16 #[.pointer (some ⟨p, 0, none⟩), .pointer (some ⟨q, 0, none⟩), itemV k n S] w (PutB B p q L 70002 w) := by
  unfold itemV
  generalize hO : Obj.cells #[.int .u8 k, .int .u64 n, .string (strL S)] 36 = O
  have hB0 : B ≤ w.heap.size := by obtain ⟨M, h1, _⟩ := h; obtain ⟨v, _, _, _, h4⟩ := h1; exact h4
  have hr : (k : Int).tmod 6 = 3 := by rw [Int.tmod_eq_emod_of_nonneg (by omega)]; omega
  have hA : Hid (OnlyB2 B p q w (w.alloc O)) := Lib.hid (onlyB2_bl ((Bl.refl w).alloc _) hB0)
  obtain ⟨M, h1, h2, h3, h4, h5⟩ := wboth_bl h ((Bl.refl w).alloc O)
  have HE := Lib.hid h3
  have H1 : Hid (Wr B p L 3 (w.alloc O)) := Lib.hid h1
  have H4 := Lib.hid h4
  have H5 := Lib.hid h5
  have HL := Lib.hid hL
  have HS := Lib.hid hS
  have HN := Lib.hid hn
  have hbox : (w.alloc O).heap[w.heap.size]? = some (.cells #[.int .u8 k, .int .u64 n, .string (strL S)] 36 (0, 0)) := by rw [← hO]; exact heap_alloc_new _ _
  have hpl : p < B := by obtain ⟨v, _, _, h, _⟩ := h1; exact h
  have G : Hid (∀ w1 : World, OnlyB B p (w.alloc O) w1 → w1.heap[w.heap.size]? = some (.cells #[.int .u8 k, .int .u64 n, .string (strL S)] 36 (0, 0))) := Lib.hid (fun w1 ho => (ho.other w.heap.size (by show _ < (w.heap.push O).size; rw [Array.size_push]; omega) (by omega) (by rw [hbox]; intro c fz h; cases h)).trans hbox)
  have g0 : (w.alloc O).cell? ⟨w.heap.size, 0, none⟩ = some (.int .u8 k) := by rw [cell_of_row _ _ _ _ _ _ hbox]; rfl
  have g1 : (w.alloc O).cell? ⟨w.heap.size, 1, none⟩ = some (.int .u64 n) := by rw [cell_of_row _ _ _ _ _ _ hbox]; rfl
  have g2 : (w.alloc O).cell? ⟨w.heap.size, 2, none⟩ = some (.string (strL S)) := by rw [cell_of_row _ _ _ _ _ _ hbox]; rfl
  have H2 : Hid (Rw q M true (w.alloc O)) := Lib.hid h2
  have HV : Hid (n < 18446744073709551616) := HN
  have HV2 : Hid (n < 18446744073709551616) := HN
  clear h hk hn hS hL h1 h2 h3 h4 h5 hbox hpl hB0
  subst hO
  go_enter Try.func16, Try.ntmps16
  go_wp2_with (first
    | (go_at_call 34; refine (we_u64 B p L 3 n _ (by decide) H1.out).mono ?_; rintro x w1 ⟨rfl, rfl⟩)
    | (go_at_call 57; refine (rwe_number q n 8 M _ HV2.out (by decide) (by decide) H2.out).mono ?_; rintro x w2 ⟨rfl, ha, hb⟩; have P2 := Lib.hid (And.intro ha hb); clear ha hb))
  go_end0
  exact put_fin_t hA.out H1.out P2.out H4.out H5.out

set_option maxRecDepth 100000 in
set_option maxHeartbeats 800000 in
theorem put2_4f (B p q k n : Nat) (S L : List UInt8) (w : World) (hk : k % 6 = 4) (hn : n < 18446744073709551616) (hS : S.length ≤ 70000) (hL : L.length ≤ 100000000) (h : WBoth B p q L false w) :
    Calls Try.prog 16 #[.pointer (some ⟨p, 0, none⟩), .pointer (some ⟨q, 0, none⟩), itemV k n S] w (PutB B p q L 70002 w) := by
  unfold itemV
  generalize hO : Obj.cells #[.int .u8 k, .int .u64 n, .string (strL S)] 36 = O
  have hB0 : B ≤ w.heap.size := by obtain ⟨M, h1, _⟩ := h; obtain ⟨v, _, _, _, h4⟩ := h1; exact h4
  have hr : (k : Int).tmod 6 = 4 := by rw [Int.tmod_eq_emod_of_nonneg (by omega)]; omega
  have hA : Hid (OnlyB2 B p q w (w.alloc O)) := Lib.hid (onlyB2_bl ((Bl.refl w).alloc _) hB0)
  obtain ⟨M, h1, h2, h3, h4, h5⟩ := wboth_bl h ((Bl.refl w).alloc O)
  have HE := Lib.hid h3
  have H1 : Hid (Wr B p L 0 (w.alloc O)) := Lib.hid h1
  have H4 := Lib.hid h4
  have H5 := Lib.hid h5
  have HL := Lib.hid hL
  have HS := Lib.hid hS
  have HN := Lib.hid hn
  have hbox : (w.alloc O).heap[w.heap.size]? = some (.cells #[.int .u8 k, .int .u64 n, .string (strL S)] 36 (0, 0)) := by rw [← hO]; exact heap_alloc_new _ _
  have hpl : p < B := by obtain ⟨v, _, _, h, _⟩ := h1; exact h
  have G : Hid (∀ w1 : World, OnlyB B p (w.alloc O) w1 → w1.heap[w.heap.size]? = some (.cells #[.int .u8 k, .int .u64 n, .string (strL S)] 36 (0, 0))) := Lib.hid (fun w1 ho => (ho.other w.heap.size (by show _ < (w.heap.push O).size; rw [Array.size_push]; omega) (by omega) (by rw [hbox]; intro c fz h; cases h)).trans hbox)
  have g0 : (w.alloc O).cell? ⟨w.heap.size, 0, none⟩ = some (.int .u8 k) := by rw [cell_of_row _ _ _ _ _ _ hbox]; rfl
  have g1 : (w.alloc O).cell? ⟨w.heap.size, 1, none⟩ = some (.int .u64 n) := by rw [cell_of_row _ _ _ _ _ _ hbox]; rfl
  have g2 : (w.alloc O).cell? ⟨w.heap.size, 2, none⟩ = some (.string (strL S)) := by rw [cell_of_row _ _ _ _ _ _ hbox]; rfl
  have H2 : Hid (Rw q L false (w.alloc O)) := Lib.hid (by have := HE.out rfl; rw [← this]; exact h2)
  clear h hk hn hS hL h1 h2 h3 h4 h5 hbox hpl hB0
  subst hO
  go_enter Try.func16, Try.ntmps16
  go_wp2_with (first
    | (go_at_call 29; refine (w_raw B p L S _ (by have := HS.out; omega) (by have := HL.out; omega) H1.out).mono ?_; rintro x w1 ⟨rfl, ha, hb⟩; have P1 := Lib.hid (And.intro ha hb); have hbx := G.out w1 hb; have e1 : w1.cell? ⟨w.heap.size, 1, none⟩ = some (.int .u64 n) := by { rw [cell_of_row _ _ _ _ _ _ hbx]; rfl }; have e2 : w1.cell? ⟨w.heap.size, 2, none⟩ = some (.string (strL S)) := by { rw [cell_of_row _ _ _ _ _ _ hbx]; rfl }; have R1 := Lib.hid (rw_onlyB H2.out hb H5.out (Ne.symm H4.out)); clear ha hb hbx)
    | (go_at_call 58; refine (rw_raw q L S _ (by have := HS.out; omega) (by have := HL.out; omega) R1.out).mono ?_; rintro x w2 ⟨rfl, ha, hb⟩; have P2 := Lib.hid (And.intro ha hb); clear ha hb))
  go_end0
  exact put_fin hA.out P1.out P2.out H4.out H5.out (by have := HS.out; omega)

set_option maxRecDepth 100000 in
set_option maxHeartbeats 800000 in
theorem put2_4t (B p q k n : Nat) (S L : List UInt8) (w : World) (hk : k % 6 = 4) (hn : n < 18446744073709551616) (hS : S.length ≤ 70000) (hL : L.length ≤ 100000000) (h : WBoth B p q L true w) :
    Calls Try.prog 16 #[.pointer (some ⟨p, 0, none⟩), .pointer (some ⟨q, 0, none⟩), itemV k n S] w (PutB B p q L 70002 w) := by
  unfold itemV
  generalize hO : Obj.cells #[.int .u8 k, .int .u64 n, .string (strL S)] 36 = O
  have hB0 : B ≤ w.heap.size := by obtain ⟨M, h1, _⟩ := h; obtain ⟨v, _, _, _, h4⟩ := h1; exact h4
  have hr : (k : Int).tmod 6 = 4 := by rw [Int.tmod_eq_emod_of_nonneg (by omega)]; omega
  have hA : Hid (OnlyB2 B p q w (w.alloc O)) := Lib.hid (onlyB2_bl ((Bl.refl w).alloc _) hB0)
  obtain ⟨M, h1, h2, h3, h4, h5⟩ := wboth_bl h ((Bl.refl w).alloc O)
  have HE := Lib.hid h3
  have H1 : Hid (Wr B p L 3 (w.alloc O)) := Lib.hid h1
  have H4 := Lib.hid h4
  have H5 := Lib.hid h5
  have HL := Lib.hid hL
  have HS := Lib.hid hS
  have HN := Lib.hid hn
  have hbox : (w.alloc O).heap[w.heap.size]? = some (.cells #[.int .u8 k, .int .u64 n, .string (strL S)] 36 (0, 0)) := by rw [← hO]; exact heap_alloc_new _ _
  have hpl : p < B := by obtain ⟨v, _, _, h, _⟩ := h1; exact h
  have G : Hid (∀ w1 : World, OnlyB B p (w.alloc O) w1 → w1.heap[w.heap.size]? = some (.cells #[.int .u8 k, .int .u64 n, .string (strL S)] 36 (0, 0))) := Lib.hid (fun w1 ho => (ho.other w.heap.size (by show _ < (w.heap.push O).size; rw [Array.size_push]; omega) (by omega) (by rw [hbox]; intro c fz h; cases h)).trans hbox)
  have g0 : (w.alloc O).cell? ⟨w.heap.size, 0, none⟩ = some (.int .u8 k) := by rw [cell_of_row _ _ _ _ _ _ hbox]; rfl
  have g1 : (w.alloc O).cell? ⟨w.heap.size, 1, none⟩ = some (.int .u64 n) := by rw [cell_of_row _ _ _ _ _ _ hbox]; rfl
  have g2 : (w.alloc O).cell? ⟨w.heap.size, 2, none⟩ = some (.string (strL S)) := by rw [cell_of_row _ _ _ _ _ _ hbox]; rfl
  have H2 : Hid (Rw q M true (w.alloc O)) := Lib.hid h2
  clear h hk hn hS hL h1 h2 h3 h4 h5 hbox hpl hB0
  subst hO
  go_enter Try.func16, Try.ntmps16
  go_wp2_with (first
    | (go_at_call 29; refine (we_raw B p L 3 _ _ (by decide) H1.out).mono ?_; rintro x w1 ⟨rfl, rfl⟩)
    | (go_at_call 58; refine (rwe_raw q M _ _ H2.out).mono ?_; rintro x w2 ⟨rfl, rfl⟩))
  go_end0
  exact put_fin_s hA.out H1.out H2.out H4.out H5.out

set_option maxRecDepth 100000 in
set_option maxHeartbeats 800000 in
theorem put2_5f (B p q k n : Nat) (S L : List UInt8) (w : World) (hk : k % 6 = 5) (hn : n < 18446744073709551616) (hS : S.length ≤ 70000) (hT : S.length ≤ 65535) (hL : L.length ≤ 100000000) (h : WBoth B p q L false w) :
    Calls Try.prog 16 #[.pointer (some ⟨p, 0, none⟩), .pointer (some ⟨q, 0, none⟩), itemV k n S] w (PutB B p q L 70002 w) := by
  unfold itemV
  generalize hO : Obj.cells #[.int .u8 k, .int .u64 n, .string (strL S)] 36 = O
  have hB0 : B ≤ w.heap.size := by obtain ⟨M, h1, _⟩ := h; obtain ⟨v, _, _, _, h4⟩ := h1; exact h4
  have hr : (k : Int).tmod 6 = 5 := by rw [Int.tmod_eq_emod_of_nonneg (by omega)]; omega
  have hA : Hid (OnlyB2 B p q w (w.alloc O)) := Lib.hid (onlyB2_bl ((Bl.refl w).alloc _) hB0)
  obtain ⟨M, h1, h2, h3, h4, h5⟩ := wboth_bl h ((Bl.refl w).alloc O)
  have HE := Lib.hid h3
  have H1 : Hid (Wr B p L 0 (w.alloc O)) := Lib.hid h1
  have H4 := Lib.hid h4
  have H5 := Lib.hid h5
  have HL := Lib.hid hL
  have HS := Lib.hid hS
  have HN := Lib.hid hn
  have hbox : (w.alloc O).heap[w.heap.size]? = some (.cells #[.int .u8 k, .int .u64 n, .string (strL S)] 36 (0, 0)) := by rw [← hO]; exact heap_alloc_new _ _
  have hpl : p < B := by obtain ⟨v, _, _, h, _⟩ := h1; exact h
  have G : Hid (∀ w1 : World, OnlyB B p (w.alloc O) w1 → w1.heap[w.heap.size]? = some (.cells #[.int .u8 k, .int .u64 n, .string (strL S)] 36 (0, 0))) := Lib.hid (fun w1 ho => (ho.other w.heap.size (by show _ < (w.heap.push O).size; rw [Array.size_push]; omega) (by omega) (by rw [hbox]; intro c fz h; cases h)).trans hbox)
  have g0 : (w.alloc O).cell? ⟨w.heap.size, 0, none⟩ = some (.int .u8 k) := by rw [cell_of_row _ _ _ _ _ _ hbox]; rfl
  have g1 : (w.alloc O).cell? ⟨w.heap.size, 1, none⟩ = some (.int .u64 n) := by rw [cell_of_row _ _ _ _ _ _ hbox]; rfl
  have g2 : (w.alloc O).cell? ⟨w.heap.size, 2, none⟩ = some (.string (strL S)) := by rw [cell_of_row _ _ _ _ _ _ hbox]; rfl
  have H2 : Hid (Rw q L false (w.alloc O)) := Lib.hid (by have := HE.out rfl; rw [← this]; exact h2)
  have HT := Lib.hid hT
  clear h hk hn hS hL h1 h2 h3 h4 h5 hbox hpl hB0 hT
  subst hO
  go_enter Try.func16, Try.ntmps16
  go_wp2_with (first
    | (go_at_call 28; refine (w_text B p L S _ HT.out (by have := HL.out; omega) H1.out).mono ?_; rintro x w1 ⟨rfl, ha, hb⟩; have P1 := Lib.hid (And.intro ha hb); have hbx := G.out w1 hb; have e1 : w1.cell? ⟨w.heap.size, 1, none⟩ = some (.int .u64 n) := by { rw [cell_of_row _ _ _ _ _ _ hbx]; rfl }; have e2 : w1.cell? ⟨w.heap.size, 2, none⟩ = some (.string (strL S)) := by { rw [cell_of_row _ _ _ _ _ _ hbx]; rfl }; have R1 := Lib.hid (rw_onlyB H2.out hb H5.out (Ne.symm H4.out)); clear ha hb hbx)
    | (go_at_call 59; refine (rw_text q L S _ HT.out (by have := HL.out; omega) R1.out).mono ?_; rintro x w2 ⟨rfl, ha, hb⟩; have P2 := Lib.hid (And.intro ha hb); clear ha hb))
  go_end0
  exact put_fin hA.out P1.out P2.out H4.out H5.out (by have := HS.out; rw [List.length_append, beB_length]; omega)

set_option maxRecDepth 100000 in
set_option maxHeartbeats 800000 in
theorem put2_5t (B p q k n : Nat) (S L : List UInt8) (w : World) (hk : k % 6 = 5) (hn : n < 18446744073709551616) (hS : S.length ≤ 70000) (hT : S.length ≤ 65535) (hL : L.length ≤ 100000000) (h : WBoth B p q L true w) :
    Calls Try.prog 16 #[.pointer (some ⟨p, 0, none⟩), .pointer (some ⟨q, 0, none⟩), itemV k n S] w (PutB B p q L 70002 w) := by
  unfold itemV
  generalize hO : Obj.cells #[.int .u8 k, .int .u64 n, .string (strL S)] 36 = O
  have hB0 : B ≤ w.heap.size := by obtain ⟨M, h1, _⟩ := h; obtain ⟨v, _, _, _, h4⟩ := h1; exact h4
  have hr : (k : Int).tmod 6 = 5 := by rw [Int.tmod_eq_emod_of_nonneg (by omega)]; omega
  have hA : Hid (OnlyB2 B p q w (w.alloc O)) := Lib.hid (onlyB2_bl ((Bl.refl w).alloc _) hB0)
  obtain ⟨M, h1, h2, h3, h4, h5⟩ := wboth_bl h ((Bl.refl w).alloc O)
  have HE := Lib.hid h3
  have H1 : Hid (Wr B p L 3 (w.alloc O)) := Lib.hid h1
  have H4 := Lib.hid h4
  have H5 := Lib.hid h5
  have HL := Lib.hid hL
  have HS := Lib.hid hS
  have HN := Lib.hid hn
  have hbox : (w.alloc O).heap[w.heap.size]? = some (.cells #[.int .u8 k, .int .u64 n, .string (strL S)] 36 (0, 0)) := by rw [← hO]; exact heap_alloc_new _ _
  have hpl : p < B := by obtain ⟨v, _, _, h, _⟩ := h1; exact h
  have G : Hid (∀ w1 : World, OnlyB B p (w.alloc O) w1 → w1.heap[w.heap.size]? = some (.cells #[.int .u8 k, .int .u64 n, .string (strL S)] 36 (0, 0))) := Lib.hid (fun w1 ho => (ho.other w.heap.size (by show _ < (w.heap.push O).size; rw [Array.size_push]; omega) (by omega) (by rw [hbox]; intro c fz h; cases h)).trans hbox)
  have g0 : (w.alloc O).cell? ⟨w.heap.size, 0, none⟩ = some (.int .u8 k) := by rw [cell_of_row _ _ _ _ _ _ hbox]; rfl
  have g1 : (w.alloc O).cell? ⟨w.heap.size, 1, none⟩ = some (.int .u64 n) := by rw [cell_of_row _ _ _ _ _ _ hbox]; rfl
  have g2 : (w.alloc O).cell? ⟨w.heap.size, 2, none⟩ = some (.string (strL S)) := by rw [cell_of_row _ _ _ _ _ _ hbox]; rfl
  have H2 : Hid (Rw q M true (w.alloc O)) := Lib.hid h2
  have HT := Lib.hid hT
  clear h hk hn hS hL h1 h2 h3 h4 h5 hbox hpl hB0 hT
  subst hO
  go_enter Try.func16, Try.ntmps16
  go_wp2_with (first
    | (go_at_call 28; refine (we_text B p L S 3 _ (by decide) HT.out H1.out).mono ?_; rintro x w1 ⟨rfl, rfl⟩)
    | (go_at_call 59; refine (rwe_text q M S _ HT.out H2.out).mono ?_; rintro x w2 ⟨rfl, ha, hb⟩; have P2 := Lib.hid (And.intro ha hb); clear ha hb))
  go_end0
  exact put_fin_t hA.out H1.out P2.out H4.out H5.out

set_option maxRecDepth 100000 in
set_option maxHeartbeats 800000 in
theorem put2_5lf (B p q k n : Nat) (S L : List UInt8) (w : World) (hk : k % 6 = 5) (hn : n < 18446744073709551616) (hS : S.length ≤ 70000) (hT : 65535 < S.length) (hL : L.length ≤ 100000000) (h : WBoth B p q L false w) :
    Calls Try.prog 16 #[.pointer (some ⟨p, 0, none⟩), .pointer (some ⟨q, 0, none⟩), itemV k n S] w (PutB B p q L 70002 w) := by
  unfold itemV
  generalize hO : Obj.cells #[.int .u8 k, .int .u64 n, .string (strL S)] 36 = O
  have hB0 : B ≤ w.heap.size := by obtain ⟨M, h1, _⟩ := h; obtain ⟨v, _, _, _, h4⟩ := h1; exact h4
  have hr : (k : Int).tmod 6 = 5 := by rw [Int.tmod_eq_emod_of_nonneg (by omega)]; omega
  have hA : Hid (OnlyB2 B p q w (w.alloc O)) := Lib.hid (onlyB2_bl ((Bl.refl w).alloc _) hB0)
  obtain ⟨M, h1, h2, h3, h4, h5⟩ := wboth_bl h ((Bl.refl w).alloc O)
  have HE := Lib.hid h3
  have H1 : Hid (Wr B p L 0 (w.alloc O)) := Lib.hid h1
  have H4 := Lib.hid h4
  have H5 := Lib.hid h5
  have HL := Lib.hid hL
  have HS := Lib.hid hS
  have HN := Lib.hid hn
  have hbox : (w.alloc O).heap[w.heap.size]? = some (.cells #[.int .u8 k, .int .u64 n, .string (strL S)] 36 (0, 0)) := by rw [← hO]; exact heap_alloc_new _ _
  have hpl : p < B := by obtain ⟨v, _, _, h, _⟩ := h1; exact h
  have G : Hid (∀ w1 : World, OnlyB B p (w.alloc O) w1 → w1.heap[w.heap.size]? = some (.cells #[.int .u8 k, .int .u64 n, .string (strL S)] 36 (0, 0))) := Lib.hid (fun w1 ho => (ho.other w.heap.size (by show _ < (w.heap.push O).size; rw [Array.size_push]; omega) (by omega) (by rw [hbox]; intro c fz h; cases h)).trans hbox)
  have g0 : (w.alloc O).cell? ⟨w.heap.size, 0, none⟩ = some (.int .u8 k) := by rw [cell_of_row _ _ _ _ _ _ hbox]; rfl
  have g1 : (w.alloc O).cell? ⟨w.heap.size, 1, none⟩ = some (.int .u64 n) := by rw [cell_of_row _ _ _ _ _ _ hbox]; rfl
  have g2 : (w.alloc O).cell? ⟨w.heap.size, 2, none⟩ = some (.string (strL S)) := by rw [cell_of_row _ _ _ _ _ _ hbox]; rfl
  have H2 : Hid (Rw q L false (w.alloc O)) := Lib.hid (by have := HE.out rfl; rw [← this]; exact h2)
  have HT := Lib.hid hT
  clear h hk hn hS hL h1 h2 h3 h4 h5 hbox hpl hB0 hT
  subst hO
  go_enter Try.func16, Try.ntmps16
  go_wp2_with (first
    | (go_at_call 28; refine (w_text_long B p L S 0 _ HT.out H1.out).mono ?_; rintro x w1 ⟨rfl, ha, hb⟩; have P1 := Lib.hid (And.intro ha hb); have hbx := G.out w1 hb; have e1 : w1.cell? ⟨w.heap.size, 1, none⟩ = some (.int .u64 n) := by { rw [cell_of_row _ _ _ _ _ _ hbx]; rfl }; have e2 : w1.cell? ⟨w.heap.size, 2, none⟩ = some (.string (strL S)) := by { rw [cell_of_row _ _ _ _ _ _ hbx]; rfl }; have R1 := Lib.hid (rw_onlyB H2.out hb H5.out (Ne.symm H4.out)); clear ha hb hbx)
    | (go_at_call 59; refine (rw_text_long q L false (strL S) _ (by rw [strL_size]; exact HT.out) R1.out).mono ?_; rintro x w2 ⟨rfl, ha, hb⟩; have P2 := Lib.hid (And.intro ha hb); clear ha hb))
  go_end0
  exact put_fin_l hA.out P1.out P2.out H4.out H5.out

set_option maxRecDepth 100000 in
set_option maxHeartbeats 800000 in
theorem put2_5lt (B p q k n : Nat) (S L : List UInt8) (w : World) (hk : k % 6 = 5) (hn : n < 18446744073709551616) (hS : S.length ≤ 70000) (hT : 65535 < S.length) (hL : L.length ≤ 100000000) (h : WBoth B p q L true w) :
    Calls Try.prog 16 #[.pointer (some ⟨p, 0, none⟩), .pointer (some ⟨q, 0, none⟩), itemV k n S] w (PutB B p q L 70002 w) := by
  unfold itemV
  generalize hO : Obj.cells #[.int .u8 k, .int .u64 n, .string (strL S)] 36 = O
  have hB0 : B ≤ w.heap.size := by obtain ⟨M, h1, _⟩ := h; obtain ⟨v, _, _, _, h4⟩ := h1; exact h4
  have hr : (k : Int).tmod 6 = 5 := by rw [Int.tmod_eq_emod_of_nonneg (by omega)]; omega
  have hA : Hid (OnlyB2 B p q w (w.alloc O)) := Lib.hid (onlyB2_bl ((Bl.refl w).alloc _) hB0)
  obtain ⟨M, h1, h2, h3, h4, h5⟩ := wboth_bl h ((Bl.refl w).alloc O)
  have HE := Lib.hid h3
  have H1 : Hid (Wr B p L 3 (w.alloc O)) := Lib.hid h1
  have H4 := Lib.hid h4
  have H5 := Lib.hid h5
  have HL := Lib.hid hL
  have HS := Lib.hid hS
  have HN := Lib.hid hn
  have hbox : (w.alloc O).heap[w.heap.size]? = some (.cells #[.int .u8 k, .int .u64 n, .string (strL S)] 36 (0, 0)) := by rw [← hO]; exact heap_alloc_new _ _
  have hpl : p < B := by obtain ⟨v, _, _, h, _⟩ := h1; exact h
  have G : Hid (∀ w1 : World, OnlyB B p (w.alloc O) w1 → w1.heap[w.heap.size]? = some (.cells #[.int .u8 k, .int .u64 n, .string (strL S)] 36 (0, 0))) := Lib.hid (fun w1 ho => (ho.other w.heap.size (by show _ < (w.heap.push O).size; rw [Array.size_push]; omega) (by omega) (by rw [hbox]; intro c fz h; cases h)).trans hbox)
  have g0 : (w.alloc O).cell? ⟨w.heap.size, 0, none⟩ = some (.int .u8 k) := by rw [cell_of_row _ _ _ _ _ _ hbox]; rfl
  have g1 : (w.alloc O).cell? ⟨w.heap.size, 1, none⟩ = some (.int .u64 n) := by rw [cell_of_row _ _ _ _ _ _ hbox]; rfl
  have g2 : (w.alloc O).cell? ⟨w.heap.size, 2, none⟩ = some (.string (strL S)) := by rw [cell_of_row _ _ _ _ _ _ hbox]; rfl
  have H2 : Hid (Rw q M true (w.alloc O)) := Lib.hid h2
  have HT := Lib.hid hT
  clear h hk hn hS hL h1 h2 h3 h4 h5 hbox hpl hB0 hT
  subst hO
  go_enter Try.func16, Try.ntmps16
  go_wp2_with (first
    | (go_at_call 28; refine (w_text_long B p L S 3 _ HT.out H1.out).mono ?_; rintro x w1 ⟨rfl, ha, hb⟩; have P1 := Lib.hid (And.intro ha hb); have hbx := G.out w1 hb; have e1 : w1.cell? ⟨w.heap.size, 1, none⟩ = some (.int .u64 n) := by { rw [cell_of_row _ _ _ _ _ _ hbx]; rfl }; have e2 : w1.cell? ⟨w.heap.size, 2, none⟩ = some (.string (strL S)) := by { rw [cell_of_row _ _ _ _ _ _ hbx]; rfl }; have R1 := Lib.hid (rw_onlyB H2.out hb H5.out (Ne.symm H4.out)); clear ha hb hbx)
    | (go_at_call 59; refine (rw_text_long q M true (strL S) _ (by rw [strL_size]; exact HT.out) R1.out).mono ?_; rintro x w2 ⟨rfl, ha, hb⟩; have P2 := Lib.hid (And.intro ha hb); clear ha hb))
  go_end0
  exact put_fin_l hA.out P1.out P2.out H4.out H5.out

theorem put2_any (B p q k n : Nat) (S L : List UInt8) (b : Bool) (w : World) (hn : n < 18446744073709551616) (hS : S.length ≤ 70000) (hL : L.length ≤ 100000000) (h : WBoth B p q L b w) :
    Calls Try.prog 16 #[.pointer (some ⟨p, 0, none⟩), .pointer (some ⟨q, 0, none⟩), itemV k n S] w (PutB B p q L 70002 w) := by
  rcases (by omega : k % 6 = 0 ∨ k % 6 = 1 ∨ k % 6 = 2 ∨ k % 6 = 3 ∨ k % 6 = 4 ∨ k % 6 = 5) with h6 | h6 | h6 | h6 | h6 | h6 <;> cases b
  · exact put2_0f B p q k n S L w h6 hn hS hL h
  · exact put2_0t B p q k n S L w h6 hn hS hL h
  · exact put2_1f B p q k n S L w h6 hn hS hL h
  · exact put2_1t B p q k n S L w h6 hn hS hL h
  · exact put2_2f B p q k n S L w h6 hn hS hL h
  · exact put2_2t B p q k n S L w h6 hn hS hL h
  · exact put2_3f B p q k n S L w h6 hn hS hL h
  · exact put2_3t B p q k n S L w h6 hn hS hL h
  · exact put2_4f B p q k n S L w h6 hn hS hL h
  · exact put2_4t B p q k n S L w h6 hn hS hL h
  · rcases Nat.lt_or_ge 65535 S.length with hT | hT
    · exact put2_5lf B p q k n S L w h6 hn hS hT hL h
    · exact put2_5f B p q k n S L w h6 hn hS hT hL h
  · rcases Nat.lt_or_ge 65535 S.length with hT | hT
    · exact put2_5lt B p q k n S L w h6 hn hS hT hL h
    · exact put2_5t B p q k n S L w h6 hn hS hT hL h
end Go.Proofs.Ytniblmpihnhglaa
