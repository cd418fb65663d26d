import Derived.Test.YtniblmpihnhglaaD7
namespace Go.Proofs.Ytniblmpihnhglaa
open Go.RowKit
set_option linter.unusedVariables false

theorem onlyB_below {B p n : Nat} {a b : World} (h : OnlyB B p a b) (hp : n ≤ p) (hB : n ≤ B) : Below n a b :=
  ⟨h.os, h.tape, h.output, h.size, fun k hk => h.block k (by omega) (by omega)⟩
theorem only_below {p n : Nat} {a b : World} (h : Only p a b) (hp : n ≤ p) (hB : n ≤ a.heap.size) : Below n a b :=
  ⟨h.os, h.tape, h.output, h.size, fun k hk => h.block k (by omega) (fun e => by cases e; omega)⟩
theorem wr_new (w : World) : Wr (w.heap.size + 1) w.heap.size [] 0 (w.alloc (.cells #[.slice none 0 0, .int .i64 0] 29)) :=
  ⟨_, heap_alloc_new _ _, World.ownsRow_nil _ _ _ _, Nat.lt_succ_self _, by show _ ≤ (w.heap.push _).size; rw [Array.size_push]; exact Nat.le_refl _⟩
theorem rw_new (w : World) : Rw w.heap.size [] false (w.alloc (.cells #[.string ⟨#[]⟩, .bool false] 32)) := heap_alloc_new _ _
theorem wr_below {B p : Nat} {L : List UInt8} {e : Int} {a b : World} (h : Wr B p L e a) (hb : Bl a b) : Wr B p L e b := by
  obtain ⟨v, h1, h2, h3, h4⟩ := h
  exact ⟨v, (hb.block p (by omega)).trans h1, h2.kept (row := none) ⟨hb.os, hb.tape, hb.output, hb.size, fun k hk _ => hb.block k hk⟩ (by cases h : v.ownBlock <;> simp), h3, Nat.le_trans h4 hb.size⟩
theorem wr_drewN {B p : Nat} {L : List UInt8} {e : Int} {a : World} (h : Wr B p L e a) (n : Nat) : Wr B p L e (a.drewN n) := h

set_option maxRecDepth 100000 in
set_option maxHeartbeats 800000 in
theorem awake_any (w : World) : Calls Try.prog 15 #[] w fun x w' => x = .returned (.bool true) ∧ Bl w w' := by
  have H0 := Lib.hid (wr_new w)
  have N0 : Hid (Bl w (w.alloc (.cells #[.slice none 0 0, .int .i64 0] 29))) := Lib.hid ((Bl.refl w).alloc _)
  have f1 : (strL (beB 1 1 ++ (beB 258 2 ++ (beB 2 2 ++ [97, 98])))).toList = [1, 1, 2, 0, 2, 97, 98] := by kernel_rfl
  have f2 : ((beN (fixO [1, 2, 3] 0 2) : Nat) : Int) = 258 := by kernel_rfl
  have f3 : fixE [1, 2, 3] 0 2 = 0 := by kernel_rfl
  have f4 : (strL (fixL [1, 2, 3] 0 2)).toList = [3] := by kernel_rfl
  go_enter Try.func15, Try.ntmps15
  go_wp2_with (first
    | (go_at_call 25; refine (w_u8 _ _ [] 1 _ (by decide) (by decide) H0.out).mono ?_; rintro e w1 ⟨rfl, h1⟩; have H1 := Lib.hid h1; clear h1)
    | (go_at_call 26; refine (w_u16 _ _ _ 258 _ (by decide) (by decide) H1.out.1).mono ?_; rintro e w2 ⟨rfl, h2⟩; have H2 := Lib.hid h2; clear h2)
    | (go_at_call 28; refine (w_text _ _ _ [97, 98] _ (by decide) (by decide) H2.out.1).mono ?_; rintro e w3 ⟨rfl, h3⟩; have H3 := Lib.hid h3; clear h3)
    | (go_at_call 17; refine (w_bytes _ _ _ _ H3.out.1).mono ?_; rintro e w4 ⟨rfl, rfl⟩)
    | (go_at_call 19; refine (r_new (strL [1, 2, 3]) _).mono ?_; rintro e w5 ⟨rfl, rfl⟩; have R0 := Lib.hid (rd_new [1, 2, 3] w3))
    | (go_at_call 30; refine (r_u16 _ [1, 2, 3] 0 _ (by decide) R0.out).mono ?_; rintro e w6 ⟨rfl, h6⟩; have R1 := Lib.hid h6; clear h6)
    | (go_at_call 21; refine (r_err _ _ _ _ R1.out.1).mono ?_; rintro e w7 ⟨rfl, rfl⟩)
    | (go_at_call 23; refine (r_rest _ _ _ _ R1.out.1).mono ?_; rintro e w8 ⟨rfl, rfl⟩))
  go_ret
  refine ⟨rfl, ?_⟩
  have k1 := onlyB_below H1.out.2 (n := w.heap.size) (Nat.le_refl _) (Nat.le_succ _)
  have k2 := onlyB_below H2.out.2 (n := w.heap.size) (Nat.le_refl _) (Nat.le_succ _)
  have k3 := onlyB_below H3.out.2 (n := w.heap.size) (Nat.le_refl _) (Nat.le_succ _)
  have k : Below w.heap.size w w3 := Below.trans N0.out (k1.trans (k2.trans k3))
  have k4 : Bl w (w3.alloc (.cells #[.string (strL [1, 2, 3]), .int .i64 0] 106)) := Bl.alloc k _
  exact Below.trans k4 (only_below R1.out.2 k.size k4.size)

set_option maxHeartbeats 400000 in
theorem rr_text (q : Nat) (S L : List UInt8) (e : Int) (w : World) (hS : S.length ≤ 140737488351232) (hr : Rr q S L e w) :
    Calls Try.prog 62 #[.pointer (some ⟨q, 0, none⟩)] w fun x w' => x = .returned (.string (strL (txtO L e))) ∧ Rr q S (txtL L e) (txtE L e) w' ∧ Only q w w' := by
  have F1 := Lib.hid (rr_number q S L e 2 w (by decide) hS hr)
  have hn : beN (fixO L e 2) < 65536 := txtN_lt L e
  have F2 : Hid (∀ w, Rr q S (fixL L e 2) (fixE L e 2) w → Calls Try.prog 61 #[.pointer (some ⟨q, 0, none⟩), .int .i64 (beN (fixO L e 2) : Nat)] w fun x w' => RFixP q S (fixL L e 2) (fixE L e 2) (beN (fixO L e 2) : Nat) w x w') := Lib.hid (fun w hr => rr_fixed q S _ _ _ w hS hr)
  have hG : Hid (∀ x w1 w2, RFixP q S (fixL L e 2) (fixE L e 2) (beN (fixO L e 2) : Nat) w1 x w2 → Only q w w1 → x = .returned (.string (strL (txtO L e))) ∧ Rr q S (txtL L e) (txtE L e) w2 ∧ Only q w w2) := fun x w1 w2 h ho => ⟨h.1, h.2.1, only_trans ho h.2.2⟩
  clear hr hS
  unfold RNumP at F1
  generalize beN (fixO L e 2) = n at *
  have hu : IntKind.i64.wrap (n : Int) = n := IntWalk.i64_in _ (by omega)
  go_enter Try.func62, Try.ntmps62
  go_wp2_with (go_at_call 60; refine F1.out.mono ?_; rintro e w1 ⟨rfl, hrd, hon⟩; have HRD := Lib.hid hrd; have HON := Lib.hid hon; clear hrd hon)
  refine (F2.out _ HRD.out).mono ?_
  rintro x w2 h2
  have hg := Lib.hid (hG.out _ _ _ h2 HON.out)
  obtain ⟨rfl, h3, h4⟩ := h2
  clear h3 h4 hG
  go_wp2_with fail
  go_ret
  exact hg.out

theorem rr_err (q : Nat) (S L : List UInt8) (e : Int) (w : World) (hr : Rr q S L e w) :
    Calls Try.prog 22 #[.pointer (some ⟨q, 0, none⟩)] w fun x w' => x = .returned (.int .i64 e) ∧ w = w' := by
  obtain ⟨a, hh, ha, hs⟩ := hr
  have c2 := rr_c2 hh
  clear hh
  rcases hs with ⟨rfl, rfl⟩ | ⟨rfl, rfl⟩
  · have hb : ((0 : Int) != 0) = false := rfl
    rw [hb] at c2
    go_enter Try.func22, Try.ntmps22
    go_wp2_with fail
    go_ret
    exact ⟨rfl, rfl⟩
  · have hb : ((10 : Int) != 0) = true := rfl
    rw [hb] at c2
    go_enter Try.func22, Try.ntmps22
    go_wp2_with fail
    go_ret
    exact ⟨rfl, rfl⟩

theorem rr_rest (q : Nat) (S L : List UInt8) (e : Int) (w : World) (hS : S.length ≤ 140737488351232) (hr : Rr q S L e w) :
    Calls Try.prog 24 #[.pointer (some ⟨q, 0, none⟩)] w fun x w' => x = .returned (.string (strL L)) ∧ Bl w w' := by
  obtain ⟨a, hh, ha, hs⟩ := hr
  have c0 := rr_c0 hh
  have c1 := rr_c1 hh
  have c2 := rr_c2 hh
  clear hh
  rcases hs with ⟨rfl, rfl⟩ | ⟨rfl, rfl⟩
  · have hb : ((0 : Int) != 0) = false := rfl
    rw [hb] at c2
    have hz := strL_size S
    have hd := strL_drop S a (strL S).size (by rw [strL_size]; exact Nat.le_refl _)
    have HD := Lib.hid hd
    rw [hz] at hd
    go_enter Try.func24, Try.ntmps24
    go_wp2_with fail
    go_quiet (fail)
    go_wp2_with fail
    go_ret
    exact ⟨rfl, (Bl.refl w).drewN _⟩
  · have hb : ((10 : Int) != 0) = true := rfl
    rw [hb] at c2
    go_enter Try.func24, Try.ntmps24
    go_wp2_with fail
    go_ret
    exact ⟨rfl, Bl.refl w⟩
end Go.Proofs.Ytniblmpihnhglaa
