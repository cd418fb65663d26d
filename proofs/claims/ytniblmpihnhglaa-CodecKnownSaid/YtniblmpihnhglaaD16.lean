import Derived.Test.YtniblmpihnhglaaD15
namespace Go.Proofs.Ytniblmpihnhglaa
open Go.RowKit
set_option linter.unusedVariables false

theorem run_zero (N : Nat) (hn : N ≤ 100000) (O : Obj) (hO : O = .cells (madeCells #[.int .u8 0] N) 5) : ∃ (S : List UInt8), S.length = N ∧
    ∀ W : World, (convert 26 9 (.slice (some ⟨W.heap.size, 0, none⟩) N N)).run Try.prog (W.alloc O) = .ok (.string (strL S)) (W.alloc O) := by
  subst hO
  refine ⟨List.replicate N 0, by simp, fun W => ?_⟩
  have hr := World.rowIs_made W (.int .u8 0) N 5
  have := run_convert_bytes_arg (P := Try.prog) (W.alloc (.cells (madeCells #[.int .u8 0] N) 5)) 26 5 Try.underlying26 Try.underlying5 W.heap.size 0 N N (List.replicate N 0) (by simp) (fun i hi => by
    rw [Nat.zero_add]
    have e : (List.replicate N (0 : Int)).getD i 0 = 0 := by rw [List.getD_eq_getElem?_getD, List.getElem?_replicate, if_pos hi]; rfl
    rw [e]; exact hr.cell hi) 9 Try.underlying9
  rw [this]
  unfold strOfNums strL
  rw [List.map_replicate]; rfl

theorem rd_keep {p q : Nat} {L : List UInt8} {e : Int} {a b : World} (h : Rd q L e a) (ho : Only p a b) (hne : q ≠ p) : Rd q L e b := rd_to (show Rd q L e b from (ho.block q h.lt (fun x => hne (by cases x; rfl))).trans h) rfl rfl
theorem rd_bl {q : Nat} {L : List UInt8} {e : Int} {a b : World} (h : Rd q L e a) (hb : Bl a b) : Rd q L e b := (hb.block q h.lt).trans h
theorem three_new (w : World) : Rd w.heap.size [1, 2, 3] 0 (((w.alloc (.cells #[.string ⟨#[1, 2, 3]⟩, .int .i64 0] 106)).alloc (.cells #[.string ⟨#[0, 2, 97]⟩, .int .i64 0] 106)).alloc (.cells #[.string ⟨#[0, 2, 97, 98, 99]⟩, .int .i64 0] 106))
    ∧ Rd (w.heap.size + 1) [0, 2, 97] 0 (((w.alloc (.cells #[.string ⟨#[1, 2, 3]⟩, .int .i64 0] 106)).alloc (.cells #[.string ⟨#[0, 2, 97]⟩, .int .i64 0] 106)).alloc (.cells #[.string ⟨#[0, 2, 97, 98, 99]⟩, .int .i64 0] 106))
    ∧ Rd (w.heap.size + 2) [0, 2, 97, 98, 99] 0 (((w.alloc (.cells #[.string ⟨#[1, 2, 3]⟩, .int .i64 0] 106)).alloc (.cells #[.string ⟨#[0, 2, 97]⟩, .int .i64 0] 106)).alloc (.cells #[.string ⟨#[0, 2, 97, 98, 99]⟩, .int .i64 0] 106)) := by
  have s1 : (w.alloc (.cells #[.string ⟨#[1, 2, 3]⟩, .int .i64 0] 106)).heap.size = w.heap.size + 1 := Array.size_push _
  have s2 : ((w.alloc (.cells #[.string ⟨#[1, 2, 3]⟩, .int .i64 0] 106)).alloc (.cells #[.string ⟨#[0, 2, 97]⟩, .int .i64 0] 106)).heap.size = w.heap.size + 2 := (Array.size_push _).trans (by rw [s1])
  refine ⟨rd_bl (rd_bl (rd_new [1, 2, 3] w) ((Bl.refl _).alloc _)) ((Bl.refl _).alloc _), ?_, ?_⟩
  · have := rd_new [0, 2, 97] (w.alloc (.cells #[.string ⟨#[1, 2, 3]⟩, .int .i64 0] 106))
    rw [s1] at this
    exact rd_bl this ((Bl.refl _).alloc _)
  · have := rd_new [0, 2, 97, 98, 99] ((w.alloc (.cells #[.string ⟨#[1, 2, 3]⟩, .int .i64 0] 106)).alloc (.cells #[.string ⟨#[0, 2, 97]⟩, .int .i64 0] 106))
    rw [s2] at this
    exact this

set_option maxRecDepth 100000 in
set_option maxHeartbeats 4000000 in
theorem codecKnown_walk (w : World) : Calls Try.prog 5 #[] w fun x w' => x = .returned (.bool true) ∧ Bl w w' := by
  obtain ⟨N, hN⟩ : ∃ N : Nat, N = 65536 := ⟨_, rfl⟩
  have hmk := fun W : World => run_make_row' (P := Try.prog) 26 5 (.int .u8 0) 1 Try.underlying26 (by kernel_rfl) rfl .i64 .i64 N (by omega) (by omega) W
  obtain ⟨S, hS, hcv⟩ := run_zero N (by omega) _ rfl
  generalize Obj.cells (madeCells #[Value.int .u8 0] N) 5 = O at hmk hcv
  have HS : Hid (65535 < S.length) := Lib.hid (by omega)
  have hNZ : (65536 : Int) = (N : Int) := by omega
  clear hS hN
  have AW : Hid (∀ w, Calls Try.prog 15 #[] w fun x w' => x = .returned (.bool true) ∧ Bl w w') := Lib.hid awake_any
  have W0 := Lib.hid (wr_new w)
  have N0 : Hid (Bl w (w.alloc (.cells #[.slice none 0 0, .int .i64 0] 29))) := Lib.hid ((Bl.refl w).alloc _)
  have hnil : (strL []).toList = [] := by kernel_rfl
  go_enter Try.func5, Try.ntmps5
  rw [hNZ]
  clear hNZ
  go_wp2_with (first
    | (go_at_call 15; refine (AW.out _).mono ?_; rintro e w26 ⟨rfl, h⟩; have K21 := Lib.hid (Below.trans K20.out (Below.mono h K20.out.size)); clear h)
    | (go_at_call 23; have := T11; refine (nil_23 _).mono ?_; rintro e w25 ⟨rfl, rfl⟩)
    | (go_at_call 21; have := T11; refine (nil_21 _).mono ?_; rintro e w24 ⟨rfl, rfl⟩)
    | (go_at_call 33; have := T11; refine (nil_33 _ _).mono ?_; rintro e w23 ⟨rfl, rfl⟩)
    | (go_at_call 32; have := T11; refine (nil_32 _).mono ?_; rintro e w22 ⟨rfl, rfl⟩)
    | (go_at_call 35; refine (nil_35 _).mono ?_; rintro e w21 ⟨rfl, rfl⟩)
    | (go_at_call 17; have := T11; refine (nil_17 _).mono ?_; rintro e w20 ⟨rfl, rfl⟩)
    | (go_at_call 25; have := T11; refine (nil_25 _ _).mono ?_; rintro e w19 ⟨rfl, rfl⟩)
    | (go_at_call 28; have := T11; refine (nil_28 _ _).mono ?_; rintro e w18 ⟨rfl, rfl⟩)
    | (go_at_call 17; refine (c_bytes _ _ _ ⟨#[128, 0, 0, 0, 0, 0, 0, 2]⟩ (by kernel_rfl) _ X1.out.1).mono ?_; rintro e v10 ⟨rfl, rfl⟩; have T11 := Lib.hid trivial)
    | (go_at_call 34; refine (w_u64 _ _ [] 9223372036854775810 _ (by decide) (by decide) X0.out).mono ?_; rintro e v9 ⟨rfl, h⟩; have X1 := Lib.hid h; have K20 := Lib.hid (Below.trans K19.out (onlyB_below h.2 (n := w.heap.size) K18.out.size (Nat.le_succ_of_le K18.out.size))); clear h)
    | (go_at_call 21; refine (r_err _ _ _ _ D3.out).mono ?_; rintro e v9 ⟨rfl, rfl⟩; have X0 := Lib.hid (wr_new v8); have K19 := Lib.hid (Below.alloc K18.out K18.out.size (.cells #[.slice none 0 0, .int .i64 0] 29)))
    | (go_at_call 33; have := T10; refine (c_fixed _ [99] 0 9 ⟨#[]⟩ [] 10 (by kernel_rfl) (by kernel_rfl) (by kernel_rfl) (by decide) _ D2.out).mono ?_; rintro e v8 ⟨rfl, h, ho⟩; have D3 := Lib.hid h; have K18 := Lib.hid (Below.trans K17.out (only_below ho (n := w.heap.size) K14.out.size K17.out.size)); clear h ho)
    | (go_at_call 21; refine (r_err _ _ _ _ D2.out).mono ?_; rintro e v8 ⟨rfl, rfl⟩; have T10 := Lib.hid trivial)
    | (go_at_call 33; refine (c_fixed _ [99] 0 (-1) ⟨#[]⟩ [99] 0 (by kernel_rfl) (by kernel_rfl) (by kernel_rfl) (by decide) _ D1.out).mono ?_; rintro e v7 ⟨rfl, h, ho⟩; have D2 := Lib.hid h; have K17 := Lib.hid (Below.trans K16.out (only_below ho (n := w.heap.size) K14.out.size K16.out.size)); clear h ho)
    | (go_at_call 33; refine (c_fixed _ [97, 98, 99] 0 2 ⟨#[97, 98]⟩ [99] 0 (by kernel_rfl) (by kernel_rfl) (by kernel_rfl) (by decide) _ D0.out).mono ?_; rintro e v6 ⟨rfl, h, ho⟩; have D1 := Lib.hid h; have O6 := Lib.hid ho; have K16 := Lib.hid (Below.trans K15.out (only_below ho (n := w.heap.size) K14.out.size K15.out.size)); clear h ho)
    | (go_at_call 19; have := T9; refine (r_new _ _).mono ?_; rintro e v6 ⟨rfl, rfl⟩; have D0 := Lib.hid (rd_new [97, 98, 99] v5); have K15 := Lib.hid (Below.alloc K14.out K14.out.size (.cells #[.string ⟨#[97, 98, 99]⟩, .int .i64 0] 106)))
    | (go_at_call 23; refine (c_rest _ _ _ ⟨#[99]⟩ (by kernel_rfl) _ C5.out).mono ?_; rintro e v6 ⟨rfl, rfl⟩; have T9 := Lib.hid trivial)
    | (go_at_call 32; have := T7; refine (c_text _ [0, 2, 97, 98, 99] 0 ⟨#[97, 98]⟩ [99] 0 (by kernel_rfl) (by kernel_rfl) (by kernel_rfl) (by decide) _ CC4.out).mono ?_; rintro e v5 ⟨rfl, h, ho⟩; have C5 := Lib.hid h; have O5 := Lib.hid ho; have K14 := Lib.hid (Below.trans K13.out (only_below O5.out (n := w.heap.size) (by have := K9.out.size; omega) K13.out.size)); clear h ho)
    | (go_at_call 21; refine (r_err _ _ _ _ B4.out).mono ?_; rintro e v5 ⟨rfl, rfl⟩; have T7 := Lib.hid trivial)
    | (go_at_call 32; have := T5; refine (c_text _ [0, 2, 97] 0 ⟨#[]⟩ [] 10 (by kernel_rfl) (by kernel_rfl) (by kernel_rfl) (by decide) _ BB3.out).mono ?_; rintro e v4 ⟨rfl, h, ho⟩; have B4 := Lib.hid h; have O4 := Lib.hid ho; have CC4 := Lib.hid (rd_keep CC3.out ho (by omega)); have K13 := Lib.hid (Below.trans K12.out (only_below O4.out (n := w.heap.size) (by have := K9.out.size; omega) K12.out.size)); clear h ho)
    | (go_at_call 23; have := T4; refine (c_rest _ _ _ ⟨#[]⟩ (by kernel_rfl) _ A3.out).mono ?_; rintro e v4 ⟨rfl, rfl⟩; have T5 := Lib.hid trivial)
    | (go_at_call 21; refine (r_err _ _ _ _ A3.out).mono ?_; rintro e v4 ⟨rfl, rfl⟩; have T4 := Lib.hid trivial)
    | (go_at_call 31; refine (c_u8 _ [] 10 0 [] 10 (by kernel_rfl) (by kernel_rfl) (by kernel_rfl) (by decide) _ A2.out).mono ?_; rintro e v3 ⟨rfl, h, ho⟩; have A3 := Lib.hid h; have O3 := Lib.hid ho; have BB3 := Lib.hid (rd_keep BB2.out ho (by omega)); have CC3 := Lib.hid (rd_keep CC2.out ho (by omega)); have K12 := Lib.hid (Below.trans K11.out (only_below O3.out (n := w.heap.size) (by have := K9.out.size; omega) K11.out.size)); clear h ho)
    | (go_at_call 30; refine (c_u16 _ [3] 0 0 [] 10 (by kernel_rfl) (by kernel_rfl) (by kernel_rfl) (by decide) _ A1.out).mono ?_; rintro e v2 ⟨rfl, h, ho⟩; have A2 := Lib.hid h; have O2 := Lib.hid ho; have BB2 := Lib.hid (rd_keep BB.out ho (by omega)); have CC2 := Lib.hid (rd_keep CC.out ho (by omega)); have K11 := Lib.hid (Below.trans K10.out (only_below O2.out (n := w.heap.size) (by have := K9.out.size; omega) K10.out.size)); clear h ho)
    | (go_at_call 30; refine (c_u16 _ [1, 2, 3] 0 258 [3] 0 (by kernel_rfl) (by kernel_rfl) (by kernel_rfl) (by decide) _ (three_new w9).1).mono ?_; rintro e v1 ⟨rfl, h, ho⟩; have A1 := Lib.hid h; have O1 := Lib.hid ho; have BB := Lib.hid (rd_keep (three_new w9).2.1 ho (by omega)); have CC := Lib.hid (rd_keep (three_new w9).2.2 ho (by omega)); have K10 : Hid (Below w.heap.size w v1) := Lib.hid (Below.trans (Below.trans K9.out (Below.mono ((((Bl.refl w9).alloc _).alloc _).alloc _) K9.out.size)) (only_below ho K9.out.size (Nat.le_trans K9.out.size ((((Bl.refl w9).alloc _).alloc _).alloc _).size))); clear h ho)
    | (go_at_call 19; refine (r_new _ _).mono ?_; rintro e w10 ⟨rfl, rfl⟩)
    | (go_at_call 17; have := T8; refine (we_bytes _ _ _ 3 _ (by decide) W7.out.1).mono ?_; rintro e w9 ⟨rfl, hx⟩; have B9 : Hid (Bl w7 w9) := Lib.hid (by obtain ⟨n, rfl⟩ := hx; exact (Bl.refl _).drewN n); clear hx; have K9 : Hid (Below w.heap.size w w9) := Lib.hid (Below.trans N0.out (Below.trans (onlyB_below W1.out.2 (Nat.le_refl _) (Nat.le_succ _)) (Below.trans (onlyB_below W2.out.2 (Nat.le_refl _) (Nat.le_succ _)) (Below.trans (onlyB_below W3.out.2 (Nat.le_refl _) (Nat.le_succ _)) (Below.trans (onlyB_below W4.out.2 (Nat.le_refl _) (Nat.le_succ _)) (Below.trans (onlyB_below W5.out.2 (Nat.le_refl _) (Nat.le_succ _)) (Below.trans (Below.alloc (Below.refl _ _) (by obtain ⟨v, _, _, _, h⟩ := W5.out.1; omega) O) (Below.trans (onlyB_below W7.out.2 (Nat.le_refl _) (Nat.le_succ _)) (Below.mono B9.out (by obtain ⟨v, _, _, _, h⟩ := W7.out.1; omega)))))))))))
    | (go_at_call 25; refine (we_u8 _ _ _ 3 1 _ (by decide) W7.out.1).mono ?_; rintro e w8 ⟨rfl, rfl⟩; have T8 := Lib.hid trivial)
    | (go_at_call 28; have := T6; refine (w_text_long _ _ _ S 0 _ HS.out W6.out).mono ?_; rintro e w7 ⟨rfl, h⟩; have W7 := Lib.hid h; clear h)
    | (go_at_call 17; refine (c_bytes _ _ _ ⟨#[1, 1, 2, 0, 0, 0, 3, 0, 2, 97, 98, 99]⟩ (by kernel_rfl) _ W5.out.1).mono ?_; rintro e w6 ⟨rfl, rfl⟩; have T6 := Lib.hid trivial)
    | (go_at_call 29; refine (w_raw _ _ _ [99] _ (by decide) (by decide) W4.out.1).mono ?_; rintro e w5 ⟨rfl, h⟩; have W5 := Lib.hid h; have W6 := Lib.hid (wr_below h.1 ((Bl.refl _).alloc O)); clear h)
    | (go_at_call 28; refine (w_text _ _ _ [97, 98] _ (by decide) (by decide) W3.out.1).mono ?_; rintro e w4 ⟨rfl, h⟩; have W4 := Lib.hid h; clear h)
    | (go_at_call 27; refine (w_u32 _ _ _ 3 _ (by decide) (by decide) W2.out.1).mono ?_; rintro e w3 ⟨rfl, h⟩; have W3 := Lib.hid h; clear h)
    | (go_at_call 26; refine (w_u16 _ _ _ 258 _ (by decide) (by decide) W1.out.1).mono ?_; rintro e w2 ⟨rfl, h⟩; have W2 := Lib.hid h; clear h)
    | (go_at_call 25; refine (w_u8 _ _ [] 1 _ (by decide) (by decide) W0.out).mono ?_; rintro e w1 ⟨rfl, h⟩; have W1 := Lib.hid h; clear h))
  go_ret
  exact ⟨rfl, K21.out⟩
end Go.Proofs.Ytniblmpihnhglaa
