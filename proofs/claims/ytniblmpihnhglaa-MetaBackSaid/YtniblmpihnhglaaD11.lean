import Derived.Test.YtniblmpihnhglaaD10
import Derived.Deep.Slices
namespace Go.Proofs.Ytniblmpihnhglaa
open Go.RowKit
set_option linter.unusedVariables false

theorem add_blk (a : Addr) (n : Nat) : (a.add n).block = a.block := by unfold Addr.add; split <;> rfl
theorem rr_new (S : List UInt8) (w : World) : Rr w.heap.size S S 0 (w.alloc (.cells #[.string (strL S), .int .i64 0, .bool false] 46)) :=
  ⟨0, heap_alloc_new _ _, Nat.zero_le _, .inl ⟨rfl, rfl⟩⟩

set_option maxRecDepth 100000 in
set_option maxHeartbeats 1600000 in
theorem codecReads_on (S : List UInt8) (v : Value) (n : Nat) (w : World) (hv : Asks w v n) :
    Calls Try.prog 4 #[.string (strL S), v] w fun x w' => x = .returned (.bool true) ∧ Bl w w' := by
  have AW : Hid (∀ w, Calls Try.prog 15 #[] w fun x w' => x = .returned (.bool true) ∧ Bl w w') := Lib.hid awake_any
  obtain ⟨va, vc, rfl⟩ := asks_form hv
  have HV := Lib.hid hv
  have hz := strL_size S
  clear hv
  by_cases hS : 6000 < S.length
  · have hd : decide ((6000 : Int) < (S.length : Int)) = true := decide_eq_true (by omega)
    generalize hs : strL S = s at *
    clear hs
    go_enter Try.func4, Try.ntmps4
    go_wp2_with (go_at_call 15; refine (AW.out _).mono ?_; rintro e w1 ⟨rfl, h1⟩; have H1 := Lib.hid h1; clear h1)
    go_ret
    exact ⟨rfl, H1.out⟩
  by_cases hN : 100 < n
  · have hd : decide ((6000 : Int) < (S.length : Int)) = false := decide_eq_false (by omega)
    generalize hs : strL S = s at *
    clear hs
    go_enter Try.func4, Try.ntmps4
    go_wp2_with (go_at_call 15; refine (AW.out _).mono ?_; rintro e w1 ⟨rfl, h1⟩; have H1 := Lib.hid h1; clear h1)
    go_ret
    exact ⟨rfl, H1.out⟩
  have hd : decide ((6000 : Int) < (S.length : Int)) = false := decide_eq_false (by omega)
  have hd2 : decide ((100 : Int) < (n : Int)) = false := decide_eq_false (by omega)
  have B0 : Hid (Both w.heap.size (w.heap.size + 1) S S 0 ((w.alloc (.cells #[.string (strL S), .int .i64 0] 106)).alloc (.cells #[.string (strL S), .int .i64 0, .bool false] 46))) := Lib.hid (by
    refine ⟨rd_block (rd_new S w) (Below.heap_alloc _ _ _ ?_), ?_, by omega⟩
    · show _ < (w.heap.push _).size; rw [Array.size_push]; omega
    · have := rr_new S (w.alloc (.cells #[.string (strL S), .int .i64 0] 106))
      rwa [show (w.alloc (.cells #[.string (strL S), .int .i64 0] 106)).heap.size = w.heap.size + 1 from Array.size_push _] at this)
  have K0 : Hid (Bl w ((w.alloc (.cells #[.string (strL S), .int .i64 0] 106)).alloc (.cells #[.string (strL S), .int .i64 0, .bool false] 46))) := Lib.hid (((Bl.refl w).alloc _).alloc _)
  have HS := Lib.hid (by omega : S.length ≤ 6000)
  have RN := Lib.hid (fun w => r_new (strL S) w)
  have ONE := Lib.hid (fun (L : List UInt8) (e : Int) (k : Nat) (m : Int) (w' : World) (hL : L.length ≤ S.length) h => one_any w.heap.size (w.heap.size + 1) k m S L e w' (by omega) hL h)
  have ERR := Lib.hid (fun (L : List UInt8) (e : Int) (w' : World) (h : Both w.heap.size (w.heap.size + 1) S L e w') => r_err w.heap.size L e w' h.1)
  have RERR := Lib.hid (fun (L : List UInt8) (e : Int) (w' : World) (h : Both w.heap.size (w.heap.size + 1) S L e w') => rr_err (w.heap.size + 1) S L e w' h.2.1)
  have RST := Lib.hid (fun (L : List UInt8) (e : Int) (w' : World) (h : Both w.heap.size (w.heap.size + 1) S L e w') => r_rest w.heap.size L e w' h.1)
  have RRST := Lib.hid (fun (L : List UInt8) (e : Int) (w' : World) (h : Both w.heap.size (w.heap.size + 1) S L e w') => rr_rest (w.heap.size + 1) S L e w' (by have := HS.out; omega) h.2.1)
  unfold NewP at RN
  generalize hs : strL S = s at hz RN B0 K0
  clear hs hS
  go_enter Try.func4, Try.ntmps4
  go_wp2_with (go_at_call 19; refine (RN.out _).mono ?_; rintro e w1 ⟨rfl, rfl⟩)
  go_loopw [7] (fun v7 wr => ∃ i : Nat, i ≤ n ∧ v7 = .int .i64 i ∧ Hid (∃ L e, L.length ≤ S.length ∧ Both w.heap.size (w.heap.size + 1) S L e wr) ∧ Hid (Bl w wr)) (fun v _ => n - (intOf v).toNat)
  case atStart => exact ⟨0, by omega, rfl, ⟨S, 0, Nat.le_refl _, B0.out⟩, K0⟩
  case round =>
    clear B0 K0
    obtain ⟨i, hi, rfl, hb, hk⟩ := hrel
    by_cases hlt : i < n
    · rcases HV.out with ⟨h1, h2⟩ | ⟨a, cap, h1, h3⟩
      · omega
      · obtain ⟨k, m, c0, c1⟩ := h3 i hlt
        have h2 : a.block < w.heap.size := by have := World.block_lt_of_cell? w _ c0; rwa [add_blk] at this
        injection h1 with h1a h1b h1c
        subst h1a h1c
        obtain ⟨L, e, hL, hB⟩ := hb.out
        have HB := Lib.hid hB
        have HL := Lib.hid hL
        rw [← hk.out.cell (by rwa [add_blk])] at c0 c1
        rw [← Deep.add_add] at c1
        have c2 : wr.cell? ⟨(a.add (i * 2)).block, (a.add (i * 2)).off + 1, none⟩ = some (.int .i64 m) := c1
        clear c1
        clear hb hB hL h3
        go_wp2_with (first
          | (go_at_call 20; refine (ONE.out L e k m _ HL.out HB.out).mono ?_; rintro x w2 ⟨rfl, ⟨L2, e2, h4, h5⟩, h6⟩; have HL2 := Lib.hid h4; have HB2 := Lib.hid h5; have O2 := Lib.hid h6; clear h4 h5 h6)
          | (go_at_call 21; refine (ERR.out L2 e2 _ HB2.out).mono ?_; rintro x w3 ⟨rfl, rfl⟩)
          | (go_at_call 22; refine (RERR.out L2 e2 _ HB2.out).mono ?_; rintro x w3 ⟨rfl, rfl⟩)
          | (go_at_call 23; refine (RST.out L2 e2 _ HB2.out).mono ?_; rintro x w3 ⟨rfl, rfl⟩)
          | (go_at_call 24; refine (RRST.out L2 e2 _ HB2.out).mono ?_; rintro x w3 ⟨rfl, h7⟩; have B3 := Lib.hid h7; clear h7))
        go_roundw
        case rel => exact ⟨i + 1, by omega, by go_num, ⟨L2, e2, HL2.out, both_bl HB2.out B3.out⟩, Below.trans (Below.trans hk.out (only2_below O2.out (Nat.le_refl _) (Nat.le_succ _) hk.out.size)) (Below.mono B3.out (Nat.le_trans hk.out.size O2.out.size))⟩
        case measure => simp only [intOf]; omega
    · have hin : i = n := by omega
      subst hin
      go_wp2_with (go_at_call 15; refine (AW.out _).mono ?_; rintro e w1 ⟨rfl, h1⟩; have H1 := Lib.hid h1; clear h1)
      go_ret
      exact ⟨rfl, hk.out.trans H1.out⟩
end Go.Proofs.Ytniblmpihnhglaa
namespace Go.Proofs.Ytniblmpihnhglaa
theorem codecReads_walk (s : ByteArray) (_ : s.size ≤ maxLen) (v : Value) (n : Nat) {w0 : World} (hv : Asks w0 v n) (w : World) (e : w = w0 := by rfl) :
    Calls Try.prog 4 #[.string s, v] w fun x w' => x = .returned (.bool true) ∧ Bl w w' := by
  subst e
  exact codecReads_on s.data.toList v n w hv
end Go.Proofs.Ytniblmpihnhglaa
