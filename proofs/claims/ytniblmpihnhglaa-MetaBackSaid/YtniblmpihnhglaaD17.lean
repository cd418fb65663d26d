import Derived.Test.YtniblmpihnhglaaD14
namespace Go.Proofs.Ytniblmpihnhglaa
open Go.RowKit
set_option linter.unusedVariables false

theorem onlyB_bl {B p : Nat} {a b : World} (h : Bl a b) (hB : B ≤ a.heap.size) : OnlyB B p a b := ⟨h.os, h.tape, h.output, h.size, fun k hk _ => h.block k (by omega), fun k hk _ _ => h.block k hk⟩
def WriteP (B p : Nat) (L D : List UInt8) (w : World) (x : Ending) (w' : World) : Prop := x = .returned (.tuple #[]) ∧ Wr B p (L ++ D) 0 w' ∧ OnlyB B p w w'

set_option maxRecDepth 100000 in
set_option maxHeartbeats 800000 in
theorem w36_0 (B p k n : Nat) (S L : List UInt8) (w : World) (hk : k % 6 = 0) (hn : n < 18446744073709551616) (hS : S.length ≤ 65535) (hL : L.length ≤ 100000000) (h : Wr B p L 0 w) :
    Calls Try.prog 36 #[.pointer (some ⟨p, 0, none⟩), .agg #[.int .u8 k, .int .u64 n, .string (strL S)]] w (WriteP B p L (putL k n S) w) := by
  have hB0 : B ≤ w.heap.size := by obtain ⟨v, _, _, _, h4⟩ := h; exact h4
  have hr : (k : Int).tmod 6 = 0 := by rw [Int.tmod_eq_emod_of_nonneg (by omega)]; omega
  have hA : Hid (OnlyB B p w (w.alloc (.cells #[.int .u8 k, .int .u64 n, .string (strL S)] 36))) := Lib.hid (onlyB_bl ((Bl.refl w).alloc _) hB0)
  have H1 : Hid (Wr B p L 0 (w.alloc (.cells #[.int .u8 k, .int .u64 n, .string (strL S)] 36))) := Lib.hid (wr_below h ((Bl.refl w).alloc _))
  have HL := Lib.hid hL
  have HS := Lib.hid hS
  have HN := Lib.hid hn
  have HK := Lib.hid hk
  clear h hk hn hS hL hB0
  have hw : IntKind.u8.wrap (n : Int) = ((n % 256 : Nat) : Int) := by rw [IntKind.wrap_u8]; omega
  have HV : Hid (n % 256 < 256) := Lib.hid (Nat.mod_lt _ (by decide))
  go_enter Try.func36, Try.ntmps36
  go_wp2_with (go_at_call 25; refine (w_u8 B p L (n % 256) _ HV.out (by have := HL.out; omega) H1.out).mono ?_; rintro x w1 ⟨rfl, ha, hb⟩; have P1 := Lib.hid (And.intro ha hb); clear ha hb)
  go_end0
  refine ⟨rfl, ?_, onlyB_trans hA.out P1.out.2⟩
  have hkk := HK.out
  have e : putL k n S = beB (n % 256) 1 := by unfold putL; simp [hkk]
  rw [e]
  exact P1.out.1

set_option maxRecDepth 100000 in
set_option maxHeartbeats 800000 in
theorem w36_1 (B p k n : Nat) (S L : List UInt8) (w : World) (hk : k % 6 = 1) (hn : n < 18446744073709551616) (hS : S.length ≤ 65535) (hL : L.length ≤ 100000000) (h : Wr B p L 0 w) :
    Calls Try.prog 36 #[.pointer (some ⟨p, 0, none⟩), .agg #[.int .u8 k, .int .u64 n, .string (strL S)]] w (WriteP B p L (putL k n S) w) := by
  have hB0 : B ≤ w.heap.size := by obtain ⟨v, _, _, _, h4⟩ := h; exact h4
  have hr : (k : Int).tmod 6 = 1 := by rw [Int.tmod_eq_emod_of_nonneg (by omega)]; omega
  have hA : Hid (OnlyB B p w (w.alloc (.cells #[.int .u8 k, .int .u64 n, .string (strL S)] 36))) := Lib.hid (onlyB_bl ((Bl.refl w).alloc _) hB0)
  have H1 : Hid (Wr B p L 0 (w.alloc (.cells #[.int .u8 k, .int .u64 n, .string (strL S)] 36))) := Lib.hid (wr_below h ((Bl.refl w).alloc _))
  have HL := Lib.hid hL
  have HS := Lib.hid hS
  have HN := Lib.hid hn
  have HK := Lib.hid hk
  clear h hk hn hS hL hB0
  have hw : IntKind.u16.wrap (n : Int) = ((n % 65536 : Nat) : Int) := by rw [IntKind.wrap_u16]; omega
  have HV : Hid (n % 65536 < 65536) := Lib.hid (Nat.mod_lt _ (by decide))
  go_enter Try.func36, Try.ntmps36
  go_wp2_with (go_at_call 26; refine (w_u16 B p L (n % 65536) _ HV.out (by have := HL.out; omega) H1.out).mono ?_; rintro x w1 ⟨rfl, ha, hb⟩; have P1 := Lib.hid (And.intro ha hb); clear ha hb)
  go_end0
  refine ⟨rfl, ?_, onlyB_trans hA.out P1.out.2⟩
  have hkk := HK.out
  have e : putL k n S = beB (n % 65536) 2 := by unfold putL; simp [hkk]
  rw [e]
  exact P1.out.1

set_option maxRecDepth 100000 in
set_option maxHeartbeats 800000 in
theorem w36_2 (B p k n : Nat) (S L : List UInt8) (w : World) (hk : k % 6 = 2) (hn : n < 18446744073709551616) (hS : S.length ≤ 65535) (hL : L.length ≤ 100000000) (h : Wr B p L 0 w) :
    Calls Try.prog 36 #[.pointer (some ⟨p, 0, none⟩), .agg #[.int .u8 k, .int .u64 n, .string (strL S)]] w (WriteP B p L (putL k n S) w) := by
  have hB0 : B ≤ w.heap.size := by obtain ⟨v, _, _, _, h4⟩ := h; exact h4
  have hr : (k : Int).tmod 6 = 2 := by rw [Int.tmod_eq_emod_of_nonneg (by omega)]; omega
  have hA : Hid (OnlyB B p w (w.alloc (.cells #[.int .u8 k, .int .u64 n, .string (strL S)] 36))) := Lib.hid (onlyB_bl ((Bl.refl w).alloc _) hB0)
  have H1 : Hid (Wr B p L 0 (w.alloc (.cells #[.int .u8 k, .int .u64 n, .string (strL S)] 36))) := Lib.hid (wr_below h ((Bl.refl w).alloc _))
  have HL := Lib.hid hL
  have HS := Lib.hid hS
  have HN := Lib.hid hn
  have HK := Lib.hid hk
  clear h hk hn hS hL hB0
  have hw : IntKind.u32.wrap (n : Int) = ((n % 4294967296 : Nat) : Int) := by rw [IntKind.wrap_u32]; omega
  have HV : Hid (n % 4294967296 < 4294967296) := Lib.hid (Nat.mod_lt _ (by decide))
  go_enter Try.func36, Try.ntmps36
  go_wp2_with (go_at_call 27; refine (w_u32 B p L (n % 4294967296) _ HV.out (by have := HL.out; omega) H1.out).mono ?_; rintro x w1 ⟨rfl, ha, hb⟩; have P1 := Lib.hid (And.intro ha hb); clear ha hb)
  go_end0
  refine ⟨rfl, ?_, onlyB_trans hA.out P1.out.2⟩
  have hkk := HK.out
  have e : putL k n S = beB (n % 4294967296) 4 := by unfold putL; simp [hkk]
  rw [e]
  exact P1.out.1

set_option maxRecDepth 100000 in
set_option maxHeartbeats 800000 in
theorem w36_3 (B p k n : Nat) (S L : List UInt8) (w : World) (hk : k % 6 = 3) (hn : n < 18446744073709551616) (hS : S.length ≤ 65535) (hL : L.length ≤ 100000000) (h : Wr B p L 0 w) :
    Calls Try.prog 36 #[.pointer (some ⟨p, 0, none⟩), .agg #[.int .u8 k, .int .u64 n, .string (strL S)]] w (WriteP B p L (putL k n S) w) := by
  have hB0 : B ≤ w.heap.size := by obtain ⟨v, _, _, _, h4⟩ := h; exact h4
  have hr : (k : Int).tmod 6 = 3 := by rw [Int.tmod_eq_emod_of_nonneg (by omega)]; omega
  have hA : Hid (OnlyB B p w (w.alloc (.cells #[.int .u8 k, .int .u64 n, .string (strL S)] 36))) := Lib.hid (onlyB_bl ((Bl.refl w).alloc _) hB0)
  have H1 : Hid (Wr B p L 0 (w.alloc (.cells #[.int .u8 k, .int .u64 n, .string (strL S)] 36))) := Lib.hid (wr_below h ((Bl.refl w).alloc _))
  have HL := Lib.hid hL
  have HS := Lib.hid hS
  have HN := Lib.hid hn
  have HK := Lib.hid hk
  clear h hk hn hS hL hB0
  have HV : Hid (n < 18446744073709551616) := HN
  go_enter Try.func36, Try.ntmps36
  go_wp2_with (go_at_call 34; refine (w_u64 B p L n _ HV.out (by have := HL.out; omega) H1.out).mono ?_; rintro x w1 ⟨rfl, ha, hb⟩; have P1 := Lib.hid (And.intro ha hb); clear ha hb)
  go_end0
  refine ⟨rfl, ?_, onlyB_trans hA.out P1.out.2⟩
  have hkk := HK.out
  have e : putL k n S = beB n 8 := by unfold putL; simp [hkk]
  rw [e]
  exact P1.out.1

set_option maxRecDepth 100000 in
set_option maxHeartbeats 800000 in
theorem w36_4 (B p k n : Nat) (S L : List UInt8) (w : World) (hk : k % 6 = 4) (hn : n < 18446744073709551616) (hS : S.length ≤ 65535) (hL : L.length ≤ 100000000) (h : Wr B p L 0 w) :
    Calls Try.prog 36 #[.pointer (some ⟨p, 0, none⟩), .agg #[.int .u8 k, .int .u64 n, .string (strL S)]] w (WriteP B p L (putL k n S) w) := by
  have hB0 : B ≤ w.heap.size := by obtain ⟨v, _, _, _, h4⟩ := h; exact h4
  have hr : (k : Int).tmod 6 = 4 := by rw [Int.tmod_eq_emod_of_nonneg (by omega)]; omega
  have hA : Hid (OnlyB B p w (w.alloc (.cells #[.int .u8 k, .int .u64 n, .string (strL S)] 36))) := Lib.hid (onlyB_bl ((Bl.refl w).alloc _) hB0)
  have H1 : Hid (Wr B p L 0 (w.alloc (.cells #[.int .u8 k, .int .u64 n, .string (strL S)] 36))) := Lib.hid (wr_below h ((Bl.refl w).alloc _))
  have HL := Lib.hid hL
  have HS := Lib.hid hS
  have HN := Lib.hid hn
  have HK := Lib.hid hk
  clear h hk hn hS hL hB0
  go_enter Try.func36, Try.ntmps36
  go_wp2_with (go_at_call 29; refine (w_raw B p L S _ (by have := HS.out; omega) (by have := HL.out; omega) H1.out).mono ?_; rintro x w1 ⟨rfl, ha, hb⟩; have P1 := Lib.hid (And.intro ha hb); clear ha hb)
  go_end0
  refine ⟨rfl, ?_, onlyB_trans hA.out P1.out.2⟩
  have hkk := HK.out
  have e : putL k n S = S := by unfold putL; simp [hkk]
  rw [e]
  exact P1.out.1

set_option maxRecDepth 100000 in
set_option maxHeartbeats 800000 in
theorem w36_5 (B p k n : Nat) (S L : List UInt8) (w : World) (hk : k % 6 = 5) (hn : n < 18446744073709551616) (hS : S.length ≤ 65535) (hL : L.length ≤ 100000000) (h : Wr B p L 0 w) :
    Calls Try.prog 36 #[.pointer (some ⟨p, 0, none⟩), .agg #[.int .u8 k, .int .u64 n, .string (strL S)]] w (WriteP B p L (putL k n S) w) := by
  have hB0 : B ≤ w.heap.size := by obtain ⟨v, _, _, _, h4⟩ := h; exact h4
  have hr : (k : Int).tmod 6 = 5 := by rw [Int.tmod_eq_emod_of_nonneg (by omega)]; omega
  have hA : Hid (OnlyB B p w (w.alloc (.cells #[.int .u8 k, .int .u64 n, .string (strL S)] 36))) := Lib.hid (onlyB_bl ((Bl.refl w).alloc _) hB0)
  have H1 : Hid (Wr B p L 0 (w.alloc (.cells #[.int .u8 k, .int .u64 n, .string (strL S)] 36))) := Lib.hid (wr_below h ((Bl.refl w).alloc _))
  have HL := Lib.hid hL
  have HS := Lib.hid hS
  have HN := Lib.hid hn
  have HK := Lib.hid hk
  clear h hk hn hS hL hB0
  go_enter Try.func36, Try.ntmps36
  go_wp2_with (go_at_call 28; refine (w_text B p L S _ HS.out (by have := HL.out; omega) H1.out).mono ?_; rintro x w1 ⟨rfl, ha, hb⟩; have P1 := Lib.hid (And.intro ha hb); clear ha hb)
  go_end0
  refine ⟨rfl, ?_, onlyB_trans hA.out P1.out.2⟩
  have hkk := HK.out
  have e : putL k n S = beB S.length 2 ++ S := by unfold putL; simp [hkk]
  rw [e]
  exact P1.out.1

theorem w36_any (B p k n : Nat) (S L : List UInt8) (w : World) (hn : n < 18446744073709551616) (hS : S.length ≤ 65535) (hL : L.length ≤ 100000000) (h : Wr B p L 0 w) :
    Calls Try.prog 36 #[.pointer (some ⟨p, 0, none⟩), .agg #[.int .u8 k, .int .u64 n, .string (strL S)]] w (WriteP B p L (putL k n S) w) := by
  rcases (by omega : k % 6 = 0 ∨ k % 6 = 1 ∨ k % 6 = 2 ∨ k % 6 = 3 ∨ k % 6 = 4 ∨ k % 6 = 5) with h6 | h6 | h6 | h6 | h6 | h6
  · exact w36_0 B p k n S L w h6 hn hS hL h
  · exact w36_1 B p k n S L w h6 hn hS hL h
  · exact w36_2 B p k n S L w h6 hn hS hL h
  · exact w36_3 B p k n S L w h6 hn hS hL h
  · exact w36_4 B p k n S L w h6 hn hS hL h
  · exact w36_5 B p k n S L w h6 hn hS hL h

/-! What a number's bytes are read as; and the other way. -/
theorem beN_append1 (l : List UInt8) (b : UInt8) : beN (l ++ [b]) = beN l * 256 + b.toNat := by
  have := beN_take (l ++ [b]) l.length b (by simp)
  rw [List.take_of_length_le (by simp), List.take_left] at this
  exact this
theorem beB_snoc (m W : Nat) (b : UInt8) : beB (m * 256 + b.toNat) (W + 1) = beB m W ++ [b] := by
  unfold beB
  rw [List.range_succ, List.map_append, List.map_singleton]
  congr 1
  · refine List.map_congr_left fun k hk => ?_
    have hk : k < W := List.mem_range.1 hk
    unfold byteAt
    congr 1
    rw [show 8 * (W + 1 - 1 - k) = 8 + 8 * (W - 1 - k) from by omega, Nat.pow_add, ← Nat.div_div_eq_div_mul]
    congr 1
    have := b.toNat_lt
    omega
  · unfold byteAt
    rw [show 8 * (W + 1 - 1 - W) = 0 from by omega]
    congr 1
    apply UInt8.toNat_inj.1
    rw [UInt8.toNat_ofNat', Nat.pow_zero, Nat.div_one]
    have := b.toNat_lt
    omega
theorem beB_beN (l : List UInt8) : beB (beN l) l.length = l := by
  obtain ⟨n, hn⟩ : ∃ n, l.length = n := ⟨_, rfl⟩
  induction n generalizing l with
  | zero => have := List.length_eq_zero_iff.1 hn; subst this; rfl
  | succ n ih =>
    obtain ⟨a, b, rfl⟩ : ∃ a b, l = a ++ [b] := ⟨l.dropLast, l.getLast (by intro h; subst h; simp at hn), (List.dropLast_concat_getLast _).symm⟩
    have ha : a.length = n := by simp at hn; exact hn
    rw [beN_append1, List.length_append, List.length_singleton, beB_snoc, ih a ha]
/-- What is taken and what is left, without an error. -/
theorem fix_split (L : List UInt8) (n : Int) (h : fixE L 0 n = 0) : fixO L 0 n ++ fixL L 0 n = L ∧ (0 < n → (fixO L 0 n).length = n.toNat) := by
  unfold fixE at h
  unfold fixO fixL
  by_cases hn : 0 < n
  · by_cases hl : n ≤ L.length
    · rw [if_pos ⟨rfl, hn, hl⟩, if_pos ⟨rfl, hn⟩, if_pos hl]
      exact ⟨List.take_append_drop _ _, fun _ => by rw [List.length_take]; omega⟩
    · rw [if_pos ⟨rfl, hn, by omega⟩] at h
      omega
  · rw [if_neg (fun h => hn h.2.1), if_neg (fun h => hn h.2)]
    exact ⟨rfl, fun h => absurd h hn⟩
end Go.Proofs.Ytniblmpihnhglaa
