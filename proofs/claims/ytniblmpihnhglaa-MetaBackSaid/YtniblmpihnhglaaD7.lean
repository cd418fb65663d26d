import Derived.Test.YtniblmpihnhglaaD6
import Derived.Deep.OwnRows
import Derived.IntWalk
namespace Go.Proofs.Ytniblmpihnhglaa
open Go.RowKit
set_option linter.unusedVariables false

theorem run_mk26 (N : Nat) (hn : N ≤ 65535) (W : World) : (Instr.makeSlice 26 (.int .i64 (N : Int)) (.int .i64 (N : Int))).run Try.prog W = .ok (.slice (some ⟨W.heap.size, 0, none⟩) N N) (W.alloc (.cells (madeCells #[.int .u8 0] N) 5)) :=
  run_make_row' (P := Try.prog) 26 5 (.int .u8 0) 1 Try.underlying26 (by kernel_rfl) rfl .i64 .i64 N (by omega) (by omega) W

def numC (n W k j : Nat) : Value := if W - k ≤ j then .int .u8 ((byteAt n W j).toNat : Int) else .int .u8 0
theorem byteAt_div (n W k : Nat) (h : k < W) : n / 256 ^ k % 256 = (byteAt n W (W - 1 - k)).toNat := by
  have : (byteAt n W (W - 1 - k)).toNat = n / 2 ^ (8 * (W - 1 - (W - 1 - k))) % 256 := UInt8.toNat_ofNat'
  rw [this, show W - 1 - (W - 1 - k) = k from by omega, Nat.pow_mul]
theorem numC_step (n W k : Nat) (h : k < W) (j : Nat) (hj : j < W) :
    (if j = W - 1 - k then Value.int .u8 ((byteAt n W (W - 1 - k)).toNat : Int) else numC n W k j) = numC n W (k + 1) j := by
  unfold numC
  by_cases e : j = W - 1 - k
  · subst e; rw [if_pos rfl, if_pos (by omega)]
  · rw [if_neg e]
    by_cases h : W - k ≤ j
    · rw [if_pos h, if_pos (by omega)]
    · rw [if_neg h, if_neg (by omega)]
set_option maxRecDepth 100000 in
theorem run_cv26 {n W H : Nat} {wr : World} (hr : wr.rowIs H 5 W (numC n W W)) : (convert 26 9 (.slice (some ⟨H, 0, none⟩) W W)).run Try.prog wr = .ok (.string (strL (beB n W))) wr := by
  have := run_convert_bytes_arg (P := Try.prog) wr 26 5 Try.underlying26 Try.underlying5 H 0 W W ((beB n W).map fun b => (b.toNat : Int)) (by simp [beB]) (fun i hi => by
    rw [Nat.zero_add, hr.cell hi]
    simp [numC, beB, List.getD, hi]) 9 Try.underlying9
  rw [this]
  congr 2
  simp only [strOfNums, strL, List.map_map]
  congr 2
  refine (List.map_congr_left fun b _ => ?_).trans (List.map_id _)
  simp

def NumP (n W : Nat) (w : World) (x : Ending) (w' : World) : Prop := x = .returned (.string (strL (beB n W))) ∧ Bl w w'
set_option maxRecDepth 100000 in
set_option maxHeartbeats 1600000 in
theorem number_any (n W : Nat) (w : World) (hn : n < 18446744073709551616) (h1 : 1 ≤ W) (h8 : W ≤ 8) :
    Calls Try.prog 73 #[.int .u64 n, .int .i64 W] w (NumP n W w) := by
  have hmk := run_mk26 W (by omega)
  have hz : Hid (World.rowIs (w.alloc (.cells (madeCells #[.int .u8 0] W) 5)) w.heap.size 5 W (numC n W 0)) := Lib.hid ((World.rowIs_made w (.int .u8 0) W 5).congr fun i hi => by
    unfold numC; rw [if_neg (by omega)])
  have HN := Lib.hid hn
  clear hn
  generalize hO : Obj.cells (madeCells #[.int .u8 0] W) 5 = O at hmk hz
  clear hO
  go_enter Try.func73, Try.ntmps73
  go_wp2_with fail
  go_loopw [0, 6] (fun v0 v6 wr => ∃ k : Nat, k ≤ W ∧ v0 = .int .u64 ((n / 256 ^ k : Nat) : Int) ∧ v6 = .int .i64 ((W : Int) - 1 - k) ∧ Bl w wr ∧ Hid (wr.rowIs w.heap.size 5 W (numC n W k))) (fun _ v _ => (intOf v + 1).toNat)
  case atStart => exact ⟨0, by omega, by simp, by go_num, (Bl.refl w).alloc _, hz⟩
  case round =>
    clear hz hmk
    obtain ⟨k, hk, rfl, rfl, hb, hrow⟩ := hrel
    have hm : n / 256 ^ k ≤ 18446744073709551615 := by have := HN.out; have := Nat.div_le_self n (256 ^ k); omega
    have hnext : n / 256 ^ k / 256 = n / 256 ^ (k + 1) := by rw [Nat.div_div_eq_div_mul, Nat.pow_succ]
    by_cases hlt : k < W
    · have hbyte := byteAt_div n W k hlt
      have gf := hrow.out.frozen (W - 1 - k)
      have gc := hrow.out.cell (i := W - 1 - k) (by omega)
      have hidx : ((W : Int) - 1 - k) = ((W - 1 - k : Nat) : Int) := by omega
      have HB := Lib.hid hbyte
      have HX := Lib.hid hnext
      generalize n / 256 ^ k = m at *
      have hr : (m : Int).tmod 256 = ((m % 256 : Nat) : Int) := by rw [Int.tmod_eq_emod_of_nonneg (by omega)]; rfl
      have hq : (m : Int).tdiv 256 = ((m / 256 : Nat) : Int) := by rw [Int.tdiv_eq_ediv_of_nonneg (by omega)]; rfl
      have hu : IntKind.u8.wrap ((m % 256 : Nat) : Int) = ((m % 256 : Nat) : Int) := IntWalk.u8_in _ (by omega)
      have hw : IntKind.u64.wrap ((m / 256 : Nat) : Int) = ((m / 256 : Nat) : Int) := IntWalk.u64_in _ (by omega)
      have hset := hrow.out.set (W - 1 - k) (.int .u8 ((byteAt n W (W - 1 - k)).toNat : Int))
      have HSET := Lib.hid (hset.congr (fun j hj => numC_step n W k hlt j hj))
      clear hnext hset
      rw [hidx]
      go_wp2_with fail
      refine ⟨⟨k + 1, by omega, by rw [← HX.out, Int.natCast_ediv]; rfl, by go_num, hb.setCell (Nat.le_refl _) _, HSET⟩, by simp only [intOf]; omega⟩
    · have hkW : k = W := by omega
      subst hkW
      have hcv := run_cv26 hrow.out
      clear hm hnext
      go_wp2_with fail
      go_ret
      exact ⟨rfl, hb⟩

/-- At block q a reference writer stands. -/
def Rw (q : Nat) (L : List UInt8) (b : Bool) (w : World) : Prop := w.heap[q]? = some (.cells #[.string (strL L), .bool b] 32 (0, 0))
theorem Rw.c0 {p : Nat} {L : List UInt8} {e : Bool} {w : World} (h : Rw p L e w) : w.cell? ⟨p, 0, none⟩ = some (.string (strL L)) := by rw [cell_of_row _ _ _ _ _ _ h]; rfl
theorem Rw.c1 {p : Nat} {L : List UInt8} {e : Bool} {w : World} (h : Rw p L e w) : w.cell? ⟨p, 1, none⟩ = some (.bool e) := by rw [cell_of_row _ _ _ _ _ _ h]; rfl
theorem Rw.f {p : Nat} {L : List UInt8} {e : Bool} {w : World} (h : Rw p L e w) (j : Nat) : w.frozen? ⟨p, j, none⟩ = false := frozen_of_row _ _ _ _ _ h
theorem Rw.set0 {p : Nat} {L M : List UInt8} {e : Bool} {w : World} (h : Rw p L e w) : Rw p M e (w.setCell ⟨p, 0, none⟩ (.string (strL M))) := by
  unfold Rw; rw [heap_setCell_same _ _ _ _ _ _ h]; rfl
theorem Rw.set1 {p : Nat} {L : List UInt8} {e d : Bool} {w : World} (h : Rw p L e w) : Rw p L d (w.setCell ⟨p, 1, none⟩ (.bool d)) := by
  unfold Rw; rw [heap_setCell_same _ _ _ _ _ _ h]; rfl
theorem Rw.lt {p : Nat} {L : List UInt8} {e : Bool} {w : World} (h : Rw p L e w) : p < w.heap.size := (Array.getElem?_eq_some_iff.1 h).1
theorem strL_append (a b : List UInt8) : strL a ++ strL b = strL (a ++ b) := by
  apply ByteArray.ext; simp [strL]
def RwP (q : Nat) (L : List UInt8) (b : Bool) (w : World) (x : Ending) (w' : World) : Prop := x = .returned (.tuple #[]) ∧ Rw q L b w' ∧ Only q w w'

theorem rw_raw (q : Nat) (L M : List UInt8) (w : World) (hm : M.length ≤ 1000000) (hl : L.length ≤ 1000000000) (hr : Rw q L false w) :
    Calls Try.prog 58 #[.pointer (some ⟨q, 0, none⟩), .string (strL M)] w (RwP q (L ++ M) false w) := by
  have c0 := hr.c0
  have c1 := hr.c1
  have f0 := hr.f 0
  have hs := strL_append L M
  have hb : (strL L).size + (strL M).size ≤ 1001000000 := by rw [strL_size', strL_size']; omega
  have HR := Lib.hid hr
  clear hr hm hl
  go_enter Try.func58, Try.ntmps58
  go_wp2_with fail
  go_end0
  exact ⟨rfl, HR.out.set0, only_set (only_refl _ _) 0 _⟩
theorem rwe_raw (q : Nat) (L : List UInt8) (s : ByteArray) (w : World) (hr : Rw q L true w) :
    Calls Try.prog 58 #[.pointer (some ⟨q, 0, none⟩), .string s] w (SameP w) := by
  have c1 := hr.c1
  clear hr
  go_enter Try.func58, Try.ntmps58
  go_wp2_with fail
  go_end0
  exact ⟨rfl, rfl⟩
theorem rw_number (q n W : Nat) (L : List UInt8) (w : World) (hn : n < 18446744073709551616) (h1 : 1 ≤ W) (h8 : W ≤ 8) (hl : L.length ≤ 1000000000) (hr : Rw q L false w) :
    Calls Try.prog 57 #[.pointer (some ⟨q, 0, none⟩), .int .u64 n, .int .i64 W] w (RwP q (L ++ beB n W) false w) := by
  have HN := Lib.hid hn
  have HL := Lib.hid hl
  have HR := Lib.hid hr
  clear hr hn hl
  go_enter Try.func57, Try.ntmps57
  go_wp2_with (first
    | (go_at_call 73; refine (number_any n W _ HN.out h1 h8).mono ?_; rintro e w1 ⟨rfl, hb⟩; have HB := Lib.hid hb; have HR1 : Hid (Rw q L false w1) := Lib.hid ((hb.block q HR.out.lt).trans HR.out); clear hb)
    | (go_at_call 58; refine (rw_raw q L (beB n W) _ (by rw [beB_length]; omega) HL.out HR1.out).mono ?_; rintro e w2 ⟨rfl, hp2⟩; have HP2 := Lib.hid hp2; clear hp2))
  go_end0
  exact ⟨rfl, HP2.out.1, only_trans (only_of_below HB.out _) HP2.out.2⟩
theorem rwe_number (q n W : Nat) (L : List UInt8) (w : World) (hn : n < 18446744073709551616) (h1 : 1 ≤ W) (h8 : W ≤ 8) (hr : Rw q L true w) :
    Calls Try.prog 57 #[.pointer (some ⟨q, 0, none⟩), .int .u64 n, .int .i64 W] w (RwP q L true w) := by
  have HN := Lib.hid hn
  have HR := Lib.hid hr
  clear hr hn
  go_enter Try.func57, Try.ntmps57
  go_wp2_with (first
    | (go_at_call 73; refine (number_any n W _ HN.out h1 h8).mono ?_; rintro e w1 ⟨rfl, hb⟩; have HB := Lib.hid hb; have HR1 : Hid (Rw q L true w1) := Lib.hid ((hb.block q HR.out.lt).trans HR.out); clear hb)
    | (go_at_call 58; refine (rwe_raw q L _ _ HR1.out).mono ?_; rintro e w2 ⟨rfl, rfl⟩))
  go_end0
  exact ⟨rfl, HR1.out, only_of_below HB.out _⟩

theorem rtext_long (s : ByteArray) (w : World) (hm : 65535 < s.size) :
    Calls Try.prog 80 #[.string s] w fun x w' => x = .returned (.tuple #[.string (strL []), .bool false]) ∧ w = w' := by
  have ht : decide ((65535 : Int) < (s.size : Int)) = true := decide_eq_true (by omega)
  clear hm
  go_enter Try.func80, Try.ntmps80
  go_wp2_with fail
  go_ret2
  exact ⟨rfl, rfl⟩
theorem rtext (M : List UInt8) (w : World) (hm : M.length ≤ 65535) :
    Calls Try.prog 80 #[.string (strL M)] w fun x w' => x = .returned (.tuple #[.string (strL (beB M.length 2 ++ M)), .bool true]) ∧ Bl w w' := by
  have hz : (strL M).size = M.length := strL_size' M
  have ht : decide ((65535 : Int) < (M.length : Int)) = false := decide_eq_false (by omega)
  have hu : IntKind.u64.wrap (M.length : Int) = M.length := IntWalk.u64_in _ (by omega)
  have hs := strL_append (beB M.length 2) M
  have hb : (strL (beB M.length 2)).size + (strL M).size ≤ 1001000000 := by rw [strL_size', strL_size', beB_length]; omega
  have HM := Lib.hid hm
  generalize strL M = S at hz hs hb
  generalize M.length = m at *
  clear hm
  go_enter Try.func80, Try.ntmps80
  go_wp2_with (go_at_call 73; refine (number_any m 2 _ (by have := HM.out; omega) (by decide) (by decide)).mono ?_; rintro e w1 ⟨rfl, hb⟩; have HB := Lib.hid hb; clear hb)
  go_ret2
  exact ⟨rfl, HB.out⟩

theorem rw_text_long (q : Nat) (L : List UInt8) (b : Bool) (s : ByteArray) (w : World) (hm : 65535 < s.size) (hr : Rw q L b w) :
    Calls Try.prog 59 #[.pointer (some ⟨q, 0, none⟩), .string s] w (RwP q L true w) := by
  have HR := Lib.hid hr
  have HM := Lib.hid hm
  have c1 := hr.c1
  have f1 := hr.f 1
  clear hr hm
  have HS : Hid (Rw q L true (w.setCell ⟨q, 1, none⟩ (.bool true))) := Lib.hid HR.out.set1
  go_enter Try.func59, Try.ntmps59
  go_wp2_with (first
    | (go_at_call 80; refine (rtext_long s _ HM.out).mono ?_; rintro e w1 ⟨rfl, rfl⟩)
    | (go_at_call 58; refine (rwe_raw q L _ _ HS.out).mono ?_; rintro e w2 ⟨rfl, rfl⟩))
  go_end0
  exact ⟨rfl, HS.out, only_set (only_refl _ _) 1 _⟩
theorem rw_text (q : Nat) (L M : List UInt8) (w : World) (hm : M.length ≤ 65535) (hl : L.length ≤ 1000000000) (hr : Rw q L false w) :
    Calls Try.prog 59 #[.pointer (some ⟨q, 0, none⟩), .string (strL M)] w (RwP q (L ++ (beB M.length 2 ++ M)) false w) := by
  have HR := Lib.hid hr
  have HM := Lib.hid hm
  have HL := Lib.hid hl
  clear hr hm hl
  go_enter Try.func59, Try.ntmps59
  go_wp2_with (first
    | (go_at_call 80; refine (rtext M _ HM.out).mono ?_; rintro e w1 ⟨rfl, hb⟩; have HB := Lib.hid hb; have HR1 : Hid (Rw q L false w1) := Lib.hid ((hb.block q HR.out.lt).trans HR.out); clear hb)
    | (go_at_call 58; refine (rw_raw q L _ _ (by have := HM.out; rw [List.length_append, beB_length]; omega) HL.out HR1.out).mono ?_; rintro e w2 ⟨rfl, hp2⟩; have HP2 := Lib.hid hp2; clear hp2))
  go_end0
  exact ⟨rfl, HP2.out.1, only_trans (only_of_below HB.out _) HP2.out.2⟩
theorem rwe_text (q : Nat) (L M : List UInt8) (w : World) (hm : M.length ≤ 65535) (hr : Rw q L true w) :
    Calls Try.prog 59 #[.pointer (some ⟨q, 0, none⟩), .string (strL M)] w (RwP q L true w) := by
  have HR := Lib.hid hr
  have HM := Lib.hid hm
  clear hr hm
  go_enter Try.func59, Try.ntmps59
  go_wp2_with (first
    | (go_at_call 80; refine (rtext M _ HM.out).mono ?_; rintro e w1 ⟨rfl, hb⟩; have HB := Lib.hid hb; have HR1 : Hid (Rw q L true w1) := Lib.hid ((hb.block q HR.out.lt).trans HR.out); clear hb)
    | (go_at_call 58; refine (rwe_raw q L _ _ HR1.out).mono ?_; rintro e w2 ⟨rfl, rfl⟩))
  go_end0
  exact ⟨rfl, HR1.out, only_of_below HB.out _⟩
theorem rw_bytes (q : Nat) (L : List UInt8) (w : World) (hr : Rw q L false w) :
    Calls Try.prog 18 #[.pointer (some ⟨q, 0, none⟩)] w fun x w' => x = .returned (.tuple #[.string (strL L), .int .i64 0]) ∧ w = w' := by
  have c0 := hr.c0
  have c1 := hr.c1
  clear hr
  go_enter Try.func18, Try.ntmps18
  go_wp2_with fail
  go_ret2
  exact ⟨rfl, rfl⟩
theorem rwe_bytes (q : Nat) (L : List UInt8) (w : World) (hr : Rw q L true w) :
    Calls Try.prog 18 #[.pointer (some ⟨q, 0, none⟩)] w fun x w' => x = .returned (.tuple #[.string (strL []), .int .i64 3]) ∧ w = w' := by
  have c1 := hr.c1
  clear hr
  go_enter Try.func18, Try.ntmps18
  go_wp2_with fail
  go_ret2
  exact ⟨rfl, rfl⟩
end Go.Proofs.Ytniblmpihnhglaa
