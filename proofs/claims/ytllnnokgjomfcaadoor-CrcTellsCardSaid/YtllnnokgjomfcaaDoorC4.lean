/- The walk of crc.Join, and of the reference's Join. -/
import Derived.Test.YtllnnokgjomfcaaDoorC3
import Derived.Deep.WholeRow
import Derived.Laws.BytesArg
namespace Go.Proofs.YtllnnokgjomfcaaDoor
open Go.RowKit
set_option linter.unusedVariables false

/-- The count of noughts: below 0 as 0, above 65535 as that. -/
def clamp (n : Int) : Nat := (max 0 (min n 65535)).toNat
theorem clamp_le (n : Int) : clamp n ≤ 65535 := by unfold clamp; omega

theorem zp0_pow (i : Nat) (hi : i < 32) : zp 0 (2 ^ i) < 4294967296 := zp_lt 0 (Nat.pow_lt_pow_right (by omega) hi)
theorem zp_pow (k i : Nat) (hi : i < 32) : zp k (2 ^ i) < 4294967296 := zp_lt k (Nat.pow_lt_pow_right (by omega) hi)

/-- Join from the loop on. -/
def JW (g : Nat) (w wr : World) (k : Nat) : Prop := Bl w wr ∧ w.heap.size ≤ g ∧ wr.heap[g]? = some (.cells (rowV (zp k)) 37 (0, 0))

theorem keep_row {w w3 : World} {g : Nat} {o O : Obj} (h : w.heap[g]? = some o) (hb : Bl (w.alloc O) w3) : w3.heap[g]? = some o := by
  have hl := (Array.getElem?_eq_some_iff.1 h).1
  rw [Below.block hb g (by simp; omega), Below.heap_alloc w O g hl, h]

def JPost (R : Nat) (w : World) (e : Ending) (w' : World) : Prop := e = .returned (.int .u32 R) ∧ Bl w w'

set_option maxHeartbeats 1600000 in
theorem join_core (a b N : Nat) (n : Int) (w : World) (ha : a < 4294967296) (hb : b < 4294967296) (hn : N ≤ 65535) (hw : Fo w)
    (hc : (n < 0 ∧ N = 0) ∨ (n = 0 ∧ N = 0) ∨ (65535 < n ∧ N = 65535) ∨ (n = N ∧ 0 < n ∧ n ≤ 65535)) :
    Calls Tryd.prog 14 #[.int .u32 a, .int .u32 b, .int .i64 n] w fun e w' => JPost (joinN a b N) w e w' := by
  have HF := Lib.hid hw
  clear hw
  have T1 : Hid (∀ w, Fo w → Calls Tryd.prog 20 #[.func (.func 21) #[] #[]] w fun e w' => ToldPost (zp 0) w e w') := Lib.hid (fun w hw => told_21 (zp 0) w (fun x wr hb hx => join1_any x wr hx (hw.bl hb)))
  have hR : ∃ R, zerosN (N * 2 ^ 0) a = R ∧ joinN a b N = R ^^^ b ∧ R < 4294967296 := ⟨_, rfl, by unfold joinN; rw [Nat.pow_zero, Nat.mul_one], zerosN_lt _ ha⟩
  obtain ⟨R, h1, h2, hl⟩ := hR
  rw [h2]
  have Hx := Lib.hid (xor32 R b hl hb)
  have HR := Lib.hid h1
  clear h1 h2
  have hI : Hid (∀ k, (Tryd.prog.info? 37).map (·.size) = some (rowV (zp k)).size) := Lib.hid (fun k => by rw [rowV_size]; kernel_rfl)
  rcases hc with ⟨c1, rfl⟩ | ⟨rfl, rfl⟩ | ⟨c1, rfl⟩ | ⟨rfl, c1, c2⟩
  all_goals
    go_enter Tryd.func14, Tryd.ntmps14
    go_wp2_with (first | (go_at_call 20; refine (T1.out _ HF.out).mono ?_; rintro e w1 ⟨rfl, hb1⟩) | (refine wpList_store_row rfl 37 _ _ rfl _ (rowV (zp 0)) rfl rfl 37 _ (heap_alloc_last _ _) (hI.out 0) (by rw [rowV_size]; rfl) (rowV_one _) ?_; rw [World.setRow_alloc_new]))
    try go_frame
    have j0 : Hid (JW w1.heap.size w (w1.alloc (.cells (rowV (zp 0)) 37)) 0) := ⟨hb1.alloc _, hb1.size, heap_alloc_last _ _⟩
    generalize hg : w1.heap.size = g at *
    clear hg hb1
    go_loopw [0, 2] (fun v0 v2 wr => ∃ k n' a' : Nat, n' ≤ 65535 ∧ a' < 4294967296 ∧ v2 = .int .i64 n' ∧ v0 = .int .u32 a' ∧ Hid (zerosN (n' * 2 ^ k) a' = R) ∧ Hid (JW g w wr k)) (fun _ v _ => (intOf v).toNat)
    case atStart => exact ⟨0, _, a, hn, ha, rfl, rfl, HR, j0⟩
    case round =>
      clear j0
      obtain ⟨k, n', a', n1, l1, rfl, rfl, h1, hj⟩ := hrel
      by_cases hz : n' = 0
      · subst hz
        have e : a' = R := by have := h1.out; rw [Nat.zero_mul] at this; exact this
        subst e
        go_wp2_with fail
        go_ret
        exact ⟨ret_int Hx.out, hj.out.1⟩
      · have hp : 0 < n' := by omega
        clear hz
        have hnn := and1_64 n' (by omega)
        obtain ⟨jb, jg, jh⟩ := hj.out
        clear hj
        have JB := Lib.hid jb
        have JG := Lib.hid jg
        have JH := Lib.hid jh
        clear jb jg jh
        have JR : Hid (Ru g (tab (zp k) 0 32) wr) := Lib.hid (ru_of_row JH.out (zp_pow k))
        have C1 : Hid (Calls Tryd.prog 22 #[.pointer (some ⟨g, 0, none⟩), .int .u32 a'] wr fun e w' => e = .returned (.int .u32 (zp k a' : Nat)) ∧ wr = w') := Lib.hid (by
          have := of_any g _ a' wr l1 JR.out; rwa [of_zp k a' l1] at this)
        have C2 : Hid (Calls Tryd.prog 20 #[.func (.func 23) #[] #[.pointer (some ⟨wr.heap.size, 0, none⟩)]] (wr.alloc (.cells (rowV (zp k)) 37)) fun e w' => ToldPost (zp (k + 1)) (wr.alloc (.cells (rowV (zp k)) 37)) e w') := Lib.hid (told_23 (zp (k + 1)) wr.heap.size _ (fun x w4 hb4 hx => join2_any wr.heap.size x k w4 hx (ru_of_row (by
          rw [Below.block hb4 wr.heap.size (by simp)]; exact heap_alloc_last _ _) (zp_pow k))))
        have ho : ((n' : Int) / 2) = ((n' / 2 : Nat) : Int) := by omega
        have Ho := Lib.hid ho
        clear ho
        rcases Nat.mod_two_eq_zero_or_one n' with hm | hm
        · rw [hm] at hnn
          have h2 : Hid (zerosN (n' / 2 * 2 ^ (k + 1)) a' = R) := Lib.hid (by rw [join_even k n' a' hm]; exact h1.out)
          clear hm h1 C1
          go_wp2_with (first | (go_at_call 20; refine C2.out.mono ?_; rintro e w3 ⟨rfl, hb3⟩; have hg3 := Lib.hid (keep_row JH.out hb3)) | (refine wpList_load_row rfl 37 _ rfl g rfl 37 (rowV (zp k)) (0, 0) _ JH.out Tryd.underlying37 rfl (hI.out k) ?_) | (refine wpList_store_row rfl 37 _ _ rfl wr.heap.size (rowV (zp k)) rfl rfl 37 _ (heap_alloc_last _ _) (hI.out k) (by rw [rowV_size]; rfl) (rowV_one _) ?_; rw [World.setRow_alloc_new]) | (refine wpList_store_row rfl 37 _ _ rfl g (rowV (zp (k + 1))) rfl rfl 37 (rowV (zp k)) hg3.out (hI.out (k + 1)) (by rw [rowV_size, rowV_size]) (rowV_one _) ?_))
          exact ⟨⟨k + 1, n' / 2, a', by omega, l1, by rw [Ho.out], rfl, h2, ((JB.out.alloc _).trans hb3).setRow JG.out _, JG.out, setRow_heap _ _ _ _ _ _ hg3.out⟩, by simp [intOf]; omega⟩
        · rw [hm] at hnn
          have h2 : Hid (zerosN (n' / 2 * 2 ^ (k + 1)) (zp k a') = R) := Lib.hid (by rw [join_odd k n' a' hm]; exact h1.out)
          have l2 := zp_lt k l1
          generalize zp k a' = a2 at C1 h2 l2
          clear hm h1
          go_wp2_with (first | (go_at_call 22; refine C1.out.mono ?_; rintro e w' ⟨rfl, rfl⟩) | (go_at_call 20; refine C2.out.mono ?_; rintro e w3 ⟨rfl, hb3⟩; have hg3 := Lib.hid (keep_row JH.out hb3)) | (refine wpList_load_row rfl 37 _ rfl g rfl 37 (rowV (zp k)) (0, 0) _ JH.out Tryd.underlying37 rfl (hI.out k) ?_) | (refine wpList_store_row rfl 37 _ _ rfl wr.heap.size (rowV (zp k)) rfl rfl 37 _ (heap_alloc_last _ _) (hI.out k) (by rw [rowV_size]; rfl) (rowV_one _) ?_; rw [World.setRow_alloc_new]) | (refine wpList_store_row rfl 37 _ _ rfl g (rowV (zp (k + 1))) rfl rfl 37 (rowV (zp k)) hg3.out (hI.out (k + 1)) (by rw [rowV_size, rowV_size]) (rowV_one _) ?_))
          exact ⟨⟨k + 1, n' / 2, a2, by omega, l2, by rw [Ho.out], rfl, h2, ((JB.out.alloc _).trans hb3).setRow JG.out _, JG.out, setRow_heap _ _ _ _ _ _ hg3.out⟩, by simp [intOf]; omega⟩

theorem join_any (a b : Nat) (n : Int) (w : World) (ha : a < 4294967296) (hb : b < 4294967296) (hw : Fo w) :
    Calls Tryd.prog 14 #[.int .u32 a, .int .u32 b, .int .i64 n] w fun e w' => JPost (joinN a b (clamp n)) w e w' := by
  refine join_core a b (clamp n) n w ha hb (clamp_le n) hw ?_
  unfold clamp
  omega

/-- n bytes 0. -/
def zeroS (n : Nat) : ByteArray := ⟨(List.replicate n (0 : UInt8)).toArray⟩
theorem zeroS_list (n : Nat) : (zeroS n).data.toList = List.replicate n 0 := rfl
theorem zeroS_size (n : Nat) : (zeroS n).size = n := by show (List.replicate n (0 : UInt8)).toArray.size = n; simp

theorem strOfNums_zero (n : Nat) : strOfNums (List.replicate n 0) = zeroS n := by
  unfold zeroS strOfNums
  rw [List.map_replicate]; rfl
/-- The block of n bytes 0. -/
def mkO (n : Nat) : Obj := .cells (madeCells #[.int .u8 0] n) 5
theorem run_mk (N : Nat) (hn : N ≤ 65535) (W : World) : (Instr.makeSlice 30 (.int .i64 (N : Int)) (.int .i64 (N : Int))).run Tryd.prog W = .ok (.slice (some ⟨W.heap.size, 0, none⟩) N N) (W.alloc (mkO N)) :=
  run_make_row' (P := Tryd.prog) 30 5 (.int .u8 0) 1 Tryd.underlying30 (by kernel_rfl) rfl .i64 .i64 N (by omega) (by omega) W
theorem run_cv (N : Nat) (W : World) : (convert 30 9 (.slice (some ⟨W.heap.size, 0, none⟩) N N)).run Tryd.prog (W.alloc (mkO N)) = .ok (.string (zeroS N)) (W.alloc (mkO N)) := by
  have hr := World.rowIs_made W (.int .u8 0) N 5
  have := run_convert_bytes_arg (P := Tryd.prog) (W.alloc (mkO N)) 30 5 Tryd.underlying30 Tryd.underlying5 W.heap.size 0 N N (List.replicate N 0) (by simp) (fun i hi => by
    rw [Nat.zero_add]
    have e : (List.replicate N (0 : Int)).getD i 0 = 0 := by rw [List.getD_eq_getElem?_getD, List.getElem?_replicate, if_pos hi]; rfl
    rw [e]; exact hr.cell hi) 9 Tryd.underlying9
  rw [strOfNums_zero] at this
  exact this

set_option maxHeartbeats 1600000 in
theorem rjoin_core (a b N : Nat) (n m : Int) (w : World) (ha : a < 4294967296) (hb : b < 4294967296) (hn : N ≤ 65535) (hm : m = N)
    (hc : (n < 0 ∧ m = 0) ∨ (65535 < n ∧ m = 65535) ∨ (n = m ∧ 0 ≤ n ∧ n ≤ 65535)) :
    Calls Tryd.prog 15 #[.int .u32 a, .int .u32 b, .int .i64 n] w fun e w' => JPost (joinN a b N) w e w' := by
  have hmk := run_mk N hn
  rw [← hm] at hmk
  have hcv := run_cv N
  have hs : (zeroS N).size ≤ 140737488351232 := by rw [zeroS_size]; omega
  have U1 : Hid (∀ w, Calls Tryd.prog 13 #[.int .u32 a, .string (zeroS N)] w fun e w' => e = .returned (.int .u32 (upd a (List.replicate N 0) : Nat)) ∧ w = w') := Lib.hid (fun w => rupdate_any a (zeroS N) w ha hs)
  have U2 : Hid (∀ w, Calls Tryd.prog 11 #[.string (zeroS N)] w fun e w' => e = .returned (.int .u32 (upd 0 (List.replicate N 0) : Nat)) ∧ w = w') := Lib.hid (fun w => rsum_any (zeroS N) w hs)
  have l1 := upd_lt (List.replicate N 0) ha
  have l2 : upd 0 (List.replicate N 0) < 4294967296 := upd_lt (List.replicate N 0) (by omega)
  have hx := xor32 _ b l1 hb
  have l3 : upd a (List.replicate N 0) ^^^ b < 4294967296 := Nat.xor_lt_two_pow (n := 32) l1 hb
  have hy := xor32 _ _ l3 l2
  have hj := join_ref a b N
  rw [hj] at hy
  generalize upd a (List.replicate N 0) ^^^ b = p at *
  generalize upd a (List.replicate N 0) = q at *
  generalize upd 0 (List.replicate N 0) = r at *
  generalize joinN a b N = R at *
  generalize zeroS N = z at *
  generalize mkO N = O at *
  clear hj hs hn
  rcases hc with ⟨c1, rfl⟩ | ⟨c1, rfl⟩ | ⟨rfl, c1, c2⟩
  all_goals
    clear hm
    go_enter Tryd.func15, Tryd.ntmps15
    go_wp2_with (first | (go_at_call 13; refine (U1.out _).mono ?_; rintro e w' ⟨rfl, rfl⟩) | (go_at_call 11; refine (U2.out _).mono ?_; rintro e w' ⟨rfl, rfl⟩))
    go_ret
    exact ⟨rfl, (Bl.refl w).alloc _⟩

theorem rjoin_any (a b : Nat) (n : Int) (w : World) (ha : a < 4294967296) (hb : b < 4294967296) :
    Calls Tryd.prog 15 #[.int .u32 a, .int .u32 b, .int .i64 n] w fun e w' => JPost (joinN a b (clamp n)) w e w' := by
  refine rjoin_core a b (clamp n) n (clamp n : Int) w ha hb (clamp_le n) rfl ?_
  unfold clamp
  omega
end Go.Proofs.YtllnnokgjomfcaaDoor
