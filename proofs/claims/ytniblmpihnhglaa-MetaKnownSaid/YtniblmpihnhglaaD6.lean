import Derived.Test.YtniblmpihnhglaaD5
import Derived.Lib.AppendStr
import Derived.Laws.BytesArg
namespace Go.Proofs.Ytniblmpihnhglaa
open Go.RowKit
set_option linter.unusedVariables false

theorem calls_conv {P : Program} {f : Nat} {args : Array Value} {w : World} {A B : Ending → World → Prop} (h : Calls P f args w A) (k : ∀ x w', A x w' → B x w') : Calls P f args w B := h.mono k

set_option maxRecDepth 100000 in
theorem w_u8 (B p : Nat) (L : List UInt8) (n : Nat) (w : World) (hn : n < 256) (hl : L.length ≤ 1000000000) (hr : Wr B p L 0 w) :
    Calls Try.prog 25 #[.pointer (some ⟨p, 0, none⟩), .int .u8 n] w (PutP B p L (beB n 1) w) := by
  have HN := Lib.hid hn
  have HL := Lib.hid hl
  have HR := Lib.hid hr
  clear hn hl hr
  go_enter Try.func25, Try.ntmps25
  go_wp2_with (go_at_call 63; refine (put_u8 B p L n _ HN.out HL.out HR.out).mono ?_; rintro e w' ⟨rfl, hp⟩; have HP := Lib.hid hp; clear hp)
  go_end0
  exact ⟨rfl, HP.out⟩
set_option maxRecDepth 100000 in
theorem w_u16 (B p : Nat) (L : List UInt8) (n : Nat) (w : World) (hn : n < 65536) (hl : L.length ≤ 1000000000) (hr : Wr B p L 0 w) :
    Calls Try.prog 26 #[.pointer (some ⟨p, 0, none⟩), .int .u16 n] w (PutP B p L (beB n 2) w) := by
  have HN := Lib.hid hn
  have HL := Lib.hid hl
  have HR := Lib.hid hr
  clear hn hl hr
  go_enter Try.func26, Try.ntmps26
  go_wp2_with (go_at_call 64; refine (put_u16 B p L n _ HN.out HL.out HR.out).mono ?_; rintro e w' ⟨rfl, hp⟩; have HP := Lib.hid hp; clear hp)
  go_end0
  exact ⟨rfl, HP.out⟩
set_option maxRecDepth 100000 in
theorem w_u32 (B p : Nat) (L : List UInt8) (n : Nat) (w : World) (hn : n < 4294967296) (hl : L.length ≤ 1000000000) (hr : Wr B p L 0 w) :
    Calls Try.prog 27 #[.pointer (some ⟨p, 0, none⟩), .int .u32 n] w (PutP B p L (beB n 4) w) := by
  have HN := Lib.hid hn
  have HL := Lib.hid hl
  have HR := Lib.hid hr
  clear hn hl hr
  go_enter Try.func27, Try.ntmps27
  go_wp2_with (go_at_call 65; refine (put_u32 B p L n _ HN.out HL.out HR.out).mono ?_; rintro e w' ⟨rfl, hp⟩; have HP := Lib.hid hp; clear hp)
  go_end0
  exact ⟨rfl, HP.out⟩
set_option maxRecDepth 100000 in
theorem w_u64 (B p : Nat) (L : List UInt8) (n : Nat) (w : World) (hn : n < 18446744073709551616) (hl : L.length ≤ 1000000000) (hr : Wr B p L 0 w) :
    Calls Try.prog 34 #[.pointer (some ⟨p, 0, none⟩), .int .u64 n] w (PutP B p L (beB n 8) w) := by
  have HN := Lib.hid hn
  have HL := Lib.hid hl
  have HR := Lib.hid hr
  clear hn hl hr
  go_enter Try.func34, Try.ntmps34
  go_wp2_with (go_at_call 68; refine (put_u64 B p L n _ HN.out HL.out HR.out).mono ?_; rintro e w' ⟨rfl, hp⟩; have HP := Lib.hid hp; clear hp)
  go_end0
  exact ⟨rfl, HP.out⟩

def SameP (w : World) (x : Ending) (w' : World) : Prop := x = .returned (.tuple #[]) ∧ w = w'
set_option maxRecDepth 100000 in
theorem we_u8 (B p : Nat) (L : List UInt8) (e : Int) (n : Nat) (w : World) (he : e ≠ 0) (hr : Wr B p L e w) :
    Calls Try.prog 25 #[.pointer (some ⟨p, 0, none⟩), .int .u8 n] w (SameP w) := by
  have HE := Lib.hid he
  have HR := Lib.hid hr
  clear he hr
  go_enter Try.func25, Try.ntmps25
  go_wp2_with (go_at_call 63; refine (puterr_u8 B p L e n _ HE.out HR.out).mono ?_; rintro e w' ⟨rfl, rfl⟩)
  go_end0
  exact ⟨rfl, rfl⟩
set_option maxRecDepth 100000 in
theorem we_u16 (B p : Nat) (L : List UInt8) (e : Int) (n : Nat) (w : World) (he : e ≠ 0) (hr : Wr B p L e w) :
    Calls Try.prog 26 #[.pointer (some ⟨p, 0, none⟩), .int .u16 n] w (SameP w) := by
  have HE := Lib.hid he
  have HR := Lib.hid hr
  clear he hr
  go_enter Try.func26, Try.ntmps26
  go_wp2_with (go_at_call 64; refine (puterr_u16 B p L e n _ HE.out HR.out).mono ?_; rintro e w' ⟨rfl, rfl⟩)
  go_end0
  exact ⟨rfl, rfl⟩
set_option maxRecDepth 100000 in
theorem we_u32 (B p : Nat) (L : List UInt8) (e : Int) (n : Nat) (w : World) (he : e ≠ 0) (hr : Wr B p L e w) :
    Calls Try.prog 27 #[.pointer (some ⟨p, 0, none⟩), .int .u32 n] w (SameP w) := by
  have HE := Lib.hid he
  have HR := Lib.hid hr
  clear he hr
  go_enter Try.func27, Try.ntmps27
  go_wp2_with (go_at_call 65; refine (puterr_u32 B p L e n _ HE.out HR.out).mono ?_; rintro e w' ⟨rfl, rfl⟩)
  go_end0
  exact ⟨rfl, rfl⟩
set_option maxRecDepth 100000 in
theorem we_u64 (B p : Nat) (L : List UInt8) (e : Int) (n : Nat) (w : World) (he : e ≠ 0) (hr : Wr B p L e w) :
    Calls Try.prog 34 #[.pointer (some ⟨p, 0, none⟩), .int .u64 n] w (SameP w) := by
  have HE := Lib.hid he
  have HR := Lib.hid hr
  clear he hr
  go_enter Try.func34, Try.ntmps34
  go_wp2_with (go_at_call 68; refine (puterr_u64 B p L e n _ HE.out HR.out).mono ?_; rintro e w' ⟨rfl, rfl⟩)
  go_end0
  exact ⟨rfl, rfl⟩

theorem strCells_strL (M : List UInt8) : Lib.strCells (strL M) = byteV M := by
  simp [Lib.strCells, byteV, strL]
theorem strL_size' (M : List UInt8) : (strL M).size = M.length := by simp [strL, ByteArray.size]

theorem own_shape {w : World} {base : Nat} {e : TypeId} {size : Nat} {v : Value} {n : Nat} {xs : List Value} (h : w.ownsRow base e size v n xs) : ∃ a c, v = .slice a n c := by
  rcases h.2 with ⟨rfl, rfl⟩ | ⟨g, cap, cur, rfl, _⟩
  · exact ⟨_, _, rfl⟩
  · exact ⟨_, _, rfl⟩
/-- Where a text is stored behind the row. -/
theorem wr_raw {B p : Nat} {wr w1 : World} {v2 u : Value} {L M : List UInt8} {e : Int} (hh : wr.heap[p]? = some (.cells #[v2, .int .i64 e] 29 (0, 0))) (hown : wr.ownsRow B 5 1 v2 L.length (byteV L)) (hp : p < B) (hB : B ≤ wr.heap.size)
    (hg : wr.grownBy w1 v2.ownBlock) (h1 : w1.ownsRow B 5 1 u (L.length + (strL M).size) (byteV L ++ Lib.strCells (strL M))) :
    Wr B p (L ++ M) e (w1.setCell ⟨p, 0, none⟩ u) ∧ OnlyB B p wr (w1.setCell ⟨p, 0, none⟩ u) := by
  rw [strCells_strL, strL_size'] at h1
  exact wr_step M hh hown hp hB (Bl.refl wr) hg h1

set_option maxRecDepth 100000 in
theorem w_raw (B p : Nat) (L M : List UInt8) (w : World) (hm : M.length ≤ 1000000) (hl : L.length ≤ 1000000000) (hr : Wr B p L 0 w) :
    Calls Try.prog 29 #[.pointer (some ⟨p, 0, none⟩), .string (strL M)] w (PutP B p L M w) := by
  obtain ⟨v, hh, hown, hp, hB⟩ := hr
  have c0 : w.cell? ⟨p, 0, none⟩ = some v := by rw [cell_of_row _ _ _ _ _ _ hh]; rfl
  have c1 : w.cell? ⟨p, 1, none⟩ = some (.int .i64 0) := by rw [cell_of_row _ _ _ _ _ _ hh]; rfl
  obtain ⟨i0, hi, hz0, hz1, hz2⟩ := info_parts info5
  have HI := Lib.hid hi
  have Z0 := Lib.hid hz0
  have Z1 := Lib.hid hz1
  have Z2 := Lib.hid hz2
  have HL := Lib.hid hl
  have HM := Lib.hid hm
  have HH := Lib.hid hh
  have HO := Lib.hid hown
  clear hi hz0 hz1 hz2 hl hm hh hown
  generalize hS : strL M = S
  have HS := Lib.hid hS
  clear hS
  go_enter Try.func29, Try.ntmps29
  go_wp2_with (refine Lib.wpList_append_own_string _ rfl (.tmp 17) (.tmp 18) 26 9 rfl B 5 i0 Try.underlying26 Try.underlying9 HI.out Z0.out Z1.out Z2.out v _ _ rfl HO.out S rfl (by have := HL.out; have := HM.out; rw [← HS.out, strL_size']; show _ ≤ 9223372036854775807; omega) (by have := HL.out; have := HM.out; rw [← HS.out, strL_size']; omega) hB ?_; intro g w1 hown hgrow hat; obtain ⟨ga, gc, rfl⟩ := own_shape hown; have c1 : w1.cell? ⟨p, 0, none⟩ = some v := by { rw [cell_of_row _ _ _ _ _ _ (grown_cell HH.out HO.out hp hB (Bl.refl w) hgrow)]; rfl }; have f1 : w1.frozen? ⟨p, 0, none⟩ = false := frozen_of_row _ _ _ _ _ (grown_cell HH.out HO.out hp hB (Bl.refl w) hgrow); have HGROW := Lib.hid hgrow; have HOWN := Lib.hid hown; clear hgrow hown hat)
  go_end0
  have h1 := HOWN.out
  rw [← HS.out] at h1
  have h := wr_raw HH.out HO.out hp hB HGROW.out h1
  rw [HS.out] at h
  exact ⟨rfl, h⟩

set_option maxRecDepth 100000 in
theorem we_raw (B p : Nat) (L : List UInt8) (e : Int) (s : ByteArray) (w : World) (he : e ≠ 0) (hr : Wr B p L e w) :
    Calls Try.prog 29 #[.pointer (some ⟨p, 0, none⟩), .string s] w (SameP w) := by
  obtain ⟨v, hh, hown, hp, hB⟩ := hr
  have c1 : w.cell? ⟨p, 1, none⟩ = some (.int .i64 e) := by rw [cell_of_row _ _ _ _ _ _ hh]; rfl
  have hb : (e == 0) = false := by simpa using he
  clear hh hown
  go_enter Try.func29, Try.ntmps29
  go_wp2_with fail
  go_end0
  exact ⟨rfl, rfl⟩

/-- The writer's error is set. -/
theorem wr_long {B p : Nat} {L : List UInt8} {e d : Int} {w : World} (h : Wr B p L e w) : Wr B p L d (w.setCell ⟨p, 1, none⟩ (.int .i64 d)) ∧ OnlyB B p w (w.setCell ⟨p, 1, none⟩ (.int .i64 d)) := by
  obtain ⟨v, hh, hown, hp, hB⟩ := h
  refine ⟨⟨v, ?_, ownsRow_setCell_below hown (a := ⟨p, 1, none⟩) hp _, hp, by simpa using hB⟩, ⟨rfl, rfl, rfl, by simp, fun k hk hne => heap_setCell_other w _ k _ hne, fun k hk hne _ => heap_setCell_other w _ k _ hne⟩⟩
  rw [heap_setCell_same w p 1 _ _ _ hh]; rfl

set_option maxRecDepth 100000 in
theorem w_text_long (B p : Nat) (L M : List UInt8) (e : Int) (w : World) (hm : 65535 < M.length) (hr : Wr B p L e w) :
    Calls Try.prog 28 #[.pointer (some ⟨p, 0, none⟩), .string (strL M)] w fun x w' => x = .returned (.tuple #[]) ∧ Wr B p L 3 w' ∧ OnlyB B p w w' := by
  have HW := Lib.hid hr
  obtain ⟨v, hh, hown, hp, hB⟩ := hr
  have c1 : w.cell? ⟨p, 1, none⟩ = some (.int .i64 e) := by rw [cell_of_row _ _ _ _ _ _ hh]; rfl
  have f1 : w.frozen? ⟨p, 1, none⟩ = false := frozen_of_row _ _ _ _ _ hh
  have hz : (strL M).size = M.length := strL_size' M
  have ht : decide ((65535 : Int) < (M.length : Int)) = true := decide_eq_true (by omega)
  generalize strL M = S at hz
  clear hh hown
  go_enter Try.func28, Try.ntmps28
  go_wp2_with fail
  exact bodyPost_ret (results_none rfl _ _ _) rfl ⟨rfl, wr_long HW.out⟩

def TxtE (B p : Nat) (L M : List UInt8) (w : World) (x : Ending) (w' : World) : Prop := x = .returned (.tuple #[]) ∧ Wr B p (L ++ (beB M.length 2 ++ M)) 0 w' ∧ OnlyB B p w w'
set_option maxRecDepth 100000 in
theorem w_text (B p : Nat) (L M : List UInt8) (w : World) (hm : M.length ≤ 65535) (hl : L.length ≤ 999999000) (hr : Wr B p L 0 w) :
    Calls Try.prog 28 #[.pointer (some ⟨p, 0, none⟩), .string (strL M)] w (TxtE B p L M w) := by
  have HW := Lib.hid hr
  have hz : (strL M).size = M.length := strL_size' M
  have ht : decide ((65535 : Int) < (M.length : Int)) = false := decide_eq_false (by omega)
  have hu : IntKind.u16.wrap (M.length : Int) = M.length := IntWalk.u16_in _ (by omega)
  have HM := Lib.hid hm
  have HL := Lib.hid hl
  generalize hS : strL M = S at hz
  have HS := Lib.hid hS
  clear hr hm hl hS
  go_enter Try.func28, Try.ntmps28
  go_wp2_with (first
    | (go_at_call 26; refine (w_u16 B p L M.length _ (by have := HM.out; omega) (by have := HL.out; omega) HW.out).mono ?_; rintro e w1 ⟨rfl, hp1⟩; have HP1 := Lib.hid hp1; clear hp1)
    | (go_at_call 29; rw [← HS.out]; refine (w_raw B p (L ++ beB M.length 2) M _ (by have := HM.out; omega) (by have := HL.out; rw [List.length_append, beB_length]; omega) HP1.out.1).mono ?_; rintro e w2 ⟨rfl, hp2⟩; have HP2 := Lib.hid hp2; clear hp2))
  go_end0
  refine ⟨rfl, ?_, onlyB_trans HP1.out.2 HP2.out.2⟩
  rw [← List.append_assoc]
  exact HP2.out.1

set_option maxRecDepth 100000 in
theorem we_text (B p : Nat) (L M : List UInt8) (e : Int) (w : World) (he : e ≠ 0) (hm : M.length ≤ 65535) (hr : Wr B p L e w) :
    Calls Try.prog 28 #[.pointer (some ⟨p, 0, none⟩), .string (strL M)] w (SameP w) := by
  have HW := Lib.hid hr
  have hz : (strL M).size = M.length := strL_size' M
  have ht : decide ((65535 : Int) < (M.length : Int)) = false := decide_eq_false (by omega)
  have hu : IntKind.u16.wrap (M.length : Int) = M.length := IntWalk.u16_in _ (by omega)
  have HE := Lib.hid he
  generalize hS : strL M = S at hz
  clear hr hm hS he
  go_enter Try.func28, Try.ntmps28
  go_wp2_with (first
    | (go_at_call 26; refine (we_u16 B p L e M.length _ HE.out HW.out).mono ?_; rintro e w1 ⟨rfl, rfl⟩)
    | (go_at_call 29; refine (we_raw B p L e S _ HE.out HW.out).mono ?_; rintro e w2 ⟨rfl, rfl⟩))
  go_end0
  exact ⟨rfl, rfl⟩

set_option maxRecDepth 100000 in
theorem convert_nil26 (w : World) : (convert 26 9 (.slice none 0 0)).run Try.prog w = .ok (.string (strL [])) w := by
  exact run_convert_bytes_nil w 26 5 Try.underlying26 Try.underlying5 0 0 9 Try.underlying9
set_option maxRecDepth 100000 in
/-- What the row's bytes are as a string. -/
theorem run_row_string {w : World} {B : Nat} {v : Value} {L : List UInt8} (h : w.ownsRow B 5 1 v L.length (byteV L)) :
    (convert 26 9 v).run Try.prog w = .ok (.string (strL L)) w := by
  rcases own_shape h with ⟨a, c, rfl⟩
  rcases Nat.eq_zero_or_pos L.length with h0 | h0
  · rcases h.2 with ⟨hv, _⟩ | ⟨g, cap, cur, hv, _⟩
    · have : L = [] := List.length_eq_zero_iff.1 h0
      subst this
      injection hv with h1 h2 h3
      subst h1 h3
      exact convert_nil26 w
    · injection hv with h1 h2 h3
      subst h1 h3
      have := run_convert_bytes_arg (P := Try.prog) w 26 5 Try.underlying26 Try.underlying5 g 0 0 c [] rfl (fun i hi => by omega) 9 Try.underlying9
      rw [h0, this]
      have : L = [] := List.length_eq_zero_iff.1 h0
      subst this
      rfl
  · obtain ⟨g, cap, hv, _, _⟩ := h.form h0
    injection hv with h1 h2 h3
    subst h1 h3
    have := run_convert_bytes_arg (P := Try.prog) w 26 5 Try.underlying26 Try.underlying5 g 0 L.length c (L.map fun b => (b.toNat : Int)) (by simp) (fun i hi => by
      rw [Nat.zero_add, h.cellAt i (by omega)]
      simp [byteV, List.getD, hi]) 9 Try.underlying9
    rw [this]
    congr 2
    simp only [strOfNums, strL, List.map_map]
    congr 2
    refine (List.map_congr_left fun b _ => ?_).trans (List.map_id L)
    simp

set_option maxRecDepth 100000 in
theorem w_bytes (B p : Nat) (L : List UInt8) (w : World) (hr : Wr B p L 0 w) :
    Calls Try.prog 17 #[.pointer (some ⟨p, 0, none⟩)] w fun x w' => x = .returned (.tuple #[.string (strL L), .int .i64 0]) ∧ w = w' := by
  obtain ⟨v, hh, hown, hp, hB⟩ := hr
  have c0 : w.cell? ⟨p, 0, none⟩ = some v := by rw [cell_of_row _ _ _ _ _ _ hh]; rfl
  have c1 : w.cell? ⟨p, 1, none⟩ = some (.int .i64 0) := by rw [cell_of_row _ _ _ _ _ _ hh]; rfl
  have hc := run_row_string hown
  clear hh hown
  go_enter Try.func17, Try.ntmps17
  go_wp2_with (refine wpList_convert _ rfl 26 9 _ rfl _ _ rfl hc ?_)
  go_ret2
  exact ⟨rfl, rfl⟩
set_option maxRecDepth 100000 in
theorem we_bytes (B p : Nat) (L : List UInt8) (e : Int) (w : World) (he : e ≠ 0) (hr : Wr B p L e w) :
    Calls Try.prog 17 #[.pointer (some ⟨p, 0, none⟩)] w fun x w' => x = .returned (.tuple #[.string (strL []), .int .i64 e]) ∧ ∃ n, w' = w.drewN n := by
  obtain ⟨v, hh, hown, hp, hB⟩ := hr
  have c1 : w.cell? ⟨p, 1, none⟩ = some (.int .i64 e) := by rw [cell_of_row _ _ _ _ _ _ hh]; rfl
  have hb : (e != 0) = true := by simpa using he
  clear hh hown
  go_enter Try.func17, Try.ntmps17
  go_wp2_with fail
  go_quiet (fail)
  go_wp2_with fail
  go_ret2
  exact ⟨rfl, _, rfl⟩
end Go.Proofs.Ytniblmpihnhglaa
