/- Walks of crc's rules and of Join, and of the reference's Join. -/
import Derived.Test.YtllnnokgjomfcaaDoorC1
import Derived.Test.YtllnnokgjomfcaaDoorC2
import Derived.Laws.Rows
import Derived.Laws.CopyRow
namespace Go.Proofs.YtllnnokgjomfcaaDoor
open Go.RowKit
set_option linter.unusedVariables false

/-- At block g a rule stands: 32 numbers. -/
def Ru (g : Nat) (t : List Nat) (w : World) : Prop := g < w.heap.size ∧ t.length = 32 ∧ ∀ i x : Nat, t[i]? = some x → x < 4294967296 ∧ w.cell? ⟨g, i, none⟩ = some (.int .u32 (x : Nat))

theorem and1 (a : Nat) (ha : a < 4294967296) : bits .and .u32 (a : Int) 1 = ((a % 2 : Nat) : Int) := by
  have := u32_and_nat a 1 ha (by omega)
  rw [nat_mask1] at this; exact this

set_option maxHeartbeats 800000 in
theorem of_any (g : Nat) (t : List Nat) (c : Nat) (w : World) (hc : c < 4294967296) (hr : Ru g t w) :
    Calls Tryd.prog 22 #[.pointer (some ⟨g, 0, none⟩), .int .u32 c] w fun e w' => e = .returned (.int .u32 (ofL t c : Nat)) ∧ w = w' := by
  have Hr := Lib.hid hr
  clear hr
  have hR : Hid (∃ R, ofL t c = R) := ⟨_, rfl⟩
  obtain ⟨R, hR⟩ := hR
  rw [hR]
  have HR : Hid (0 ^^^ ofL (t.drop 0) c = R) := Lib.hid (by rw [Nat.zero_xor, List.drop_zero, hR])
  clear hR
  go_enter Tryd.func22, Tryd.ntmps22
  go_wp2_with fail
  go_loop [1, 4, 5] (fun v1 v4 v5 => ∃ k c' o : Nat, k ≤ 32 ∧ c' < 4294967296 ∧ Hid (c' < 2 ^ (32 - k)) ∧ o < 4294967296 ∧ Hid (o ^^^ ofL (t.drop k) c' = R) ∧ v5 = .int .i64 k ∧ v1 = .int .u32 c' ∧ v4 = .int .u32 o) (fun v _ _ => (intOf v).toNat)
  case atStart => exact ⟨0, c, 0, by omega, hc, hc, by omega, HR, rfl, rfl, rfl⟩
  case round =>
    obtain ⟨k, c', o, hk, hl, hp, ho, hrel, rfl, rfl, rfl⟩ := hrel
    by_cases hz : c' = 0
    · subst hz
      go_wp2_with fail
      go_ret
      refine ⟨ret_int ?_, rfl⟩
      have := hrel.out
      rw [ofL_zero, Nat.xor_zero] at this
      rw [this]
    · have hz' : ((c' : Int) != 0) = true := by rw [bne_iff_ne]; omega
      have hk32 : k < 32 := by
        have := hp.out
        rcases Nat.lt_or_ge k 32 with h | h
        · exact h
        · rw [show 32 - k = 0 from by omega] at this; omega
      have hpos : 0 < c' := by omega
      have hp' : Hid (c' / 2 < 2 ^ (32 - (k + 1))) := Lib.hid (by
        have := hp.out
        rw [show 32 - k = (32 - (k + 1)) + 1 from by omega, Nat.pow_succ] at this; omega)
      obtain ⟨_, hlen, hcell⟩ := Hr.out
      obtain ⟨x, hx⟩ : ∃ x, t[k]? = some x := ⟨_, List.getElem?_eq_getElem (by omega)⟩
      obtain ⟨xl, xc⟩ := hcell k _ hx
      have HS := Lib.hid (ofL_step t k _ hx c')
      clear hx hcell hlen
      have ha := and1 c' hl
      have hh : ((c' : Int) / 2) = ((c' / 2 : Nat) : Int) := by omega
      have Hh := Lib.hid hh
      clear hh
      clear hz
      rcases Nat.mod_two_eq_zero_or_one c' with hm | hm
      · rw [hm] at ha
        have hrel' : Hid (o ^^^ ofL (t.drop (k + 1)) (c' / 2) = R) := Lib.hid (by
          have := hrel.out
          rw [HS.out, hm, if_neg (by omega), Nat.zero_xor] at this; exact this)
        clear hm HS hrel hp
        go_wp2_with fail
        go_round
        case rel => exact ⟨k + 1, c' / 2, o, by omega, by omega, hp', ho, hrel', by go_num, by rw [← Hh.out], rfl⟩
        case measure => simp [intOf]; omega
      · rw [hm] at ha
        have hx2 := xor32 o x ho xl
        have hrel' : Hid ((o ^^^ x) ^^^ ofL (t.drop (k + 1)) (c' / 2) = R) := Lib.hid (by
          have := hrel.out
          rw [HS.out, hm, if_pos rfl, ← Nat.xor_assoc] at this; exact this)
        have ho' : o ^^^ x < 4294967296 := Nat.xor_lt_two_pow (n := 32) ho xl
        generalize o ^^^ x = o2 at *
        clear hm HS hrel hp
        go_wp2_with fail
        go_round
        case rel => exact ⟨k + 1, c' / 2, o2, by omega, by omega, hp', ho', hrel', by go_num, by rw [← Hh.out], rfl⟩
        case measure => simp [intOf]; omega

/-- A rule in the making: the first k bits are told. -/
def cellsK (F : Nat → Nat) (k : Nat) (i : Nat) : Value := .int .u32 (if i < k then F (2 ^ i) else 0 : Nat)
def rowV (F : Nat → Nat) : Array Value := ((tab F 0 32).map fun x => Value.int .u32 (x : Nat)).toArray
theorem rowV_size (F : Nat → Nat) : (rowV F).size = 32 := by unfold rowV; simp [tab_length]
theorem rowV_get (F : Nat → Nat) (i : Nat) (hi : i < 32) : (rowV F)[i]? = some (.int .u32 (F (2 ^ i) : Nat)) := by
  unfold rowV
  simp only [List.getElem?_toArray, List.getElem?_map, tab_get F 32 0 i hi, Option.map_some, Nat.zero_add]
theorem rowV_one (F : Nat → Nat) : (rowV F).all (·.oneCell') = true := by
  rw [Array.all_eq_true_iff_forall_mem]
  intro v hv
  unfold rowV at hv
  simp only [List.mem_toArray, List.mem_map] at hv
  obtain ⟨x, _, rfl⟩ := hv
  rfl
theorem row_done {w : World} {g : Nat} {F : Nat → Nat} (h : w.rowIs g 37 32 (cellsK F 32)) : w.heap[g]? = some (.cells (rowV F) 37 (0, 0)) := by
  obtain ⟨c, hb, hn, hc⟩ := h
  rw [hb]
  have : c = rowV F := by
    apply Array.ext_getElem?
    intro i
    by_cases hi : i < 32
    · rw [hc i hi, rowV_get F i hi]; unfold cellsK; rw [if_pos hi]
    · rw [Array.getElem?_eq_none (by omega), Array.getElem?_eq_none (by rw [rowV_size]; omega)]
  rw [this]
theorem ru_of_row {w : World} {g : Nat} {F : Nat → Nat} (h : w.heap[g]? = some (.cells (rowV F) 37 (0, 0))) (hl : ∀ i, i < 32 → F (2 ^ i) < 4294967296) : Ru g (tab F 0 32) w := by
  refine ⟨(Array.getElem?_eq_some_iff.1 h).1, tab_length _ _ _, fun i x hx => ?_⟩
  have hi : i < 32 := by have := (List.getElem?_eq_some_iff.1 hx).1; rwa [tab_length] at this
  have hx' := tab_get F 32 0 i hi
  rw [hx, Nat.zero_add] at hx'
  obtain rfl : x = F (2 ^ i) := Option.some.inj hx'
  refine ⟨hl i hi, ?_⟩
  rw [cell_of_row _ _ _ _ _ _ h, rowV_get F i hi]

def ToldPost (F : Nat → Nat) (w : World) (e : Ending) (w' : World) : Prop := e = .returned (.agg (rowV F)) ∧ Bl w w'

set_option maxHeartbeats 800000 in
theorem told_21 (F : Nat → Nat) (w : World)
    (hf : ∀ (x : Nat) (wr : World), Bl w wr → x < 4294967296 → Calls Tryd.prog 21 #[.int .u32 x] wr fun e w' => e = .returned (.int .u32 (F x : Nat)) ∧ wr = w') :
    Calls Tryd.prog 20 #[.func (.func 21) #[] #[]] w fun e w' => ToldPost F w e w' := by
  have HF := Lib.hid hf
  clear hf
  go_enter Tryd.func20, Tryd.ntmps20
  go_wp2_with fail
  have hz : Hid (World.rowIs (w.alloc (.cells (Array.replicate 32 (Value.int .u32 0)) 37)) w.heap.size 37 32 (cellsK F 0)) := Lib.hid (by
    have := World.rowIs_alloc w (Array.replicate 32 (Value.int .u32 0)) 37 (cellsK F 0) (fun i hi => by
      simp only [Array.size_replicate] at hi
      rw [Array.getElem?_replicate, if_pos hi]; rfl)
    rwa [Array.size_replicate] at this)
  go_loopw [4] (fun v wr => ∃ k : Nat, k ≤ 32 ∧ v = .int .i64 k ∧ Bl w wr ∧ Hid (World.rowIs wr w.heap.size 37 32 (cellsK F k))) (fun v _ => 32 - (intOf v).toNat)
  case atStart => exact ⟨0, by omega, rfl, (Bl.refl w).alloc _, hz⟩
  case round =>
    clear hz
    obtain ⟨k, hk, rfl, hb, hrow⟩ := hrel
    by_cases hlt : k < 32
    · have gc := hrow.out.cell hlt
      have gf := hrow.out.frozen k
      have hp : 2 ^ k < 4294967296 := Nat.pow_lt_pow_right (by omega) hlt
      have Hp : Hid ((2 : Int) ^ k % 4294967296 = ((2 ^ k : Nat) : Int)) := Lib.hid (by
        have e : ((2 ^ k : Nat) : Int) = (2 : Int) ^ k := by rw [Int.natCast_pow]; rfl
        rw [← e]; exact Int.emod_eq_of_lt (Int.natCast_nonneg _) (Int.ofNat_lt.2 hp))
      have hrow' : Hid (World.rowIs (wr.setCell ⟨w.heap.size, k, none⟩ (.int .u32 (F (2 ^ k) : Nat))) w.heap.size 37 32 (cellsK F (k + 1))) := Lib.hid ((hrow.out.set k _).congr (fun i hi => by
        unfold cellsK
        by_cases e : i = k
        · subst e; rw [if_pos rfl, if_pos (by omega)]
        · rw [if_neg e]
          by_cases h : i < k
          · rw [if_pos h, if_pos (by omega)]
          · rw [if_neg h, if_neg (by omega)]))
      go_wp2_with (go_at_call 21; rw [Hp.out]; refine (HF.out _ _ hb hp).mono ?_; rintro e w' ⟨rfl, rfl⟩)
      go_roundw
      case rel => exact ⟨k + 1, by omega, by go_num, hb.setCell (Nat.le_refl _) _, hrow'⟩
      case measure => simp [intOf]; omega
    · have hd := row_done (F := F) (show World.rowIs wr w.heap.size 37 32 (cellsK F 32) from by
        have := hrow.out
        rwa [show k = 32 from by omega] at this)
      have hD := Lib.hid hd
      clear hd hrow
      have hI : Hid ((Tryd.prog.info? 37).map (·.size) = some (rowV F).size) := Lib.hid (by rw [rowV_size]; kernel_rfl)
      go_wp2_with (first | (refine wpList_load_row rfl 37 _ rfl w.heap.size rfl 37 (rowV F) (0, 0) _ hD.out Tryd.underlying37 rfl hI.out ?_) | (refine wpList_store_row rfl 37 _ _ rfl w.heap.size (rowV F) rfl rfl 37 (rowV F) hD.out hI.out rfl (rowV_one F) ?_; rw [setRow_self _ _ _ _ _ hD.out]))
      exact bodyPost_ret (results_cell_row rfl _ _ w.heap.size 37 (rowV F) (0, 0) _ rfl hD.out Tryd.underlying37 rfl hI.out) rfl ⟨rfl, hb⟩
set_option maxHeartbeats 800000 in
theorem told_23 (F : Nat → Nat) (h : Nat) (w : World)
    (hf : ∀ (x : Nat) (wr : World), Bl w wr → x < 4294967296 → Calls Tryd.prog 23 #[.int .u32 x, .pointer (some ⟨h, 0, none⟩)] wr fun e w' => e = .returned (.int .u32 (F x : Nat)) ∧ wr = w') :
    Calls Tryd.prog 20 #[.func (.func 23) #[] #[.pointer (some ⟨h, 0, none⟩)]] w fun e w' => ToldPost F w e w' := by
  have HF := Lib.hid hf
  clear hf
  go_enter Tryd.func20, Tryd.ntmps20
  go_wp2_with fail
  have hz : Hid (World.rowIs (w.alloc (.cells (Array.replicate 32 (Value.int .u32 0)) 37)) w.heap.size 37 32 (cellsK F 0)) := Lib.hid (by
    have := World.rowIs_alloc w (Array.replicate 32 (Value.int .u32 0)) 37 (cellsK F 0) (fun i hi => by
      simp only [Array.size_replicate] at hi
      rw [Array.getElem?_replicate, if_pos hi]; rfl)
    rwa [Array.size_replicate] at this)
  go_loopw [4] (fun v wr => ∃ k : Nat, k ≤ 32 ∧ v = .int .i64 k ∧ Bl w wr ∧ Hid (World.rowIs wr w.heap.size 37 32 (cellsK F k))) (fun v _ => 32 - (intOf v).toNat)
  case atStart => exact ⟨0, by omega, rfl, (Bl.refl w).alloc _, hz⟩
  case round =>
    clear hz
    obtain ⟨k, hk, rfl, hb, hrow⟩ := hrel
    by_cases hlt : k < 32
    · have gc := hrow.out.cell hlt
      have gf := hrow.out.frozen k
      have hp : 2 ^ k < 4294967296 := Nat.pow_lt_pow_right (by omega) hlt
      have Hp : Hid ((2 : Int) ^ k % 4294967296 = ((2 ^ k : Nat) : Int)) := Lib.hid (by
        have e : ((2 ^ k : Nat) : Int) = (2 : Int) ^ k := by rw [Int.natCast_pow]; rfl
        rw [← e]; exact Int.emod_eq_of_lt (Int.natCast_nonneg _) (Int.ofNat_lt.2 hp))
      have hrow' : Hid (World.rowIs (wr.setCell ⟨w.heap.size, k, none⟩ (.int .u32 (F (2 ^ k) : Nat))) w.heap.size 37 32 (cellsK F (k + 1))) := Lib.hid ((hrow.out.set k _).congr (fun i hi => by
        unfold cellsK
        by_cases e : i = k
        · subst e; rw [if_pos rfl, if_pos (by omega)]
        · rw [if_neg e]
          by_cases h : i < k
          · rw [if_pos h, if_pos (by omega)]
          · rw [if_neg h, if_neg (by omega)]))
      go_wp2_with (go_at_call 23; rw [Hp.out]; refine (HF.out _ _ hb hp).mono ?_; rintro e w' ⟨rfl, rfl⟩)
      go_roundw
      case rel => exact ⟨k + 1, by omega, by go_num, hb.setCell (Nat.le_refl _) _, hrow'⟩
      case measure => simp [intOf]; omega
    · have hd := row_done (F := F) (show World.rowIs wr w.heap.size 37 32 (cellsK F 32) from by
        have := hrow.out
        rwa [show k = 32 from by omega] at this)
      have hD := Lib.hid hd
      clear hd hrow
      have hI : Hid ((Tryd.prog.info? 37).map (·.size) = some (rowV F).size) := Lib.hid (by rw [rowV_size]; kernel_rfl)
      go_wp2_with (first | (refine wpList_load_row rfl 37 _ rfl w.heap.size rfl 37 (rowV F) (0, 0) _ hD.out Tryd.underlying37 rfl hI.out ?_) | (refine wpList_store_row rfl 37 _ _ rfl w.heap.size (rowV F) rfl rfl 37 (rowV F) hD.out hI.out rfl (rowV_one F) ?_; rw [setRow_self _ _ _ _ _ hD.out]))
      exact bodyPost_ret (results_cell_row rfl _ _ w.heap.size 37 (rowV F) (0, 0) _ rfl hD.out Tryd.underlying37 rfl hI.out) rfl ⟨rfl, hb⟩
theorem ofInt_i64 (a : Nat) (ha : a < 9223372036854775808) : (BitVec.ofInt 64 (a : Int)).toNat = a := by
  rw [BitVec.ofInt_natCast, BitVec.toNat_ofNat]; exact Nat.mod_eq_of_lt (by omega)
theorem i64_and_nat (a b : Nat) (ha : a < 9223372036854775808) (hb : b < 9223372036854775808) : bits .and .i64 (a : Int) (b : Int) = ((a &&& b : Nat) : Int) := by
  have hx : a &&& b < 2 ^ 63 := Nat.and_lt_two_pow _ (by omega)
  show IntKind.i64.wrap ((BitVec.ofInt 64 (a : Int) &&& BitVec.ofInt 64 (b : Int)).toNat : Int) = _
  rw [BitVec.toNat_and, ofInt_i64 a ha, ofInt_i64 b hb, IntKind.wrap_i64]
  omega

theorem and1_64 (a : Nat) (ha : a < 9223372036854775808) : bits .and .i64 (a : Int) 1 = ((a % 2 : Nat) : Int) := by
  have := i64_and_nat a 1 ha (by omega)
  rw [nat_mask1] at this; exact this

theorem Bl.setRow {a w : World} (h : Bl a w) {g : Nat} (hg : a.heap.size ≤ g) (cs : Array Value) : Bl a (w.setRow g cs) :=
  ⟨h.os, h.tape, h.output, by rw [size_setRow]; exact h.size, fun k hk => by
    have := Below.block h k hk
    rw [← this]
    simp only [World.setRow, Array.getElem?_modify]
    rw [if_neg (by omega)]⟩

set_option maxHeartbeats 400000 in
theorem join1_any (x : Nat) (w : World) (hx : x < 4294967296) (hw : Fo w) : Calls Tryd.prog 21 #[.int .u32 x] w fun e w' => e = .returned (.int .u32 (zeroN x : Nat)) ∧ w = w' := by
  have H := Lib.hid (fun w hw => step_any x 0 w hx (by omega) hw)
  go_enter Tryd.func21, Tryd.ntmps21
  go_wp2_with (go_at_call 17; refine (H.out _ hw).mono ?_; rintro e w' ⟨rfl, rfl⟩)
  go_ret
  exact ⟨rfl, rfl⟩
set_option maxHeartbeats 400000 in
theorem join2_any (h x k : Nat) (w : World) (hx : x < 4294967296) (hr : Ru h (tab (zp k) 0 32) w) : Calls Tryd.prog 23 #[.int .u32 x, .pointer (some ⟨h, 0, none⟩)] w fun e w' => e = .returned (.int .u32 (zp (k + 1) x : Nat)) ∧ w = w' := by
  have h1 := zp_lt k hx
  have H1 : Hid (∀ w, Ru h (tab (zp k) 0 32) w → Calls Tryd.prog 22 #[.pointer (some ⟨h, 0, none⟩), .int .u32 x] w fun e w' => e = .returned (.int .u32 (zp k x : Nat)) ∧ w = w') := Lib.hid (fun w hr => by
    have := of_any h _ x w hx hr; rwa [of_zp k x hx] at this)
  have H2 : Hid (∀ w, Ru h (tab (zp k) 0 32) w → Calls Tryd.prog 22 #[.pointer (some ⟨h, 0, none⟩), .int .u32 (zp k x : Nat)] w fun e w' => e = .returned (.int .u32 (zp (k + 1) x : Nat)) ∧ w = w') := Lib.hid (fun w hr => by
    have := of_any h _ _ w h1 hr; rwa [of_zp k _ h1, ← zp_succ] at this)
  have Hr := Lib.hid hr
  clear hr
  generalize zp k x = y at *
  generalize zp (k + 1) x = z at *
  go_enter Tryd.func23, Tryd.ntmps23
  go_wp2_with fail
  refine (H1.out _ Hr.out).mono ?_
  rintro e w' ⟨rfl, rfl⟩
  go_wp2_with fail
  refine (H2.out _ Hr.out).mono ?_
  rintro e w' ⟨rfl, rfl⟩
  go_wp2_with fail
  go_ret
  exact ⟨rfl, rfl⟩
end Go.Proofs.YtllnnokgjomfcaaDoor
