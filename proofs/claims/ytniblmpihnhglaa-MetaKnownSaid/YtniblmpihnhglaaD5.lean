import Derived.Test.YtniblmpihnhglaaD4
import Derived.Deep.RegionLaw
import Derived.Deep.AppendLies
import Derived.Laws.ShiftsVar
namespace Go.Proofs.Ytniblmpihnhglaa
open Go.RowKit
set_option linter.unusedVariables false

def byteV (l : List UInt8) : List Value := l.map fun b => Value.int .u8 (b.toNat : Int)
/-- At block p a codec.Writer stands: what was written, its error; its bytes in a row of the call's own from block B on. -/
def Wr (B p : Nat) (L : List UInt8) (e : Int) (w : World) : Prop :=
  ∃ v, w.heap[p]? = some (.cells #[v, .int .i64 e] 29 (0, 0)) ∧ w.ownsRow B 5 1 v L.length (byteV L) ∧ p < B ∧ B ≤ w.heap.size
/-- Below block B only block p has turned. -/
structure OnlyB (B p : Nat) (w w' : World) : Prop where
  os : w'.os = w.os
  tape : w'.tape = w.tape
  output : w'.output = w.output
  size : w.heap.size ≤ w'.heap.size
  block : ∀ k, k < B → k ≠ p → w'.heap[k]? = w.heap[k]?
  other : ∀ k, k < w.heap.size → k ≠ p → (∀ c fz, w.heap[k]? ≠ some (.cells c 5 fz)) → w'.heap[k]? = w.heap[k]?
theorem onlyB_refl (B p : Nat) (w : World) : OnlyB B p w w := ⟨rfl, rfl, rfl, Nat.le_refl _, fun _ _ _ => rfl, fun _ _ _ _ => rfl⟩
theorem onlyB_trans {B p : Nat} {a b c : World} (h : OnlyB B p a b) (k : OnlyB B p b c) : OnlyB B p a c :=
  ⟨k.os.trans h.os, k.tape.trans h.tape, k.output.trans h.output, Nat.le_trans h.size k.size, fun j hj hne => (k.block j hj hne).trans (h.block j hj hne), fun j hj hne h5 => (k.other j (Nat.lt_of_lt_of_le hj h.size) hne (by rw [h.other j hj hne h5]; exact h5)).trans (h.other j hj hne h5)⟩

theorem info5 : (Try.prog.info? 5).map (fun i => (i.zero, i.size, i.bytes)) = some (some (.int .u8 0), 1, 1) := by kernel_rfl

/-- The byte at place k of a number's bytes, so many, the highest first. -/
def byteAt (n W k : Nat) : UInt8 := UInt8.ofNat (n / 2 ^ (8 * (W - 1 - k)))
def beB (n W : Nat) : List UInt8 := (List.range W).map (byteAt n W)
theorem beB_length (n W : Nat) : (beB n W).length = W := by simp [beB]
theorem beB_take (n W k : Nat) (h : k < W) : (beB n W).take (k + 1) = (beB n W).take k ++ [byteAt n W k] := by
  rw [List.take_succ_eq_append_getElem (by rw [beB_length]; exact h)]
  congr 1
  simp only [beB, List.getElem_map, List.getElem_range]
theorem byteV_append (a b : List UInt8) : byteV (a ++ b) = byteV a ++ byteV b := by simp [byteV]
theorem byteV_length (a : List UInt8) : (byteV a).length = a.length := by simp [byteV]

/-- What an append onto the writer's row leaves as it was. -/
theorem grown_cell {B p : Nat} {wr W w1 : World} {v2 : Value} {n : Nat} {xs : List Value} {e : Int} (hh : wr.heap[p]? = some (.cells #[v2, .int .i64 e] 29 (0, 0))) (hown : wr.ownsRow B 5 1 v2 n xs) (hp : p < B) (hB : B ≤ wr.heap.size)
    (hW : Bl wr W) (hg : W.grownBy w1 v2.ownBlock) : w1.heap[p]? = some (.cells #[v2, .int .i64 e] 29 (0, 0)) := by
  rw [hg.block p (by have := hW.size; omega) (fun h => by have := (hown.lt p h.symm).1; omega), hW.block p (by omega), hh]

/-- And where the new slice is stored. -/
theorem wr_step {B p : Nat} {wr W w1 : World} {v2 u : Value} {L : List UInt8} {e : Int} (bs : List UInt8) (hh : wr.heap[p]? = some (.cells #[v2, .int .i64 e] 29 (0, 0))) (hown : wr.ownsRow B 5 1 v2 L.length (byteV L)) (hp : p < B) (hB : B ≤ wr.heap.size)
    (hW : Bl wr W) (hg : W.grownBy w1 v2.ownBlock) (h1 : w1.ownsRow B 5 1 u (L.length + bs.length) (byteV L ++ byteV bs)) :
    Wr B p (L ++ bs) e (w1.setCell ⟨p, 0, none⟩ u) ∧ OnlyB B p wr (w1.setCell ⟨p, 0, none⟩ u) := by
  have h := grown_cell hh hown hp hB hW hg
  have hs : w1.heap.size ≥ wr.heap.size := Nat.le_trans hW.size hg.size
  refine ⟨⟨u, ?_, ?_, hp, ?_⟩, ⟨?_, ?_, ?_, ?_, ?_, ?_⟩⟩
  · rw [heap_setCell_same w1 p 0 _ _ u h]; rfl
  · have := ownsRow_setCell_below h1 (a := ⟨p, 0, none⟩) hp u
    rwa [List.length_append, byteV_append]
  · simp; omega
  · exact hg.os.trans hW.os
  · exact hg.tape.trans hW.tape
  · exact hg.output.trans hW.output
  · simpa using hs
  · intro k hk hne
    rw [heap_setCell_other]
    · rw [hg.block k (by have := hW.size; omega) (fun h => by have := (hown.lt k h.symm).1; omega), hW.block k (by omega)]
    · exact hne
  · intro k hk hne h5
    rw [heap_setCell_other]
    · rw [hg.block k (by have := hW.size; omega) (fun h => by
        rcases hown.2 with ⟨rfl, _⟩ | ⟨g, cap, cur, rfl, _, hb, _⟩
        · cases h
        · cases h; exact h5 _ _ hb), hW.block k hk]
    · exact hne

def PutP (B p : Nat) (L M : List UInt8) (w : World) (x : Ending) (w' : World) : Prop := x = .returned (.tuple #[]) ∧ Wr B p (L ++ M) 0 w' ∧ OnlyB B p w w'
theorem byte_conv (n d : Nat) (W k : Nat) (h : d = 8 * (W - 1 - k)) (hd : d ≤ 64) : IntKind.u8.wrap ((n : Int) / 2 ^ min d 64) = ((byteAt n W k).toNat : Int) := by
  subst h
  rw [IntKind.wrap_u8', Nat.min_eq_left hd]
  have : (byteAt n W k).toNat = n / 2 ^ (8 * (W - 1 - k)) % 256 := UInt8.toNat_ofNat'
  rw [this, Int.natCast_emod, Int.natCast_ediv, Int.natCast_pow]
  rfl
theorem le_ad {w : World} {B : Nat} {o : Obj} (h : B ≤ w.heap.size) : B ≤ (w.alloc o).drew.heap.size := by
  show B ≤ (w.heap.push o).size
  rw [Array.size_push]
  omega
theorem news_last {w : World} {H : Nat} {t : TypeId} {v : Value} (hH : w.heap.size = H) (j : Nat) (u : Value) (h : [v][j]? = some u) : (w.alloc (.cells #[v] t)).drew.cell? ((⟨H, 0, none⟩ : Addr).add j) = some u := by
  subst hH
  show (w.alloc (.cells #[v] t)).cell? _ = _
  exact World.news_of_block (heap_alloc_new w _) j u (by simpa using h)

set_option maxRecDepth 100000 in
set_option maxHeartbeats 1600000 in
theorem put_u8 (B p : Nat) (L : List UInt8) (n : Nat) (w : World) (hn : n < 256) (hl : L.length ≤ 1000000000) (hr : Wr B p L 0 w) :
    Calls Try.prog 63 #[.pointer (some ⟨p, 0, none⟩), .int .u8 n, .int .i64 1] w (PutP B p L (beB n 1) w) := by
  have HR := Lib.hid hr
  obtain ⟨v, hh, hown, hp, hB⟩ := hr
  have c0 : w.cell? ⟨p, 0, none⟩ = some v := by rw [cell_of_row _ _ _ _ _ _ hh]; rfl
  have c1 : w.cell? ⟨p, 1, none⟩ = some (.int .i64 0) := by rw [cell_of_row _ _ _ _ _ _ hh]; rfl
  have f0 : w.frozen? ⟨p, 0, none⟩ = false := frozen_of_row _ _ _ _ _ hh
  have HL := Lib.hid hl
  have HN := Lib.hid hn
  clear hh hown hl hn
  obtain ⟨i0, hi, hz0, hz1, hz2⟩ := info_parts info5
  have HI := Lib.hid hi
  have Z0 := Lib.hid hz0
  have Z1 := Lib.hid hz1
  have Z2 := Lib.hid hz2
  clear hi hz0 hz1 hz2
  go_enter Try.func63, Try.ntmps63
  go_wp2_with fail
  go_loopw [17] (fun v17 wr => ∃ k : Nat, k ≤ 1 ∧ v17 = .int .i64 k ∧ Hid (Wr B p (L ++ (beB n 1).take k) 0 wr ∧ OnlyB B p w wr)) (fun v _ => 1 - (intOf v).toNat)
  case atStart => exact ⟨0, by omega, rfl, by rw [List.take_zero, List.append_nil]; exact ⟨HR.out, onlyB_refl _ _ _⟩⟩
  case round =>
    clear c0 c1 f0 HR
    obtain ⟨k, hk, rfl, hj⟩ := hrel
    by_cases hlt : k < 1
    · obtain ⟨⟨v2, hh2, hown2, hp2, hB2⟩, hob⟩ := hj.out
      have c0 : wr.cell? ⟨p, 0, none⟩ = some v2 := by rw [cell_of_row _ _ _ _ _ _ hh2]; rfl
      have OWN := Lib.hid hown2
      have HH2 := Lib.hid hh2
      have HOB := Lib.hid hob
      obtain ⟨d, hd⟩ : ∃ d, d = 8 * (1 - 1 - k) := ⟨_, rfl⟩
      have HD := Lib.hid hd
      have hlt' := hlt
      have hu : IntKind.u64.wrap (n : Int) = n := IntWalk.u64_in n (by have := HN.out; omega)
      have hs : IntKind.i64.wrap (8 * IntKind.i64.wrap (IntKind.i64.wrap 0 - (k : Int))) = (d : Int) := by
        rw [IntWalk.i64_in (0) (by omega), IntWalk.i64_in (0 - (k : Int)) (by omega), IntWalk.i64_in _ (by omega)]; omega
      have hb : IntKind.u8.wrap ((n : Int) / 2 ^ min d 64) = ((byteAt n 1 k).toNat : Int) := byte_conv n d 1 k hd (by omega)
      have cA : (wr.alloc (.cells #[.int .u8 ((byteAt n 1 k).toNat : Int)] 5)).cell? ⟨p, 0, none⟩ = some v2 := by
        rw [World.cell?_of_block (((Bl.refl wr).alloc _).block p (by omega)), c0]
      have HLN : Hid (L.length + k + 1 ≤ 1000000010) := by have := HL.out; show _ ≤ _; omega
      have hlen : (L ++ (beB n 1).take k).length = L.length + k := by rw [List.length_append, List.length_take, beB_length]; omega
      have HLEN := Lib.hid hlen
      clear hj hh2 hown2 hob hlen hd
      generalize hM : L ++ (beB n 1).take k = M at OWN HLEN
      have HM := Lib.hid hM
      clear hM
      go_wp2_with fail
      go_region_law (refine step_append_lies _ rfl (.tmp 24) (.tmp 34) 26 rfl B 5 i0 (.int .u8 0) 1 1 Try.underlying26 HI.out Z0.out Z1.out Z2.out rfl (by decide) v2 _ _ rfl ((OWN.out.alloc _).drew) ⟨wr.heap.size, 0, none⟩ 1 1 [_] rfl rfl (news_last rfl) (by intro u hu; rw [List.mem_singleton.1 hu]; rfl) (by decide) (by have := HLEN.out; have := HLN.out; rw [HLEN.out]; show _ ≤ 9223372036854775807; omega) (by have := HLN.out; rw [HLEN.out]; omega) (le_ad hB2) _ rfl ?_; intro g cap w1 hown hgrow hat hlt; have c1 : w1.cell? ⟨p, 0, none⟩ = some v2 := by { rw [cell_of_row _ _ _ _ _ _ (grown_cell HH2.out OWN.out hp2 hB2 ((Bl.refl wr).alloc _).drew hgrow)]; rfl }; have f1 : w1.frozen? ⟨p, 0, none⟩ = false := frozen_of_row _ _ _ _ _ (grown_cell HH2.out OWN.out hp2 hB2 ((Bl.refl wr).alloc _).drew hgrow); have HGROW := Lib.hid hgrow; have HOWN := Lib.hid hown; clear hgrow hown hat hlt)
      all_goals go_wp2_with fail
      all_goals go_roundw
      all_goals first | (simp only [intOf]; omega) | (
        refine ⟨k + 1, by omega, by go_num, ?_⟩
        have h := wr_step [byteAt n 1 k] HH2.out OWN.out hp2 hB2 (((Bl.refl wr).alloc _).drew) HGROW.out HOWN.out
        refine ⟨?_, onlyB_trans HOB.out h.2⟩
        rw [beB_take n 1 k hlt', ← List.append_assoc, HM.out]
        exact h.1)
    · have hk1 : k = 1 := by omega
      subst hk1
      go_wp2_with fail
      have h := hj.out
      rw [List.take_of_length_le (by rw [beB_length]; exact Nat.le_refl _)] at h
      go_end0
      exact ⟨rfl, h⟩
set_option maxRecDepth 100000 in
theorem puterr_u8 (B p : Nat) (L : List UInt8) (e : Int) (n : Nat) (w : World) (he : e ≠ 0) (hr : Wr B p L e w) :
    Calls Try.prog 63 #[.pointer (some ⟨p, 0, none⟩), .int .u8 n, .int .i64 1] w fun x w' => x = .returned (.tuple #[]) ∧ w = w' := by
  obtain ⟨v, hh, hown, hp, hB⟩ := hr
  have c1 : w.cell? ⟨p, 1, none⟩ = some (.int .i64 e) := by rw [cell_of_row _ _ _ _ _ _ hh]; rfl
  have hb : (e != 0) = true := by simpa using he
  clear hh hown
  go_enter Try.func63, Try.ntmps63
  go_wp2_with fail
  exact bodyPost_ret (results_none rfl _ _ _) rfl ⟨rfl, rfl⟩

set_option maxRecDepth 100000 in
set_option maxHeartbeats 1600000 in
theorem put_u16 (B p : Nat) (L : List UInt8) (n : Nat) (w : World) (hn : n < 65536) (hl : L.length ≤ 1000000000) (hr : Wr B p L 0 w) :
    Calls Try.prog 64 #[.pointer (some ⟨p, 0, none⟩), .int .u16 n, .int .i64 2] w (PutP B p L (beB n 2) w) := by
  have HR := Lib.hid hr
  obtain ⟨v, hh, hown, hp, hB⟩ := hr
  have c0 : w.cell? ⟨p, 0, none⟩ = some v := by rw [cell_of_row _ _ _ _ _ _ hh]; rfl
  have c1 : w.cell? ⟨p, 1, none⟩ = some (.int .i64 0) := by rw [cell_of_row _ _ _ _ _ _ hh]; rfl
  have f0 : w.frozen? ⟨p, 0, none⟩ = false := frozen_of_row _ _ _ _ _ hh
  have HL := Lib.hid hl
  have HN := Lib.hid hn
  clear hh hown hl hn
  obtain ⟨i0, hi, hz0, hz1, hz2⟩ := info_parts info5
  have HI := Lib.hid hi
  have Z0 := Lib.hid hz0
  have Z1 := Lib.hid hz1
  have Z2 := Lib.hid hz2
  clear hi hz0 hz1 hz2
  go_enter Try.func64, Try.ntmps64
  go_wp2_with fail
  go_loopw [17] (fun v17 wr => ∃ k : Nat, k ≤ 2 ∧ v17 = .int .i64 k ∧ Hid (Wr B p (L ++ (beB n 2).take k) 0 wr ∧ OnlyB B p w wr)) (fun v _ => 2 - (intOf v).toNat)
  case atStart => exact ⟨0, by omega, rfl, by rw [List.take_zero, List.append_nil]; exact ⟨HR.out, onlyB_refl _ _ _⟩⟩
  case round =>
    clear c0 c1 f0 HR
    obtain ⟨k, hk, rfl, hj⟩ := hrel
    by_cases hlt : k < 2
    · obtain ⟨⟨v2, hh2, hown2, hp2, hB2⟩, hob⟩ := hj.out
      have c0 : wr.cell? ⟨p, 0, none⟩ = some v2 := by rw [cell_of_row _ _ _ _ _ _ hh2]; rfl
      have OWN := Lib.hid hown2
      have HH2 := Lib.hid hh2
      have HOB := Lib.hid hob
      obtain ⟨d, hd⟩ : ∃ d, d = 8 * (2 - 1 - k) := ⟨_, rfl⟩
      have HD := Lib.hid hd
      have hlt' := hlt
      have hu : IntKind.u64.wrap (n : Int) = n := IntWalk.u64_in n (by have := HN.out; omega)
      have hs : IntKind.i64.wrap (8 * IntKind.i64.wrap (IntKind.i64.wrap 1 - (k : Int))) = (d : Int) := by
        rw [IntWalk.i64_in (1) (by omega), IntWalk.i64_in (1 - (k : Int)) (by omega), IntWalk.i64_in _ (by omega)]; omega
      have hb : IntKind.u8.wrap ((n : Int) / 2 ^ min d 64) = ((byteAt n 2 k).toNat : Int) := byte_conv n d 2 k hd (by omega)
      have cA : (wr.alloc (.cells #[.int .u8 ((byteAt n 2 k).toNat : Int)] 5)).cell? ⟨p, 0, none⟩ = some v2 := by
        rw [World.cell?_of_block (((Bl.refl wr).alloc _).block p (by omega)), c0]
      have HLN : Hid (L.length + k + 1 ≤ 1000000010) := by have := HL.out; show _ ≤ _; omega
      have hlen : (L ++ (beB n 2).take k).length = L.length + k := by rw [List.length_append, List.length_take, beB_length]; omega
      have HLEN := Lib.hid hlen
      clear hj hh2 hown2 hob hlen hd
      generalize hM : L ++ (beB n 2).take k = M at OWN HLEN
      have HM := Lib.hid hM
      clear hM
      go_wp2_with fail
      go_region_law (refine step_append_lies _ rfl (.tmp 24) (.tmp 34) 26 rfl B 5 i0 (.int .u8 0) 1 1 Try.underlying26 HI.out Z0.out Z1.out Z2.out rfl (by decide) v2 _ _ rfl ((OWN.out.alloc _).drew) ⟨wr.heap.size, 0, none⟩ 1 1 [_] rfl rfl (news_last rfl) (by intro u hu; rw [List.mem_singleton.1 hu]; rfl) (by decide) (by have := HLEN.out; have := HLN.out; rw [HLEN.out]; show _ ≤ 9223372036854775807; omega) (by have := HLN.out; rw [HLEN.out]; omega) (le_ad hB2) _ rfl ?_; intro g cap w1 hown hgrow hat hlt; have c1 : w1.cell? ⟨p, 0, none⟩ = some v2 := by { rw [cell_of_row _ _ _ _ _ _ (grown_cell HH2.out OWN.out hp2 hB2 ((Bl.refl wr).alloc _).drew hgrow)]; rfl }; have f1 : w1.frozen? ⟨p, 0, none⟩ = false := frozen_of_row _ _ _ _ _ (grown_cell HH2.out OWN.out hp2 hB2 ((Bl.refl wr).alloc _).drew hgrow); have HGROW := Lib.hid hgrow; have HOWN := Lib.hid hown; clear hgrow hown hat hlt)
      all_goals go_wp2_with fail
      all_goals go_roundw
      all_goals first | (simp only [intOf]; omega) | (
        refine ⟨k + 1, by omega, by go_num, ?_⟩
        have h := wr_step [byteAt n 2 k] HH2.out OWN.out hp2 hB2 (((Bl.refl wr).alloc _).drew) HGROW.out HOWN.out
        refine ⟨?_, onlyB_trans HOB.out h.2⟩
        rw [beB_take n 2 k hlt', ← List.append_assoc, HM.out]
        exact h.1)
    · have hk2 : k = 2 := by omega
      subst hk2
      go_wp2_with fail
      have h := hj.out
      rw [List.take_of_length_le (by rw [beB_length]; exact Nat.le_refl _)] at h
      go_end0
      exact ⟨rfl, h⟩
set_option maxRecDepth 100000 in
theorem puterr_u16 (B p : Nat) (L : List UInt8) (e : Int) (n : Nat) (w : World) (he : e ≠ 0) (hr : Wr B p L e w) :
    Calls Try.prog 64 #[.pointer (some ⟨p, 0, none⟩), .int .u16 n, .int .i64 2] w fun x w' => x = .returned (.tuple #[]) ∧ w = w' := by
  obtain ⟨v, hh, hown, hp, hB⟩ := hr
  have c1 : w.cell? ⟨p, 1, none⟩ = some (.int .i64 e) := by rw [cell_of_row _ _ _ _ _ _ hh]; rfl
  have hb : (e != 0) = true := by simpa using he
  clear hh hown
  go_enter Try.func64, Try.ntmps64
  go_wp2_with fail
  exact bodyPost_ret (results_none rfl _ _ _) rfl ⟨rfl, rfl⟩

set_option maxRecDepth 100000 in
set_option maxHeartbeats 1600000 in
theorem put_u32 (B p : Nat) (L : List UInt8) (n : Nat) (w : World) (hn : n < 4294967296) (hl : L.length ≤ 1000000000) (hr : Wr B p L 0 w) :
    Calls Try.prog 65 #[.pointer (some ⟨p, 0, none⟩), .int .u32 n, .int .i64 4] w (PutP B p L (beB n 4) w) := by
  have HR := Lib.hid hr
  obtain ⟨v, hh, hown, hp, hB⟩ := hr
  have c0 : w.cell? ⟨p, 0, none⟩ = some v := by rw [cell_of_row _ _ _ _ _ _ hh]; rfl
  have c1 : w.cell? ⟨p, 1, none⟩ = some (.int .i64 0) := by rw [cell_of_row _ _ _ _ _ _ hh]; rfl
  have f0 : w.frozen? ⟨p, 0, none⟩ = false := frozen_of_row _ _ _ _ _ hh
  have HL := Lib.hid hl
  have HN := Lib.hid hn
  clear hh hown hl hn
  obtain ⟨i0, hi, hz0, hz1, hz2⟩ := info_parts info5
  have HI := Lib.hid hi
  have Z0 := Lib.hid hz0
  have Z1 := Lib.hid hz1
  have Z2 := Lib.hid hz2
  clear hi hz0 hz1 hz2
  go_enter Try.func65, Try.ntmps65
  go_wp2_with fail
  go_loopw [17] (fun v17 wr => ∃ k : Nat, k ≤ 4 ∧ v17 = .int .i64 k ∧ Hid (Wr B p (L ++ (beB n 4).take k) 0 wr ∧ OnlyB B p w wr)) (fun v _ => 4 - (intOf v).toNat)
  case atStart => exact ⟨0, by omega, rfl, by rw [List.take_zero, List.append_nil]; exact ⟨HR.out, onlyB_refl _ _ _⟩⟩
  case round =>
    clear c0 c1 f0 HR
    obtain ⟨k, hk, rfl, hj⟩ := hrel
    by_cases hlt : k < 4
    · obtain ⟨⟨v2, hh2, hown2, hp2, hB2⟩, hob⟩ := hj.out
      have c0 : wr.cell? ⟨p, 0, none⟩ = some v2 := by rw [cell_of_row _ _ _ _ _ _ hh2]; rfl
      have OWN := Lib.hid hown2
      have HH2 := Lib.hid hh2
      have HOB := Lib.hid hob
      obtain ⟨d, hd⟩ : ∃ d, d = 8 * (4 - 1 - k) := ⟨_, rfl⟩
      have HD := Lib.hid hd
      have hlt' := hlt
      have hu : IntKind.u64.wrap (n : Int) = n := IntWalk.u64_in n (by have := HN.out; omega)
      have hs : IntKind.i64.wrap (8 * IntKind.i64.wrap (IntKind.i64.wrap 3 - (k : Int))) = (d : Int) := by
        rw [IntWalk.i64_in (3) (by omega), IntWalk.i64_in (3 - (k : Int)) (by omega), IntWalk.i64_in _ (by omega)]; omega
      have hb : IntKind.u8.wrap ((n : Int) / 2 ^ min d 64) = ((byteAt n 4 k).toNat : Int) := byte_conv n d 4 k hd (by omega)
      have cA : (wr.alloc (.cells #[.int .u8 ((byteAt n 4 k).toNat : Int)] 5)).cell? ⟨p, 0, none⟩ = some v2 := by
        rw [World.cell?_of_block (((Bl.refl wr).alloc _).block p (by omega)), c0]
      have HLN : Hid (L.length + k + 1 ≤ 1000000010) := by have := HL.out; show _ ≤ _; omega
      have hlen : (L ++ (beB n 4).take k).length = L.length + k := by rw [List.length_append, List.length_take, beB_length]; omega
      have HLEN := Lib.hid hlen
      clear hj hh2 hown2 hob hlen hd
      generalize hM : L ++ (beB n 4).take k = M at OWN HLEN
      have HM := Lib.hid hM
      clear hM
      go_wp2_with fail
      go_region_law (refine step_append_lies _ rfl (.tmp 24) (.tmp 34) 26 rfl B 5 i0 (.int .u8 0) 1 1 Try.underlying26 HI.out Z0.out Z1.out Z2.out rfl (by decide) v2 _ _ rfl ((OWN.out.alloc _).drew) ⟨wr.heap.size, 0, none⟩ 1 1 [_] rfl rfl (news_last rfl) (by intro u hu; rw [List.mem_singleton.1 hu]; rfl) (by decide) (by have := HLEN.out; have := HLN.out; rw [HLEN.out]; show _ ≤ 9223372036854775807; omega) (by have := HLN.out; rw [HLEN.out]; omega) (le_ad hB2) _ rfl ?_; intro g cap w1 hown hgrow hat hlt; have c1 : w1.cell? ⟨p, 0, none⟩ = some v2 := by { rw [cell_of_row _ _ _ _ _ _ (grown_cell HH2.out OWN.out hp2 hB2 ((Bl.refl wr).alloc _).drew hgrow)]; rfl }; have f1 : w1.frozen? ⟨p, 0, none⟩ = false := frozen_of_row _ _ _ _ _ (grown_cell HH2.out OWN.out hp2 hB2 ((Bl.refl wr).alloc _).drew hgrow); have HGROW := Lib.hid hgrow; have HOWN := Lib.hid hown; clear hgrow hown hat hlt)
      all_goals go_wp2_with fail
      all_goals go_roundw
      all_goals first | (simp only [intOf]; omega) | (
        refine ⟨k + 1, by omega, by go_num, ?_⟩
        have h := wr_step [byteAt n 4 k] HH2.out OWN.out hp2 hB2 (((Bl.refl wr).alloc _).drew) HGROW.out HOWN.out
        refine ⟨?_, onlyB_trans HOB.out h.2⟩
        rw [beB_take n 4 k hlt', ← List.append_assoc, HM.out]
        exact h.1)
    · have hk4 : k = 4 := by omega
      subst hk4
      go_wp2_with fail
      have h := hj.out
      rw [List.take_of_length_le (by rw [beB_length]; exact Nat.le_refl _)] at h
      go_end0
      exact ⟨rfl, h⟩
set_option maxRecDepth 100000 in
theorem puterr_u32 (B p : Nat) (L : List UInt8) (e : Int) (n : Nat) (w : World) (he : e ≠ 0) (hr : Wr B p L e w) :
    Calls Try.prog 65 #[.pointer (some ⟨p, 0, none⟩), .int .u32 n, .int .i64 4] w fun x w' => x = .returned (.tuple #[]) ∧ w = w' := by
  obtain ⟨v, hh, hown, hp, hB⟩ := hr
  have c1 : w.cell? ⟨p, 1, none⟩ = some (.int .i64 e) := by rw [cell_of_row _ _ _ _ _ _ hh]; rfl
  have hb : (e != 0) = true := by simpa using he
  clear hh hown
  go_enter Try.func65, Try.ntmps65
  go_wp2_with fail
  exact bodyPost_ret (results_none rfl _ _ _) rfl ⟨rfl, rfl⟩

set_option maxRecDepth 100000 in
set_option maxHeartbeats 1600000 in
theorem put_u64 (B p : Nat) (L : List UInt8) (n : Nat) (w : World) (hn : n < 18446744073709551616) (hl : L.length ≤ 1000000000) (hr : Wr B p L 0 w) :
    Calls Try.prog 68 #[.pointer (some ⟨p, 0, none⟩), .int .u64 n, .int .i64 8] w (PutP B p L (beB n 8) w) := by
  have HR := Lib.hid hr
  obtain ⟨v, hh, hown, hp, hB⟩ := hr
  have c0 : w.cell? ⟨p, 0, none⟩ = some v := by rw [cell_of_row _ _ _ _ _ _ hh]; rfl
  have c1 : w.cell? ⟨p, 1, none⟩ = some (.int .i64 0) := by rw [cell_of_row _ _ _ _ _ _ hh]; rfl
  have f0 : w.frozen? ⟨p, 0, none⟩ = false := frozen_of_row _ _ _ _ _ hh
  have HL := Lib.hid hl
  have HN := Lib.hid hn
  clear hh hown hl hn
  obtain ⟨i0, hi, hz0, hz1, hz2⟩ := info_parts info5
  have HI := Lib.hid hi
  have Z0 := Lib.hid hz0
  have Z1 := Lib.hid hz1
  have Z2 := Lib.hid hz2
  clear hi hz0 hz1 hz2
  go_enter Try.func68, Try.ntmps68
  go_wp2_with fail
  go_loopw [17] (fun v17 wr => ∃ k : Nat, k ≤ 8 ∧ v17 = .int .i64 k ∧ Hid (Wr B p (L ++ (beB n 8).take k) 0 wr ∧ OnlyB B p w wr)) (fun v _ => 8 - (intOf v).toNat)
  case atStart => exact ⟨0, by omega, rfl, by rw [List.take_zero, List.append_nil]; exact ⟨HR.out, onlyB_refl _ _ _⟩⟩
  case round =>
    clear c0 c1 f0 HR
    obtain ⟨k, hk, rfl, hj⟩ := hrel
    by_cases hlt : k < 8
    · obtain ⟨⟨v2, hh2, hown2, hp2, hB2⟩, hob⟩ := hj.out
      have c0 : wr.cell? ⟨p, 0, none⟩ = some v2 := by rw [cell_of_row _ _ _ _ _ _ hh2]; rfl
      have OWN := Lib.hid hown2
      have HH2 := Lib.hid hh2
      have HOB := Lib.hid hob
      obtain ⟨d, hd⟩ : ∃ d, d = 8 * (8 - 1 - k) := ⟨_, rfl⟩
      have HD := Lib.hid hd
      have hlt' := hlt
      have hs : IntKind.i64.wrap (8 * IntKind.i64.wrap (IntKind.i64.wrap 7 - (k : Int))) = (d : Int) := by
        rw [IntWalk.i64_in (7) (by omega), IntWalk.i64_in (7 - (k : Int)) (by omega), IntWalk.i64_in _ (by omega)]; omega
      have hb : IntKind.u8.wrap ((n : Int) / 2 ^ min d 64) = ((byteAt n 8 k).toNat : Int) := byte_conv n d 8 k hd (by omega)
      have cA : (wr.alloc (.cells #[.int .u8 ((byteAt n 8 k).toNat : Int)] 5)).cell? ⟨p, 0, none⟩ = some v2 := by
        rw [World.cell?_of_block (((Bl.refl wr).alloc _).block p (by omega)), c0]
      have HLN : Hid (L.length + k + 1 ≤ 1000000010) := by have := HL.out; show _ ≤ _; omega
      have hlen : (L ++ (beB n 8).take k).length = L.length + k := by rw [List.length_append, List.length_take, beB_length]; omega
      have HLEN := Lib.hid hlen
      clear hj hh2 hown2 hob hlen hd
      generalize hM : L ++ (beB n 8).take k = M at OWN HLEN
      have HM := Lib.hid hM
      clear hM
      go_wp2_with fail
      go_region_law (refine step_append_lies _ rfl (.tmp 24) (.tmp 33) 26 rfl B 5 i0 (.int .u8 0) 1 1 Try.underlying26 HI.out Z0.out Z1.out Z2.out rfl (by decide) v2 _ _ rfl ((OWN.out.alloc _).drew) ⟨wr.heap.size, 0, none⟩ 1 1 [_] rfl rfl (news_last rfl) (by intro u hu; rw [List.mem_singleton.1 hu]; rfl) (by decide) (by have := HLEN.out; have := HLN.out; rw [HLEN.out]; show _ ≤ 9223372036854775807; omega) (by have := HLN.out; rw [HLEN.out]; omega) (le_ad hB2) _ rfl ?_; intro g cap w1 hown hgrow hat hlt; have c1 : w1.cell? ⟨p, 0, none⟩ = some v2 := by { rw [cell_of_row _ _ _ _ _ _ (grown_cell HH2.out OWN.out hp2 hB2 ((Bl.refl wr).alloc _).drew hgrow)]; rfl }; have f1 : w1.frozen? ⟨p, 0, none⟩ = false := frozen_of_row _ _ _ _ _ (grown_cell HH2.out OWN.out hp2 hB2 ((Bl.refl wr).alloc _).drew hgrow); have HGROW := Lib.hid hgrow; have HOWN := Lib.hid hown; clear hgrow hown hat hlt)
      all_goals go_wp2_with fail
      all_goals go_roundw
      all_goals first | (simp only [intOf]; omega) | (
        refine ⟨k + 1, by omega, by go_num, ?_⟩
        have h := wr_step [byteAt n 8 k] HH2.out OWN.out hp2 hB2 (((Bl.refl wr).alloc _).drew) HGROW.out HOWN.out
        refine ⟨?_, onlyB_trans HOB.out h.2⟩
        rw [beB_take n 8 k hlt', ← List.append_assoc, HM.out]
        exact h.1)
    · have hk8 : k = 8 := by omega
      subst hk8
      go_wp2_with fail
      have h := hj.out
      rw [List.take_of_length_le (by rw [beB_length]; exact Nat.le_refl _)] at h
      go_end0
      exact ⟨rfl, h⟩
set_option maxRecDepth 100000 in
theorem puterr_u64 (B p : Nat) (L : List UInt8) (e : Int) (n : Nat) (w : World) (he : e ≠ 0) (hr : Wr B p L e w) :
    Calls Try.prog 68 #[.pointer (some ⟨p, 0, none⟩), .int .u64 n, .int .i64 8] w fun x w' => x = .returned (.tuple #[]) ∧ w = w' := by
  obtain ⟨v, hh, hown, hp, hB⟩ := hr
  have c1 : w.cell? ⟨p, 1, none⟩ = some (.int .i64 e) := by rw [cell_of_row _ _ _ _ _ _ hh]; rfl
  have hb : (e != 0) = true := by simpa using he
  clear hh hown
  go_enter Try.func68, Try.ntmps68
  go_wp2_with fail
  exact bodyPost_ret (results_none rfl _ _ _) rfl ⟨rfl, rfl⟩
end Go.Proofs.Ytniblmpihnhglaa
