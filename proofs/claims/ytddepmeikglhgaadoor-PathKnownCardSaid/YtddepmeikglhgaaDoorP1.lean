/- Contracts of strings.Join, strings.Split, strings.Contains and strings.Cut at one byte, for lists of strings as the printed contracts read them. -/
import Derived.Test.YtddepmeikglhgaaDoorPShelf
import Derived.Test.YtddepmeikglhgaaDoorWWords
import Derived.Test.YtddepmeikglhgaaDoorWLast
import Derived.Test.YtddepmeikglhgaaDoorWMore
import Derived.WalkKit
import Derived.Lib.Hide
import Derived.Outline
import Derived.RegionTactic
import Derived.Lib.IndexAny
import Derived.Shelf.Strings.Cut
namespace Go.Proofs.YtddepmeikglhgaaDoor
open Go.RowKit Go.Proofs.YtddepmeikglhgaaDoorW.PrintWords Go.Proofs.YtddepmeikglhgaaDoorW.PrintLast Go.Proofs.YtddepmeikglhgaaDoorW.PrintMore
set_option linter.unusedVariables false

def joinB (l : List ByteArray) (sep : ByteArray) : ByteArray := ⟨(Lib.join (l.map (·.data.toList)) sep.data.toList).toArray⟩
def joinF (l : List ByteArray) (sep : ByteArray) : Option ByteArray := if l.length ≤ 140737488355328 ∧ (joinB l sep).size ≤ 140737488355328 then some (joinB l sep) else none
theorem cell_spot {w : World} {a : Addr} {v : Value} (h : w.cell? a = some v) : a = ⟨a.block, a.off, none⟩ ∧ a.block < w.heap.size := by
  unfold World.cell? at h
  split at h
  · rename_i c t f hb
    refine ⟨?_, (Array.getElem?_eq_some_iff.1 hb).1⟩
    cases hs : a.spot with
    | none => cases a; simp_all
    | some x => rw [hs] at h; simp at h
  · cases h
theorem add_none (b o j : Nat) : (⟨b, o, none⟩ : Addr).add j = ⟨b, o + j, none⟩ := by
  unfold Addr.add
  split
  · rename_i h; subst h; rfl
  · rfl
theorem c_cells {w : World} {A : Option Addr} {l : List ByteArray} (h : Kd.C Kd.string w A l.length l) (hn : 0 < l.length) :
    ∃ b o, A = some ⟨b, o, none⟩ ∧ b < w.heap.size ∧ ∀ (j : Nat) x, l[j]? = some x → w.cell? ⟨b, o + j, none⟩ = some (.string x) := by
  have h2 : ReadsOf Value.string ByteArray.empty w A l.length l := Kd.reads_of_C h
  obtain ⟨ad, rfl, hc⟩ := h2.2.2 hn
  have h0 := hc 0 hn
  have e0 : ad.add 0 = ad := rfl
  rw [e0] at h0
  obtain ⟨hs, hlt⟩ := cell_spot h0
  refine ⟨ad.block, ad.off, by rw [← hs], hlt, fun j x hx => ?_⟩
  have hj := (List.getElem?_eq_some_iff.1 hx).1
  have := hc j hj
  rw [hs, add_none] at this
  rw [this, List.getD_eq_getElem?_getD, hx]
  rfl
theorem join_calls (A0 : Option Addr) (c0 : Nat) (l0 : List ByteArray) (a1 : ByteArray) (r : ByteArray) (w : World) (hr0 : Kd.C Kd.string w A0 l0.length l0) (hc0 : l0.length ≤ c0) (h : joinF l0 a1 = some r) :
    Calls Tryd.prog 28 #[.slice A0 l0.length c0, .string a1] w fun e w' => e = .returned (.string r) ∧ Below w.heap.size w w' := by
  unfold joinF at h
  split at h
  · rename_i hb
    cases h
    by_cases hn : 0 < l0.length
    · obtain ⟨b, o, rfl, hlt, hc⟩ := c_cells hr0 hn
      exact Tryd.strings_Join b o c0 l0 a1 w hc hlt hb.1 hc0 (by have := hb.2; simpa [joinB, ByteArray.size] using this)
    · have h0 : l0 = [] := List.length_eq_zero_iff.1 (by omega)
      subst h0
      exact (Tryd.strings_Join_none A0 c0 a1 w).mono fun e w' ⟨he, hw⟩ => ⟨he, by rw [hw]; exact Below.refl _ _⟩
  · cases h

theorem alloc_lt (w : World) (o : Obj) : w.heap.size < (w.alloc o).heap.size := by show _ < (w.heap.push o).size; rw [Array.size_push]; omega
/-- A new block of strings, as the printed contracts read it. -/
theorem r_new_strs (w : World) (l : List ByteArray) (hl : l.length ≤ 9223372036854775807) :
    Kd.R Kd.string 9 (w.alloc (.cells (l.map Value.string).toArray 9)) w.heap.size (fun _ => True) (.slice (some ⟨w.heap.size, 0, none⟩) l.length l.length) l := by
  refine Kd.R_of_own ⟨by simp [encs], .inr ⟨w.heap.size, l.length, (l.map Value.string).toArray, rfl, Nat.le_refl _, ?_, Nat.le_refl _, hl, by simp, by simp [encs, List.take_of_length_le]⟩⟩ (fun _ _ => trivial)
  show (w.heap.push _)[w.heap.size]? = _
  simp
def splitF (s sep : ByteArray) : Option (List ByteArray) := if sep.size = 1 ∧ s.size < 4294967281 then some (Lib.splitB sep 0 (Lib.countB s sep) s) else none
theorem info9 : (Tryd.prog.info? 9).map (fun i => (i.zero, i.size, i.bytes)) = some (some (.string ByteArray.empty), 1, 16) := by kernel_rfl
theorem split_calls (a0 a1 : ByteArray) (r : List ByteArray) (w : World) (h : splitF a0 a1 = some r) :
    Calls Tryd.prog 31 #[.string a0, .string a1] w fun e w' => ∃ v0_ : Value, e = .returned (v0_) ∧ Kd.R Kd.string 9 w' w.heap.size (fun _ => True) v0_ r ∧ Below w.heap.size w w' := by
  unfold splitF at h
  split at h
  · rename_i hb
    obtain ⟨h1, hs⟩ := hb
    cases h
    obtain ⟨c, rfl⟩ := Lib.one_byte a1 h1
    have hz1 : 1 ≤ (⟨#[c]⟩ : ByteArray).size := Nat.le_refl _
    have hle := Lib.countB_le ⟨#[c]⟩ hz1 a0.size a0 (Nat.le_refl _)
    have hlen := Lib.splitB_all ⟨#[c]⟩ hz1 0 _ a0 rfl
    have hI : ∀ (x : ByteArray) (cs : Array Value), x.size ≤ a0.size → Calls Tryd.prog 50 #[.string x, .string ⟨#[c]⟩] (w.alloc (.cells cs 9)) fun e w' => e = .returned (.int .i64 (Lib.indexB x ⟨#[c]⟩)) ∧ w' = w.alloc (.cells cs 9) := fun x cs _ =>
      (Tryd.strings_Index_one x c _).mono fun e w' ⟨he, hw⟩ => ⟨by rw [he, ← Lib.index_one], hw⟩
    have hC : Calls Tryd.prog 61 #[.string a0, .string ⟨#[c]⟩] w fun e w' => e = .returned (.int .i64 (Lib.countB a0 ⟨#[c]⟩)) ∧ w' = w :=
      (Tryd.strings_Count_one a0 c w).mono fun e w' ⟨he, hw⟩ => ⟨by rw [he]; show _ = Ending.returned (Value.int .i64 ((Lib.count a0.data.toList [c] : Nat) : Int)); rw [Lib.count_one]; rfl, hw⟩
    have g := Any.strings_genSplit_core Tryd.lays221 info9 a0 ⟨#[c]⟩ 0 (-1) (Lib.countB a0 ⟨#[c]⟩ + 1) w hs hz1 (Nat.zero_le _) hI hC (by decide) (by decide) (by rw [if_pos (by decide)]; omega)
    rw [Nat.add_sub_cancel, hlen] at g
    have e2 : Lib.cellsOf (Lib.splitB ⟨#[c]⟩ 0 (Lib.countB a0 ⟨#[c]⟩) a0) (Lib.countB a0 ⟨#[c]⟩ + 1) = ((Lib.splitB ⟨#[c]⟩ 0 (Lib.countB a0 ⟨#[c]⟩) a0).map Value.string).toArray := by rw [← hlen]; exact Lib.cellsOf_full _
    rw [e2] at g
    have g' : Calls Tryd.prog 49 #[.string a0, .string ⟨#[c]⟩, .int .i64 0, .int .i64 (-1)] w fun e w' => e = .returned (.slice (some ⟨w.heap.size, 0, none⟩) (Lib.countB a0 ⟨#[c]⟩ + 1) (Lib.countB a0 ⟨#[c]⟩ + 1)) ∧ w' = w.alloc (.cells ((Lib.splitB ⟨#[c]⟩ 0 (Lib.countB a0 ⟨#[c]⟩) a0).map Value.string).toArray 9) := g
    have hR := r_new_strs w (Lib.splitB ⟨#[c]⟩ 0 (Lib.countB a0 ⟨#[c]⟩) a0) (by rw [hlen]; have := hle; omega)
    rw [hlen] at hR
    clear g hI hC
    have G := Lib.hid g'
    have HR := Lib.hid hR
    clear g' hR hle hlen e2 hs
    generalize Lib.splitB ⟨#[c]⟩ 0 (Lib.countB a0 ⟨#[c]⟩) a0 = l at G HR ⊢
    generalize Lib.countB a0 ⟨#[c]⟩ = n at G HR
    go_enter Tryd.func31, Tryd.ntmps31
    go_wp2_with (go_at_call 49; refine G.out.mono ?_; rintro e w' ⟨rfl, rfl⟩)
    go_ret
    exact ⟨_, rfl, HR.out, below_alloc (Below.refl _ _) _⟩
  · cases h

/-- Is a byte in a text? (strings.Contains at one byte.) -/
def containsF (s sep : ByteArray) : Option Bool := if sep.size = 1 then some (s.data.toList.elem (sep.data.toList.headD 0)) else none
theorem index_elem (l : List UInt8) (c : UInt8) : decide (0 ≤ Lib.indexByte l c) = l.elem c := (Lib.contains_iff_indexByte l c).symm
theorem contains_calls (a0 a1 : ByteArray) (r : Bool) (w : World) (h : containsF a0 a1 = some r) :
    Calls Tryd.prog 36 #[.string a0, .string a1] w fun e w' => e = .returned (.bool r) ∧ Drawn0 w w' := by
  unfold containsF at h
  split at h
  · rename_i hb
    cases h
    obtain ⟨c, rfl⟩ := Lib.one_byte a1 hb
    exact (Tryd.strings_Contains_one a0 c w).mono fun e w' ⟨he, hw⟩ => ⟨by rw [he, index_elem]; rfl, by rw [hw]; exact Drawn0.refl _⟩
  · cases h

/-- What stands ahead of the first byte of a kind, what stands behind it. -/
def cutF (s sep : ByteArray) : Option (ByteArray × ByteArray × Bool) :=
  if sep.size = 1 ∧ s.size < 4294967281 then some (⟨(Lib.cut s.data.toList sep.data.toList).1.toArray⟩, ⟨(Lib.cut s.data.toList sep.data.toList).2.1.toArray⟩, (Lib.cut s.data.toList sep.data.toList).2.2) else none
set_option maxHeartbeats 1000000 in
theorem lite_cut (s : ByteArray) (c : UInt8) (w : World) (hs : s.size < 4294967281) :
    Calls Tryd.prog 47 #[.string s, .string ⟨#[c]⟩] w fun e w' => e = .returned (.tuple #[.string ⟨(Lib.cut s.data.toList [c]).1.toArray⟩, .string ⟨(Lib.cut s.data.toList [c]).2.1.toArray⟩, .bool (Lib.cut s.data.toList [c]).2.2]) ∧ ∃ n, w' = w.drewN n := by
  rcases Lib.indexB_cases s ⟨#[c]⟩ with hix | ⟨i, hix, hroom⟩
  · obtain ⟨e1, e2, e3⟩ := Lib.cutB_miss s ⟨#[c]⟩ hix
    rw [show ([c] : List UInt8) = (⟨#[c]⟩ : ByteArray).data.toList from rfl, e1, e2, e3]
    have hx : Lib.indexByte s.data.toList c = -1 := by rw [← Lib.index_one]; exact hix
    go_enter Tryd.func47, Tryd.ntmps47
    go_wp2_with (go_at_call 58; refine (Tryd.stringslite_Index_one _ c _).mono ?_; rintro e w' ⟨rfl, rfl⟩; rw [hx])
    go_ret3
    exact ⟨rfl, 0, rfl⟩
  · obtain ⟨e1, e2, e3⟩ := Lib.cutB_hit s ⟨#[c]⟩ i hix
    rw [show ([c] : List UInt8) = (⟨#[c]⟩ : ByteArray).data.toList from rfl, e1, e2, e3]
    have hx : Lib.indexByte s.data.toList c = i := by rw [← Lib.index_one]; exact hix
    have hz : (⟨#[c]⟩ : ByteArray).size = 1 := rfl
    rw [hz] at hroom ⊢
    have c1 : (0 : Int) ≤ ↑i := by omega
    have c2 : (↑i : Int) ≤ ↑s.size := by omega
    have c3 : (0 : Int) ≤ ↑i + 1 := by omega
    have c4 : (↑i + 1 : Int) ≤ ↑s.size := by omega
    go_enter Tryd.func47, Tryd.ntmps47
    go_wp2_with (go_at_call 58; refine (Tryd.stringslite_Index_one _ c _).mono ?_; rintro e w' ⟨rfl, rfl⟩; rw [hx])
    go_region
    all_goals go_wp2
    all_goals go_ret3
    all_goals exact ⟨rfl, 1, rfl⟩
set_option maxHeartbeats 1000000 in
theorem cut_calls (a0 a1 : ByteArray) (r1 r2 : ByteArray) (r3 : Bool) (w : World) (h : cutF a0 a1 = some (r1, r2, r3)) :
    Calls Tryd.prog 29 #[.string a0, .string a1] w fun e w' => e = .returned (.tuple #[.string r1, .string r2, .bool r3]) ∧ Below w.heap.size w w' := by
  unfold cutF at h
  split at h
  · rename_i hb
    obtain ⟨h1, hs⟩ := hb
    obtain ⟨c, rfl⟩ := Lib.one_byte a1 h1
    simp only [Option.some.injEq, Prod.mk.injEq] at h
    obtain ⟨rfl, rfl, rfl⟩ := h
    have g := lite_cut a0 c w hs
    generalize (⟨(Lib.cut a0.data.toList [c]).1.toArray⟩ : ByteArray) = x at g ⊢
    generalize (⟨(Lib.cut a0.data.toList [c]).2.1.toArray⟩ : ByteArray) = y at g ⊢
    generalize (Lib.cut a0.data.toList [c]).2.2 = z at g ⊢
    have G := Lib.hid g
    clear g
    go_enter Tryd.func29, Tryd.ntmps29
    go_wp2_with (go_at_call 47; refine G.out.mono ?_; rintro e w' ⟨rfl, n, rfl⟩)
    go_ret3
    exact ⟨rfl, pw_below_drewN (Below.refl _ _) n⟩
  · cases h
end Go.Proofs.YtddepmeikglhgaaDoor
