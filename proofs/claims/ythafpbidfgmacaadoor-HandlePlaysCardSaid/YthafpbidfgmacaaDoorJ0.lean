/- Contracts of strings.Join, of strings.Split at one byte, for lists of strings as the printed contracts read them. -/
import Derived.Test.YthafpbidfgmacaaDoorSShelf
import Derived.Test.YthafpbidfgmacaaDoorWWords
import Derived.Test.YthafpbidfgmacaaDoorWLast
import Derived.Test.YthafpbidfgmacaaDoorWMore
import Derived.WalkKit
import Derived.Lib.Hide
import Derived.Outline
namespace Go.Proofs.YthafpbidfgmacaaDoor
open Go.RowKit Go.Proofs.YthafpbidfgmacaaDoorW.PrintWords Go.Proofs.YthafpbidfgmacaaDoorW.PrintLast Go.Proofs.YthafpbidfgmacaaDoorW.PrintMore
set_option linter.unusedVariables false

def joinB (l : List ByteArray) (sep : ByteArray) : ByteArray := ⟨(Lib.join (l.map (·.data.toList)) sep.data.toList).toArray⟩
def joinF (l : List ByteArray) (sep : ByteArray) : Option ByteArray := if l.length ≤ 140737488355328 ∧ (joinB l sep).size ≤ 140737488355328 then some (joinB l sep) else none
theorem cell_spot {w : World} {a : Addr} {v : Value} (h : w.cell? a = some v) : a = ⟨a.block, a.off, none⟩ ∧ a.block < w.heap.size := by
  unfold World.cell? at h
  split at h
  · rename_i c t f hb
    refine ⟨?_, (Array.getElem?_eq_some_iff.1 hb).1⟩
    cases hs : a.spot with
    | none => cases a; simp_all
    | some x => rw [hs] at h; simp at h
  · cases h
theorem add_none (b o j : Nat) : (⟨b, o, none⟩ : Addr).add j = ⟨b, o + j, none⟩ := by
  unfold Addr.add
  split
  · rename_i h; subst h; rfl
  · rfl
theorem c_cells {w : World} {A : Option Addr} {l : List ByteArray} (h : Kd.C Kd.string w A l.length l) (hn : 0 < l.length) :
    ∃ b o, A = some ⟨b, o, none⟩ ∧ b < w.heap.size ∧ ∀ (j : Nat) x, l[j]? = some x → w.cell? ⟨b, o + j, none⟩ = some (.string x) := by
  have h2 : ReadsOf Value.string ByteArray.empty w A l.length l := Kd.reads_of_C h
  obtain ⟨ad, rfl, hc⟩ := h2.2.2 hn
  have h0 := hc 0 hn
  have e0 : ad.add 0 = ad := rfl
  rw [e0] at h0
  obtain ⟨hs, hlt⟩ := cell_spot h0
  refine ⟨ad.block, ad.off, by rw [← hs], hlt, fun j x hx => ?_⟩
  have hj := (List.getElem?_eq_some_iff.1 hx).1
  have := hc j hj
  rw [hs, add_none] at this
  rw [this, List.getD_eq_getElem?_getD, hx]
  rfl
theorem join_calls (A0 : Option Addr) (c0 : Nat) (l0 : List ByteArray) (a1 : ByteArray) (r : ByteArray) (w : World) (hr0 : Kd.C Kd.string w A0 l0.length l0) (hc0 : l0.length ≤ c0) (h : joinF l0 a1 = some r) :
    Calls Tryd.prog 16 #[.slice A0 l0.length c0, .string a1] w fun e w' => e = .returned (.string r) ∧ Below w.heap.size w w' := by
  unfold joinF at h
  split at h
  · rename_i hb
    cases h
    by_cases hn : 0 < l0.length
    · obtain ⟨b, o, rfl, hlt, hc⟩ := c_cells hr0 hn
      exact Tryd.strings_Join b o c0 l0 a1 w hc hlt hb.1 hc0 (by have := hb.2; simpa [joinB, ByteArray.size] using this)
    · have h0 : l0 = [] := List.length_eq_zero_iff.1 (by omega)
      subst h0
      exact (Tryd.strings_Join_none A0 c0 a1 w).mono fun e w' ⟨he, hw⟩ => ⟨he, by rw [hw]; exact Below.refl _ _⟩
  · cases h

theorem alloc_lt (w : World) (o : Obj) : w.heap.size < (w.alloc o).heap.size := by show _ < (w.heap.push o).size; rw [Array.size_push]; omega
/-- A new block of strings, as the printed contracts read it. -/
theorem r_new_strs (w : World) (l : List ByteArray) (hl : l.length ≤ 9223372036854775807) :
    Kd.R Kd.string 9 (w.alloc (.cells (l.map Value.string).toArray 9)) w.heap.size (fun _ => True) (.slice (some ⟨w.heap.size, 0, none⟩) l.length l.length) l := by
  refine Kd.R_of_own ⟨by simp [encs], .inr ⟨w.heap.size, l.length, (l.map Value.string).toArray, rfl, Nat.le_refl _, ?_, Nat.le_refl _, hl, by simp, by simp [encs, List.take_of_length_le]⟩⟩ (fun _ _ => trivial)
  show (w.heap.push _)[w.heap.size]? = _
  simp
def splitF (s sep : ByteArray) : Option (List ByteArray) := if sep.size = 1 ∧ s.size < 4294967281 then some (Lib.splitB sep 0 (Lib.countB s sep) s) else none
theorem info9 : (Tryd.prog.info? 9).map (fun i => (i.zero, i.size, i.bytes)) = some (some (.string ByteArray.empty), 1, 16) := by kernel_rfl
theorem split_calls (a0 a1 : ByteArray) (r : List ByteArray) (w : World) (h : splitF a0 a1 = some r) :
    Calls Tryd.prog 73 #[.string a0, .string a1] w fun e w' => ∃ v0_ : Value, e = .returned (v0_) ∧ Kd.R Kd.string 9 w' w.heap.size (fun _ => True) v0_ r ∧ Below w.heap.size w w' := by
  unfold splitF at h
  split at h
  · rename_i hb
    obtain ⟨h1, hs⟩ := hb
    cases h
    obtain ⟨c, rfl⟩ := Lib.one_byte a1 h1
    have hz1 : 1 ≤ (⟨#[c]⟩ : ByteArray).size := Nat.le_refl _
    have hle := Lib.countB_le ⟨#[c]⟩ hz1 a0.size a0 (Nat.le_refl _)
    have hlen := Lib.splitB_all ⟨#[c]⟩ hz1 0 _ a0 rfl
    have hI : ∀ (x : ByteArray) (cs : Array Value), x.size ≤ a0.size → Calls Tryd.prog 71 #[.string x, .string ⟨#[c]⟩] (w.alloc (.cells cs 9)) fun e w' => e = .returned (.int .i64 (Lib.indexB x ⟨#[c]⟩)) ∧ w' = w.alloc (.cells cs 9) := fun x cs _ =>
      (Tryd.strings_Index_one x c _).mono fun e w' ⟨he, hw⟩ => ⟨by rw [he, ← Lib.index_one], hw⟩
    have hC : Calls Tryd.prog 21 #[.string a0, .string ⟨#[c]⟩] w fun e w' => e = .returned (.int .i64 (Lib.countB a0 ⟨#[c]⟩)) ∧ w' = w :=
      (Tryd.strings_Count_one a0 c w).mono fun e w' ⟨he, hw⟩ => ⟨by rw [he]; show _ = Ending.returned (Value.int .i64 ((Lib.count a0.data.toList [c] : Nat) : Int)); rw [Lib.count_one]; rfl, hw⟩
    have g := Any.strings_genSplit_core Tryd.lays221 info9 a0 ⟨#[c]⟩ 0 (-1) (Lib.countB a0 ⟨#[c]⟩ + 1) w hs hz1 (Nat.zero_le _) hI hC (by decide) (by decide) (by rw [if_pos (by decide)]; omega)
    rw [Nat.add_sub_cancel, hlen] at g
    have e2 : Lib.cellsOf (Lib.splitB ⟨#[c]⟩ 0 (Lib.countB a0 ⟨#[c]⟩) a0) (Lib.countB a0 ⟨#[c]⟩ + 1) = ((Lib.splitB ⟨#[c]⟩ 0 (Lib.countB a0 ⟨#[c]⟩) a0).map Value.string).toArray := by rw [← hlen]; exact Lib.cellsOf_full _
    rw [e2] at g
    have g' : Calls Tryd.prog 97 #[.string a0, .string ⟨#[c]⟩, .int .i64 0, .int .i64 (-1)] w fun e w' => e = .returned (.slice (some ⟨w.heap.size, 0, none⟩) (Lib.countB a0 ⟨#[c]⟩ + 1) (Lib.countB a0 ⟨#[c]⟩ + 1)) ∧ w' = w.alloc (.cells ((Lib.splitB ⟨#[c]⟩ 0 (Lib.countB a0 ⟨#[c]⟩) a0).map Value.string).toArray 9) := g
    have hR := r_new_strs w (Lib.splitB ⟨#[c]⟩ 0 (Lib.countB a0 ⟨#[c]⟩) a0) (by rw [hlen]; have := hle; omega)
    rw [hlen] at hR
    clear g hI hC
    have G := Lib.hid g'
    have HR := Lib.hid hR
    clear g' hR hle hlen e2 hs
    generalize Lib.splitB ⟨#[c]⟩ 0 (Lib.countB a0 ⟨#[c]⟩) a0 = l at G HR ⊢
    generalize Lib.countB a0 ⟨#[c]⟩ = n at G HR
    go_enter Tryd.func73, Tryd.ntmps73
    go_wp2_with (go_at_call 97; refine G.out.mono ?_; rintro e w' ⟨rfl, rfl⟩)
    go_ret
    exact ⟨_, rfl, HR.out, below_alloc (Below.refl _ _) _⟩
  · cases h
end Go.Proofs.YthafpbidfgmacaaDoor
