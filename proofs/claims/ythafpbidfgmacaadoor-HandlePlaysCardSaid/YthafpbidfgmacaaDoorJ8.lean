/- An argument that is an array of two slices of strings, opened. -/
import Derived.Test.YthafpbidfgmacaaDoorJ4
import Derived.OpenShut
namespace Go.Proofs.YthafpbidfgmacaaDoor
open Go.ChangeShapes Go.WideShapes Go.RowKit Go.Proofs.YthafpbidfgmacaaDoorW.PrintWords Go.Proofs.YthafpbidfgmacaaDoorW.PrintLast Go.Proofs.YthafpbidfgmacaaDoorW.PrintMore
section
variable {H : Type} {enc : TypeId × Value → H}
set_option maxRecDepth 100000 in
theorem strs_cell {W : World} {fuel : Nat} {c : Value} {x : DataW H × List MemPlace} (hf : DataW.trod enc Tryd.prog W 0 (fun _ => true) true fuel 30 [c] = some x) :
    ∃ (A : Option Addr) (k : Nat) (l : List ByteArray), c = .slice A l.length k ∧ l.length ≤ k ∧ Kd.C Kd.string W A l.length l ∧ l.length ≤ 9223372036854775807 := by
  rcases open_strings Tryd.underlying30 Tryd.underlying9 (by kernel_rfl) hf with ⟨h1, h2⟩ | ⟨a', len', cap', ss, h1, hb, hl, hm, hz, hx, hcell, hws⟩
  · have h1' : c = .slice none 0 0 := by simpa [Value.cells] using h1
    exact ⟨none, 0, [], h1', Nat.le_refl _, Kd.C_of_reads (d := ByteArray.empty) (h1 := fun _ => rfl) ⟨rfl, by decide, fun h => absurd h (by decide)⟩, by decide⟩
  · have h1' : c = .slice (some a') len' cap' := by simpa [Value.cells] using h1
    have hz' : ss.length = cap' := by simpa using hz
    have hm' : cap' ≤ 9223372036854775807 := Nat.le_trans hm (by decide)
    have hlen : (ss.take len').length = len' := by rw [List.length_take]; omega
    refine ⟨some a', cap', ss.take len', by rw [hlen]; exact h1', by rw [hlen]; exact hl, Kd.C_of_reads (d := ByteArray.empty) (h1 := fun _ => rfl) ⟨rfl, by omega, fun hn => ⟨a', rfl, fun j hj => ?_⟩⟩, by omega⟩
    rw [hlen] at hj
    rw [hcell j (by omega), List.getD_eq_getElem?_getD, List.getD_eq_getElem?_getD, List.getElem?_take, if_pos hj]
set_option maxRecDepth 100000 in
theorem cells30 : Tryd.prog.cellsOf 30 = 1 := by kernel_rfl
set_option maxRecDepth 100000 in
theorem cells74 : Tryd.prog.cellsOf 74 = 2 := by kernel_rfl
set_option maxRecDepth 100000 in
theorem under74 : Tryd.prog.underlying 74 = some (.array 2 30) := by kernel_rfl
set_option maxRecDepth 100000 in
theorem two_strs {W : World} {r : Reach} {b0 : Nat} {v : Value} {d : DataW H} {ps : List MemPlace} (hv : Value.okWide Tryd.prog W r b0 74 v) (h : DataW.Trod enc Tryd.prog W 0 (fun _ => true) true 74 v d ps) :
    ∃ (A : Option Addr) (c : Nat) (l : List ByteArray) (A' : Option Addr) (c' : Nat) (l' : List ByteArray), v = .agg #[.slice A l.length c, .slice A' l'.length c'] ∧
      (l.length ≤ c ∧ Kd.C Kd.string W A l.length l ∧ l.length ≤ 9223372036854775807) ∧ (l'.length ≤ c' ∧ Kd.C Kd.string W A' l'.length l' ∧ l'.length ≤ 9223372036854775807) := by
  simp only [Value.okWide, under74] at hv
  obtain ⟨cs, rfl, hz, _⟩ := hv
  obtain ⟨fuel, hf⟩ := h
  rw [cells74] at hz
  obtain ⟨xs, m, _, _, hl, hn, hx⟩ := DataW.trod_array under74 hf
  rw [cells30] at hx
  have h0 := hx 0 (by omega)
  have h1 := hx 1 (by omega)
  obtain ⟨c0, c1, rfl⟩ : ∃ c0 c1, cs = #[c0, c1] := by
    obtain ⟨l⟩ := cs
    match l, hz with
    | [a, b], _ => exact ⟨a, b, rfl⟩
  rw [List.getElem?_eq_getElem (by omega)] at h0 h1
  obtain ⟨A, k, l, e, g⟩ := strs_cell h0
  obtain ⟨A', k', l', e', g'⟩ := strs_cell h1
  exact ⟨A, k, l, A', k', l', by rw [e, e'], g, g'⟩
end
end Go.Proofs.YthafpbidfgmacaaDoor
