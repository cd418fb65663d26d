/- An argument that is a slice of strings, opened to what the printed contracts ask. -/
import Derived.Test.YthafpbidfgmacaaDoorJ0
import Derived.SliceStrings
import Derived.WideKeyArgs
import Derived.ChangeSame
import Derived.Deep.Slices
import Derived.Deep.Fields
import Derived.Below
namespace Go.Proofs.YthafpbidfgmacaaDoor
open Go.ChangeShapes Go.WideShapes Go.RowKit Go.Proofs.YthafpbidfgmacaaDoorW.PrintWords Go.Proofs.YthafpbidfgmacaaDoorW.PrintLast Go.Proofs.YthafpbidfgmacaaDoorW.PrintMore
section
variable {H : Type} {enc : TypeId × Value → H}
theorem stays_arg {t : TypeId} {W W' : World} {v : Value} {d : DataW H} {ps : List MemPlace} (hr : Tryd.prog.readableRec t = true) (hrow : t < Tryd.prog.types.size)
    (h : DataW.Trod enc Tryd.prog W 0 (fun _ => true) true t v d ps) (hb : Below W.heap.size W W') (hlt : ∀ p ∈ ps, p.block < W.heap.size) (sp : Nat → Bool) (hs : ∀ p ∈ ps, sp p.block = true) :
    DataW.Trod enc Tryd.prog W' 0 sp true t v d ps :=
  WideElems.Trod_stays (by kernel_rfl) hr hrow h (fun p hp => hb.same (hlt p hp)) hs

set_option maxRecDepth 100000 in
set_option maxRecDepth 100000 in
theorem strs_of {W : World} {r : Reach} {b0 : Nat} {v : Value} {d : DataW H} {ps : List MemPlace} (hv : Value.okWide Tryd.prog W r b0 30 v) (h : DataW.Trod enc Tryd.prog W 0 (fun _ => true) true 30 v d ps) :
    ∃ (A : Option Addr) (c : Nat) (l : List ByteArray), v = .slice A l.length c ∧ l.length ≤ c ∧ Kd.C Kd.string W A l.length l ∧ l.length ≤ 9223372036854775807 := by
  obtain ⟨a, len, cap, rfl⟩ := okWide_slice Tryd.underlying30 hv
  obtain ⟨fuel, hf⟩ := h
  rcases open_strings Tryd.underlying30 Tryd.underlying9 (by kernel_rfl) hf with ⟨h1, h2⟩ | ⟨a', len', cap', ss, h1, hb, hl, hm, hz, hx, hcell, hws⟩
  · have h1' : Value.slice a len cap = .slice none 0 0 := by simpa [Value.cells] using h1
    exact ⟨none, 0, [], h1', Nat.le_refl _, Kd.C_of_reads (d := ByteArray.empty) (h1 := fun _ => rfl) ⟨rfl, by decide, fun h => absurd h (by decide)⟩, by decide⟩
  · have h1' : Value.slice a len cap = .slice (some a') len' cap' := by simpa [Value.cells] using h1
    have hz' : ss.length = cap' := by simpa using hz
    have hm' : cap' ≤ 9223372036854775807 := Nat.le_trans hm (by decide)
    have hlen : (ss.take len').length = len' := by rw [List.length_take]; omega
    refine ⟨some a', cap', ss.take len', by rw [hlen]; exact h1', by rw [hlen]; exact hl, Kd.C_of_reads (d := ByteArray.empty) (h1 := fun _ => rfl) ⟨rfl, by omega, fun hn => ⟨a', rfl, fun j hj => ?_⟩⟩, by omega⟩
    rw [hlen] at hj
    rw [hcell j (by omega), List.getD_eq_getElem?_getD, List.getD_eq_getElem?_getD, List.getElem?_take, if_pos hj]
end
end Go.Proofs.YthafpbidfgmacaaDoor
