/- An argument that is an array of two bytes, opened. -/
import Derived.Test.YthafpbidfgmacaaDoorJ4
import Derived.OpenShut
namespace Go.Proofs.YthafpbidfgmacaaDoor
open Go.ChangeShapes Go.WideShapes Go.RowKit Go.Proofs.YthafpbidfgmacaaDoorW.PrintWords Go.Proofs.YthafpbidfgmacaaDoorW.PrintLast Go.Proofs.YthafpbidfgmacaaDoorW.PrintMore
section
variable {H : Type} {enc : TypeId × Value → H}
set_option maxRecDepth 100000 in
theorem cells5 : Tryd.prog.cellsOf 5 = 1 := by kernel_rfl
set_option maxRecDepth 100000 in
theorem cells65 : Tryd.prog.cellsOf 65 = 2 := by kernel_rfl
set_option maxRecDepth 100000 in
theorem under65 : Tryd.prog.underlying 65 = some (.array 2 5) := by kernel_rfl
theorem byte_range {n : Int} (h : (Lit.int .u8 n).wf = true) : 0 ≤ n ∧ n < 256 := by
  simp [Lit.wf, IntKind.min, IntKind.max, IntKind.signed, IntKind.bits] at h
  omega
set_option maxRecDepth 100000 in
theorem two_bytes {W : World} {r : Reach} {b0 : Nat} {v : Value} {d : DataW H} {ps : List MemPlace} (hv : Value.okWide Tryd.prog W r b0 65 v) (h : DataW.Trod enc Tryd.prog W 0 (fun _ => true) true 65 v d ps) :
    ∃ (x y : Int), v = .agg #[.int .u8 x, .int .u8 y] ∧ (0 ≤ x ∧ x < 256) ∧ (0 ≤ y ∧ y < 256) := by
  simp only [Value.okWide, under65] at hv
  obtain ⟨cs, rfl, hz, _⟩ := hv
  obtain ⟨fuel, hf⟩ := h
  rw [cells65] at hz
  obtain ⟨xs, m, _, _, hl, hn, hx⟩ := DataW.trod_array under65 hf
  rw [cells5] at hx
  have h0 := hx 0 (by omega)
  have h1 := hx 1 (by omega)
  obtain ⟨c0, c1, rfl⟩ : ∃ c0 c1, cs = #[c0, c1] := by
    obtain ⟨l⟩ := cs
    match l, hz with
    | [a, b], _ => exact ⟨a, b, rfl⟩
  rw [List.getElem?_eq_getElem (by omega)] at h0 h1
  obtain ⟨x, e, _, g⟩ := DataW.trod_int Tryd.underlying5 h0
  obtain ⟨y, e', _, g'⟩ := DataW.trod_int Tryd.underlying5 h1
  have e2 : [c0] = [Value.int .u8 x] := e
  have e3 : [c1] = [Value.int .u8 y] := e'
  exact ⟨x, y, by rw [(List.cons.inj e2).1, (List.cons.inj e3).1], byte_range g, byte_range g'⟩
end
end Go.Proofs.YthafpbidfgmacaaDoor
