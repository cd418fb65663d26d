/- A slice of bytes: opened to what the walk of CodecOne asks. -/
import Derived.Test.YtniblmpihnhglaaD18
import Derived.Test.YtniblmpihnhglaaDO
namespace Go.Proofs.Ytniblmpihnhglaa
open Go.ChangeShapes Go.WideShapes Go.Deep Go.RowKit
section
variable {H : Type} {enc : TypeId × Value → H}
set_option maxRecDepth 100000 in
theorem kinds_of {W : World} {r : Reach} {b0 : Nat} {v : Value} {d : DataW H} {ps : List MemPlace} (hv : Value.okWide Try.prog W r b0 26 v) (h : DataW.Trod enc Try.prog W 0 (fun _ => true) true 26 v d ps) : ∃ n, Kinds W v n := by
  obtain ⟨a, len, cap, rfl⟩ := okWide_slice Try.underlying26 hv
  obtain ⟨fuel, hf⟩ := h
  rcases open_ints Try.underlying26 Try.underlying5 (by kernel_rfl) hf with ⟨h1, h2⟩ | ⟨a', len', cap', zs, h1, hb, hle, hc, hm, hx, hi, hw⟩
  · have h1' : Value.slice a len cap = .slice none 0 0 := by simpa [Value.cells] using h1
    exact ⟨0, .inl ⟨h1', rfl⟩⟩
  · have h1' : Value.slice a len cap = .slice (some a') len' cap' := by simpa [Value.cells] using h1
    refine ⟨len', .inr ⟨a', cap', h1', fun i hil => ?_⟩⟩
    have him : i < zs.length := by rw [hm]; split <;> omega
    have w0 := hw (zs.getD i 0) (by rw [List.getD_eq_getElem?_getD, List.getElem?_eq_getElem him]; exact List.getElem_mem him)
    have hk0 : 0 ≤ zs.getD i 0 ∧ zs.getD i 0 ≤ 255 := by simpa [Lit.wf, IntKind.min, IntKind.max, IntKind.signed, IntKind.bits] using w0
    refine ⟨(zs.getD i 0).toNat, by omega, ?_⟩
    rw [hi i him, show (((zs.getD i 0).toNat : Nat) : Int) = zs.getD i 0 from by omega]
end
theorem codecOne_walk (s : ByteArray) (_ : s.size ≤ maxLen) (v : Value) (n : Nat) {w0 : World} (hv : Kinds w0 v n) (w : World) (e : w = w0 := by rfl) :
    Calls Try.prog 7 #[.string s, v] w fun x w' => x = .returned (.bool true) ∧ Bl w w' := by
  subst e
  exact codecOne_on s.data.toList v n w hv
end Go.Proofs.Ytniblmpihnhglaa
