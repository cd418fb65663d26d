/- Slices of items: opened to what the walks ask. -/
import Derived.Test.YtniblmpihnhglaaD13
import Derived.Test.YtniblmpihnhglaaDO
namespace Go.Proofs.Ytniblmpihnhglaa
open Go.ChangeShapes Go.WideShapes Go.Deep Go.RowKit
section
variable {H : Type} {enc : TypeId × Value → H}
theorem list_of_fun {n : Nat} {R : Nat → It → Prop} (h : ∀ i, i < n → ∃ x, R i x) : ∃ l : List It, l.length = n ∧ ∀ i x, l[i]? = some x → R i x := by
  induction n with
  | zero => exact ⟨[], rfl, by simp⟩
  | succ n ih =>
    obtain ⟨l, hl, hr⟩ := ih fun i hi => h i (by omega)
    obtain ⟨x, hx⟩ := h n (by omega)
    refine ⟨l ++ [x], by simp [hl], fun i y hy => ?_⟩
    by_cases hi : i < n
    · rw [List.getElem?_append_left (by omega)] at hy
      exact hr i y hy
    · have hlt := (List.getElem?_eq_some_iff.1 hy).1
      rw [List.length_append, List.length_singleton] at hlt
      have : i = n := by omega
      subst this
      rw [List.getElem?_append_right (by omega)] at hy
      simp [hl] at hy
      subst hy
      exact hx

set_option maxRecDepth 100000 in
theorem items_of {W : World} {r : Reach} {b0 : Nat} {v : Value} {d : DataW H} {ps : List MemPlace} (hv : Value.okWide Try.prog W r b0 22 v) (h : DataW.Trod enc Try.prog W 0 (fun _ => true) true 22 v d ps) : ∃ l, Items W v l := by
  obtain ⟨a, len, cap, rfl⟩ := okWide_slice Try.underlying22 hv
  obtain ⟨fuel, hf⟩ := h
  rcases open_slice_fields Try.underlying22 Try.underlying36 (by kernel_rfl) (by kernel_rfl) hf with ⟨h1, h2⟩ | ⟨a', len', cap', m, D, Pl, h1, hb, hle, hc, hm, hx, hi⟩
  · have h1' : Value.slice a len cap = .slice none 0 0 := by simpa [Value.cells] using h1
    exact ⟨[], by simp, .inl ⟨h1', rfl⟩⟩
  · have h1' : Value.slice a len cap = .slice (some a') len' cap' := by simpa [Value.cells] using h1
    have key : ∀ i, i < len' → ∃ x : It, x.ok ∧ W.cell? (a'.add (i * 3)) = some (.int .u8 x.k) ∧ W.cell? (a'.add (i * 3 + 1)) = some (.int .u64 x.n) ∧ W.cell? (a'.add (i * 3 + 2)) = some (.string (strL x.s)) := by
      intro i hil
      have him : i < m := by rw [hm]; split <;> omega
      obtain ⟨ys, n, _, _, _, hf⟩ := hi i him
      obtain ⟨v0, y0, c0, _, t0⟩ := hf 0 _ rfl
      obtain ⟨v1, y1, c1, _, t1⟩ := hf 1 _ rfl
      obtain ⟨v2, y2, c2, _, t2⟩ := hf 2 _ rfl
      obtain ⟨k0, e0, _, w0⟩ := DataW.trod_int Try.underlying5 t0
      obtain ⟨k1, e1, _, w1⟩ := DataW.trod_int Try.underlying34 t1
      obtain ⟨s2, e2, _, w2⟩ := DataW.trod_string Try.underlying9 t2
      simp at e0 e1 e2
      subst e0 e1 e2
      have hk0 : 0 ≤ k0 ∧ k0 ≤ 255 := by simpa [Lit.wf, IntKind.min, IntKind.max, IntKind.signed, IntKind.bits] using w0
      have hk1 : 0 ≤ k1 ∧ k1 ≤ 18446744073709551615 := by simpa [Lit.wf, IntKind.min, IntKind.max, IntKind.signed, IntKind.bits] using w1
      have hk2 : s2.size ≤ 9223372036854775807 := w2
      refine ⟨⟨k0.toNat, k1.toNat, s2.data.toList⟩, ⟨?_, ?_, ?_⟩, ?_, ?_, ?_⟩
      · show k0.toNat < 256; omega
      · show k1.toNat < 18446744073709551616; omega
      · show s2.data.toList.length ≤ _; rw [Array.length_toList]; exact hk2
      · rw [show ((k0.toNat : Nat) : Int) = k0 from by omega]; exact c0
      · rw [show ((k1.toNat : Nat) : Int) = k1 from by omega]; exact c1
      · exact c2
    obtain ⟨l, hl, hr⟩ := list_of_fun key
    refine ⟨l, fun x hx => ?_, .inr ⟨a', cap', by rw [hl]; exact h1', fun i x hx => (hr i x hx).2⟩⟩
    obtain ⟨i, hi2, rfl⟩ := List.getElem_of_mem hx
    exact (hr i _ (List.getElem?_eq_getElem hi2)).1
end
end Go.Proofs.Ytniblmpihnhglaa
