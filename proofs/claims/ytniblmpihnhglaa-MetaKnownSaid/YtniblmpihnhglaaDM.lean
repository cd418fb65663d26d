/- Arguments that are a meta or a change by value: opened to what the walks ask. -/
import Derived.Test.YtniblmpihnhglaaDO
import Derived.Test.YtniblmpihnhglaaE1
import Derived.Lib.SmallJoins
namespace Go.Proofs.Ytniblmpihnhglaa
open Go.ChangeShapes Go.WideShapes Go.Deep Go.RowKit Go.Joins
set_option linter.unusedVariables false

/-- A meta's fields. -/
structure Me where
  k : Nat
  s : Nat
  m : Nat
  t : Nat
def Me.ok (x : Me) : Prop := x.k < 256 ∧ x.s < 4294967296 ∧ x.m < 18446744073709551616 ∧ x.t < 18446744073709551616
def MetaArg (v : Value) (x : Me) : Prop := v = .agg #[.int .u8 x.k, .int .u32 x.s, .int .u64 x.m, .int .u64 x.t] ∧ x.ok
/-- A change's fields. -/
structure Ch where
  k : Nat
  n : Nat
  op : Nat
  y : Nat
def Ch.ok (x : Ch) : Prop := x.k < 256 ∧ x.n < 18446744073709551616 ∧ x.op < 256 ∧ x.y < 18446744073709551616
def ChangeArg (v : Value) (x : Ch) : Prop := v = .agg #[.int .u8 x.k, .int .u64 x.n, .int .u8 x.op, .int .u64 x.y] ∧ x.ok
section
variable {H : Type} {enc : TypeId × Value → H}
theorem wf_u8 {a : Int} (h : (Lit.int .u8 a).wf = true) : ((a.toNat : Nat) : Int) = a ∧ a.toNat < 256 := by
  have : 0 ≤ a ∧ a ≤ 255 := by simpa [Lit.wf, IntKind.min, IntKind.max, IntKind.signed, IntKind.bits] using h
  omega
theorem wf_u32 {a : Int} (h : (Lit.int .u32 a).wf = true) : ((a.toNat : Nat) : Int) = a ∧ a.toNat < 4294967296 := by
  have : 0 ≤ a ∧ a ≤ 4294967295 := by simpa [Lit.wf, IntKind.min, IntKind.max, IntKind.signed, IntKind.bits] using h
  omega
theorem wf_u64 {a : Int} (h : (Lit.int .u64 a).wf = true) : ((a.toNat : Nat) : Int) = a ∧ a.toNat < 18446744073709551616 := by
  have : 0 ≤ a ∧ a ≤ 18446744073709551615 := by simpa [Lit.wf, IntKind.min, IntKind.max, IntKind.signed, IntKind.bits] using h
  omega
set_option maxRecDepth 100000 in
theorem meta_of {W : World} {r : Reach} {b0 : Nat} {v : Value} {d : DataW H} {ps : List MemPlace} (hv : Value.okWide Try.prog W r b0 85 v) (h : DataW.Trod enc Try.prog W 0 (fun _ => true) true 85 v d ps) : ∃ x, MetaArg v x := by
  obtain ⟨v0, v1, v2, v3, y0, y1, y2, y3, n, rfl, _, _, t0, t1, t2, t3⟩ := open_agg4 Try.underlying85 (by kernel_rfl) (by kernel_rfl) hv h
  obtain ⟨k0, e0, _, w0⟩ := DataW.trod_int Try.underlying5 t0
  obtain ⟨k1, e1, _, w1⟩ := DataW.trod_int Try.underlying58 t1
  obtain ⟨k2, e2, _, w2⟩ := DataW.trod_int Try.underlying34 t2
  obtain ⟨k3, e3, _, w3⟩ := DataW.trod_int Try.underlying34 t3
  simp at e0 e1 e2 e3
  subst e0 e1 e2 e3
  refine ⟨⟨k0.toNat, k1.toNat, k2.toNat, k3.toNat⟩, ?_, (wf_u8 w0).2, (wf_u32 w1).2, (wf_u64 w2).2, (wf_u64 w3).2⟩
  simp only [(wf_u8 w0).1, (wf_u32 w1).1, (wf_u64 w2).1, (wf_u64 w3).1]
set_option maxRecDepth 100000 in
theorem change_of {W : World} {r : Reach} {b0 : Nat} {v : Value} {d : DataW H} {ps : List MemPlace} (hv : Value.okWide Try.prog W r b0 73 v) (h : DataW.Trod enc Try.prog W 0 (fun _ => true) true 73 v d ps) : ∃ x, ChangeArg v x := by
  obtain ⟨cs, rfl, hsz⟩ := okWide_struct Try.underlying73 hv
  have hC : Try.prog.cellsOf 73 = 4 := by kernel_rfl
  obtain ⟨l⟩ := cs
  match l, hsz.trans hC with
  | [c0, c1, c2, c3], _ =>
    obtain ⟨fuel, hf⟩ := h
    obtain ⟨xs, n, _, hx, _, hlen, hg⟩ := DataW.trod_struct Try.underlying73 hf
    match xs, hlen with
    | [y0, y1, y2], _ =>
      have k5 : Try.prog.cellsOf 5 = 1 := by kernel_rfl
      have k34 : Try.prog.cellsOf 34 = 1 := by kernel_rfl
      have k71 : Try.prog.cellsOf 71 = 2 := by kernel_rfl
      have g0 : DataW.trod enc Try.prog W 0 (fun _ => true) true n 5 [c0] = some y0 := by have := hg 0 _ rfl; simpa [Value.cells, k5] using this
      have g1 : DataW.trod enc Try.prog W 0 (fun _ => true) true n 34 [c1] = some y1 := by have := hg 1 _ rfl; simpa [Value.cells, k34] using this
      have g2 : DataW.trod enc Try.prog W 0 (fun _ => true) true n 71 [c2, c3] = some y2 := by have := hg 2 _ rfl; simpa [Value.cells, k71] using this
      obtain ⟨z0, z1, n2, _, _, s0, s1⟩ := trod_struct2 Try.underlying71 g2
      have s0' : DataW.trod enc Try.prog W 0 (fun _ => true) true n2 5 [c2] = some z0 := by simpa [k5] using s0
      have s1' : DataW.trod enc Try.prog W 0 (fun _ => true) true n2 34 [c3] = some z1 := by simpa [k34] using s1
      obtain ⟨a0, e0, _, w0⟩ := DataW.trod_int Try.underlying5 g0
      obtain ⟨a1, e1, _, w1⟩ := DataW.trod_int Try.underlying34 g1
      obtain ⟨a2, e2, _, w2⟩ := DataW.trod_int Try.underlying5 s0'
      obtain ⟨a3, e3, _, w3⟩ := DataW.trod_int Try.underlying34 s1'
      simp at e0 e1 e2 e3
      subst e0 e1 e2 e3
      refine ⟨⟨a0.toNat, a1.toNat, a2.toNat, a3.toNat⟩, ?_, (wf_u8 w0).2, (wf_u64 w1).2, (wf_u8 w2).2, (wf_u64 w3).2⟩
      simp only [(wf_u8 w0).1, (wf_u64 w1).1, (wf_u8 w2).1, (wf_u64 w3).1]
end
end Go.Proofs.Ytniblmpihnhglaa
