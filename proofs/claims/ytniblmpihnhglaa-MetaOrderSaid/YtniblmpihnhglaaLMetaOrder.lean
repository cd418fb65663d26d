/- The statement MetaOrder: for every input the call returns true, and each argument reads as it did. -/
import Derived.Test.YtniblmpihnhglaaE30
import Derived.ChangeMaps5
import Derived.Test.YtniblmpihnhglaaRows
import Derived.WalkKit
import Derived.ProofKit
import Derived.OpenShut
import Derived.Lib.SmallJoins
import Derived.KernelRfl
namespace Go.Proofs.Ytniblmpihnhglaa.metaOrder
open Go.ChangeShapes Go.WideShapes Go.ChangeAt Go.RowKit Go.Joins Go.ChangeMaps
set_option linter.unusedVariables false
set_option linter.unusedSimpArgs false

theorem own : ownKnob Try.prog.godebug = none := by kernel_rfl

set_option maxRecDepth 100000 in
theorem lifted (os : Os) (started : os.Started) (H : Type) (enc : TypeId × Value → H) :
    ReturnsInHanded {} Try.checked os 10 .any (Rows.metaOrderSpec.pre6 enc Try.prog Try.f10 Rows.metaOrderRow.domain false) (Rows.metaOrderSpec.post enc Try.prog Try.f10 false true false false) := by
  refine returnsInHanded_of_change (C := Try.checked) own started (by kernel_rfl) Try.func10
    (ChangeSpec.witness6 (enc := enc) (C := Try.checked) false ⟨#[], #[.agg #[.int .u8 0, .int .u32 0, .int .u64 0, .int .u64 0], .agg #[.int .u8 0, .int .u64 0, .int .u8 0, .int .u64 0], .agg #[.int .u8 0, .int .u64 0, .int .u8 0, .int .u64 0]], []⟩ 8 (by kernel_rfl) (by kernel_rfl) (by kernel_rfl) (by kernel_rfl)) ?_
  intro W base args ds gs before hval0 hW hcnd _
  have hval : ∀ (j : Nat) t v, Try.f10.params[j]? = some t → args[j]? = some v → Value.okWide Try.prog W .any base t v := hval0
  have hW' := hW
  obtain ⟨p, q, hA0, hV, rfl, hfz, hnd⟩ := hW
  have hA : DataW.TrodAll enc Try.prog W 0 (fun _ => true) true Try.f10.params.toList args.toList ds p := hA0
  rw [Try.params10] at hA hval
  obtain ⟨v0, vs0, d0, ds0, p0, q0, hargs, rfl, rfl, h0, r0⟩ := trodAll_cons hA
  obtain ⟨v1, vs1, d1, ds1, p1, q1, rfl, rfl, rfl, h1, r1⟩ := trodAll_cons r0
  obtain ⟨v2, vs2, d2, ds2, p2, q2, rfl, rfl, rfl, h2, r2⟩ := trodAll_cons r1
  obtain ⟨rfl, rfl, rfl⟩ := trodAll_nil r2
  obtain rfl : args = #[v0, v1, v2] := by cases args; simp_all
  obtain ⟨rfl, rfl⟩ := trodVars_none hV
  obtain ⟨n0, w0⟩ := meta_of (hval 0 85 v0 rfl rfl) h0
  obtain ⟨n1, w1⟩ := change_of (hval 1 73 v1 rfl rfl) h1
  obtain ⟨n2, w2⟩ := change_of (hval 2 73 v2 rfl rfl) h2
  clear hA0 hval0
  simp only [List.append_nil, List.nil_append] at hW'
  have hin0 : ∀ x ∈ p0, x ∈ p0 ++ (p1 ++ p2) := fun x hx => by simp [hx]
  have hin1 : ∀ x ∈ p1, x ∈ p0 ++ (p1 ++ p2) := fun x hx => by simp [hx]
  have hin2 : ∀ x ∈ p2, x ∈ p0 ++ (p1 ++ p2) := fun x hx => by simp [hx]
  refine (metaOrder_walk v0 n0 w0 v1 n1 w1 v2 n2 w2 W).mono fun e W' ⟨he, hg⟩ => ?_
  subst he
  exact ⟨_, rfl, post_of_below (pa := p0 ++ (p1 ++ p2)) (pv := []) hW' (fun _ _ _ => (trodAll_cons_mk (shut_bool Try.underlying4 _) trodAll_mk0)) (fun sp hsp => by have hx := (trodAll_cons_mk (stays_arg (by kernel_rfl) (of_decide_eq_true (by kernel_rfl)) h0 hg (fun x hx => hW'.lt x (hin0 x hx)) sp (fun x hx => hsp x (hin0 x hx))) (trodAll_cons_mk (stays_arg (by kernel_rfl) (of_decide_eq_true (by kernel_rfl)) h1 hg (fun x hx => hW'.lt x (hin1 x hx)) sp (fun x hx => hsp x (hin1 x hx))) (trodAll_cons_mk (stays_arg (by kernel_rfl) (of_decide_eq_true (by kernel_rfl)) h2 hg (fun x hx => hW'.lt x (hin2 x hx)) sp (fun x hx => hsp x (hin2 x hx))) trodAll_mk0))); simp only [List.nil_append, List.append_nil] at hx; exact hx) (fun _ _ => rfl) (by simp) hg (ok_one (by kernel_rfl) rfl (okWide_bool_mk Try.underlying4 _))⟩

theorem over : Rows.metaOrderRow.holds Try.pinned (OpenSpec.ofChange Rows.metaOrderSpec) :=
  OpenClaim.holds_of_wide 10 Try.f10 rfl rfl rfl rfl rfl rfl rfl ⟨rfl, rfl, rfl, rfl, rfl⟩ rfl rfl rfl rfl rfl (by kernel_rfl) Try.func10 (by kernel_rfl)
    (of_decide_eq_true (by kernel_rfl)) (by unfold Func.isWrapper; first | (rw [if_pos (by decide +kernel)]; kernel_rfl) | (rw [if_neg (by decide +kernel)]; exact ⟨rfl, rfl⟩))
    (fun os started H enc _ => lifted os started H enc)

theorem proved : Rows.MetaOrderSaid :=
  over
end Go.Proofs.Ytniblmpihnhglaa.metaOrder
