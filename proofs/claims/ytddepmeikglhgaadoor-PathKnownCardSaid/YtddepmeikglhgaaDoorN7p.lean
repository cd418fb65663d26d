/- PathKnown's plain statement: the chapter's examples. -/
import Derived.Test.YtddepmeikglhgaaDoorRrillbedlaw05PathKnown
import Derived.Test.YtddepmeikglhgaaDoorN2p
import Derived.Test.YtddepmeikglhgaaDoorN0p
namespace Go.Proofs.YtddepmeikglhgaaDoor.Q
open Go.RowKit Go.Proofs.YtddepmeikglhgaaDoorW.PrintWords Go.Proofs.YtddepmeikglhgaaDoorW.PrintLast Go.Proofs.YtddepmeikglhgaaDoorW.PrintMore
set_option linter.unusedVariables false

theorem is_ev (p s n : ByteArray) (h : rillbedlaw05_is.f 60 p s n = some true) (k : Nat) (hk : 60 ≤ k) : rillbedlaw05_is.f k p s n = some true := at_rounds (g := fun k => rillbedlaw05_is.f k p s n) (fun k => rillbedlaw05_is.mono p s n k) hk h
theorem fails_ev (p : ByteArray) (n : Int) (h : rillbedlaw05_fails.f 60 p n = some true) (k : Nat) (hk : 60 ≤ k) : rillbedlaw05_fails.f k p n = some true := at_rounds (g := fun k => rillbedlaw05_fails.f k p n) (fun k => rillbedlaw05_fails.mono p n k) hk h
def badL : List ByteArray := [(⟨#[97]⟩ : ByteArray), (⟨#[97, 47, 98]⟩ : ByteArray), (⟨#[47, 97, 47]⟩ : ByteArray), (⟨#[47, 47]⟩ : ByteArray), (⟨#[47, 97, 47, 46, 46, 47, 98]⟩ : ByteArray), (⟨#[47, 46]⟩ : ByteArray), (⟨#[58, 47, 97]⟩ : ByteArray), (⟨#[115, 58, 116, 58, 47, 97]⟩ : ByteArray), (⟨#[47, 97, 47, 47, 49, 50, 51, 52, 53, 54, 55, 56, 57, 48, 49, 50, 51, 52, 53, 54, 55]⟩ : ByteArray), (⟨#[115, 47, 58, 47, 97]⟩ : ByteArray), (⟨#[47, 97, 0]⟩ : ByteArray), (⟨#[46, 46, 58, 47, 97]⟩ : ByteArray), (⟨#[47, 97, 47, 97, 47, 97, 47, 97, 47, 97, 47, 97, 47, 46, 46]⟩ : ByteArray)]
theorem bad_ev : ∀ x ∈ badL, rillbedlaw05_fails.f 60 x 4 = some true := by
  intro x hx
  simp only [badL, List.mem_cons, List.not_mem_nil, or_false] at hx
  rcases hx with rfl | rfl | rfl | rfl | rfl | rfl | rfl | rfl | rfl | rfl | rfl | rfl | rfl
  all_goals decide +kernel
def rep (n : Nat) : ByteArray := ⟨(Lib.repeatL [47] n).toArray⟩
theorem rep_is (n : Nat) (h : n ≤ 1000) : strings_Repeat.f (⟨#[47]⟩ : ByteArray) (n : Int) = some (rep n) := by
  show repeatF _ _ = _
  unfold repeatF
  rw [if_pos ⟨by omega, by omega, by decide⟩]
  rfl
theorem rep_data (n : Nat) : (rep n).data.toList = Lib.repeatL [47] n := by simp [rep]
theorem rep_size (n : Nat) : (rep n).size = n := by rw [← size_len, rep_data, Lib.repeatL_length]; simp
theorem parse_rep (n : Nat) (h : 1 ≤ n) (h2 : n ≤ 120) : n = 1 ∨ parseP (rep n) = (⟨#[]⟩, [], 4) := by
  by_cases h1 : n = 1
  · exact .inl h1
  · right
    obtain ⟨m, rfl⟩ : ∃ m, n = m + 2 := ⟨n - 2, by omega⟩
    unfold parseP
    rw [if_neg (by rw [rep_size]; omega), rep_data]
    have e : spl (Lib.repeatL [47] (m + 2)) = [] :: [] :: spl (Lib.repeatL [47] m) := rfl
    rw [e]
    have h0 : snapB (mkB []) = (⟨#[]⟩, 0) := by
      unfold snapB
      rw [if_pos (by rw [tl, mkB_data])]
    simp only [h0, if_true]
    rw [if_neg (by intro e; exact spl_ne _ (List.cons.inj e).2)]
    have hc : checkP (mkB []) = 4 := by
      unfold checkP
      rw [if_pos (.inl (by rw [tl, mkB_data]))]
    simp only [List.map_cons, goP, hc]
    rfl
theorem rep120 (k : Nat) (hk : 1000 ≤ k) : rillbedlaw05_fails.f k (rep 120) 4 = some true := by
  unfold rillbedlaw05_fails.f
  rcases parse_rep 120 (by omega) (by omega) with h | h
  · omega
  rw [parse_is _ (by rw [rep_size]; omega) k hk, h, Option.bind_some]
  decide +kernel
theorem rep121 (k : Nat) (hk : 1000 ≤ k) : rillbedlaw05_fails.f k (rep 121) 3 = some true := by
  unfold rillbedlaw05_fails.f
  have h : parseP (rep 121) = (⟨#[]⟩, [], 3) := by
    unfold parseP
    rw [if_pos (by rw [rep_size]; omega)]
  rw [parse_is _ (by rw [rep_size]; omega) k hk, h, Option.bind_some]
  decide +kernel
theorem j2_ok : rillbedlaw05_PathKnown.j2 40 false = some true := by decide +kernel
theorem j2_ev (k : Nat) (hk : 40 ≤ k) : rillbedlaw05_PathKnown.j2 k false = some true := at_rounds (g := fun k => rillbedlaw05_PathKnown.j2 k false) (fun k => (rillbedlaw05_PathKnown.mono_l k).2.2 false) hk j2_ok
theorem l0_end (k : Nat) (hk : 1000 ≤ k) : rillbedlaw05_PathKnown.l0 (k + 1) badL 13 = some true := by
  have e1 := fails_ev ⟨#[47, 49, 50, 51, 52, 53, 54, 55, 56, 57, 48, 49, 50, 51, 52, 53, 54, 55]⟩ 3 (by decide +kernel) k (by omega)
  have e2 := fails_ev ⟨#[47, 97, 47, 97, 47, 97, 47, 97, 47, 97, 47, 97, 47, 97]⟩ 3 (by decide +kernel) k (by omega)
  have e3 := fails_ev ⟨#[49, 50, 51, 52, 53, 54, 55, 56, 57, 48, 49, 50, 51, 52, 53, 54, 55, 58, 47, 46, 46]⟩ 3 (by decide +kernel) k (by omega)
  have r1 := rep_is 121 (by omega)
  have r2 := rep_is 120 (by omega)
  rw [show ((121 : Nat) : Int) = 121 from rfl] at r1
  rw [show ((120 : Nat) : Int) = 120 from rfl] at r2
  rw [rillbedlaw05_PathKnown.l0, if_neg (by decide), e1, Option.bind_some, if_pos rfl, e2, Option.bind_some, if_pos rfl, r1, Option.bind_some, rep121 k hk, Option.bind_some, if_pos rfl, e3, Option.bind_some, if_pos rfl, r2, Option.bind_some, rep120 k hk, Option.bind_some]
  exact j2_ev k (by omega)
theorem l0_loop : ∀ (d k i : Nat), i + d = 13 → 1000 + d ≤ k → rillbedlaw05_PathKnown.l0 (k + 1) badL (i : Int) = some true := by
  intro d
  induction d with
  | zero =>
    intro k i h hk
    obtain rfl : i = 13 := by omega
    exact l0_end k hk
  | succ d ih =>
    intro k i h hk
    obtain ⟨k, rfl⟩ : ∃ m, k = m + 1 := ⟨k - 1, by omega⟩
    have hb : badL.length = 13 := rfl
    have hl : i < badL.length := by omega
    rw [rillbedlaw05_PathKnown.l0, if_pos (by rw [hb]; omega), if_pos (by omega), rd_nat badL i badL[i] (List.getElem?_eq_getElem hl), fails_ev _ 4 (bad_ev _ (List.getElem_mem hl)) _ (by omega), Option.bind_some, if_pos rfl, wrap_small (by omega) (by omega)]
    have := ih k (i + 1) (by omega) (by omega)
    rw [show ((i + 1 : Nat) : Int) = (i : Int) + 1 from by omega] at this
    exact this
theorem known_ok (k : Nat) (hk : 2000 ≤ k) : rillbedlaw05_PathKnown.f (k + 2) = some true := by
  have hl := l0_loop 13 k 0 (by omega) (by omega)
  have e : rillbedlaw05_PathKnown.j0 (k + 2) false = some true := by
    rw [rillbedlaw05_PathKnown.j0, if_neg (by decide)]
    exact hl
  unfold rillbedlaw05_PathKnown.f
  rw [is_ev ⟨#[47, 97, 47, 98]⟩ ⟨#[]⟩ ⟨#[97, 124, 98]⟩ (by decide +kernel) _ (by omega), Option.bind_some, if_pos rfl, is_ev ⟨#[115, 58, 47]⟩ ⟨#[115]⟩ ⟨#[]⟩ (by decide +kernel) _ (by omega), Option.bind_some, if_pos rfl, is_ev ⟨#[47, 97, 58, 98]⟩ ⟨#[]⟩ ⟨#[97, 58, 98]⟩ (by decide +kernel) _ (by omega), Option.bind_some, if_pos rfl, is_ev ⟨#[47, 49, 50, 51, 52, 53, 54, 55, 56, 57, 48, 49, 50, 51, 52, 53, 54, 47, 97, 47, 97, 47, 97, 47, 97, 47, 97]⟩ ⟨#[]⟩ ⟨#[49, 50, 51, 52, 53, 54, 55, 56, 57, 48, 49, 50, 51, 52, 53, 54, 124, 97, 124, 97, 124, 97, 124, 97, 124, 97]⟩ (by decide +kernel) _ (by omega), Option.bind_some]
  exact e
theorem pathKnownWalk (W : World) : Calls Tryd.prog 8 #[] W fun e w' => e = .returned (.bool true) ∧ Below W.heap.size W w' := rillbedlaw05_PathKnown.calls (2000 + 2) W (known_ok 2000 (Nat.le_refl _))
end Go.Proofs.YtddepmeikglhgaaDoor.Q
