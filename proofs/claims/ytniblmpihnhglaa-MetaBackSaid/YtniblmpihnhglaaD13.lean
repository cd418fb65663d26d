import Derived.Test.YtniblmpihnhglaaD12
import Derived.Deep.Slices
namespace Go.Proofs.Ytniblmpihnhglaa
open Go.RowKit
set_option linter.unusedVariables false

theorem add_blk' (a : Addr) (n : Nat) : (a.add n).block = a.block := by unfold Addr.add; split <;> rfl
/-- An item: its kind, its number, its text. -/
structure It where
  k : Nat
  n : Nat
  s : List UInt8
def It.ok (x : It) : Prop := x.k < 256 ∧ x.n < 18446744073709551616 ∧ x.s.length ≤ 9223372036854775807
/-- A slice of items, as the walk meets it. -/
def Items (w : World) (v : Value) (l : List It) : Prop :=
  (∀ x ∈ l, x.ok) ∧ ((v = .slice none 0 0 ∧ l = []) ∨ ∃ a cap, v = .slice (some a) l.length cap ∧ ∀ i (x : It), l[i]? = some x → w.cell? (a.add (i * 3)) = some (.int .u8 x.k) ∧ w.cell? (a.add (i * 3 + 1)) = some (.int .u64 x.n) ∧ w.cell? (a.add (i * 3 + 2)) = some (.string (strL x.s)))
theorem items_form {w : World} {v : Value} {l : List It} (h : Items w v l) : ∃ a c, v = .slice a l.length c := by
  rcases h.2 with ⟨rfl, rfl⟩ | ⟨a, cap, rfl, _⟩
  · exact ⟨_, _, rfl⟩
  · exact ⟨_, _, rfl⟩
/-- An item's cells, in a world that keeps them. -/
theorem items_cells {w wr : World} {va : Option Addr} {vc : Nat} {l : List It} (h : Items w (.slice va l.length vc) l) (hb : Bl w wr) {i : Nat} {x : It} (hx : l[i]? = some x) :
    ∃ a, va = some a ∧ wr.cell? (a.add (i * 3)) = some (.int .u8 x.k) ∧ wr.cell? ⟨(a.add (i * 3)).block, (a.add (i * 3)).off + 1, none⟩ = some (.int .u64 x.n) ∧ wr.cell? ⟨(a.add (i * 3)).block, (a.add (i * 3)).off + 2, none⟩ = some (.string (strL x.s)) := by
  rcases h.2 with ⟨_, h2⟩ | ⟨a, cap, h1, h3⟩
  · subst h2; simp at hx
  · injection h1 with h1a h1b h1c
    obtain ⟨c0, c1, c2⟩ := h3 i x hx
    have hlt : a.block < w.heap.size := by have := World.block_lt_of_cell? w _ c0; rwa [add_blk'] at this
    rw [← hb.cell (by rwa [add_blk'])] at c0 c1 c2
    rw [← Deep.add_add] at c1 c2
    exact ⟨a, h1a, c0, c1, c2⟩
def It.few (x : It) : Prop := x.s.length ≤ 300 ∨ (65535 < x.s.length ∧ x.s.length ≤ 70000)
def FewP (l : List It) (w : World) (x : Ending) (w' : World) : Prop := w = w' ∧ ∃ b, x = .returned (.bool b) ∧ (b = true → l.length ≤ 60 ∧ ∀ y ∈ l, y.few)

set_option maxRecDepth 100000 in
set_option maxHeartbeats 1600000 in
theorem few_any (v : Value) (l : List It) (w : World) (hv : Items w v l) : Calls Try.prog 14 #[v] w (FewP l w) := by
  obtain ⟨va, vc, rfl⟩ := items_form hv
  have HV := Lib.hid hv
  have hFin : Hid (∀ i, 60 ≥ l.length → i ≤ l.length → (i < l.length → ¬ i < 70) → (∀ j y, j < i → l[j]? = some y → y.few) → ∀ y ∈ l, y.few) := Lib.hid (fun i h1 h2 h3 h4 y hy => by
    obtain ⟨j, hj, rfl⟩ := List.getElem_of_mem hy
    have : i = l.length := by omega
    exact h4 j _ (by omega) (List.getElem?_eq_getElem hj))
  clear hv
  generalize hn : l.length = n at HV hFin ⊢
  have HNL := Lib.hid hn
  clear hn
  go_enter Try.func14, Try.ntmps14
  go_wp2_with fail
  go_loopw [3] (fun v3 wr => ∃ i : Nat, i ≤ n ∧ i ≤ 70 ∧ v3 = .int .i64 i ∧ wr = w ∧ Hid (∀ j y, j < i → l[j]? = some y → y.few)) (fun v _ => 70 - (intOf v).toNat)
  case atStart => exact ⟨0, by omega, by omega, rfl, rfl, fun j y hj => by omega⟩
  case round =>
    obtain ⟨i, hi, h70, rfl, rfl, hf⟩ := hrel
    by_cases hlt : i < n ∧ i < 70
    · obtain ⟨hl1, hl2⟩ := hlt
      obtain ⟨x, hx⟩ : ∃ x, l[i]? = some x := ⟨_, List.getElem?_eq_getElem (by rw [HNL.out]; exact hl1)⟩
      have hit := HV.out
      rw [← HNL.out] at hit
      obtain ⟨a, rfl, c0, c1, c2⟩ := items_cells hit (Bl.refl _) hx
      have hz := strL_size x.s
      have HX := Lib.hid hx
      clear hit hx c0 c1
      generalize hs : strL x.s = s at c2 hz
      clear hs
      generalize hm : x.s.length = m at hz
      have HM := Lib.hid hm
      clear hm
      go_wp2_with fail
      all_goals first
        | (go_ret; exact ⟨rfl, false, rfl, fun h => by cases h⟩)
        | (go_roundw
           all_goals first
             | (simp only [intOf]; omega)
             | (refine ⟨i + 1, by omega, by omega, by go_num, by first | trivial | rfl, fun j y hj hy => ?_⟩
                rcases Nat.lt_or_ge j i with h | h
                · exact hf.out j y h hy
                · have e : j = i := by omega
                  subst e
                  have e2 := HX.out
                  rw [hy] at e2
                  cases e2
                  have := HM.out
                  unfold It.few
                  omega))
    · go_wp2_with fail
      all_goals
        go_ret
        refine ⟨rfl, _, rfl, fun hb => ?_⟩
        have hle : n ≤ 60 := by have := of_decide_eq_true hb; omega
        exact ⟨by rw [HNL.out]; exact hle, hFin.out i hle hi (fun h1 h2 => hlt ⟨h1, h2⟩) hf.out⟩
end Go.Proofs.Ytniblmpihnhglaa
