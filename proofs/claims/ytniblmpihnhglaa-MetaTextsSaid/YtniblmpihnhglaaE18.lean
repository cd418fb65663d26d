/- Walks of the small functions of layer 7's statements. -/
import Derived.Test.YtniblmpihnhglaaE17
import Derived.Test.YtniblmpihnhglaaE14
import Derived.Laws.StructEq
namespace Go.Proofs.Ytniblmpihnhglaa
open Go.RowKit
set_option linter.unusedVariables false

set_option maxRecDepth 100000 in
set_option maxHeartbeats 1600000 in
theorem theirs_any (k n op y : Int) (w : World) : Calls Try.prog 42 #[.agg #[.int .u8 k, .int .u64 n, .int .u8 op, .int .u64 y]] w fun x w' => x = .returned (.agg #[.int .u8 k, .int .u64 n, .int .u8 op, .int .u64 y]) ∧ Bl w w' := by
  go_enter Try.func42, Try.ntmps42
  go_wp2_with fail
  refine bodyPost_ret (v := .agg #[.int .u8 k, .int .u64 n, .int .u8 op, .int .u64 y]) (by simp [results, Try.results42, go_sem]) rfl ⟨rfl, ?_⟩
  exact ((Bl.refl w).alloc _).alloc _

def partI (k : Nat) : Int := if k = 1 ∨ k = 2 then 1 else if k = 3 then 2 else 3
theorem part_any (k : Nat) (n op y : Int) (w : World) : Calls Try.prog 48 #[.agg #[.int .u8 k, .int .u64 n, .int .u8 op, .int .u64 y]] w fun x w' => x = .returned (.int .i64 (partI k)) ∧ Bl w w' := by
  rcases (by omega : k = 1 ∨ k = 2 ∨ k = 3 ∨ (k ≠ 1 ∧ k ≠ 2 ∧ k ≠ 3)) with h | h | h | ⟨h1, h2, h3⟩
  · have e : partI k = 1 := by unfold partI; rw [if_pos (.inl h)]
    rw [e]
    subst h
    clear e
    go_enter Try.func48, Try.ntmps48
    go_wp2_with fail
    go_ret
    exact ⟨rfl, (Bl.refl w).alloc _⟩
  · have e : partI k = 1 := by unfold partI; rw [if_pos (.inr h)]
    rw [e]
    subst h
    clear e
    go_enter Try.func48, Try.ntmps48
    go_wp2_with fail
    go_ret
    exact ⟨rfl, (Bl.refl w).alloc _⟩
  · have e : partI k = 2 := by unfold partI; rw [if_neg (by omega), if_pos h]
    rw [e]
    subst h
    clear e
    go_enter Try.func48, Try.ntmps48
    go_wp2_with fail
    go_ret
    exact ⟨rfl, (Bl.refl w).alloc _⟩
  · have e : partI k = 3 := by unfold partI; rw [if_neg (by omega), if_neg h3]
    rw [e]
    have e1 : ((k : Int) == 1) = false := by rw [beq_eq_false_iff_ne]; omega
    have e2 : ((k : Int) == 2) = false := by rw [beq_eq_false_iff_ne]; omega
    have e3 : ((k : Int) == 3) = false := by rw [beq_eq_false_iff_ne]; omega
    clear e h1 h2 h3
    go_enter Try.func48, Try.ntmps48
    go_wp2_with fail
    go_ret
    exact ⟨rfl, (Bl.refl w).alloc _⟩

theorem file_any (s : Int) (w : World) : Calls Try.prog 54 #[.int .u32 s] w fun x w' => x = .returned (.agg #[.int .u8 1, .int .u32 s, .int .u64 0, .int .u64 0]) ∧ Bl w w' := by
  go_enter Try.func54, Try.ntmps54
  go_wp2_with fail
  refine bodyPost_ret (v := .agg #[.int .u8 1, .int .u32 s, .int .u64 0, .int .u64 0]) (by simp [results, Try.results54, go_sem]) rfl ⟨rfl, ?_⟩
  exact (Bl.refl w).alloc _

set_option maxRecDepth 100000 in
set_option maxHeartbeats 1600000 in
theorem does_any (k n : Nat) (w : World) (hk : k < 256) (hn : n < 18446744073709551616) : Calls Try.prog 56 #[.int .u8 k, .int .u64 n] w fun x w' => x = .returned (.int .u32 (apM ⟨1, 5, 0, 0⟩ ⟨k, n, 0, 0⟩).s) ∧ Bl w w' := by
  have AP : Hid (∀ w, Calls Try.prog 45 #[.agg #[.int .u8 1, .int .u32 5, .int .u64 0, .int .u64 0], .agg #[.int .u8 k, .int .u64 n, .int .u8 0, .int .u64 0]] w fun x w' => x = .returned (meV (apM ⟨1, 5, 0, 0⟩ ⟨k, n, 0, 0⟩)) ∧ Bl w w') :=
    Lib.hid (fun w => apply_on ⟨1, 5, 0, 0⟩ ⟨k, n, 0, 0⟩ w ⟨by decide, by decide, by decide, by decide⟩ ⟨hk, hn, by show 0 < 256; decide, by show 0 < 18446744073709551616; decide⟩)
  unfold meV at AP
  clear hk hn
  generalize apM ⟨1, 5, 0, 0⟩ ⟨k, n, 0, 0⟩ = r at AP
  have hf : ∀ (a b c d : Int) (w : World), (Instr.field 85 (.agg #[.int .u8 a, .int .u32 b, .int .u64 c, .int .u64 d]) 1).run Try.prog w = .ok (.int .u32 b) w := fun _ _ _ _ _ => by kernel_rfl
  go_enter Try.func56, Try.ntmps56
  go_wp2_with (first
    | (go_at_call 45; refine (AP.out _).mono ?_; rintro e w2 ⟨rfl, h⟩; have B2 := Lib.hid h; clear h)
    | (go_at_call 54; refine (file_any _ _).mono ?_; rintro e w1 ⟨rfl, h⟩; have B1 := Lib.hid h; clear h))
  go_ret
  exact ⟨rfl, B1.out.trans B2.out⟩

theorem metaL_ne (k s m t : Nat) : metaL k s m t ≠ [] := by
  intro h
  have := congrArg List.length h
  unfold metaL at this
  rw [List.length_append, beB_length] at this
  simp at this

set_option maxRecDepth 100000 in
set_option maxHeartbeats 1600000 in
theorem none_any (x : Me) (w : World) (hx : x.ok) : Calls Try.prog 53 #[meV x] w fun e w' => e = .returned (.bool (!mayX x)) ∧ Bl w w' := by
  have PU := Lib.hid (fun w => mput_any x.k x.s x.m x.t w hx.1 hx.2.1 hx.2.2.1 hx.2.2.2)
  have CH := Lib.hid (fun w => check_any x.k x.s x.m x.t w)
  unfold MPutP at PU
  unfold ChkP at CH
  have M0 : Hid (Bl w (w.alloc (.cells #[.int .u8 x.k, .int .u32 x.s, .int .u64 x.m, .int .u64 x.t] 85))) := Lib.hid ((Bl.refl w).alloc _)
  have BX : Hid (∀ w1, Bl (w.alloc (.cells #[.int .u8 x.k, .int .u32 x.s, .int .u64 x.m, .int .u64 x.t] 85)) w1 → w1.heap[w.heap.size]? = some (.cells #[.int .u8 x.k, .int .u32 x.s, .int .u64 x.m, .int .u64 x.t] 85 (0, 0))) := Lib.hid (fun w1 hb => by
    have hlt : w.heap.size < (w.alloc (.cells #[.int .u8 x.k, .int .u32 x.s, .int .u64 x.m, .int .u64 x.t] 85)).heap.size := by show _ < (w.heap.push _).size; rw [Array.size_push]; omega
    exact (hb.block _ hlt).trans (heap_alloc_new _ _))
  unfold meV
  cases hm : mayX x with
  | true =>
    have hM : mayM x.k x.s x.m = true := hm
    have hc : chk x.k x.s x.m = 0 := by unfold chk; rw [if_pos hM]
    rw [if_pos hM, hc] at PU
    rw [hc] at CH
    have hne := strL_ne (metaL_ne x.k x.s x.m x.t)
    clear hx hm hc hM
    generalize strL (metaL x.k x.s x.m x.t) = S at PU hne
    go_enter Try.func53, Try.ntmps53
    go_wp2_with (go_at_call 49; refine (PU.out _).mono ?_; rintro e w1 ⟨rfl, h⟩; have B1 := Lib.hid h; have bx := BX.out w1 h; obtain ⟨c0, c1, c2, c3, _, _, _, _⟩ := four_cells bx; clear h bx)
    go_ret
    exact ⟨rfl, M0.out.trans B1.out⟩
  | false =>
    have hM : mayM x.k x.s x.m = false := hm
    have hc : chk x.k x.s x.m = 4 := by unfold chk; rw [hM]; rfl
    rw [hM, if_neg (by decide), hc] at PU
    rw [hc] at CH
    have hnil : (strL []).toList = [] := by kernel_rfl
    clear hx hm hc hM
    go_enter Try.func53, Try.ntmps53
    go_wp2_with (first
      | (go_at_call 47; refine (CH.out _).mono ?_; rintro e w2 ⟨rfl, h⟩; have B2 := Lib.hid h; clear h)
      | (go_at_call 49; refine (PU.out _).mono ?_; rintro e w1 ⟨rfl, h⟩; have B1 := Lib.hid h; have bx := BX.out w1 h; obtain ⟨c0, c1, c2, c3, _, _, _, _⟩ := four_cells bx; clear h bx))
    go_ret
    exact ⟨rfl, (M0.out.trans B1.out).trans B2.out⟩

theorem fails_any (L : List UInt8) (e : Int) (w : World) (hl : L.length ≤ 10000) (hV : cTV L = chV 0 0 0 0) (hE : cTE L = e) : Calls Try.prog 55 #[.string (strL L), .int .i64 e] w fun x w' => x = .returned (.bool true) ∧ Bl w w' := by
  have TK : Hid (∀ w, Calls Try.prog 43 #[.string (strL L)] w fun x w' => x = .returned (.tuple #[.agg #[.int .u8 0, .int .u64 0, .int .u8 0, .int .u64 0], .int .i64 e]) ∧ Bl w w') := Lib.hid (fun w => by
    have := ctake_any L w hl
    unfold CTakeP at this
    rw [hV, hE] at this
    exact this)
  clear hl hV hE
  go_enter Try.func55, Try.ntmps55
  go_wp2_with (go_at_call 43; refine (TK.out _).mono ?_; rintro e w1 ⟨rfl, h⟩; have B1 := Lib.hid h; clear h)
  go_ret
  exact ⟨rfl, B1.out.alloc _⟩
end Go.Proofs.Ytniblmpihnhglaa
