/- Walks of the reference's reader of layer 3. -/
import Derived.Test.YtniblmpihnhglaaD3
import Derived.IntWalk
namespace Go.Proofs.Ytniblmpihnhglaa
open Go.RowKit
set_option linter.unusedVariables false

theorem rr_c0 {q : Nat} {S : List UInt8} {a : Nat} {b : Bool} {w : World} (h : w.heap[q]? = some (.cells #[.string (strL S), .int .i64 a, .bool b] 46 (0, 0))) : w.cell? ⟨q, 0, none⟩ = some (.string (strL S)) := by rw [cell_of_row _ _ _ _ _ _ h]; rfl
theorem rr_c1 {q : Nat} {S : List UInt8} {a : Nat} {b : Bool} {w : World} (h : w.heap[q]? = some (.cells #[.string (strL S), .int .i64 a, .bool b] 46 (0, 0))) : w.cell? ⟨q, 1, none⟩ = some (.int .i64 a) := by rw [cell_of_row _ _ _ _ _ _ h]; rfl
theorem rr_c2 {q : Nat} {S : List UInt8} {a : Nat} {b : Bool} {w : World} (h : w.heap[q]? = some (.cells #[.string (strL S), .int .i64 a, .bool b] 46 (0, 0))) : w.cell? ⟨q, 2, none⟩ = some (.bool b) := by rw [cell_of_row _ _ _ _ _ _ h]; rfl

theorem strL_mid (S : List UInt8) (a k : Nat) : (strL S).extract a (a + k) = strL ((S.drop a).take k) := by
  unfold strL
  apply ByteArray.ext
  simp [ByteArray.data_extract]

set_option maxHeartbeats 800000 in
theorem rr_fixed_go (q : Nat) (S : List UInt8) (a k b : Nat) (w : World) (hS : S.length ≤ 140737488351232) (hb : b = a + k) (hk : 0 < k) (hle : b ≤ S.length)
    (hr : w.heap[q]? = some (.cells #[.string (strL S), .int .i64 a, .bool false] 46 (0, 0))) :
    Calls Try.prog 61 #[.pointer (some ⟨q, 0, none⟩), .int .i64 k] w fun x w' => x = .returned (.string ((strL S).extract a b)) ∧ w'.heap[q]? = some (.cells #[.string (strL S), .int .i64 b, .bool false] 46 (0, 0)) ∧ Only q w w' := by
  have c0 := rr_c0 hr
  have c1 := rr_c1 hr
  have c2 := rr_c2 hr
  have f1 : w.frozen? ⟨q, 1, none⟩ = false := frozen_of_row _ _ _ _ _ hr
  have HR := Lib.hid hr
  clear hr
  have hsz := strL_size S
  have e1 : IntKind.i64.wrap ((S.length : Int) - (a : Int)) = ((S.length - a : Nat) : Int) := by rw [IntWalk.i64_in _ (by omega)]; omega
  have E1 := Lib.hid e1
  have E2 : Hid ((a : Int) + (k : Int) = (b : Int)) := Lib.hid (by omega)
  have E3 : Hid (IntKind.i64.wrap ((b : Int) - (k : Int)) = (a : Int)) := Lib.hid (by rw [IntWalk.i64_in _ (by omega)]; omega)
  have l1 : k ≤ S.length - a := by omega
  have l2 : a ≤ b := by omega
  have l3 : a + k ≤ 140737488351232 := by omega
  have HB := Lib.hid hb
  clear hb e1
  generalize hn : S.length - a = m at *
  have HN := Lib.hid hn
  clear hn
  go_enter Try.func61, Try.ntmps61
  go_wp2_with fail
  have e1 := E1.out
  go_quiet (fail)
  clear e1
  go_wp2_with fail
  rw [E2.out]
  have e3 := E3.out
  go_quiet (fail)
  clear e3
  go_wp2_with fail
  go_ret
  refine ⟨rfl, ?_, only_drewN (only_set (only_drewN (only_refl q w) _) 1 _) _⟩
  show ((w.drewN _).setCell _ _).heap[q]? = _
  rw [heap_setCell_same _ _ _ _ _ _ (show (w.drewN _).heap[q]? = _ from HR.out)]
  rfl

set_option maxHeartbeats 800000 in
theorem rr_fixed_torn (q : Nat) (S : List UInt8) (a : Nat) (n : Int) (w : World) (hS : S.length ≤ 140737488351232) (hb : a ≤ S.length) (hk : 0 < n) (hle : (S.length : Int) - a < n)
    (hr : w.heap[q]? = some (.cells #[.string (strL S), .int .i64 a, .bool false] 46 (0, 0))) :
    Calls Try.prog 61 #[.pointer (some ⟨q, 0, none⟩), .int .i64 n] w fun x w' => x = .returned (.string ⟨#[]⟩) ∧ w'.heap[q]? = some (.cells #[.string (strL S), .int .i64 a, .bool true] 46 (0, 0)) ∧ Only q w w' := by
  have c0 := rr_c0 hr
  have c1 := rr_c1 hr
  have c2 := rr_c2 hr
  have f2 : w.frozen? ⟨q, 2, none⟩ = false := frozen_of_row _ _ _ _ _ hr
  have HR := Lib.hid hr
  clear hr
  have hsz := strL_size S
  have E1 : Hid (IntKind.i64.wrap ((S.length : Int) - (a : Int)) = ((S.length - a : Nat) : Int)) := Lib.hid (by rw [IntWalk.i64_in _ (by omega)]; omega)
  have l1 : ((S.length - a : Nat) : Int) < n := by omega
  clear hle
  generalize S.length - a = m at *
  go_enter Try.func61, Try.ntmps61
  go_wp2_with fail
  have e1 := E1.out
  go_quiet (fail)
  clear e1
  go_wp2_with fail
  go_ret
  refine ⟨rfl, ?_, only_set (only_drewN (only_refl q w) _) 2 _⟩
  show ((w.drewN _).setCell _ _).heap[q]? = _
  rw [heap_setCell_same _ _ _ _ _ _ (show (w.drewN _).heap[q]? = _ from HR.out)]
  rfl
set_option maxHeartbeats 800000 in
theorem rr_fixed_none (q : Nat) (S : List UInt8) (a : Nat) (b : Bool) (n : Int) (w : World) (hk : b = true ∨ n ≤ 0)
    (hr : w.heap[q]? = some (.cells #[.string (strL S), .int .i64 a, .bool b] 46 (0, 0))) :
    Calls Try.prog 61 #[.pointer (some ⟨q, 0, none⟩), .int .i64 n] w fun x w' => x = .returned (.string ⟨#[]⟩) ∧ w = w' := by
  have c2 := rr_c2 hr
  clear hr
  cases b
  · have hn : n ≤ 0 := by rcases hk with h | h; (cases h); exact h
    clear hk
    go_enter Try.func61, Try.ntmps61
    go_wp2_with fail
    go_ret
    exact ⟨rfl, rfl⟩
  · clear hk
    go_enter Try.func61, Try.ntmps61
    go_wp2_with fail
    go_ret
    exact ⟨rfl, rfl⟩

theorem rr_fixed (q : Nat) (S L : List UInt8) (e n : Int) (w : World) (hS : S.length ≤ 140737488351232) (hr : Rr q S L e w) :
    Calls Try.prog 61 #[.pointer (some ⟨q, 0, none⟩), .int .i64 n] w fun x w' => RFixP q S L e n w x w' := by
  obtain ⟨a, hh, ha, hs⟩ := hr
  have hnil : (⟨#[]⟩ : ByteArray) = strL [] := rfl
  rcases hs with ⟨rfl, rfl⟩ | ⟨rfl, rfl⟩
  · by_cases hn : 0 < n
    · by_cases hb : n ≤ ((S.drop a).length : Int)
      · obtain ⟨k, rfl⟩ := Int.eq_ofNat_of_zero_le (by omega : 0 ≤ n)
        have hk : k ≤ S.length - a := by rw [List.length_drop] at hb; omega
        refine (rr_fixed_go q S a k (a + k) w hS rfl (by omega) (by omega) hh).mono fun x w' ⟨h1, h2, h3⟩ => ⟨?_, ?_, h3⟩
        · rw [h1, strL_mid]; unfold fixO; rw [if_pos ⟨rfl, hn, hb⟩, Int.toNat_natCast]
        · have e1 : fixE (S.drop a) 0 k = 0 := by unfold fixE; rw [if_neg (by omega)]
          have e2 : fixL (S.drop a) 0 k = S.drop (a + k) := by unfold fixL; rw [if_pos ⟨rfl, hn⟩, if_pos hb, Int.toNat_natCast, List.drop_drop]
          rw [e1, e2]
          exact ⟨a + k, h2, by omega, .inl ⟨rfl, rfl⟩⟩
      · have hb' : (S.length : Int) - a < n := by rw [List.length_drop] at hb; omega
        refine (rr_fixed_torn q S a n w hS ha hn hb' hh).mono fun x w' ⟨h1, h2, h3⟩ => ⟨?_, ?_, h3⟩
        · rw [h1, hnil]; unfold fixO; rw [if_neg (fun h => hb h.2.2)]
        · have e1 : fixE (S.drop a) 0 n = 10 := by unfold fixE; rw [if_pos ⟨rfl, hn, by omega⟩]
          have e2 : fixL (S.drop a) 0 n = [] := by unfold fixL; rw [if_pos ⟨rfl, hn⟩, if_neg hb]
          rw [e1, e2]
          exact ⟨a, h2, ha, .inr ⟨rfl, rfl⟩⟩
    · refine (rr_fixed_none q S a false n w (.inr (by omega)) hh).mono fun x w' ⟨h1, h2⟩ => ⟨?_, ?_, by rw [← h2]; exact only_refl q w⟩
      · rw [h1, hnil]; unfold fixO; rw [if_neg (fun h => hn h.2.1)]
      · have e1 : fixE (S.drop a) 0 n = 0 := by unfold fixE; rw [if_neg (fun h => hn h.2.1)]
        have e2 : fixL (S.drop a) 0 n = S.drop a := by unfold fixL; rw [if_neg (fun h => hn h.2)]
        rw [e1, e2, ← h2]
        exact ⟨a, hh, ha, .inl ⟨rfl, rfl⟩⟩
  · refine (rr_fixed_none q S a true n w (.inl rfl) hh).mono fun x w' ⟨h1, h2⟩ => ⟨?_, ?_, by rw [← h2]; exact only_refl q w⟩
    · rw [h1, hnil]; unfold fixO; rw [if_neg (fun h => absurd h.1 (by omega))]
    · have e1 : fixE [] 10 n = 10 := by unfold fixE; rw [if_neg (fun h => absurd h.1 (by omega))]
      have e2 : fixL [] 10 n = [] := by unfold fixL; rw [if_neg (fun h => absurd h.1 (by omega))]
      rw [e1, e2, ← h2]
      exact ⟨a, hh, ha, .inr ⟨rfl, rfl⟩⟩

def RNumP (q : Nat) (S L : List UInt8) (e : Int) (width : Nat) (w : World) (x : Ending) (w' : World) : Prop :=
  x = .returned (.int .u64 (beN (fixO L e width) : Nat)) ∧ Rr q S (fixL L e width) (fixE L e width) w' ∧ Only q w w'
theorem mul_byte (x b : Nat) (hx : x < 72057594037927936) : IntKind.u64.wrap ((x : Int) * 256) = (x : Int) * 256 := by rw [IntKind.wrap_u64]; omega

set_option maxHeartbeats 800000 in
theorem rr_number (q : Nat) (S L : List UInt8) (e : Int) (width : Nat) (w : World) (hw : width ≤ 8) (hS : S.length ≤ 140737488351232) (hr : Rr q S L e w) :
    Calls Try.prog 60 #[.pointer (some ⟨q, 0, none⟩), .int .i64 width] w fun x w' => RNumP q S L e width w x w' := by
  have F1 := Lib.hid (rr_fixed q S L e width w hS hr)
  have ho : (fixO L e width).length ≤ 8 := fixO_length L e width 8 (by omega)
  clear hr hS hw
  have hG : Hid (∀ x w', x = Ending.returned (.int .u64 (beN (fixO L e width) : Nat)) → Rr q S (fixL L e width) (fixE L e width) w' → Only q w w' → RNumP q S L e width w x w') := fun x w' h1 h2 h3 => ⟨h1, h2, h3⟩
  unfold RFixP at F1
  generalize hO : fixO L e width = O at *
  generalize fixL L e width = L2 at *
  generalize fixE L e width = e2 at *
  clear hO
  have hsz := strL_size O
  go_enter Try.func60, Try.ntmps60
  go_wp2_with (go_at_call 61; refine F1.out.mono ?_; rintro e w1 ⟨rfl, hrd, hon⟩; have HRD := Lib.hid hrd; have HON := Lib.hid hon; clear hrd hon)
  go_loop [6, 7] (fun v6 v13 => ∃ k : Nat, k ≤ O.length ∧ v13 = .int .i64 k ∧ v6 = .int .u64 (beN (O.take k) : Nat)) (fun _ v => O.length - (intOf v).toNat)
  case atStart => exact ⟨0, by omega, rfl, rfl⟩
  case round =>
    obtain ⟨k, hk, rfl, rfl⟩ := hrel
    by_cases hlt : k < O.length
    · obtain ⟨b, hb⟩ : ∃ b, O[k]? = some b := ⟨_, List.getElem?_eq_getElem hlt⟩
      have hx : beN (O.take k) < 72057594037927936 := beN_take_lt O k 7 (by omega)
      have hbl := b.toNat_lt
      have HS := Lib.hid (beN_take O k b hb)
      have hget : ∀ h, (strL O)[k]'h = b := fun h => strL_get O k b hb h
      clear hb
      generalize beN (O.take k) = x at *
      go_wp2_with fail
      go_round
      case rel => exact ⟨k + 1, by omega, by go_num, by rw [HS.out]; go_num⟩
      case measure => simp [intOf]; omega
    · have hall : O.take k = O := List.take_of_length_le (by omega)
      rw [hall]
      have HG := Lib.hid (hG.out _ w1 rfl HRD.out HON.out)
      clear hG hall
      generalize beN O = x at *
      go_wp2_with fail
      go_ret
      exact HG.out
end Go.Proofs.Ytniblmpihnhglaa
