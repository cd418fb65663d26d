/- The contract of strings.ContainsAny at the two bytes 0 and '/': of any string. -/
import Derived.Test.YthafpbidfgmacaaDoorJ0
import Derived.Test.YthafpbidfgmacaaDoorK
import Derived.Laws.RangeAny
import Derived.Laws.Runes
import Derived.Deep.QuietTactic
import Derived.BigQuiet
import Derived.LoopTactic
import Derived.Deep.LoopGhost
import Derived.WalkSpells
import Derived.WalkLawsBesides
namespace Go.Proofs.YthafpbidfgmacaaDoor
open Go.RowKit Go.Proofs.YthafpbidfgmacaaDoorW.PrintWords Go.Proofs.YthafpbidfgmacaaDoorW.PrintLast Go.Proofs.YthafpbidfgmacaaDoorW.PrintMore
set_option linter.unusedVariables false

theorem iter_below (w : World) (s : ByteArray) (p : Nat) : Below w.heap.size w (w.iter s p) := below_alloc (Below.refl _ _) _
/-- Behind a rune that is no byte of ASCII, IndexRune finds nothing in "\x00/". -/
def NoRune (w : World) (e : Ending) (w' : World) : Prop := e = .returned (.int .i64 (-1)) ∧ Below w.heap.size w w'

set_option maxRecDepth 100000 in
set_option maxHeartbeats 1600000 in
theorem rune_bad (r : Int) (w : World) (h128 : 128 ≤ r) (hne : r ≠ 65533) (hv : Lib.validRune r = false) :
    Calls Tryd.prog 115 #[.string ⟨#[0, 47]⟩, .int .i32 r] w (NoRune w) := by
  have h1 : (r == 65533) = false := by rw [beq_eq_false_iff_ne]; exact hne
  have h2 : decide (r < 128) = false := decide_eq_false (by omega)
  have h3 : decide (0 ≤ r) = true := decide_eq_true (by omega)
  have VR := Lib.hid (fun w => Tryd.utf8_ValidRune r w)
  rw [hv] at VR
  clear hv hne
  go_enter Tryd.func115, Tryd.ntmps115
  go_wp2_with (go_at_call 121; refine (VR.out _).mono ?_; rintro e w' ⟨rfl, rfl⟩)
  go_ret
  exact ⟨rfl, Below.refl _ _⟩

set_option maxRecDepth 100000 in
set_option maxHeartbeats 1600000 in
theorem rune_three (r : Int) (w : World) (h128 : 128 ≤ r) (hne : r ≠ 65533) (hv : Lib.validRune r = true) (a b c : UInt8) (hs : Utf8.encode r = ⟨#[a, b, c]⟩) :
    Calls Tryd.prog 115 #[.string ⟨#[0, 47]⟩, .int .i32 r] w (NoRune w) := by
  have h1 : (r == 65533) = false := by rw [beq_eq_false_iff_ne]; exact hne
  have h2 : decide (r < 128) = false := decide_eq_false (by omega)
  have h3 : decide (0 ≤ r) = true := decide_eq_true (by omega)
  have VR := Lib.hid (fun w => Tryd.utf8_ValidRune r w)
  rw [hv] at VR
  have hsz : (⟨#[a, b, c]⟩ : ByteArray).size = 3 := rfl
  clear hv hne
  go_enter Tryd.func115, Tryd.ntmps115
  go_wp2_with (go_at_call 121; refine (VR.out _).mono ?_; rintro e w' ⟨rfl, rfl⟩)
  go_step3
  go_wp2_with fail
  go_loopg [9] 0 (fun g v9 wx => v9 = .int .i64 2 ∧ wx = w')
  case atStart => exact ⟨rfl, rfl⟩
  case round =>
    obtain ⟨rfl, rfl⟩ := hrel
    go_wp2_with fail
    rw [Exit.noGoto_ret]
    go_ret
    exact ⟨rfl, Below.refl _ _⟩
set_option maxRecDepth 100000 in
set_option maxHeartbeats 1600000 in
theorem rune_four (r : Int) (w : World) (h128 : 128 ≤ r) (hne : r ≠ 65533) (hv : Lib.validRune r = true) (a b c d : UInt8) (hs : Utf8.encode r = ⟨#[a, b, c, d]⟩) :
    Calls Tryd.prog 115 #[.string ⟨#[0, 47]⟩, .int .i32 r] w (NoRune w) := by
  have h1 : (r == 65533) = false := by rw [beq_eq_false_iff_ne]; exact hne
  have h2 : decide (r < 128) = false := decide_eq_false (by omega)
  have h3 : decide (0 ≤ r) = true := decide_eq_true (by omega)
  have VR := Lib.hid (fun w => Tryd.utf8_ValidRune r w)
  rw [hv] at VR
  have hsz : (⟨#[a, b, c, d]⟩ : ByteArray).size = 4 := rfl
  clear hv hne
  go_enter Tryd.func115, Tryd.ntmps115
  go_wp2_with (go_at_call 121; refine (VR.out _).mono ?_; rintro e w' ⟨rfl, rfl⟩)
  go_step3
  go_wp2_with fail
  go_loopg [9] 0 (fun g v9 wx => v9 = .int .i64 3 ∧ wx = w')
  case atStart => exact ⟨rfl, rfl⟩
  case round =>
    obtain ⟨rfl, rfl⟩ := hrel
    go_wp2_with fail
    rw [Exit.noGoto_ret]
    go_ret
    exact ⟨rfl, Below.refl _ _⟩
set_option maxRecDepth 100000 in
set_option maxHeartbeats 1600000 in
theorem rune_two (r : Int) (w : World) (h128 : 128 ≤ r) (hne : r ≠ 65533) (hv : Lib.validRune r = true) (a b : UInt8) (hs : Utf8.encode r = ⟨#[a, b]⟩) (hb : 128 ≤ b.toNat) :
    Calls Tryd.prog 115 #[.string ⟨#[0, 47]⟩, .int .i32 r] w (NoRune w) := by
  have h1 : (r == 65533) = false := by rw [beq_eq_false_iff_ne]; exact hne
  have h2 : decide (r < 128) = false := decide_eq_false (by omega)
  have h3 : decide (0 ≤ r) = true := decide_eq_true (by omega)
  have VR := Lib.hid (fun w => Tryd.utf8_ValidRune r w)
  rw [hv] at VR
  have hsz : (⟨#[a, b]⟩ : ByteArray).size = 2 := rfl
  have hb1 : ((47 : Int) != (b.toNat : Int)) = true := by rw [bne_iff_ne]; omega
  have hw2 : IntKind.i64.wrap ((1 : Int) + 1) = 2 := by decide +kernel
  have hex : (⟨#[0, 47]⟩ : ByteArray).extract 2 2 = ⟨#[]⟩ := by kernel_rfl
  have hi0 : ∀ h, (⟨#[0, 47]⟩ : ByteArray)[1]'h = 47 := fun _ => rfl
  have hi1 : ∀ h, (⟨#[a, b]⟩ : ByteArray)[1]'h = b := fun _ => rfl
  have IB : Hid (∀ w, Calls Tryd.prog 120 #[.string ⟨#[]⟩, .int .u8 b.toNat] w fun e w' => e = .returned (.int .i64 (-1)) ∧ w = w') := Lib.hid (fun w => (Tryd.strings_IndexByte ⟨#[]⟩ b.toNat w).mono fun _ _ h => ⟨h.1, h.2.symm⟩)
  clear hv hne
  go_enter Tryd.func115, Tryd.ntmps115
  go_wp2_with (go_at_call 121; refine (VR.out _).mono ?_; rintro e w' ⟨rfl, rfl⟩)
  go_step3
  go_wp2_with fail
  go_loopg [9] 0 (fun g v9 wx => v9 = .int .i64 1 ∧ wx = w')
  case atStart => exact ⟨rfl, rfl⟩
  case round =>
    obtain ⟨rfl, rfl⟩ := hrel
    go_wp2_with fail
    go_step3
    go_wp2_with fail
    go_quiet (fail)
    go_wp2_with fail
    generalize hW : wr.drewN nq = W1
    have HW := Lib.hid hW
    clear hW
    go_quiet ((go_at_call 120; exact quiet_pure IB.out))
    go_wp2_with fail
    rw [Exit.noGoto_ret]
    go_ret
    refine ⟨rfl, ?_⟩
    rw [← HW.out]
    exact below_drewN (below_drewN (Below.refl _ _) _) _

set_option maxRecDepth 100000 in
set_option maxHeartbeats 1600000 in
theorem rune_err (w : World) : Calls Tryd.prog 115 #[.string ⟨#[0, 47]⟩, .int .i32 65533] w (NoRune w) := by
  have n0 := fun ty => run_next_ascii (P := Tryd.prog) w ⟨#[0, 47]⟩ 0 ty (by decide) (by decide)
  have n1 := fun ty => run_next_ascii (P := Tryd.prog) w ⟨#[0, 47]⟩ 1 ty (by decide) (by decide)
  have n2 := fun ty => run_next_end (P := Tryd.prog) w ⟨#[0, 47]⟩ 2 ty (by decide)
  go_enter Tryd.func115, Tryd.ntmps115
  go_wp2_with fail
  go_loopg [5, 6] 2 (fun g _ _ wx => ∃ i : Nat, i + g = 2 ∧ wx = w.iter ⟨#[0, 47]⟩ i)
  case atStart => exact ⟨0, rfl, rfl⟩
  case round =>
    obtain ⟨i, hig, rfl⟩ := hrel
    rcases (by omega : i = 0 ∨ i = 1 ∨ i = 2) with rfl | rfl | rfl
    · obtain rfl : gk = 2 := by omega
      clear n1 n2
      go_wp2_with fail
      go_roundg 1
      case measure => omega
      case rel => exact ⟨1, rfl, rfl⟩
    · obtain rfl : gk = 1 := by omega
      clear n0 n2
      go_wp2_with fail
      go_roundg 0
      case measure => omega
      case rel => exact ⟨2, rfl, rfl⟩
    · clear n0 n1
      go_wp2_with fail
      go_ret
      exact ⟨rfl, iter_below _ _ _⟩
theorem rune_high (r : Int) (w : World) (h128 : 128 ≤ r) : Calls Tryd.prog 115 #[.string ⟨#[0, 47]⟩, .int .i32 r] w (NoRune w) := by
  by_cases he : r = 65533
  · subst he; exact rune_err w
  cases hv : Lib.validRune r with
  | false => exact rune_bad r w h128 he hv
  | true =>
    have hvu : Utf8.valid r = true := by
      unfold Lib.validRune at hv
      rw [decide_eq_true_eq] at hv
      unfold Utf8.valid
      simp
      omega
    obtain ⟨h2, h4, hl⟩ := encode_facts r hvu h128
    generalize hs : Utf8.encode r = s at h2 h4 hl
    obtain ⟨⟨l⟩⟩ := s
    match l, h2, h4, hl, hs with
    | [a, b], _, _, hl, hs => exact rune_two r w h128 he hv a b hs (hl (by show 1 < 2; omega))
    | [a, b, c], _, _, _, hs => exact rune_three r w h128 he hv a b c hs
    | [a, b, c, d], _, _, _, hs => exact rune_four r w h128 he hv a b c d hs
    | [], h2, _, _, _ => exact absurd h2 (by simp [ByteArray.size])
    | [a], h2, _, _, _ => exact absurd h2 (by simp [ByteArray.size])
    | a :: b :: c :: d :: e :: f, _, h4, _, _ => exact absurd h4 (by simp [ByteArray.size])
end Go.Proofs.YthafpbidfgmacaaDoor
