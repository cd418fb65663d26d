/- Walks of crc.step, Update, Sum and of the reference's step, Update, Sum: what each returns, as functions of numbers. -/
import Derived.Test.YtllnnokgjomfcaaDoorRows
import Derived.Test.YtllnnokgjomfcaaDoorC0
import Derived.Test.YtllnnokgjomfcaaDoorK
import Derived.WalkKit
import Derived.WalkSpells
import Derived.WalkLawsBesides
import Derived.Laws.BitsAll
import Derived.Outline
namespace Go.Proofs.YtllnnokgjomfcaaDoor
open Go.RowKit
set_option linter.unusedVariables false

/-- The table of four bits lies as its initialiser lays it. -/
def Fo (w : World) : Prop := 0 < w.heap.size ∧ ∀ i : Nat, i < 16 → w.cell? ⟨0, i, none⟩ = some (.int .u32 (four.getD i 0 : Nat))
theorem Fo.bl {w w' : World} (h : Fo w) (hb : Bl w w') : Fo w' :=
  ⟨Nat.lt_of_lt_of_le h.1 hb.size, fun i hi => by rw [hb.cell h.1]; exact h.2 i hi⟩
theorem Fo.alloc {w : World} (h : Fo w) (o : Obj) : Fo (w.alloc o) := h.bl ((Bl.refl w).alloc o)

theorem xor32 (a b : Nat) (ha : a < 4294967296) (hb : b < 4294967296) : bits .xor .u32 (a : Int) (b : Int) = ((a ^^^ b : Nat) : Int) := u32_xor_nat a b ha hb
theorem and15 (a : Nat) (ha : a < 4294967296) : bits .and .u32 (a : Int) 15 = ((a % 16 : Nat) : Int) := by
  have := u32_and_nat a 15 ha (by omega)
  rw [nat_mask4] at this; exact this

set_option maxHeartbeats 400000 in
theorem step_walk (c b c1 k1 v1 c2 k2 v2 c3 : Nat) (w : World) (h1 : bits .xor .u32 (c : Int) ((b : Int) % 4294967296) = (c1 : Int)) (h2 : bits .and .u32 (c1 : Int) 15 = (k1 : Int)) (l1 : k1 < 16)
    (g1 : w.cell? ⟨0, k1, none⟩ = some (.int .u32 (v1 : Nat))) (h3 : bits .xor .u32 ((c1 : Int) / 16) (v1 : Int) = (c2 : Int)) (h4 : bits .and .u32 (c2 : Int) 15 = (k2 : Int)) (l2 : k2 < 16)
    (g2 : w.cell? ⟨0, k2, none⟩ = some (.int .u32 (v2 : Nat))) (h5 : bits .xor .u32 ((c2 : Int) / 16) (v2 : Int) = (c3 : Int)) :
    Calls Tryd.prog 17 #[.int .u32 c, .int .u8 b] w fun e w' => e = .returned (.int .u32 c3) ∧ w = w' := by
  go_enter Tryd.func17, Tryd.ntmps17
  go_wp2
  go_ret
  exact ⟨rfl, rfl⟩

theorem step_any (c b : Nat) (w : World) (hc : c < 4294967296) (hb : b < 256) (hw : Fo w) :
    Calls Tryd.prog 17 #[.int .u32 c, .int .u8 b] w fun e w' => e = .returned (.int .u32 (stepN c b : Nat)) ∧ w = w' := by
  have l1 : c ^^^ b < 4294967296 := Nat.xor_lt_two_pow (n := 32) hc (by omega)
  have l2 := nib_lt l1
  have e0 : ((b : Int) % 4294967296) = (b : Int) := by omega
  have f (x : Nat) (hx : x < 4294967296) : bits .xor .u32 ((x : Int) / 16) ((four.getD (x % 16) 0 : Nat) : Int) = ((nib x : Nat) : Int) := by
    have e : ((x : Int) / 16) = ((x / 16 : Nat) : Int) := by omega
    have hl : four.getD (x % 16) 0 < 4294967296 := by rw [four_eq _ (Nat.mod_lt _ (by omega))]; exact bsN_lt 4 (by omega)
    rw [e, xor32 _ _ (by omega) hl]; rfl
  have := step_walk c b (c ^^^ b) ((c ^^^ b) % 16) (four.getD ((c ^^^ b) % 16) 0) (nib (c ^^^ b)) (nib (c ^^^ b) % 16) (four.getD (nib (c ^^^ b) % 16) 0) (nib (nib (c ^^^ b))) w
    (by rw [e0, xor32 c b hc (by omega)]) (and15 _ l1) (Nat.mod_lt _ (by omega)) (hw.2 _ (Nat.mod_lt _ (by omega))) (f _ l1) (and15 _ l2) (Nat.mod_lt _ (by omega)) (hw.2 _ (Nat.mod_lt _ (by omega))) (f _ l2)
  rw [step_nib] at this
  exact this

theorem not32 (c : Nat) (hc : c < 4294967296) : bits .xor .u32 IntKind.u32.max (c : Int) = ((turn c : Nat) : Int) := by
  rw [show IntKind.u32.max = ((4294967295 : Nat) : Int) from by decide +kernel, xor32 _ _ (by omega) hc, Nat.xor_comm]; rfl
theorem take_snoc (s : ByteArray) (k : Nat) (h : k < s.size) : s.data.toList.take (k + 1) = s.data.toList.take k ++ [s[k]] := by
  rw [List.take_succ_eq_append_getElem (by simpa using h)]; rfl
theorem run_take (c : Nat) (s : ByteArray) (k : Nat) (h : k < s.size) : run c (s.data.toList.take (k + 1)) = stepN (run c (s.data.toList.take k)) s[k].toNat := by
  rw [take_snoc s k h, run_snoc]
theorem take_all (s : ByteArray) (k : Nat) (h : s.size ≤ k) : s.data.toList.take k = s.data.toList := List.take_of_length_le (by simpa using h)

set_option maxHeartbeats 400000 in
theorem update_any (c : Nat) (s : ByteArray) (w : World) (hc : c < 4294967296) (hs : s.size ≤ 140737488351232) (hw : Fo w) :
    Calls Tryd.prog 12 #[.int .u32 c, .string s] w fun e w' => e = .returned (.int .u32 (upd c s.data.toList : Nat)) ∧ w = w' := by
  have hn := not32 c hc
  have l1 := turn_lt hc
  have hfin : ∀ x : Nat, x < 4294967296 → bits .xor .u32 IntKind.u32.max (x : Int) = ((turn x : Nat) : Int) := fun x hx => not32 x hx
  have Hfin := Lib.hid hfin
  clear hfin
  generalize ht : turn c = c1 at *
  have Ht := Lib.hid ht
  clear ht
  go_enter Tryd.func12, Tryd.ntmps12
  go_wp2_with fail
  go_loop [0, 10] (fun v i => ∃ k : Nat, k ≤ s.size ∧ i = .int .i64 k ∧ v = .int .u32 (run c1 (s.data.toList.take k) : Nat)) (fun _ i => s.size - (intOf i).toNat)
  case atStart => exact ⟨0, Nat.zero_le _, rfl, rfl⟩
  case round =>
    obtain ⟨k, hk, rfl, rfl⟩ := hrel
    have hl := run_lt (s.data.toList.take k) l1
    by_cases hlt : k < s.size
    · have HS := Lib.hid (run_take c1 s k hlt)
      have hb := s[k].toNat_lt
      go_wp2_with (go_at_call 17; refine (step_any _ _ _ hl hb hw).mono ?_; rintro e w' ⟨rfl, rfl⟩)
      go_round
      case rel => exact ⟨k + 1, by omega, by go_num, by rw [HS.out]⟩
      case measure => simp [intOf]; omega
    · have hq := Hfin.out _ hl
      go_wp2_with fail
      go_ret
      refine ⟨ret_int ?_, rfl⟩
      rw [take_all s k (by omega), ← Ht.out]; rfl

set_option maxHeartbeats 400000 in
theorem sum_any (s : ByteArray) (w : World) (hs : s.size ≤ 140737488351232) (hw : Fo w) :
    Calls Tryd.prog 10 #[.string s] w fun e w' => e = .returned (.int .u32 (upd 0 s.data.toList : Nat)) ∧ w = w' := by
  have h := fun w hw => update_any 0 s w (by omega) hs hw
  have H := Lib.hid h
  clear h
  go_enter Tryd.func10, Tryd.ntmps10
  go_wp2_with (go_at_call 12; refine (H.out _ hw).mono ?_; rintro e w' ⟨rfl, rfl⟩)
  go_ret
  exact ⟨rfl, rfl⟩

set_option maxHeartbeats 400000 in
theorem rturned_any (c : Nat) (w : World) (hc : c < 4294967296) : Calls Tryd.prog 18 #[.int .u32 c] w fun e w' => e = .returned (.int .u32 (turn c : Nat)) ∧ w = w' := by
  have h : bits .xor .u32 (c : Int) 4294967295 = ((turn c : Nat) : Int) := xor32 c 4294967295 hc (by omega)
  go_enter Tryd.func18, Tryd.ntmps18
  go_wp2
  go_ret
  exact ⟨rfl, rfl⟩

theorem bs_cases (c : Nat) (hc : c < 4294967296) : (c % 2 = 1 ∧ bits .xor .u32 ((c : Int) / 2) 2197175160 = ((bs c : Nat) : Int)) ∨ (c % 2 = 0 ∧ ((c : Int) / 2) = ((bs c : Nat) : Int)) := by
  have e : ((c : Int) / 2) = ((c / 2 : Nat) : Int) := by omega
  by_cases h : c % 2 = 1
  · refine .inl ⟨h, ?_⟩
    rw [e]
    have := xor32 (c / 2) 2197175160 (by omega) (by omega)
    rw [show bs c = c / 2 ^^^ 2197175160 from by unfold bs; rw [if_pos h]]
    exact this
  · refine .inr ⟨by omega, ?_⟩
    rw [e, show bs c = c / 2 from by unfold bs; rw [if_neg h, Nat.xor_zero]]

theorem bsN_last (k c : Nat) : bsN (k + 1) c = bs (bsN k c) := bsN_add k 1 c

set_option maxHeartbeats 400000 in
theorem rstep_any (c b : Nat) (w : World) (hc : c < 4294967296) (hb : b < 256) : Calls Tryd.prog 19 #[.int .u32 c, .int .u8 b] w fun e w' => e = .returned (.int .u32 (stepN c b : Nat)) ∧ w = w' := by
  have l1 : c ^^^ b < 4294967296 := Nat.xor_lt_two_pow (n := 32) hc (by omega)
  have h1 : bits .xor .u32 (c : Int) (b : Int) = ((c ^^^ b : Nat) : Int) := xor32 c b hc (by omega)
  have Hs : Hid (bsN 8 (c ^^^ b) = stepN c b) := Lib.hid rfl
  generalize c ^^^ b = c1 at *
  go_enter Tryd.func19, Tryd.ntmps19
  go_wp2_with fail
  go_loop [0, 5] (fun v i => ∃ k : Nat, k ≤ 8 ∧ i = .int .i64 k ∧ v = .int .u32 (bsN k c1 : Nat)) (fun _ i => 8 - (intOf i).toNat)
  case atStart => exact ⟨0, Nat.zero_le _, rfl, rfl⟩
  case round =>
    obtain ⟨k, hk, rfl, rfl⟩ := hrel
    have hl := bsN_lt k l1
    have HS := Lib.hid (bsN_last k c1)
    have hx0 : Hid (∃ x, bsN k c1 = x) := ⟨_, rfl⟩
    obtain ⟨x, hx0⟩ := hx0
    rw [hx0] at hl HS ⊢
    have HX := Lib.hid hx0
    clear hx0
    by_cases hlt : k < 8
    · rcases bs_cases x hl with ⟨o, hx⟩ | ⟨o, hx⟩
      · have ho : ((x : Int) % 2 == 1) = true := by rw [beq_iff_eq]; omega
        have O := Lib.hid o
        clear o
        go_wp2
        go_round
        case rel => exact ⟨k + 1, by omega, by go_num, by rw [HS.out]⟩
        case measure => simp [intOf]; omega
      · have ho : ((x : Int) % 2 == 1) = false := by rw [beq_eq_false_iff_ne]; omega
        have O := Lib.hid o
        clear o
        go_wp2
        go_round
        case rel => exact ⟨k + 1, by omega, by go_num, by rw [HS.out]⟩
        case measure => simp [intOf]; omega
    · go_wp2_with fail
      go_ret
      refine ⟨ret_int ?_, rfl⟩
      rw [← HX.out, show k = 8 from by omega, Hs.out]

set_option maxHeartbeats 400000 in
theorem rupdate_any (c : Nat) (s : ByteArray) (w : World) (hc : c < 4294967296) (hs : s.size ≤ 140737488351232) :
    Calls Tryd.prog 13 #[.int .u32 c, .string s] w fun e w' => e = .returned (.int .u32 (upd c s.data.toList : Nat)) ∧ w = w' := by
  have l1 := turn_lt hc
  have hu : upd c s.data.toList = turn (run (turn c) s.data.toList) := rfl
  have Hu := Lib.hid hu
  clear hu
  go_enter Tryd.func13, Tryd.ntmps13
  go_wp2_with (go_at_call 18; refine (rturned_any _ _ hc).mono ?_; rintro e w' ⟨rfl, rfl⟩)
  generalize turn c = c1 at *
  go_loop [0, 5] (fun v i => ∃ k : Nat, k ≤ s.size ∧ i = .int .i64 k ∧ v = .int .u32 (run c1 (s.data.toList.take k) : Nat)) (fun _ i => s.size - (intOf i).toNat)
  case atStart => exact ⟨0, Nat.zero_le _, rfl, rfl⟩
  case round =>
    obtain ⟨k, hk, rfl, rfl⟩ := hrel
    have hl := run_lt (s.data.toList.take k) l1
    by_cases hlt : k < s.size
    · have HS := Lib.hid (run_take c1 s k hlt)
      have hb := s[k].toNat_lt
      go_wp2_with (go_at_call 19; refine (rstep_any _ _ _ hl hb).mono ?_; rintro e w' ⟨rfl, rfl⟩)
      go_round
      case rel => exact ⟨k + 1, by omega, by go_num, by rw [HS.out]⟩
      case measure => simp [intOf]; omega
    · go_wp2_with (go_at_call 18; refine (rturned_any _ _ hl).mono ?_; rintro e w' ⟨rfl, rfl⟩)
      go_ret
      refine ⟨ret_int ?_, rfl⟩
      rw [take_all s k (by omega), Hu.out]
set_option maxHeartbeats 400000 in
theorem rsum_any (s : ByteArray) (w : World) (hs : s.size ≤ 140737488351232) :
    Calls Tryd.prog 11 #[.string s] w fun e w' => e = .returned (.int .u32 (upd 0 s.data.toList : Nat)) ∧ w = w' := by
  have H := Lib.hid (fun w => rupdate_any 0 s w (by omega) hs)
  go_enter Tryd.func11, Tryd.ntmps11
  go_wp2_with (go_at_call 13; refine (H.out _).mono ?_; rintro e w' ⟨rfl, rfl⟩)
  go_ret
  exact ⟨rfl, rfl⟩
end Go.Proofs.YtllnnokgjomfcaaDoor
