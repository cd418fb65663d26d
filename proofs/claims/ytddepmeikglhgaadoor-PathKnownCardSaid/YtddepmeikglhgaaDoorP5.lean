/- path.Move, as the print program would have printed it; whether a path is the same, or above. -/
import Derived.Test.YtddepmeikglhgaaDoorP3
import Derived.Test.YtddepmeikglhgaaDoorRB
namespace Go.Proofs.YtddepmeikglhgaaDoor.Q
open Go.RowKit Go.Proofs.YtddepmeikglhgaaDoorW.PrintWords Go.Proofs.YtddepmeikglhgaaDoorW.PrintLast Go.Proofs.YtddepmeikglhgaaDoorW.PrintMore
set_option linter.unusedVariables false

theorem wrap_small {i : Int} (h0 : -9223372036854775808 ≤ i) (h : i < 9223372036854775808) : wrap64 i = i := by unfold wrap64; omega
theorem rd_nat (l : List ByteArray) (i : Nat) (x : ByteArray) (h : l[i]? = some x) : rdOf ByteArray.empty l (i : Int) = x := by
  unfold rdOf
  have e : ((i : Int)).toNat = i := by omega
  rw [e, List.getD_eq_getElem?_getD, h]
  rfl
theorem tl (s : ByteArray) : s.toList = s.data.toList := Lib.toList_data s
theorem tl_inj {a b : ByteArray} : a.toList = b.toList ↔ a = b := ⟨fun h => WideShapes.bytes_inj (by rw [← tl, ← tl, h]), fun h => by rw [h]⟩
theorem equal_loop (a b : List ByteArray) (hab : a.length = b.length) (hs : a.length ≤ 1000000) : ∀ (d k i : Nat), i ≤ a.length → a.length - i = d → d < k → slices_Equal_string_string.l0 k a b (a.length : Int) (i : Int) = some (decide (a.drop i = b.drop i)) := by
  intro d
  induction d with
  | zero =>
    intro k i h1 hd hk
    obtain ⟨k, rfl⟩ : ∃ m, k = m + 1 := ⟨k - 1, by omega⟩
    simp only [slices_Equal_string_string.l0]
    rw [if_neg (by omega), List.drop_of_length_le (by omega), List.drop_of_length_le (by omega)]
    rfl
  | succ d ih =>
    intro k i h1 hd hk
    obtain ⟨k, rfl⟩ : ∃ m, k = m + 1 := ⟨k - 1, by omega⟩
    have hl : i < a.length := by omega
    have hl2 : i < b.length := by omega
    have hn := ih k (i + 1) (by omega) (by omega) (by omega)
    rw [show ((i + 1 : Nat) : Int) = (i : Int) + 1 from by omega] at hn
    simp only [slices_Equal_string_string.l0]
    rw [if_pos (by omega), if_pos (by omega), if_pos (by omega), if_pos (by omega), rd_nat a i a[i] (List.getElem?_eq_getElem hl), rd_nat b i b[i] (List.getElem?_eq_getElem hl2), wrap_small (by omega) (by omega), hn]
    rw [List.drop_eq_getElem_cons hl, List.drop_eq_getElem_cons hl2]
    generalize a[i] = u
    generalize b[i] = v
    generalize a.drop (i + 1) = x
    generalize b.drop (i + 1) = y
    by_cases he : u = v
    · rw [if_pos (by rw [he]), he]
      simp only [List.cons.injEq, true_and]
    · rw [if_neg (by rw [tl_inj]; exact he)]
      simp [he]
/-- Is a path the same, or above? -/
def withinB (a b : List ByteArray) : Bool := decide (a = b.take a.length)
theorem within_is (a b : List ByteArray) (ha : a.length ≤ 1000000) (k : Nat) (hk : a.length < k) : path_Within.f k a b = some (withinB a b) := by
  unfold path_Within.f withinB
  by_cases h : (a.length : Int) ≤ (b.length : Int)
  · rw [if_pos h, if_pos (by omega), Int.toNat_natCast]
    unfold slices_Equal_string_string.f
    have hl : a.length = (b.take a.length).length := by rw [List.length_take]; omega
    rw [if_pos (by omega)]
    have := equal_loop a (b.take a.length) hl ha a.length k 0 (by omega) (by omega) hk
    rw [List.drop_zero, List.drop_zero] at this
    rw [show ((0 : Nat) : Int) = 0 from rfl] at this
    rw [this]
    rfl
  · rw [if_neg h]
    have : ¬ a = b.take a.length := by
      intro e
      have hl := congrArg List.length e
      rw [List.length_take] at hl
      omega
    rw [decide_eq_false this]
def moveF (l fr dt : List ByteArray) : Option (List ByteArray) :=
  if l.length ≤ 1000000 ∧ fr.length ≤ 1000000 ∧ dt.length ≤ 1000000 then some (if withinB fr l = true then dt ++ l.drop fr.length else l) else none
set_option maxHeartbeats 4000000 in
theorem move_calls (A0 : Option Addr) (c0 : Nat) (l0 : List ByteArray) (A1 : Option Addr) (c1 : Nat) (l1 : List ByteArray) (A2 : Option Addr) (c2 : Nat) (l2 : List ByteArray) (r : List ByteArray) (w : World) (hr0 : Kd.C Kd.string w A0 l0.length l0) (hc0 : l0.length ≤ c0) (hr1 : Kd.C Kd.string w A1 l1.length l1) (hc1 : l1.length ≤ c1) (hr2 : Kd.C Kd.string w A2 l2.length l2) (hc2 : l2.length ≤ c2) (h : moveF l0 l1 l2 = some r) :
    Calls Tryd.prog 21 #[.slice A0 l0.length c0, .slice A1 l1.length c1, .slice A2 l2.length c2] w fun e w' => ∃ v0_ : Value, e = .returned (v0_) ∧ Kd.R Kd.string 9 w' w.heap.size (fun _ => True) v0_ r ∧ Below w.heap.size w w' := by
  unfold moveF at h
  split at h
  · rename_i hb
    obtain ⟨b0, b1, b2⟩ := hb
    have hw := path_Within.calls (l1.length + 1) A1 c1 l1 A0 c0 l0 (withinB l1 l0) w hr1 hc1 hr0 hc0 (within_is l1 l0 b1 _ (by omega))
    have HW := Lib.hid hw
    clear hw
    cases hwi : withinB l1 l0 with
    | false =>
      rw [hwi, if_neg (by decide)] at h
      cases h
      rw [hwi] at HW
      have HC := Lib.hid (fun n => clone_calls A0 c0 l0 l0 (w.drewN n) (Kd.C_below hr0 (pw_below_drewN (Below.refl _ _) n)) hc0 (by unfold cloneF; rw [if_pos (by omega)]))
      clear hr0 hr1 hr2 hwi hc0 hc1 hc2
      go_enter Tryd.func21, Tryd.ntmps21
      go_wp2_with (first | (go_at_call 20; refine HW.out.mono ?_; rintro e w' ⟨rfl, ⟨n, rfl⟩⟩) | (go_at_call 39; refine (HC.out _).mono ?_; rintro e w1 ⟨v, rfl, hR, hB⟩))
      go_ret
      exact ⟨_, rfl, hR, below_then (pw_below_drewN (Below.refl _ _) _) (Nat.le_refl _) hB⟩
    | true =>
      rw [hwi, if_pos (by decide)] at h
      cases h
      rw [hwi] at HW
      have hle : l1.length ≤ l0.length := by
        unfold withinB at hwi
        have e := congrArg List.length (of_decide_eq_true hwi)
        rw [List.length_take] at e
        omega
      obtain ⟨i0, hi0, _, hsz, _⟩ := info_parts info9
      obtain ⟨A', hcut, hA⟩ := print_cut_of (P := Tryd.prog) Value.string (⟨#[]⟩ : ByteArray) 23 9 .i64 Tryd.underlying23 hi0 hsz A0 l0.length c0 l1.length hle
      have hdr : Kd.C Kd.string w A' (l0.drop l1.length).length (l0.drop l1.length) := by
        rw [List.length_drop]
        exact Kd.C_of_reads (h1 := fun _ => rfl) (hA w l0 hc0 (Kd.reads_of_C hr0))
      have HK := Lib.hid (fun n => concat_two (w.drewN n).heap.size A2 c2 l2 A' (c0 - l1.length) (l0.drop l1.length) ((w.drewN n).alloc (.cells #[.slice A2 l2.length c2, .slice A' (l0.drop l1.length).length (c0 - l1.length)] 23))
        (heap_alloc_new _ _) (Kd.C_below hr2 (below_alloc (pw_below_drewN (Below.refl _ _) n) _)) (Kd.C_below hdr (below_alloc (pw_below_drewN (Below.refl _ _) n) _)) (by rw [List.length_drop]; omega))
      simp only [List.length_drop] at HK
      clear hr0 hr1 hr2 hwi hA hdr hsz
      go_enter Tryd.func21, Tryd.ntmps21
      go_wp2_with (first | (go_at_call 20; refine HW.out.mono ?_; rintro e w' ⟨rfl, ⟨n, rfl⟩⟩) | (go_at_call 40; refine (HK.out _).mono ?_; rintro e w1 ⟨v, rfl, hO⟩))
      go_ret
      have hz : w.heap.size ≤ ((w.drewN n).alloc (.cells #[.slice A2 l2.length c2, .slice A' (l0.length - l1.length) (c0 - l1.length)] 23)).heap.size := by
        have := alloc_lt (w.drewN n) (.cells #[.slice A2 l2.length c2, .slice A' (l0.length - l1.length) (c0 - l1.length)] 23)
        exact Nat.le_of_lt this
      exact ⟨_, rfl, Kd.R_lower (Kd.R_of_own hO.1 (fun _ _ => trivial)) hz, below_then (below_alloc (pw_below_drewN (Below.refl _ _) _) _) hz hO.2⟩
  · cases h
end Go.Proofs.YtddepmeikglhgaaDoor.Q
