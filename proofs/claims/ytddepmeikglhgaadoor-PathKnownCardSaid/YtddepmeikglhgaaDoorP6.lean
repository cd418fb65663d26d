/- The document's Up and Move; whether a path is the same, or above, by the document. -/
import Derived.Test.YtddepmeikglhgaaDoorP5
import Derived.Test.YtddepmeikglhgaaDoorRE
namespace Go.Proofs.YtddepmeikglhgaaDoor.Q
open Go.RowKit Go.Proofs.YtddepmeikglhgaaDoorW.PrintWords Go.Proofs.YtddepmeikglhgaaDoorW.PrintLast Go.Proofs.YtddepmeikglhgaaDoorW.PrintMore
set_option linter.unusedVariables false

theorem rwithin_loop (a b : List ByteArray) (hab : a.length ≤ b.length) (hs : a.length ≤ 1000000) : ∀ (d k i : Nat), i ≤ a.length → a.length - i = d → d < k → rillbedref05_Within.l0 k a b (i : Int) = some (decide (a.drop i = (b.take a.length).drop i)) := by
  intro d
  induction d with
  | zero =>
    intro k i h1 hd hk
    obtain ⟨k, rfl⟩ : ∃ m, k = m + 1 := ⟨k - 1, by omega⟩
    simp only [rillbedref05_Within.l0]
    rw [if_neg (by omega), List.drop_of_length_le (by omega), List.drop_of_length_le (by rw [List.length_take]; omega)]
    rfl
  | succ d ih =>
    intro k i h1 hd hk
    obtain ⟨k, rfl⟩ : ∃ m, k = m + 1 := ⟨k - 1, by omega⟩
    have hl : i < a.length := by omega
    have hl2 : i < b.length := by omega
    have hl3 : i < (b.take a.length).length := by rw [List.length_take]; omega
    have hn := ih k (i + 1) (by omega) (by omega) (by omega)
    rw [show ((i + 1 : Nat) : Int) = (i : Int) + 1 from by omega] at hn
    simp only [rillbedref05_Within.l0]
    rw [if_pos (by omega), if_pos (by omega), if_pos (by omega), rd_nat a i a[i] (List.getElem?_eq_getElem hl), rd_nat b i b[i] (List.getElem?_eq_getElem hl2), wrap_small (by omega) (by omega), hn]
    rw [List.drop_eq_getElem_cons hl, List.drop_eq_getElem_cons hl3, List.getElem_take]
    generalize a[i] = u
    generalize b[i] = v
    generalize a.drop (i + 1) = x
    generalize (b.take a.length).drop (i + 1) = y
    by_cases he : u = v
    · rw [if_pos (by rw [he]), he]
      simp only [List.cons.injEq, true_and]
    · rw [if_neg (by rw [tl_inj]; exact he)]
      simp [he]
theorem rwithin_is (a b : List ByteArray) (ha : a.length ≤ 1000000) (k : Nat) (hk : a.length < k) : rillbedref05_Within.f k a b = some (withinB a b) := by
  unfold rillbedref05_Within.f withinB
  by_cases h : (a.length : Int) ≤ (b.length : Int)
  · rw [if_neg (by omega)]
    have := rwithin_loop a b (by omega) ha a.length k 0 (by omega) (by omega) hk
    rw [List.drop_zero, List.drop_zero] at this
    exact this
  · rw [if_pos (by omega)]
    have : ¬ a = b.take a.length := by
      intro e
      have hl := congrArg List.length e
      rw [List.length_take] at hl
      omega
    rw [decide_eq_false this]
theorem rsame_is (a b : List ByteArray) (ha : a.length ≤ 1000000) (k : Nat) (hk : a.length < k) : rillbedref05_Same.f k a b = some (decide (a = b)) := by
  unfold rillbedref05_Same.f
  by_cases h : (a.length : Int) = (b.length : Int)
  · rw [if_pos h, rwithin_is a b ha k hk]
    unfold withinB
    rw [List.take_of_length_le (by omega)]
    rfl
  · rw [if_neg h]
    have : ¬ a = b := fun e => h (by rw [e])
    rw [decide_eq_false this]

set_option maxHeartbeats 2000000 in
theorem rup_calls (A0 : Option Addr) (c0 : Nat) (l0 : List ByteArray) (r1 : List ByteArray) (r2 : ByteArray) (w : World) (hr0 : Kd.C Kd.string w A0 l0.length l0) (hc0 : l0.length ≤ c0) (h : upF l0 = some (r1, r2)) :
    Calls Tryd.prog 22 #[.slice A0 l0.length c0] w fun e w' => ∃ v0_ : Value, e = .returned (.tuple #[v0_, .string r2]) ∧ Kd.R Kd.string 9 w' w.heap.size (fun _ => True) v0_ r1 ∧ Below w.heap.size w w' := by
  unfold upF at h
  split at h
  · rename_i hb
    simp only [Option.some.injEq, Prod.mk.injEq] at h
    obtain ⟨rfl, rfl⟩ := h
    by_cases hn : 0 < l0.length
    · obtain ⟨n, hl⟩ : ∃ n, l0.length = n + 1 := ⟨l0.length - 1, by omega⟩
      have hT := c_take (m := n) hr0 (by omega)
      obtain ⟨b, o, rfl, hlt, hc⟩ := c_cells hr0 hn
      have hx := hc n l0[n] (List.getElem?_eq_getElem (by omega))
      have e1 : l0.dropLast = l0.take n := by rw [List.dropLast_eq_take, hl]; rfl
      have e2 : l0.getLastD ByteArray.empty = l0[n] := by
        rw [List.getLastD_eq_getLast?, List.getLast?_eq_getElem?, show l0.length - 1 = n by omega, List.getElem?_eq_getElem (by omega)]
        rfl
      rw [e1, e2]
      have HT : Hid (Kd.C Kd.string w (some ⟨b, o, none⟩) n (l0.take n)) := Lib.hid hT
      generalize l0[n] = x at hx ⊢
      generalize l0.take n = ys at HT ⊢
      clear hT hr0 hc e1 e2
      rw [hl] at hb hc0 ⊢
      clear hl hn
      have g0 : ((n : Int) + 1 == 0) = false := beq_eq_false_iff_ne.2 (by omega)
      have b0 : (0 : Int) ≤ (n : Int) := by omega
      have b1 : (n : Int) ≤ (c0 : Int) := by omega
      have b2 : (n : Int) < ((n + 1 : Nat) : Int) := by omega
      have b3 : (n : Int) < (n : Int) + 1 := by omega
      have b4 : (n : Int) ≤ 9223372036854775807 := by omega
      have HN := Lib.hid (show (([] : List ByteArray).length + n) * 16 ≤ 140737488355328 by simp; omega)
      clear hb
      go_enter Tryd.func22, Tryd.ntmps22
      go_wp2_with (at_builtin; refine list_append_strs _ rfl _ _ rfl w.heap.size (.slice none 0 0) [] rfl (own_nil _ _ _ _) (some ⟨b, o, none⟩) n c0 ys rfl HT.out HN.out (Nat.le_refl _) ?_; intro v1 w1 hown hgrow hat)
      have hx1 : w1.cell? ⟨b, o + n, none⟩ = some (.string x) := by rw [hgrow.cell_far _ (by simpa using hlt) (by simp [Value.ownBlock])]; exact hx
      have HO : Hid (OwnS w v1 ys w1) := Lib.hid ⟨by simpa using hown, pw_below_grown (Below.refl _ _) none (Nat.le_refl _) hgrow (fun k hk => by cases hk)⟩
      clear hown hgrow hat hx
      go_wp2
      go_quiet (fail)
      go_wp2
      go_ret2
      exact ⟨_, rfl, Kd.R_drewN (Kd.R_of_own HO.out.1 (fun _ _ => trivial)) _, pw_below_drewN HO.out.2 _⟩
    · have h0 : l0 = [] := List.length_eq_zero_iff.1 (by omega)
      subst h0
      go_enter Tryd.func22, Tryd.ntmps22
      go_wp2
      go_ret2
      exact ⟨_, rfl, Kd.R_nil _ _ _ _ _, Below.refl _ _⟩
  · cases h
set_option maxHeartbeats 4000000 in
theorem rmove_calls (A0 : Option Addr) (c0 : Nat) (l0 : List ByteArray) (A1 : Option Addr) (c1 : Nat) (l1 : List ByteArray) (A2 : Option Addr) (c2 : Nat) (l2 : List ByteArray) (r : List ByteArray) (w : World) (hr0 : Kd.C Kd.string w A0 l0.length l0) (hc0 : l0.length ≤ c0) (hr1 : Kd.C Kd.string w A1 l1.length l1) (hc1 : l1.length ≤ c1) (hr2 : Kd.C Kd.string w A2 l2.length l2) (hc2 : l2.length ≤ c2) (h : moveF l0 l1 l2 = some r) :
    Calls Tryd.prog 24 #[.slice A0 l0.length c0, .slice A1 l1.length c1, .slice A2 l2.length c2] w fun e w' => ∃ v0_ : Value, e = .returned (v0_) ∧ Kd.R Kd.string 9 w' w.heap.size (fun _ => True) v0_ r ∧ Below w.heap.size w w' := by
  unfold moveF at h
  split at h
  · rename_i hb
    obtain ⟨b0, b1, b2⟩ := hb
    have hw := rillbedref05_Within.calls (l1.length + 1) A1 c1 l1 A0 c0 l0 (withinB l1 l0) w hr1 hc1 hr0 hc0 (rwithin_is l1 l0 b1 _ (by omega))
    have HW := Lib.hid hw
    clear hw
    have H0 := Lib.hid (fun (W : World) (hb : Below w.heap.size w W) => Kd.C_below hr0 hb)
    have H2 := Lib.hid (fun (W : World) (hb : Below w.heap.size w W) => Kd.C_below hr2 hb)
    cases hwi : withinB l1 l0 with
    | false =>
      rw [hwi, if_neg (by decide)] at h
      cases h
      rw [hwi] at HW
      have HN := Lib.hid (show (([] : List ByteArray).length + l0.length) * 16 ≤ 140737488355328 by simp; omega)
      clear hr0 hr1 hr2 hwi hc0 hc1 hc2 b0 b1 b2
      go_enter Tryd.func24, Tryd.ntmps24
      go_wp2_with (first | (go_at_call 23; refine HW.out.mono ?_; rintro e w' ⟨rfl, ⟨n, rfl⟩⟩) | (at_builtin; refine list_append_strs _ rfl _ _ rfl w.heap.size (.slice none 0 0) [] rfl (own_nil _ _ _ _) A0 l0.length c0 l0 rfl (H0.out _ (pw_below_drewN (Below.refl _ _) _)) HN.out (Nat.le_refl _) ?_; intro v1 w1 hown hgrow hat))
      go_ret
      exact ⟨_, rfl, Kd.R_of_own (by simpa using hown) (fun _ _ => trivial), pw_below_grown (pw_below_drewN (Below.refl _ _) _) none (Nat.le_refl _) hgrow (fun k hk => by cases hk)⟩
    | true =>
      rw [hwi, if_pos (by decide)] at h
      cases h
      rw [hwi] at HW
      have hle : l1.length ≤ l0.length := by
        unfold withinB at hwi
        have e := congrArg List.length (of_decide_eq_true hwi)
        rw [List.length_take] at e
        omega
      obtain ⟨i0, hi0, _, hsz, _⟩ := info_parts info9
      obtain ⟨A', hcut, hA⟩ := print_cut_of (P := Tryd.prog) Value.string (⟨#[]⟩ : ByteArray) 23 9 .i64 Tryd.underlying23 hi0 hsz A0 l0.length c0 l1.length hle
      have hdr : Kd.C Kd.string w A' (l0.length - l1.length) (l0.drop l1.length) := Kd.C_of_reads (h1 := fun _ => rfl) (hA w l0 hc0 (Kd.reads_of_C hr0))
      have HD := Lib.hid (fun (W : World) (hb : Below w.heap.size w W) => Kd.C_below hdr hb)
      have HN := Lib.hid (show (([] : List ByteArray).length + l2.length) * 16 ≤ 140737488355328 by simp; omega)
      have HN2 := Lib.hid (show (l2.length + (l0.length - l1.length)) * 16 ≤ 140737488355328 by omega)
      clear hr0 hr1 hr2 hwi hA hdr hsz hc0 hc1 hc2
      go_enter Tryd.func24, Tryd.ntmps24
      go_wp2_with (first | (go_at_call 23; refine HW.out.mono ?_; rintro e w' ⟨rfl, ⟨n, rfl⟩⟩) | (at_builtin; refine list_append_strs _ rfl (.tmp 15) (.tmp 16) rfl w.heap.size (.slice none 0 0) [] rfl (own_nil _ _ _ _) A2 l2.length c2 l2 rfl (H2.out _ (pw_below_drewN (Below.refl _ _) _)) HN.out (Nat.le_refl _) ?_; intro v1 w1 hown hgrow hat; have HO : Hid (OwnS w v1 l2 w1) := Lib.hid ⟨by simpa using hown, pw_below_grown (pw_below_drewN (Below.refl _ _) _) none (Nat.le_refl _) hgrow (fun k hk => by cases hk)⟩; clear hown hgrow hat) | (at_builtin; refine list_append_strs _ rfl (.tmp 18) (.tmp 22) rfl w.heap.size _ l2 rfl HO.out.1 A' (l0.length - l1.length) (c0 - l1.length) (l0.drop l1.length) rfl (HD.out _ HO.out.2) HN2.out HO.out.2.size ?_; intro v2 w2 hown hgrow hat))
      go_ret
      have HP := HO.out.step hown hgrow
      exact ⟨_, rfl, Kd.R_of_own HP.1 (fun _ _ => trivial), HP.2⟩
  · cases h
end Go.Proofs.YtddepmeikglhgaaDoor.Q
