/- path.Text, as the print program would have printed it; what a name is. -/
import Derived.Test.YtddepmeikglhgaaDoorP5
import Derived.Test.YtddepmeikglhgaaDoorRA
namespace Go.Proofs.YtddepmeikglhgaaDoor.Q
open Go.RowKit Go.Proofs.YtddepmeikglhgaaDoorW.PrintWords Go.Proofs.YtddepmeikglhgaaDoorW.PrintLast Go.Proofs.YtddepmeikglhgaaDoorW.PrintMore
set_option linter.unusedVariables false

theorem size_len (s : ByteArray) : s.data.toList.length = s.size := (Lib.size_eq s).symm
/-- Is a text a name? If not, why. -/
def checkP (s : ByteArray) : Int := if s.toList = [] ∨ s.toList = [46] ∨ s.toList = [46, 46] ∨ s.toList.elem 47 = true ∨ s.toList.elem 0 = true then 4 else if 16 < s.size then 3 else 0
theorem check_is (s : ByteArray) (k : Nat) (hk : 1 ≤ k) : path_check.f k s = some (checkP s) := by
  obtain ⟨k, rfl⟩ : ∃ m, k = m + 1 := ⟨k - 1, by omega⟩
  unfold path_check.f checkP
  simp only [path_check.j0]
  by_cases h1 : s.toList = []
  · rw [if_pos h1]
    show some 4 = some _
    rw [if_pos (.inl h1)]
  rw [if_neg h1]
  by_cases h2 : s.toList = [46]
  · rw [if_pos h2]
    show some 4 = some _
    rw [if_pos (.inr (.inl h2))]
  rw [if_neg h2]
  by_cases h3 : s.toList = [46, 46]
  · rw [if_pos h3]
    show some 4 = some _
    rw [if_pos (.inr (.inr (.inl h3)))]
  rw [if_neg h3]
  have e1 : strings_Contains.f s (⟨#[47]⟩ : ByteArray) = some (s.toList.elem 47) := by rw [tl]; rfl
  have e2 : strings_Contains.f s (⟨#[0]⟩ : ByteArray) = some (s.toList.elem 0) := by rw [tl]; rfl
  rw [e1, e2]
  simp only [Option.bind_some]
  cases h4 : s.toList.elem 47 with
  | true =>
    show some 4 = some _
    rw [if_pos (.inr (.inr (.inr (.inl rfl))))]
  | false =>
    cases h5 : s.toList.elem 0 with
    | true =>
      show some 4 = some _
      rw [if_pos (.inr (.inr (.inr (.inr rfl))))]
    | false =>
      show (if (s.size : Int) > 16 then some 3 else some 0) = some _
      by_cases h6 : 16 < s.size
      · rw [if_pos (show (s.size : Int) > 16 by omega), if_neg (by simp [h1, h2, h3]), if_pos h6]
      · rw [if_neg (show ¬ (s.size : Int) > 16 by omega), if_neg (by simp [h1, h2, h3]), if_neg h6]
def badB (s : ByteArray) : Bool := !(checkP s == 0)
theorem name_is (s : ByteArray) (k : Nat) (hk : 1 ≤ k) : path_Name.f k s = some (!badB s) := by
  unfold path_Name.f badB
  rw [check_is s k hk, Bool.not_not]
  rfl
theorem bad_on (s : ByteArray) (w : World) : Calls Tryd.prog 35 #[.string s] w fun e w' => e = .returned (.bool (badB s)) ∧ ∃ n, w' = w.drewN n := by
  have H := Lib.hid (path_Name.calls 1 s (!badB s) w (name_is s 1 (Nat.le_refl _)))
  cases hb : badB s
  all_goals
    rw [hb] at H
    clear hb
    go_enter Tryd.func35, Tryd.ntmps35
    go_wp2_with (go_at_call 13; refine H.out.mono ?_; rintro e w' ⟨rfl, ⟨n, rfl⟩⟩)
    go_ret
    exact ⟨rfl, n, rfl⟩
theorem any_on (A : Option Addr) (c : Nat) (l : List ByteArray) (w : World) (hr : Kd.C Kd.string w A l.length l) (hl : l.length ≤ 1000000) :
    Calls Tryd.prog 37 #[.slice A l.length c, .func (.func 35) #[] #[]] w fun e w' => e = .returned (.bool (l.any badB)) ∧ ∃ n, w' = w.drewN n := by
  by_cases hn : 0 < l.length
  · obtain ⟨b, o, rfl, hlt, hc⟩ := c_cells hr hn
    haveI : Inhabited ByteArray := ⟨ByteArray.empty⟩
    have h := Tryd.slices_ContainsFunc Value.string badB 35 #[] (enters_of Tryd.func35 (by kernel_rfl) rfl) b o l.length c l w (fun W x _ => bad_on x W) (Nat.le_refl _) (by omega) (fun j hj => by
      rw [hc j l[j] (List.getElem?_eq_getElem hj), getElem!_pos l j hj])
    rw [List.take_length] at h
    exact h
  · have h0 : l = [] := List.length_eq_zero_iff.1 (by omega)
    subst h0
    haveI : Inhabited ByteArray := ⟨ByteArray.empty⟩
    exact (Tryd.slices_ContainsFunc_empty (α := ByteArray) A c _ w).mono fun e w' ⟨he, hw⟩ => ⟨he, 0, hw⟩
theorem join_size (M : Nat) (sep : ByteArray) : ∀ l : List ByteArray, (∀ x ∈ l, x.size ≤ M) → (joinB l sep).size ≤ l.length * (M + sep.size) := by
  intro l hx
  have hle : ∀ l : List ByteArray, (∀ x ∈ l, x.size ≤ M) → (Lib.joinTail sep.data.toList (l.map (·.data.toList))).length ≤ l.length * (M + sep.size) := by
    intro l
    induction l with
    | nil => intro _; simp [Lib.joinTail]
    | cons x t ih =>
      intro h
      have h1 := h x List.mem_cons_self
      have h2 := ih (fun y hy => h y (List.mem_cons_of_mem _ hy))
      unfold Lib.joinTail at h2 ⊢
      simp only [List.map_cons, List.flatten_cons, List.length_append, List.length_cons] at h2 ⊢
      rw [size_len, size_len, Nat.add_mul]
      omega
  rw [← size_len]
  unfold joinB
  cases l with
  | nil => simp [Lib.join_nil]
  | cons x t =>
    have h1 := hx x List.mem_cons_self
    have h2 := hle t (fun y hy => hx y (List.mem_cons_of_mem _ hy))
    rw [List.map_cons, Lib.join_cons]
    simp only [List.length_append, List.length_cons]
    rw [size_len, Nat.add_mul]
    omega
def textP (snap : ByteArray) (l : List ByteArray) : ByteArray × Int :=
  if (!snap.toList.isEmpty && (badB snap || snap.toList.elem 58)) || l.any badB then (⟨#[]⟩, 4)
  else if 6 < l.length then (⟨#[]⟩, 3)
  else (if snap.toList = [] then ⟨#[47]⟩ ++ joinB l ⟨#[47]⟩ else (snap ++ ⟨#[58]⟩) ++ (⟨#[47]⟩ ++ joinB l ⟨#[47]⟩), 0)
def fitsB (snap : ByteArray) (l : List ByteArray) : Bool := decide (snap.size ≤ 1000) && (decide (l.length ≤ 1000) && l.all fun x => decide (x.size ≤ 1000))
def textF (snap : ByteArray) (l : List ByteArray) : Option (ByteArray × Int) := if fitsB snap l = true then some (textP snap l) else none

/-- What Text comes to where no name of the list, and no snapshot's, is bad. -/
theorem text_tail (b6 : Bool) (l : List ByteArray) (hb6 : b6 = decide (6 < l.length)) (snap : ByteArray) (hs : snap.size ≤ 1000) (J : ByteArray) (hJ : J.size ≤ 2000000) (hjn : joinB l ⟨#[47]⟩ = J) (hbad : ((!snap.toList.isEmpty && (badB snap || snap.toList.elem 58)) || l.any badB) = false) :
    textP snap l = if b6 = true then (⟨#[]⟩, 3) else (if snap.toList = [] then ⟨#[47]⟩ ++ J else (snap ++ ⟨#[58]⟩) ++ (⟨#[47]⟩ ++ J), 0) := by
  unfold textP
  rw [if_neg (by rw [hbad]; decide), hb6, hjn]
  simp only [decide_eq_true_eq]
set_option maxHeartbeats 4000000 in
theorem text_calls (a0 : ByteArray) (A1 : Option Addr) (c1 : Nat) (l1 : List ByteArray) (r1 : ByteArray) (r2 : Int) (w : World) (hr1 : Kd.C Kd.string w A1 l1.length l1) (hc1 : l1.length ≤ c1) (h : textF a0 l1 = some (r1, r2)) :
    Calls Tryd.prog 16 #[.string a0, .slice A1 l1.length c1] w fun e w' => e = .returned (.tuple #[.string r1, .int .i64 r2]) ∧ Below w.heap.size w w' := by
  unfold textF at h
  split at h
  · rename_i hf
    simp only [Option.some.injEq] at h
    unfold fitsB at hf
    simp only [Bool.and_eq_true, decide_eq_true_eq, List.all_eq_true] at hf
    obtain ⟨hs, hl, hx⟩ := hf
    have hJs : (joinB l1 ⟨#[47]⟩).size ≤ 2000000 := by
      have h1 := join_size 1000 ⟨#[47]⟩ l1 hx
      have h2 : l1.length * (1000 + (⟨#[47]⟩ : ByteArray).size) ≤ 1000 * 1001 := Nat.mul_le_mul hl (Nat.le_refl _)
      omega
    have HAny := Lib.hid (fun n => any_on A1 c1 l1 (w.drewN n) (Kd.C_below hr1 (pw_below_drewN (Below.refl _ _) n)) (by omega))
    have HAny0 := Lib.hid (any_on A1 c1 l1 w hr1 (by omega))
    have HJoin := Lib.hid (fun n => join_calls A1 c1 l1 ⟨#[47]⟩ (joinB l1 ⟨#[47]⟩) (w.drewN n) (Kd.C_below hr1 (pw_below_drewN (Below.refl _ _) n)) hc1 (by unfold joinF; rw [if_pos ⟨by omega, by omega⟩]))
    have HBad := Lib.hid (fun w => bad_on a0 w)
    have HCol := Lib.hid (fun w => Tryd.strings_Contains_one a0 58 w)
    have h58 : decide (0 ≤ Lib.indexByte a0.data.toList 58) = a0.toList.elem 58 := by rw [index_elem, tl]
    rw [h58] at HCol
    clear h58 hr1 hx hc1
    obtain ⟨J, hJ⟩ : ∃ J, joinB l1 ⟨#[47]⟩ = J := ⟨_, rfl⟩
    obtain ⟨b6, hb6⟩ : ∃ b6, b6 = decide (6 < l1.length) := ⟨_, rfl⟩
    obtain ⟨ba, hba⟩ : ∃ ba, l1.any badB = ba := ⟨_, rfl⟩
    rw [hJ] at HJoin hJs
    rw [hba] at HAny HAny0
    have HT := Lib.hid (text_tail b6 l1 hb6 a0 hs J hJs hJ)
    have HB0 : Hid (((!a0.toList.isEmpty && (badB a0 || a0.toList.elem 58)) || ba) = true → textP a0 l1 = (⟨#[]⟩, 4)) := Lib.hid (fun hb => by unfold textP; rw [hba, if_pos hb])
    rw [hba] at HT
    have H := Lib.hid h
    clear h hJ hba
    by_cases he : a0.toList = []
    · obtain rfl : a0 = ⟨#[]⟩ := tl_inj.1 (by rw [he, tl])
      have hem : (⟨#[]⟩ : ByteArray).toList = [] := by rw [tl]
      cases ba with
      | true =>
        have hq : ((!(⟨#[]⟩ : ByteArray).toList.isEmpty && (badB ⟨#[]⟩ || (⟨#[]⟩ : ByteArray).toList.elem 58)) || true) = true := Bool.or_true _
        have hr := H.out
        rw [HB0.out hq] at hr
        obtain ⟨rfl, rfl⟩ := Prod.mk.inj hr
        clear hem he hq HT HB0 hr
        go_enter Tryd.func16, Tryd.ntmps16
        go_wp2_with (first | (go_at_call 35; refine (HBad.out _).mono ?_; rintro e w' ⟨rfl, ⟨n1, rfl⟩⟩) | (go_at_call 36; refine (HCol.out _).mono ?_; rintro e w' ⟨rfl, rfl⟩) | (go_at_call 37; refine HAny0.out.mono ?_; rintro e w' ⟨rfl, ⟨n2, rfl⟩⟩) | (go_at_call 28; refine (HJoin.out _).mono ?_; rintro e w2 ⟨rfl, hB⟩))
        go_ret2
        exact ⟨rfl, by first | exact Below.refl _ _ | exact pw_below_drewN (Below.refl _ _) _⟩
      | false =>
        have hq : ((!(⟨#[]⟩ : ByteArray).toList.isEmpty && (badB ⟨#[]⟩ || (⟨#[]⟩ : ByteArray).toList.elem 58)) || false) = false := by rw [hem]; rfl
        have hr := H.out
        rw [HT.out hq] at hr
        cases b6 with
        | true =>
          rw [if_pos hem] at hr
          obtain ⟨rfl, rfl⟩ := Prod.mk.inj hr
          have g1 := hb6.symm
          have g2 : decide ((6 : Int) < (l1.length : Int)) = true := by rw [decide_eq_true_eq] at g1 ⊢; omega
          clear hem he hq HT HB0 hr hb6
          go_enter Tryd.func16, Tryd.ntmps16
          go_wp2_with (first | (go_at_call 35; refine (HBad.out _).mono ?_; rintro e w' ⟨rfl, ⟨n1, rfl⟩⟩) | (go_at_call 36; refine (HCol.out _).mono ?_; rintro e w' ⟨rfl, rfl⟩) | (go_at_call 37; refine HAny0.out.mono ?_; rintro e w' ⟨rfl, ⟨n2, rfl⟩⟩) | (go_at_call 28; refine (HJoin.out _).mono ?_; rintro e w2 ⟨rfl, hB⟩))
          go_ret2
          exact ⟨rfl, by first | exact Below.refl _ _ | exact pw_below_drewN (Below.refl _ _) _⟩
        | false =>
          rw [if_neg (by decide), if_pos hem] at hr
          obtain ⟨rfl, rfl⟩ := Prod.mk.inj hr
          have g1 := hb6.symm
          have g2 : decide ((6 : Int) < (l1.length : Int)) = false := by rw [decide_eq_false_iff_not] at g1 ⊢; omega
          clear hem he hq HT HB0 hr hb6
          go_enter Tryd.func16, Tryd.ntmps16
          go_wp2_with (first | (go_at_call 35; refine (HBad.out _).mono ?_; rintro e w' ⟨rfl, ⟨n1, rfl⟩⟩) | (go_at_call 36; refine (HCol.out _).mono ?_; rintro e w' ⟨rfl, rfl⟩) | (go_at_call 37; refine HAny0.out.mono ?_; rintro e w' ⟨rfl, ⟨n2, rfl⟩⟩) | (go_at_call 28; refine (HJoin.out _).mono ?_; rintro e w2 ⟨rfl, hB⟩))
          go_ret2
          exact ⟨rfl, below_then (pw_below_drewN (Below.refl _ _) _) (Nat.le_refl _) hB⟩
    · have f1 : a0.toList.isEmpty = false := by simpa using he
      have f2 : (!a0.toList.isEmpty) = true := by rw [f1]; rfl
      have f3 : (a0.toList == ([] : List UInt8)) = false := beq_eq_false_iff_ne.2 he
      have f4 : (a0.toList != ([] : List UInt8)) = true := bne_iff_ne.2 he
      have HE := Lib.hid he
      clear he
      cases hbd : badB a0 with
      | true =>
        have hq : ((!a0.toList.isEmpty && (badB a0 || a0.toList.elem 58)) || ba) = true := by rw [hbd, f1]; rfl
        rw [hbd] at HBad
        clear hbd
        have hr := H.out
        rw [HB0.out hq] at hr
        obtain ⟨rfl, rfl⟩ := Prod.mk.inj hr
        clear hq HT HB0 hr
        go_enter Tryd.func16, Tryd.ntmps16
        go_wp2_with (first | (go_at_call 35; refine (HBad.out _).mono ?_; rintro e w' ⟨rfl, ⟨n1, rfl⟩⟩) | (go_at_call 36; refine (HCol.out _).mono ?_; rintro e w' ⟨rfl, rfl⟩) | (go_at_call 37; refine (HAny.out _).mono ?_; rintro e w' ⟨rfl, ⟨n2, rfl⟩⟩) | (go_at_call 28; refine (HJoin.out _).mono ?_; rintro e w2 ⟨rfl, hB⟩))
        go_ret2
        exact ⟨rfl, by first | exact Below.refl _ _ | exact pw_below_drewN (Below.refl _ _) _⟩
      | false =>
        rw [hbd] at HBad
        cases hel : a0.toList.elem 58 with
        | true =>
          have hq : ((!a0.toList.isEmpty && (badB a0 || a0.toList.elem 58)) || ba) = true := by rw [hbd, hel, f1]; rfl
          rw [hel] at HCol
          clear hbd hel
          have hr := H.out
          rw [HB0.out hq] at hr
          obtain ⟨rfl, rfl⟩ := Prod.mk.inj hr
          clear hq HT HB0 hr
          go_enter Tryd.func16, Tryd.ntmps16
          go_wp2_with (first | (go_at_call 35; refine (HBad.out _).mono ?_; rintro e w' ⟨rfl, ⟨n1, rfl⟩⟩) | (go_at_call 36; refine (HCol.out _).mono ?_; rintro e w' ⟨rfl, rfl⟩) | (go_at_call 37; refine (HAny.out _).mono ?_; rintro e w' ⟨rfl, ⟨n2, rfl⟩⟩) | (go_at_call 28; refine (HJoin.out _).mono ?_; rintro e w2 ⟨rfl, hB⟩))
          go_ret2
          exact ⟨rfl, by first | exact Below.refl _ _ | exact pw_below_drewN (Below.refl _ _) _⟩
        | false =>
          rw [hel] at HCol
          cases ba with
          | true =>
            have hq : ((!a0.toList.isEmpty && (badB a0 || a0.toList.elem 58)) || true) = true := Bool.or_true _
            clear hbd hel
            have hr := H.out
            rw [HB0.out hq] at hr
            obtain ⟨rfl, rfl⟩ := Prod.mk.inj hr
            clear hq HT HB0 hr
            go_enter Tryd.func16, Tryd.ntmps16
            go_wp2_with (first | (go_at_call 35; refine (HBad.out _).mono ?_; rintro e w' ⟨rfl, ⟨n1, rfl⟩⟩) | (go_at_call 36; refine (HCol.out _).mono ?_; rintro e w' ⟨rfl, rfl⟩) | (go_at_call 37; refine (HAny.out _).mono ?_; rintro e w' ⟨rfl, ⟨n2, rfl⟩⟩) | (go_at_call 28; refine (HJoin.out _).mono ?_; rintro e w2 ⟨rfl, hB⟩))
            go_ret2
            exact ⟨rfl, by first | exact Below.refl _ _ | exact pw_below_drewN (Below.refl _ _) _⟩
          | false =>
            have hq : ((!a0.toList.isEmpty && (badB a0 || a0.toList.elem 58)) || false) = false := by rw [hbd, hel, f1]; rfl
            clear hbd hel
            have hr := H.out
            rw [HT.out hq] at hr
            cases b6 with
            | true =>
              rw [if_pos rfl] at hr
              obtain ⟨rfl, rfl⟩ := Prod.mk.inj hr
              have g1 := hb6.symm
              have g2 : decide ((6 : Int) < (l1.length : Int)) = true := by rw [decide_eq_true_eq] at g1 ⊢; omega
              clear hq HT HB0 hr hb6
              go_enter Tryd.func16, Tryd.ntmps16
              go_wp2_with (first | (go_at_call 35; refine (HBad.out _).mono ?_; rintro e w' ⟨rfl, ⟨n1, rfl⟩⟩) | (go_at_call 36; refine (HCol.out _).mono ?_; rintro e w' ⟨rfl, rfl⟩) | (go_at_call 37; refine (HAny.out _).mono ?_; rintro e w' ⟨rfl, ⟨n2, rfl⟩⟩) | (go_at_call 28; refine (HJoin.out _).mono ?_; rintro e w2 ⟨rfl, hB⟩))
              go_ret2
              exact ⟨rfl, by first | exact Below.refl _ _ | exact pw_below_drewN (Below.refl _ _) _⟩
            | false =>
              rw [if_neg (by decide), if_neg HE.out] at hr
              obtain ⟨rfl, rfl⟩ := Prod.mk.inj hr
              have g1 := hb6.symm
              have g2 : decide ((6 : Int) < (l1.length : Int)) = false := by rw [decide_eq_false_iff_not] at g1 ⊢; omega
              clear hq HT HB0 hr hb6
              go_enter Tryd.func16, Tryd.ntmps16
              go_wp2_with (first | (go_at_call 35; refine (HBad.out _).mono ?_; rintro e w' ⟨rfl, ⟨n1, rfl⟩⟩) | (go_at_call 36; refine (HCol.out _).mono ?_; rintro e w' ⟨rfl, rfl⟩) | (go_at_call 37; refine (HAny.out _).mono ?_; rintro e w' ⟨rfl, ⟨n2, rfl⟩⟩) | (go_at_call 28; refine (HJoin.out _).mono ?_; rintro e w2 ⟨rfl, hB⟩))
              go_ret2
              exact ⟨rfl, below_then (pw_below_drewN (Below.refl _ _) _) (Nat.le_refl _) hB⟩
  · cases h
end Go.Proofs.YtddepmeikglhgaaDoor.Q
