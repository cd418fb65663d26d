import Derived.Test.YtniblmpihnhglaaD21
namespace Go.Proofs.Ytniblmpihnhglaa
open Go.RowKit
set_option linter.unusedVariables false

/-- What items are written as. -/
def putsL (l : List It) : List UInt8 := l.flatMap fun x => putL x.k x.n x.s
theorem putsL_take (l : List It) (i : Nat) (x : It) (h : l[i]? = some x) : putsL (l.take (i + 1)) = putsL (l.take i) ++ putL x.k x.n x.s := by
  unfold putsL
  rw [List.take_add_one, h]
  simp
theorem putsL_drop (l : List It) (i : Nat) (x : It) (h : l[i]? = some x) : putsL (l.drop i) = putL x.k x.n x.s ++ putsL (l.drop (i + 1)) := by
  unfold putsL
  obtain ⟨hlt, rfl⟩ := List.getElem?_eq_some_iff.1 h
  rw [List.drop_eq_getElem_cons hlt, List.flatMap_cons]
theorem putL_length (k n : Nat) (S : List UInt8) (hS : S.length ≤ 300) : (putL k n S).length ≤ 302 := by
  unfold putL
  repeat' split
  all_goals first | (rw [beB_length]; omega) | (rw [List.length_append, beB_length]; omega) | omega
theorem putsL_length (l : List It) (h : ∀ x ∈ l, x.s.length ≤ 300) : (putsL l).length ≤ 302 * l.length := by
  induction l with
  | nil => simp [putsL]
  | cons a l ih =>
    have h1 := ih fun x hx => h x (by simp [hx])
    have h2 := putL_length a.k a.n a.s (h a (by simp))
    unfold putsL at h1 ⊢
    rw [List.flatMap_cons, List.length_append, List.length_cons]
    omega

set_option maxRecDepth 100000 in
set_option maxHeartbeats 2000000 in
theorem codecBack_on (v : Value) (l : List It) (m : List UInt8) (cut : Nat) (w : World) (hc : cut < 65536) (hv : Items w v l) :
    Calls Try.prog 6 #[v, .string (strL m), .int .u16 cut] w fun x w' => x = .returned (.bool true) ∧ Bl w w' := by
  have AW : Hid (∀ w, Calls Try.prog 15 #[] w fun x w' => x = .returned (.bool true) ∧ Bl w w') := Lib.hid awake_any
  have FEW := Lib.hid (few_any v l w hv)
  obtain ⟨va, vc, rfl⟩ := items_form hv
  have HV := Lib.hid hv
  have hz := strL_size m
  have W0 := Lib.hid (wr_new w)
  have N0 : Hid (Bl w (w.alloc (.cells #[.slice none 0 0, .int .i64 0] 29))) := Lib.hid ((Bl.refl w).alloc _)
  have WT : Hid (∀ (M : List UInt8) (x : It) (w' : World), Wr (w.heap.size + 1) w.heap.size M 0 w' → x.ok → x.s.length ≤ 300 → M.length ≤ 100000 →
    Calls Try.prog 36 #[.pointer (some ⟨w.heap.size, 0, none⟩), .agg #[.int .u8 x.k, .int .u64 x.n, .string (strL x.s)]] w' (WriteP (w.heap.size + 1) w.heap.size M (putL x.k x.n x.s) w')) :=
    Lib.hid (fun M x w' h hx hs hM => w36_any _ _ x.k x.n x.s M w' hx.2.1 (by omega) (by omega) h)
  clear hv
  generalize hn : l.length = n at HV FEW ⊢
  have HNL := Lib.hid hn
  clear hn
  by_cases hm : 300 < m.length
  · have hd : decide ((300 : Int) < (m.length : Int)) = true := decide_eq_true (by omega)
    go_enter Try.func6, Try.ntmps6
    go_wp2_with (first
      | (go_at_call 15; refine (AW.out _).mono ?_; rintro e w1 ⟨rfl, h1⟩; have H1 := Lib.hid h1; clear h1)
      | (go_at_call 14; refine FEW.out.mono ?_; rintro x w1 ⟨rfl, bb, rfl, hbb⟩; have HBB := Lib.hid hbb; clear hbb))
    all_goals
      go_ret
      exact ⟨rfl, H1.out⟩
  have hd : decide ((300 : Int) < (m.length : Int)) = false := decide_eq_false (by omega)
  have HM := Lib.hid (by omega : m.length ≤ 300)
  clear hm
  go_enter Try.func6, Try.ntmps6
  go_wp2_with (first
    | (go_at_call 15; refine (AW.out _).mono ?_; rintro e w1 ⟨rfl, h1⟩; have H1 := Lib.hid h1; clear h1)
    | (go_at_call 14; refine FEW.out.mono ?_; rintro x w1 ⟨rfl, bb, rfl, hbb⟩; have HBB := Lib.hid hbb; clear hbb))
  rotate_left
  · go_ret
    exact ⟨rfl, H1.out⟩
  have hbt : bb = true := by assumption
  subst hbt
  obtain ⟨h60, _⟩ := HBB.out rfl
  have hn60 : n ≤ 60 := by rw [← HNL.out]; exact h60
  clear h60 HBB FEW
  try simp only [Bool.not_true]
  go_loopw [8] (fun v8 wr => ∃ i : Nat, i ≤ n ∧ v8 = .int .i64 i ∧ Hid (Wr (w.heap.size + 1) w.heap.size (putsL (l.take i)) 0 wr) ∧ Hid (Bl w wr) ∧ Hid (∀ j x, j < i → l[j]? = some x → x.s.length ≤ 300)) (fun v _ => n - (intOf v).toNat)
  case atStart => exact ⟨0, by omega, rfl, W0.out, N0, fun j x hj => by omega⟩
  case round =>
    clear W0 N0
    obtain ⟨i, hi, rfl, hw, hk, h3⟩ := hrel
    by_cases hlt : i < n
    · obtain ⟨x, hx⟩ : ∃ x, l[i]? = some x := ⟨_, List.getElem?_eq_getElem (by rw [HNL.out]; exact hlt)⟩
      have hit := HV.out
      rw [← HNL.out] at hit
      obtain ⟨a, rfl, c0, c1, c2⟩ := items_cells hit hk.out hx
      have hxz := strL_size x.s
      have HX := Lib.hid hx
      have HOK := Lib.hid (HV.out.1 x (List.mem_of_getElem? hx))
      clear hit hx
      by_cases hbig : 300 < x.s.length
      · have hdb : decide ((300 : Int) < (x.s.length : Int)) = true := decide_eq_true (by omega)
        go_wp2_with (go_at_call 15; refine (AW.out _).mono ?_; rintro e w1 ⟨rfl, h1⟩; have H1 := Lib.hid h1; clear h1)
        go_ret
        exact ⟨rfl, hk.out.trans H1.out⟩
      · have hdb : decide ((300 : Int) < (x.s.length : Int)) = false := decide_eq_false (by omega)
        have HB := Lib.hid (by omega : x.s.length ≤ 300)
        have HLEN : Hid ((putsL (l.take i)).length ≤ 100000) := Lib.hid (by
          have := putsL_length (l.take i) (fun y hy => by
            obtain ⟨j, hj, rfl⟩ := List.getElem_of_mem hy
            rw [List.length_take] at hj
            rw [List.getElem_take]
            exact h3.out j _ (by omega) (List.getElem?_eq_getElem (by omega)))
          rw [List.length_take] at this
          omega)
        go_wp2_with (go_at_call 36; refine (WT.out _ x _ hw.out HOK.out HB.out HLEN.out).mono ?_; rintro e w3 ⟨rfl, ha, hb⟩; have P3 := Lib.hid (And.intro ha hb); clear ha hb)
        go_roundw
        case rel => exact ⟨i + 1, by omega, by go_num, by rw [putsL_take l i x HX.out]; exact P3.out.1, Below.trans hk.out (onlyB_below P3.out.2 (Nat.le_refl _) (Nat.le_succ _)), fun j y hj hy => by
          rcases Nat.lt_or_ge j i with h | h
          · exact h3.out j y h hy
          · have e : j = i := by omega
            subst e
            have e2 := HX.out
            rw [hy] at e2
            cases e2
            exact HB.out⟩
        case measure => simp only [intOf]; omega
    · have hin : i = n := by omega
      subst hin
      have hall : l.take i = l := List.take_of_length_le (by rw [HNL.out]; exact Nat.le_refl _)
      rw [hall] at hw
      have H300 : Hid (∀ x ∈ l, x.s.length ≤ 300) := Lib.hid (fun x hx => by
        obtain ⟨j, hj, rfl⟩ := List.getElem_of_mem hx
        exact h3.out j _ (by rw [← HNL.out]; exact hj) (List.getElem?_eq_getElem hj))
      have hP : (putsL l).length ≤ 18120 := by
        have := putsL_length l H300.out
        rw [HNL.out] at this
        omega
      have hsum := strL_append (putsL l) m
      have hbd : (strL (putsL l)).size + (strL m).size ≤ 20000 := by rw [strL_size, strL_size]; have := HM.out; omega
      have hzp := strL_size (putsL l)
      clear hall h3 hd
      generalize hQ : putsL l = P at hw hP hsum hbd hzp
      have HQ := Lib.hid hQ
      have HP := Lib.hid hP
      clear hQ hP
      go_wp2_with (first
        | (go_at_call 19; refine (r_new _ _).mono ?_; rintro e w2 ⟨rfl, rfl⟩)
        | (go_at_call 17; refine (w_bytes _ _ P _ hw.out).mono ?_; rintro x w2 ⟨rfl, rfl⟩))
      have RD0 := Lib.hid (rd_new (P ++ m) wr)
      have K1 : Hid (Bl w (wr.alloc (.cells #[.string (strL (P ++ m)), .int .i64 0] 106))) := Lib.hid (hk.out.alloc _)
      have hwr : Hid (w.heap.size ≤ wr.heap.size) := Lib.hid hk.out.size
      have READ : Hid (∀ (p : Nat) (L : List UInt8) (e : Int) (x : It) (w' : World), x ∈ l → L.length ≤ 100000 → Rd p L e w' →
        Calls Try.prog 37 #[.pointer (some ⟨p, 0, none⟩), .agg #[.int .u8 x.k, .int .u64 x.n, .string (strL x.s)]] w' (ReadP p (nxtL x.k x.s L e) (nxtE x.k x.s L e) (valOK x.k x.n x.s L e) w')) :=
        Lib.hid (fun p L e x w' hx hL h => rd37_any p x.k x.n x.s L e w' (HV.out.1 x hx).2.1 (by omega) (by have := H300.out x hx; omega) h)
      have PD : Hid (∀ i, (putsL (l.drop i)).length ≤ 18120) := Lib.hid (fun i => by
        have := putsL_length (l.drop i) (fun y hy => H300.out y (List.mem_of_mem_drop hy))
        rw [List.length_drop, HNL.out] at this
        omega)
      have BACK : Hid (∀ (p i : Nat) (x : It) (w' : World), l[i]? = some x → Rd p (putsL (l.drop i) ++ m) 0 w' →
        Calls Try.prog 37 #[.pointer (some ⟨p, 0, none⟩), .agg #[.int .u8 x.k, .int .u64 x.n, .string (strL x.s)]] w' fun y w'' => y = .returned (.bool true) ∧ Rd p (putsL (l.drop (i + 1)) ++ m) 0 w'' ∧ Only p w' w'') := Lib.hid (fun p i x w' hx h => by
        have hxl := List.mem_of_getElem? hx
        have hlen : (putsL (l.drop i) ++ m).length ≤ 100000 := by rw [List.length_append]; have := PD.out i; have := HM.out; omega
        have hc := READ.out p _ 0 x w' hxl hlen h
        rw [putsL_drop l i x hx, List.append_assoc] at hc
        obtain ⟨b1, b2, b3⟩ := back_law x.k x.n x.s (putsL (l.drop (i + 1)) ++ m) (HV.out.1 x hxl).2.1 (H300.out x hxl)
        rw [b1, b2, b3] at hc
        exact hc)
      have hPeq : P = putsL (l.drop 0) := by rw [List.drop_zero]; exact HQ.out.symm
      have RD1 : Hid (Rd wr.heap.size (putsL (l.drop 0) ++ m) 0 (wr.alloc (.cells #[.string (strL (P ++ m)), .int .i64 0] 106))) := Lib.hid (by rw [← hPeq]; exact RD0.out)
      clear hPeq RD0
      generalize hw1 : wr.alloc (.cells #[.string (strL (P ++ m)), .int .i64 0] 106) = wA at K1 RD1
      clear hw1 hsum hbd
      go_loopw [12] (fun v12 wr2 => ∃ i2 : Nat, i2 ≤ i ∧ v12 = .int .i64 i2 ∧ Hid (Rd wr.heap.size (putsL (l.drop i2) ++ m) 0 wr2) ∧ Hid (Bl w wr2)) (fun v _ => i - (intOf v).toNat)
      case atStart => exact ⟨0, by omega, rfl, RD1.out, K1⟩
      case round =>
        clear RD1 K1
        obtain ⟨i2, hi2, rfl, hr2, hk2⟩ := hrel
        by_cases hlt2 : i2 < i
        · obtain ⟨x, hx⟩ : ∃ x, l[i2]? = some x := ⟨_, List.getElem?_eq_getElem (by rw [HNL.out]; exact hlt2)⟩
          have hit := HV.out
          rw [← HNL.out] at hit
          obtain ⟨a, rfl, c0, c1, c2⟩ := items_cells hit hk2.out hx
          have HX := Lib.hid hx
          clear hit hx
          go_wp2_with (go_at_call 37; refine (BACK.out _ i2 x _ HX.out hr2.out).mono ?_; rintro e w3 ⟨rfl, ha, hb⟩; have P3 := Lib.hid (And.intro ha hb); clear ha hb)
          go_roundw
          case rel => exact ⟨i2 + 1, by omega, by go_num, P3.out.1, Below.trans hk2.out (only_below P3.out.2 hwr.out hk2.out.size)⟩
          case measure => simp only [intOf]; omega
        · have hin2 : i2 = i := by omega
          subst hin2
          have hdrop : putsL (l.drop i2) ++ m = m := by rw [List.drop_of_length_le (by rw [HNL.out]; exact Nat.le_refl _)]; rfl
          rw [hdrop] at hr2
          clear hdrop
          by_cases hP0 : P = []
          · subst hP0
            have hnil : (strL []).toList = [] := by kernel_rfl
            go_wp2_with (first
              | (go_at_call 15; refine (AW.out _).mono ?_; rintro e w1 ⟨rfl, h1⟩; have H1 := Lib.hid h1; clear h1)
              | (go_at_call 23; refine (r_rest _ _ _ _ hr2.out).mono ?_; rintro x w2 ⟨rfl, rfl⟩)
              | (go_at_call 21; refine (r_err _ _ _ _ hr2.out).mono ?_; rintro x w2 ⟨rfl, rfl⟩))
            go_ret
            exact ⟨rfl, hk2.out.trans H1.out⟩
          · have hne : (strL P).toList.isEmpty = false := by
              rw [ByteArray.toList_eq]
              show P.isEmpty = false
              cases P with
              | nil => exact absurd rfl hP0
              | cons a t => rfl
            obtain ⟨c, hcc⟩ : ∃ c, c = cut % P.length := ⟨_, rfl⟩
            have hpos : 0 < P.length := Nat.pos_of_ne_zero (fun h => hP0 (List.length_eq_zero_iff.1 h))
            have hcl : c < P.length := by rw [hcc]; exact Nat.mod_lt _ hpos
            have hwc : IntKind.i64.wrap (cut : Int) = cut := IntWalk.i64_in _ (by omega)
            have hrem : (cut : Int).tmod (P.length : Int) = (c : Int) := by rw [Int.tmod_eq_emod_of_nonneg (by omega), hcc]; rfl
            have htk := strL_take P c
            have HT : Hid (P.drop c ≠ []) := Lib.hid (fun h => by have := congrArg List.length h; rw [List.length_drop] at this; simp at this; omega)
            have T0 : Hid (Torn (P.take c) (P.drop c) (putsL (l.drop 0)) 0) := Lib.hid (.inl ⟨rfl, by rw [List.take_append_drop, List.drop_zero]; exact HQ.out.symm⟩)
            clear hcc
            go_wp2_with (first
              | (go_at_call 19; refine (r_new _ _).mono ?_; rintro e w5 ⟨rfl, rfl⟩)
              | (go_at_call 23; refine (r_rest _ _ _ _ hr2.out).mono ?_; rintro x w2 ⟨rfl, rfl⟩)
              | (go_at_call 21; refine (r_err _ _ _ _ hr2.out).mono ?_; rintro x w2 ⟨rfl, rfl⟩))
            have RD5 := Lib.hid (rd_new (P.take c) wr)
            have K5 : Hid (Bl w (wr.alloc (.cells #[.string (strL (P.take c)), .int .i64 0] 106))) := Lib.hid (hk2.out.alloc _)
            have hwr5 : Hid (w.heap.size ≤ wr.heap.size) := Lib.hid hk2.out.size
            generalize hw5 : wr.alloc (.cells #[.string (strL (P.take c)), .int .i64 0] 106) = wB at RD5 K5 ⊢
            clear hw5 hrem hwc htk hcl
            go_loopw [14] (fun v14 wr3 => ∃ i3 : Nat, i3 ≤ i2 ∧ v14 = .int .i64 i3 ∧ Hid (∃ L e, Torn L (P.drop c) (putsL (l.drop i3)) e ∧ Rd wr.heap.size L e wr3) ∧ Hid (Bl w wr3)) (fun v _ => i2 - (intOf v).toNat)
            case atStart => exact ⟨0, by omega, rfl, ⟨_, _, T0.out, RD5.out⟩, K5⟩
            case round =>
              clear RD5 K5
              obtain ⟨i3, hi3, rfl, hr3, hk3⟩ := hrel
              obtain ⟨L, e, hT, hR⟩ := hr3.out
              have HTT := Lib.hid hT
              have HR := Lib.hid hR
              clear hT hR hr3
              by_cases hlt3 : i3 < i2
              · obtain ⟨x, hx⟩ : ∃ x, l[i3]? = some x := ⟨_, List.getElem?_eq_getElem (by rw [HNL.out]; exact hlt3)⟩
                have hit := HV.out
                rw [← HNL.out] at hit
                obtain ⟨a, rfl, c0, c1, c2⟩ := items_cells hit hk3.out hx
                have HX := Lib.hid hx
                have hxl := Lib.hid (List.mem_of_getElem? hx)
                have HLL : Hid (L.length ≤ 100000) := Lib.hid (by
                  rcases HTT.out with ⟨_, h⟩ | ⟨_, h⟩
                  · have h1 := congrArg List.length h
                    have h2 := PD.out i3
                    rw [List.length_append] at h1
                    omega
                  · rw [h]; simp)
                have HT2 : Hid (Torn (nxtL x.k x.s L e) (P.drop c) (putsL (l.drop (i3 + 1))) (nxtE x.k x.s L e)) := Lib.hid (by
                  have h := HTT.out
                  rw [putsL_drop l i3 x HX.out] at h
                  exact torn_law x.k x.n x.s L _ _ e (HV.out.1 x hxl.out).2.1 (H300.out x hxl.out) h)
                clear hit hx
                go_wp2_with (go_at_call 37; refine (READ.out _ L e x _ hxl.out HLL.out HR.out).mono ?_; rintro y w3 ⟨rfl, ha, hb⟩; have P3 := Lib.hid (And.intro ha hb); clear ha hb)
                go_roundw
                case rel => exact ⟨i3 + 1, by omega, by go_num, ⟨_, _, HT2.out, P3.out.1⟩, Below.trans hk3.out (only_below P3.out.2 hwr5.out hk3.out.size)⟩
                case measure => simp only [intOf]; omega
              · have hin3 : i3 = i2 := by omega
                subst hin3
                have hend : e = 10 ∧ L = [] := by
                  have h := HTT.out
                  have hd3 : l.drop i3 = [] := List.drop_of_length_le (by rw [HNL.out]; exact Nat.le_refl _)
                  rw [hd3] at h
                  rcases h with ⟨_, h⟩ | ⟨h1, h2⟩
                  · exact absurd (List.append_eq_nil_iff.1 h).2 HT.out
                  · exact ⟨h1, h2⟩
                obtain ⟨rfl, rfl⟩ := hend
                have hnil : (strL []).toList = [] := by kernel_rfl
                go_wp2_with (first
                  | (go_at_call 15; refine (AW.out _).mono ?_; rintro e w1 ⟨rfl, h1⟩; have H1 := Lib.hid h1; clear h1)
                  | (go_at_call 23; refine (r_rest _ _ _ _ HR.out).mono ?_; rintro x w2 ⟨rfl, rfl⟩)
                  | (go_at_call 21; refine (r_err _ _ _ _ HR.out).mono ?_; rintro x w2 ⟨rfl, rfl⟩))
                go_ret
                exact ⟨rfl, hk3.out.trans H1.out⟩
end Go.Proofs.Ytniblmpihnhglaa
namespace Go.Proofs.Ytniblmpihnhglaa
theorem codecBack_walk (v : Value) (l : List It) {w0 : World} (hv : Items w0 v l) (s : ByteArray) (_ : s.size ≤ maxLen) (c : Int) (wc : (Lit.int .u16 c).wf = true) (w : World) (e : w = w0 := by rfl) :
    Calls Try.prog 6 #[v, .string s, .int .u16 c] w fun x w' => x = .returned (.bool true) ∧ Bl w w' := by
  subst e
  have hc : 0 ≤ c ∧ c ≤ 65535 := by simpa [Lit.wf, IntKind.min, IntKind.max, IntKind.signed, IntKind.bits] using wc
  have h := codecBack_on v l s.data.toList c.toNat w (by omega) hv
  rw [show ((c.toNat : Nat) : Int) = c from by omega] at h
  exact h
end Go.Proofs.Ytniblmpihnhglaa
