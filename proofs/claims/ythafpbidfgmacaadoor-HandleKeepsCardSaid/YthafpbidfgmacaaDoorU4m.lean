/- The walk of HandleKeeps. -/
import Derived.Test.YthafpbidfgmacaaDoorUA
namespace Go.Proofs.YthafpbidfgmacaaDoor.Hd
open Go.RowKit Go.Proofs.YthafpbidfgmacaaDoor Go.Proofs.YthafpbidfgmacaaDoorW.PrintWords Go.Proofs.YthafpbidfgmacaaDoorW.PrintLast Go.Proofs.YthafpbidfgmacaaDoorW.PrintMore
set_option linter.unusedVariables false
set_option linter.unusedSimpArgs false

set_option maxRecDepth 100000 in
set_option maxHeartbeats 16000000 in
theorem keeps_some (b o n c : Nat) (f : Nat → Act) (w : World) (hc : n ≤ c) (hm : c ≤ maxLen) (ha : ∀ i, i < n → ActAt w b (o + i * 6) (f i)) (hF : fewB n f = true) : Calls Tryd.prog 3 #[.slice (some ⟨b, o, none⟩) n c] w fun e w' => e = .returned (.bool true) ∧ Below w.heap.size w w' := by
  have hf := Lib.hid (few_calls _ n f w (.inr ⟨b, o, c, rfl, hc, hm, ha⟩))
  rw [hF] at hf
  have hn := Lib.hid (new_calls w)
  have HA := Lib.hid ha
  obtain ⟨hn60, hok⟩ := fewB_of hF
  have HOk := Lib.hid hok
  unfold maxLen at hm
  clear ha hF hok
  go_enter Tryd.func3, Tryd.ntmps3
  go_wp2_with (first | (go_at_call 12; refine hf.out.mono ?_; rintro e w' ⟨rfl, rfl⟩) | (go_at_call 14; refine hn.out.mono ?_; rintro e w1 ⟨rfl, hT, hb⟩; have HT := Lib.hid hT; have HB := Lib.hid hb; clear hT hb))
  have HK : Hid (KR w w.heap.size w1.heap.size _) := ⟨newS, _, _, HT.out.alloc _, fun e => by have := HT.out.rng _ rfl; omega, held_start w1, Inv.start, Below.trans HB.out (Below.mono (below_alloc (Below.refl w1.heap.size w1) _) HB.out.size), HB.out.size, fun _ _ => by decide⟩
  clear HT HB hf hn
  obtain ⟨t, ht⟩ : ∃ t, t = w.heap.size := ⟨_, rfl⟩
  obtain ⟨h, hh⟩ : ∃ h, h = w1.heap.size := ⟨_, rfl⟩
  rw [← hh] at HK
  have HK2 : Hid (KR w t h _) := Lib.hid (by rw [ht]; exact HK)
  rw [← ht, ← hh]
  clear HK hh ht
  go_loopw [5] (fun i wr => ∃ k : Nat, k ≤ n ∧ i = .int .i64 k ∧ Hid (KR w t h wr)) (fun i _ => n - (intOf i).toNat)
  case atStart => exact ⟨0, by omega, rfl, HK2⟩
  case round =>
    clear HK2
    obtain ⟨k, hk, rfl, HK⟩ := hrel
    by_cases hlt : k < n
    · obtain ⟨⟨xw, xs, xa, xb, xd, xk⟩, hx⟩ : ∃ x, f k = x := ⟨_, rfl⟩
      have hat := HA.out k hlt
      have hokx := HOk.out k hlt
      rw [hx] at hat hokx
      obtain ⟨z1, z2, z3, A1, c1, A2, c2, ⟨q0, q1, q2, q3, q4, q5⟩, r1, r2⟩ := hat
      simp only at z1 z2 z3 q0 q1 q2 q3 q4 q5 r1 r2
      obtain ⟨st, F, g, hK⟩ := HK.out
      have hbl := (cell_spot q0).2
      replace q0 := (hK.bel.cell (p := ⟨b, o + k * 6, none⟩) hbl).trans q0
      replace q1 := (hK.bel.cell (p := ⟨b, o + k * 6 + 1, none⟩) hbl).trans q1
      replace q2 := (hK.bel.cell (p := ⟨b, o + k * 6 + 2, none⟩) hbl).trans q2
      replace q3 := (hK.bel.cell (p := ⟨b, o + k * 6 + 3, none⟩) hbl).trans q3
      replace q4 := (hK.bel.cell (p := ⟨b, o + k * 6 + 4, none⟩) hbl).trans q4
      replace q5 := (hK.bel.cell (p := ⟨b, o + k * 6 + 5, none⟩) hbl).trans q5
      have HKS := Lib.hid hK
      have HOkx := Lib.hid hokx
      have HR1 := Lib.hid r1
      have HR2 := Lib.hid r2
      have d1 : decide (k < n) = true := decide_eq_true hlt
      have b0 : (0 : Int) ≤ (k : Int) := by omega
      have b1 : (k : Int) < (n : Int) := by omega
      obtain ⟨zw1, zw2⟩ := z1
      obtain ⟨zd1, zd2⟩ := z2
      obtain ⟨na, hna⟩ : ∃ m, m = xa.length := ⟨_, rfl⟩
      obtain ⟨nb, hnb⟩ : ∃ m, m = xb.length := ⟨_, rfl⟩
      rw [← hna] at q2
      rw [← hnb] at q3
      have HNa := Lib.hid hna
      have HNb := Lib.hid hnb
      clear hK hx hokx r1 r2 HK hna hnb z3 hlt hbl
      obtain ⟨rm, hrm⟩ : ∃ r, r = xw % 6 := ⟨_, rfl⟩
      have hr6 : 0 ≤ rm ∧ rm < 6 := by omega
      go_upto_block 2 with fail
      have hxb : ¬ F wr.heap.size := fun e => by have := (HKS.out.tab.rng _ e).2; omega
      have hhx := HKS.out.held.lt
      have hB0 := below_alloc (Below.refl wr.heap.size wr) (.cells #[.int .u8 xw, .string xs, .slice A1 na c1, .slice A2 nb c2, .int .i64 xd, .int .i64 xk] 32)
      have HK0 := Lib.hid (HKS.out.later hB0)
      have hxl : wr.heap.size < (wr.alloc (.cells #[.int .u8 xw, .string xs, .slice A1 na c1, .slice A2 nb c2, .int .i64 xd, .int .i64 xk] 32)).heap.size := alloc_lt wr _
      have HX : Hid (∀ W : World, W.heap[wr.heap.size]? = (wr.alloc (.cells #[.int .u8 xw, .string xs, .slice A1 na c1, .slice A2 nb c2, .int .i64 xd, .int .i64 xk] 32)).heap[wr.heap.size]? → W.cell? ⟨wr.heap.size, 1, none⟩ = some (.string xs) ∧ W.cell? ⟨wr.heap.size, 2, none⟩ = some (.slice A1 na c1) ∧ W.cell? ⟨wr.heap.size, 3, none⟩ = some (.slice A2 nb c2) ∧ W.cell? ⟨wr.heap.size, 4, none⟩ = some (.int .i64 xd)) := fun W hW => by
        rw [heap_alloc_new] at hW
        exact ⟨by rw [cell_of_row _ _ _ _ _ _ hW]; rfl, by rw [cell_of_row _ _ _ _ _ _ hW]; rfl, by rw [cell_of_row _ _ _ _ _ _ hW]; rfl, by rw [cell_of_row _ _ _ _ _ _ hW]; rfl⟩
      clear HA HOk q0 q1 q2 q3 q4 q5 HKS hB0
      generalize wr.alloc (.cells #[.int .u8 xw, .string xs, .slice A1 na c1, .slice A2 nb c2, .int .i64 xd, .int .i64 xk] 32) = W0 at HK0 HX hxl ⊢
      generalize wr.heap.size = bx at HX hxl hxb hhx ⊢
      obtain ⟨e1, e2, e3, e4⟩ := HX.out W0 rfl
      have HXb := Lib.hid hxb
      have HXl := Lib.hid hxl
      have HHx := Lib.hid hhx
      clear hxb hxl hhx
      have hok3 := HOkx.out
      unfold okAct at hok3
      simp only [Bool.and_eq_true, decide_eq_true_eq] at hok3
      have HS1 := Lib.hid hok3.1
      have HS2 := Lib.hid hok3.2.1
      clear hok3 HOkx
      go_cut [7] (fun s7 wx => Hid (KR w t h wx))
      case first =>
        rcases (by omega : rm = 5 ∨ rm = 4 ∨ rm = 3 ∨ (rm = 0 ∨ rm = 1 ∨ rm = 2)) with h5 | h4 | h3 | h012
        · skip
          have m0 : (xw % 6 == 0) = false := beq_eq_false_iff_ne.2 (by omega)
          have m1 : (xw % 6 == 1) = false := beq_eq_false_iff_ne.2 (by omega)
          have m2 : (xw % 6 == 2) = false := beq_eq_false_iff_ne.2 (by omega)
          have m3 : (xw % 6 == 3) = false := beq_eq_false_iff_ne.2 (by omega)
          have m4 : (xw % 6 == 4) = false := beq_eq_false_iff_ne.2 (by omega)
          clear hrm hr6 h5
          as_aux_lemma =>
            go_wp2_with fail
            go_meet
            case rel => exact HK0.out.kr
        · skip
          have m0 : (xw % 6 == 0) = false := beq_eq_false_iff_ne.2 (by omega)
          have m1 : (xw % 6 == 1) = false := beq_eq_false_iff_ne.2 (by omega)
          have m2 : (xw % 6 == 2) = false := beq_eq_false_iff_ne.2 (by omega)
          have m3 : (xw % 6 == 3) = false := beq_eq_false_iff_ne.2 (by omega)
          have m4 : (xw % 6 == 4) = true := beq_iff_eq.2 (by omega)
          clear hrm hr6 h4
          by_cases hok : okP xa = true ∧ okP xb = true
          · obtain ⟨ho1, ho2⟩ := hok
            have HMo := Lib.hid (HK0.out.moved HR1.out HS1.out HNa.out HR2.out HS2.out HNb.out)
            have HRa := Lib.hid (fun (W : World) (hb : Below w.heap.size w W) => right_at hb HR1.out HS1.out HNa.out)
            have HRb := Lib.hid (fun (W : World) (hb : Below w.heap.size w W) => right_at hb HR2.out HS2.out HNb.out)
            rw [ho1] at HRa
            rw [ho2] at HRb
            have HJa := Lib.hid (fun (W : World) (hb : Below w.heap.size w W) => join_at hb HR1.out ho1 HNa.out)
            have HJb := Lib.hid (fun (W : World) (hb : Below w.heap.size w W) => join_at hb HR2.out ho2 HNb.out)
            have HO1 := Lib.hid ho1
            have HO2 := Lib.hid ho2
            have hs1 := ok_join_size ho1
            have hs2 := ok_join_size ho2
            have hP := joinB_cat xa (by rintro rfl; cases ho1)
            have hQ := joinB_cat xb (by rintro rfl; cases ho2)
            clear ho1 ho2
            generalize joinB xa ⟨#[47]⟩ = ja at HJa hs1 hP
            generalize joinB xb ⟨#[47]⟩ = jb at HJb hs2 hQ
            have HP := Lib.hid hP
            have HQ := Lib.hid hQ
            have g1 : (9223372036854775807 < ja.size + 1) = False := eq_false (by omega)
            have g2 : (9223372036854775807 < jb.size + 1) = False := eq_false (by omega)
            clear hP hQ hs1
            as_aux_lemma =>
              go_wp2_with (first | (go_at_call 18; refine HMo.out.mono ?_; rintro e w2 ⟨rfl, F2, hT, hf⟩; have HML := Lib.hid (ML.start (a := xa) (b := xb) HK0.out hT hf); obtain ⟨-, x2, x3, -⟩ := HX.out w2 (hf.keep bx HXl.out HXb.out); have X2 := Lib.hid x2; have X3 := Lib.hid x3; have HW2 := Lib.hid (Below.refl w2.heap.size w2); have hxl2 : bx < w2.heap.size := Nat.lt_of_lt_of_le HXl.out hf.size; clear hT hf) | (go_at_call_of 19 (Value.slice A1 na c1); refine (HRa.out _ (Below.trans HML.out.bel (HW2.out.mono HML.out.bel.size))).mono ?_; rintro e w3 ⟨rfl, hb⟩; have HW3 := Lib.hid (Below.trans HW2.out (hb.mono HW2.out.size)); have x2a := (HW3.out.cell (p := ⟨bx, 2, none⟩) hxl2).trans X2.out; have x3a := (HW3.out.cell (p := ⟨bx, 3, none⟩) hxl2).trans X3.out; clear hb) | (go_at_call_of 19 (Value.slice A2 nb c2); refine (HRb.out _ (Below.trans HML.out.bel (HW3.out.mono HML.out.bel.size))).mono ?_; rintro e w4 ⟨rfl, hb⟩; have HW4 := Lib.hid (Below.trans HW3.out (hb.mono HW3.out.size)); have x2b := (HW4.out.cell (p := ⟨bx, 2, none⟩) hxl2).trans X2.out; have x3b := (HW4.out.cell (p := ⟨bx, 3, none⟩) hxl2).trans X3.out; clear hb))
              go_cut [9, 10] (fun s9 s10 wx => s9 = .string (ja ++ ⟨#[47]⟩) ∧ s10 = .string (jb ++ ⟨#[47]⟩) ∧ Hid (ML w t h (movedS st xa xb) F2 xa xb g 0 wx))
              case first =>
                go_region_held3 (fun w' => w'.cell? ⟨bx, 2, none⟩ = some (.slice A1 na c1) ∧ w'.cell? ⟨bx, 3, none⟩ = some (.slice A2 nb c2)) ((go_split_ands; refine ⟨?_, ?_⟩ <;> go_keep))
                  (first | (go_at_call_of 16 (Value.slice A1 na c1); refine (HJa.out _ (Below.trans HML.out.bel (Below.mono (below_drew HW4.out) HML.out.bel.size))).mono ?_; rintro e w5 ⟨rfl, hb⟩; have HW5 := Lib.hid (Below.trans (below_drew HW4.out) (hb.mono HW4.out.size)); have x2c := (HW5.out.cell (p := ⟨bx, 2, none⟩) hxl2).trans X2.out; have x3c := (HW5.out.cell (p := ⟨bx, 3, none⟩) hxl2).trans X3.out; clear hb) | (go_at_call_of 16 (Value.slice A2 nb c2); refine (HJb.out _ (Below.trans HML.out.bel (HW5.out.mono HML.out.bel.size))).mono ?_; rintro e w6 ⟨rfl, hb⟩; have HW6 := Lib.hid (Below.trans HW5.out (hb.mono HW5.out.size)); have x2d := (HW6.out.cell (p := ⟨bx, 2, none⟩) hxl2).trans X2.out; have x3d := (HW6.out.cell (p := ⟨bx, 3, none⟩) hxl2).trans X3.out; clear hb))
                go_wp2_with fail
                go_meet
                case rel => exact ⟨rfl, rfl, HML.out.later HW6.out⟩
              case rest =>
                obtain ⟨rfl, rfl, HM0⟩ := hcut
                have HPe : Hid ((ja ++ ⟨#[47]⟩ : ByteArray).data.toList = catL xa) := HP
                have HQe : Hid ((jb ++ ⟨#[47]⟩ : ByteArray).data.toList = catL xb) := HQ
                have hqs : (jb ++ ⟨#[47]⟩ : ByteArray).size ≤ 103 := by
                  rw [ByteArray.size_append]
                  have : (⟨#[47]⟩ : ByteArray).size = 1 := rfl
                  omega
                clear HP HQ hs2 g1 g2 HMo HRa HRb HJa HJb X2 X3 x2 x3 x2a x3a x2b x3b hxl2 HW2 HW3 HW4 HML e1 e2 e3 e4 HX
                generalize (ja ++ ⟨#[47]⟩ : ByteArray) = sp at HPe ⊢
                generalize (jb ++ ⟨#[47]⟩ : ByteArray) = sq at HQe hqs ⊢
                go_wp2_with fail
                go_loopw [11] (fun i wx => ∃ j : Nat, j ≤ 8 ∧ i = .int .i64 j ∧ Hid (ML w t h (movedS st xa xb) F2 xa xb g j wx)) (fun i _ => 8 - (intOf i).toNat)
                case atStart => exact ⟨0, by omega, rfl, HM0⟩
                case round =>
                  clear HM0
                  obtain ⟨j, hj, rfl, HM⟩ := hrel
                  by_cases hj8 : j < 8
                  · obtain ⟨y0, y1, y2⟩ := HM.out.held.cells hj8
                    rw [gMv_at] at y0 y1 y2
                    have z0 := HM.out.held.frozen (j * 3)
                    have z2 := HM.out.held.frozen (j * 3 + 2)
                    have c0 : (0 : Int) ≤ (j : Int) := by omega
                    have c8 : (j : Int) < 8 := by omega
                    obtain ⟨⟨gi, gs, gp⟩, hg⟩ : ∃ x, g j = x := ⟨_, rfl⟩
                    have HG := Lib.hid hg
                    rw [hg] at y0 y1 y2
                    simp only at y0 y1 y2
                    have hsm : gi = true → gp.size ≤ 103 := fun e => by have := HK0.out.small hj8 (by rw [hg]; exact e); rw [hg] at this; exact this
                    have HSm := Lib.hid hsm
                    have HCu := Lib.hid (fun W => cut_calls gp sp W)
                    clear hg hsm
                    have HNo : Hid (¬ (gi = true ∧ Lib.hasPrefix gp.data.toList sp.data.toList = true ∧ gs.toList = []) → heldMoved xa xb (g j) = g j) := fun hn => heldMoved_no HPe.out (by rw [HG.out]; exact hn)
                    have HYe : Hid (gi = true → Lib.hasPrefix gp.data.toList sp.data.toList = true → gs.toList = [] → heldMoved xa xb (g j) = ⟨decide (Lib.countByte (sq ++ ⟨(Lib.trimPrefix gp.data.toList sp.data.toList).toArray⟩).data.toList 47 ≤ 6), gs, sq ++ ⟨(Lib.trimPrefix gp.data.toList sp.data.toList).toArray⟩⟩) := fun h1 h2 h3 => by rw [HG.out, h1]; exact heldMoved_yes HPe.out HQe.out h2 h3
                    have HTl : Hid ((⟨(Lib.trimPrefix gp.data.toList sp.data.toList).toArray⟩ : ByteArray).size ≤ gp.size) := by
                      show (Lib.trimPrefix gp.data.toList sp.data.toList).toArray.size ≤ _
                      rw [List.size_toArray, ← Q.size_len]
                      exact trimPrefix_le _ _
                    generalize (⟨(Lib.trimPrefix gp.data.toList sp.data.toList).toArray⟩ : ByteArray) = rs at HCu HYe HTl
                    generalize Lib.hasPrefix gp.data.toList sp.data.toList = hp at HCu HNo HYe
                    cases gi with
                    | false =>
                      have HS := Lib.hid (HM.out.same (HNo.out (fun e => absurd e.1 (by decide))))
                      cases hp
                      all_goals
                        go_wp2_with (go_at_call 20; refine (HCu.out _).mono ?_; rintro e w7 ⟨rfl, rfl⟩)
                        go_roundw
                        case rel => exact ⟨j + 1, by omega, by go_num, HS⟩
                        case measure => simp [intOf]; omega
                    | true =>
                      cases hp with
                      | false =>
                        have HS := Lib.hid (HM.out.same (HNo.out (fun e => absurd e.2.1 (by decide))))
                        go_wp2_with (go_at_call 20; refine (HCu.out _).mono ?_; rintro e w7 ⟨rfl, rfl⟩)
                        go_roundw
                        case rel => exact ⟨j + 1, by omega, by go_num, HS⟩
                        case measure => simp [intOf]; omega
                      | true =>
                        by_cases hgs : gs.toList = []
                        · have s1 : gs.toList.isEmpty = true := by rw [hgs]; rfl
                          have HPu := HYe.out rfl rfl hgs
                          have hrs := HTl.out
                          have hgp := HSm.out rfl
                          have g3 : (9223372036854775807 < sq.size + rs.size) = False := eq_false (by omega)
                          obtain ⟨np, hnp⟩ : ∃ np, np = sq ++ rs := ⟨_, rfl⟩
                          have HCo := Lib.hid (fun W => count_calls (sq ++ rs) W)
                          obtain ⟨cn, hcn⟩ : ∃ cn, cn = Lib.countByte (sq ++ rs).data.toList 47 := ⟨_, rfl⟩
                          rw [← hcn] at HCo HPu
                          have HS := Lib.hid (HM.out.put hj8 (by rw [HG.out] at HPu ⊢; exact HPu))
                          have hhl := HM.out.held.lt
                          clear hgs HPu hrs hgp hnp hcn
                          go_wp2_with (first | (go_at_call 20; refine (HCu.out _).mono ?_; rintro e w7 ⟨rfl, rfl⟩) | (go_at_call 21; refine (HCo.out _).mono ?_; rintro e w8 ⟨rfl, rfl⟩))
                          go_roundw
                          case rel => exact ⟨j + 1, by omega, by go_num, by rw [show decide ((cn : Int) ≤ 6) = decide (cn ≤ 6) from decide_eq_decide.2 (by omega)]; exact HS⟩
                          case measure => simp [intOf]; omega
                        · have s1 : gs.toList.isEmpty = false := by simpa using hgs
                          have HS := Lib.hid (HM.out.same (HNo.out (fun e => absurd e.2.2 hgs)))
                          clear hgs
                          go_wp2_with (go_at_call 20; refine (HCu.out _).mono ?_; rintro e w7 ⟨rfl, rfl⟩)
                          go_roundw
                          case rel => exact ⟨j + 1, by omega, by go_num, HS⟩
                          case measure => simp [intOf]; omega
                  · obtain rfl : j = 8 := by omega
                    go_wp2_with fail
                    go_meet
                    case rel => exact HM.out.fin HK0.out HO1.out HO2.out
          · have hmv : movedS st xa xb = st := by unfold movedS; rw [if_neg hok]
            have hmo := HK0.out.moved HR1.out HS1.out HNa.out HR2.out HS2.out HNb.out
            rw [hmv] at hmo
            have HMo := Lib.hid hmo
            have HRa := Lib.hid (fun (W : World) (hb : Below w.heap.size w W) => right_at hb HR1.out HS1.out HNa.out)
            have HRb := Lib.hid (fun (W : World) (hb : Below w.heap.size w W) => right_at hb HR2.out HS2.out HNb.out)
            clear hmo hmv
            by_cases ho1 : okP xa = true
            · have ho2 : okP xb = false := by simpa [ho1] using hok
              rw [ho1] at HRa
              rw [ho2] at HRb
              clear hok ho1 ho2
              as_aux_lemma =>
                go_wp2_with (first | (go_at_call 18; refine HMo.out.mono ?_; rintro e w2 ⟨rfl, F2, hT, hf⟩; have HK2 := Lib.hid (HK0.out.kept hT hf); obtain ⟨-, x2, x3, -⟩ := HX.out w2 (hf.keep bx HXl.out HXb.out); have hxl2 : bx < w2.heap.size := Nat.lt_of_lt_of_le HXl.out hf.size; clear hT hf) | (go_at_call_of 19 (Value.slice A1 na c1); refine (HRa.out _ HK2.out.bel).mono ?_; rintro e w3 ⟨rfl, hb⟩; have HK3 := Lib.hid (HK2.out.later hb); have x3a := (hb.cell (p := ⟨bx, 3, none⟩) hxl2).trans x3; clear hb) | (go_at_call_of 19 (Value.slice A2 nb c2); refine (HRb.out _ HK3.out.bel).mono ?_; rintro e w4 ⟨rfl, hb⟩; have HK4 := Lib.hid (HK3.out.later hb); clear hb))
                go_roundw
                case rel => exact ⟨k + 1, by omega, by go_num, HK4.out.kr⟩
                case measure => simp [intOf]; omega
            · have ho1' : okP xa = false := by simpa using ho1
              rw [ho1'] at HRa
              clear hok ho1 ho1'
              as_aux_lemma =>
                go_wp2_with (first | (go_at_call 18; refine HMo.out.mono ?_; rintro e w2 ⟨rfl, F2, hT, hf⟩; have HK2 := Lib.hid (HK0.out.kept hT hf); obtain ⟨-, x2, x3, -⟩ := HX.out w2 (hf.keep bx HXl.out HXb.out); have hxl2 : bx < w2.heap.size := Nat.lt_of_lt_of_le HXl.out hf.size; clear hT hf) | (go_at_call_of 19 (Value.slice A1 na c1); refine (HRa.out _ HK2.out.bel).mono ?_; rintro e w3 ⟨rfl, hb⟩; have HK3 := Lib.hid (HK2.out.later hb); clear hb))
                go_roundw
                case rel => exact ⟨k + 1, by omega, by go_num, HK3.out.kr⟩
                case measure => simp [intOf]; omega
        · skip
          have m0 : (xw % 6 == 0) = false := beq_eq_false_iff_ne.2 (by omega)
          have m1 : (xw % 6 == 1) = false := beq_eq_false_iff_ne.2 (by omega)
          have m2 : (xw % 6 == 2) = false := beq_eq_false_iff_ne.2 (by omega)
          have m3 : (xw % 6 == 3) = true := beq_iff_eq.2 (by omega)
          clear hrm hr6 h3
          have HCl := Lib.hid (HK0.out.close xd)
          by_cases hin : 0 ≤ xd ∧ xd < 8
          · obtain ⟨k0, hk0e⟩ : ∃ k0 : Nat, xd = k0 := ⟨xd.toNat, by omega⟩
            subst hk0e
            have hk0 : k0 < 8 := by omega
            have c0 : (0 : Int) ≤ (k0 : Int) := by omega
            have c8 : (k0 : Int) < 8 := by omega
            have d2 : decide ((k0 : Int) ≥ 0) = true := decide_eq_true (by omega)
            have d3 : decide ((k0 : Int) < 8) = true := decide_eq_true (by omega)
            have hand := and7 k0 hk0
            obtain ⟨y0, y1, y2⟩ := HK0.out.held.cells hk0
            have hsl : k0 < st.length := by rw [HK0.out.tab.sl]; exact hk0
            obtain ⟨en, hen⟩ : ∃ en, st[k0]? = some en := ⟨_, List.getElem?_eq_getElem hsl⟩
            clear hin hsl y1 y2 zd1 zd2
            cases en with
            | none =>
              have HCl := Lib.hid (close_none HK0.out hk0 hen)
              have HGk := Lib.hid (HK0.out.at_none hk0 hen)
              have HEn := Lib.hid hen
              rw [HGk.out] at y0
              clear hen
              as_aux_lemma =>
                go_wp2_with fail
                refine start_ (n := 22) (S := (fun w' => w'.cell? ⟨bx, 4, none⟩ = some (.int .i64 (k0 : Int)) ∧ w'.cell? ⟨h, k0 * 3, none⟩ = some (.bool false))) (ds := []) #[false, false, false, false, false, false, false, false, false, false, false, false, false, false, false, false, false, false, false, false, false, false] (by kernel_rfl) rfl rfl ⟨e4, y0⟩ (fun hHeld => ?_)
                have HBd := Lib.hid (below_drew (Below.refl W0.heap.size W0))
                generalize W0.drew = wd at HBd hHeld ⊢
                refine pure_ (i := 0) (N := some 74) (v := ?_) (a' := ?_) #[true, false, false, false, false, false, false, false, false, false, false, false, false, false, false, false, false, false, false, false, false, false] rfl rfl (by kernel_rfl) (fun _ _ _ h => h) (Or.inl ⟨by rfl, ?_⟩) ?_ ?_
                rotate_left
                · intro w'
                  go_simp
                  with_reducible rfl
                rotate_left
                · simp only [Act.put, List.setIfInBounds_toArray, List.set_cons_zero, List.set_cons_succ]
                  rfl
                refine pure_ (i := 1) (N := some 75) (v := ?_) (a' := ?_) #[true, true, false, false, false, false, false, false, false, false, false, false, false, false, false, false, false, false, false, false, false, false] rfl rfl (by kernel_rfl) (fun _ _ _ h => h) (Or.inl ⟨by rfl, ?_⟩) ?_ ?_
                rotate_left
                · intro w'
                  go_simp
                  with_reducible rfl
                rotate_left
                · simp only [Act.put, List.setIfInBounds_toArray, List.set_cons_zero, List.set_cons_succ]
                  rfl
                refine take_ (i := 2) (N := some 76) (v := ?_) (a' := ?_) #[true, true, true, false, false, false, false, false, false, false, false, false, false, false, false, false, false, false, false, false, false, false] rfl rfl (by kernel_rfl) (fun _ _ _ h => h) (Or.inl ⟨by rfl, ?_⟩) hHeld ?_ ?_
                rotate_left
                · rintro w' ⟨s0, s1⟩
                  go_simp
                  with_reducible rfl
                rotate_left
                · simp only [Act.put, List.setIfInBounds_toArray, List.set_cons_zero, List.set_cons_succ]
                  rfl
                refine pure_ (i := 5) (N := some 79) (v := ?_) (a' := ?_) #[true, true, true, false, false, true, false, false, false, false, false, false, false, false, false, false, false, false, false, false, false, false] rfl rfl (by kernel_rfl) (fun _ _ _ h => h) (Or.inl ⟨by rfl, ?_⟩) ?_ ?_
                rotate_left
                · intro w'
                  go_simp
                  with_reducible rfl
                rotate_left
                · simp only [Act.put, List.setIfInBounds_toArray, List.set_cons_zero, List.set_cons_succ]
                  rfl
                refine take_ (i := 6) (N := some 80) (v := ?_) (a' := ?_) #[true, true, true, false, false, true, true, false, false, false, false, false, false, false, false, false, false, false, false, false, false, false] rfl rfl (by kernel_rfl) (fun _ _ _ h => h) (Or.inl ⟨by rfl, ?_⟩) hHeld ?_ ?_
                rotate_left
                · rintro w' ⟨s0, s1⟩
                  go_simp
                  with_reducible rfl
                rotate_left
                · simp only [Act.put, List.setIfInBounds_toArray, List.set_cons_zero, List.set_cons_succ]
                  rfl
                refine pure_ (i := 7) (N := some 81) (v := ?_) (a' := ?_) #[true, true, true, false, false, true, true, true, false, false, false, false, false, false, false, false, false, false, false, false, false, false] rfl rfl (by kernel_rfl) (fun _ _ _ h => h) (Or.inl ⟨by rfl, ?_⟩) ?_ ?_
                rotate_left
                · intro w'
                  go_simp
                  with_reducible rfl
                rotate_left
                · simp only [Act.put, List.setIfInBounds_toArray, List.set_cons_zero, List.set_cons_succ]
                  rfl
                refine one_ (i := 3) (N := some 77) #[true, true, true, true, false, true, true, true, false, false, false, false, false, false, false, false, false, false, false, false, false, false] rfl rfl (by kernel_rfl) (by decide) (fun K hK => ?_)
                refine goes_ Tryd.func17 (by kernel_rfl) rfl #[.pointer (some ⟨t, 0, none⟩), .int .i64 (k0 : Int)] (by rfl) rfl rfl (by (try simp only [List.map_toArray, List.map_cons, List.map_nil]); first | done | rfl) ?_
                refine (HCl.out _ HBd.out).mono ?_
                rintro e w2 ⟨rfl, F', hT, hf⟩
                refine ⟨_, rfl, ?_⟩
                have HT2 := Lib.hid hT
                have HF2 := Lib.hid hf
                clear hT hf
                have HWd := Lib.hid (HF2.out.pre HBd.out)
                have hx2 := HX.out w2 (HWd.out.keep bx HXl.out HXb.out)
                obtain ⟨-, -, -, x4⟩ := hx2
                have hh2 := (HK0.out.step' HT2.out HWd.out).2.2.1
                obtain ⟨y0, y1, y2⟩ := hh2.cells hk0
                have z0 := hh2.frozen (k0 * 3)
                rw [HGk.out] at y0
                have HH2 := Lib.hid hh2
                clear hh2 y1 y2
                refine hK.out _ _ ⟨x4, y0⟩ (fun hHeld => ?_)
                clear hK K
                refine norm_ (a' := ?_) ?_ ?_
                rotate_left
                · show Act.put _ (some 77) _ = _
                  simp only [Act.put, List.setIfInBounds_toArray, List.set_cons_zero, List.set_cons_succ]
                  rfl
                refine pure_ (i := 4) (N := some 78) (v := ?_) (a' := ?_) #[true, true, true, true, true, true, true, true, false, false, false, false, false, false, false, false, false, false, false, false, false, false] rfl rfl (by kernel_rfl) (fun _ _ _ h => h) (Or.inl ⟨by rfl, ?_⟩) ?_ ?_
                rotate_left
                · intro w'
                  go_simp
                  with_reducible rfl
                rotate_left
                · simp only [Act.put, List.setIfInBounds_toArray, List.set_cons_zero, List.set_cons_succ]
                  rfl
                refine pure_ (i := 8) (N := some 82) (v := ?_) (a' := ?_) #[true, true, true, true, true, true, true, true, true, false, false, false, false, false, false, false, false, false, false, false, false, false] rfl rfl (by kernel_rfl) (fun _ _ _ h => h) (Or.inl ⟨by rfl, ?_⟩) ?_ ?_
                rotate_left
                · intro w'
                  go_simp
                  with_reducible rfl
                rotate_left
                · simp only [Act.put, List.setIfInBounds_toArray, List.set_cons_zero, List.set_cons_succ]
                  rfl
                refine pure_ (i := 9) (N := some 83) (v := ?_) (a' := ?_) #[true, true, true, true, true, true, true, true, true, true, false, false, false, false, false, false, false, false, false, false, false, false] rfl rfl (by kernel_rfl) (fun _ _ _ h => h) (Or.inl ⟨by rfl, ?_⟩) ?_ ?_
                rotate_left
                · intro w'
                  go_simp
                  with_reducible rfl
                rotate_left
                · simp only [Act.put, List.setIfInBounds_toArray, List.set_cons_zero, List.set_cons_succ]
                  rfl
                refine take_ (i := 10) (N := some 84) (v := ?_) (a' := ?_) #[true, true, true, true, true, true, true, true, true, true, true, false, false, false, false, false, false, false, false, false, false, false] rfl rfl (by kernel_rfl) (fun _ _ _ h => h) (Or.inl ⟨by rfl, ?_⟩) hHeld ?_ ?_
                rotate_left
                · rintro w' ⟨s0, s1⟩
                  go_simp
                  with_reducible rfl
                rotate_left
                · simp only [Act.put, List.setIfInBounds_toArray, List.set_cons_zero, List.set_cons_succ]
                  rfl
                refine pure_ (i := 11) (N := some 85) (v := ?_) (a' := ?_) #[true, true, true, true, true, true, true, true, true, true, true, true, false, false, false, false, false, false, false, false, false, false] rfl rfl (by kernel_rfl) (fun _ _ _ h => h) (Or.inl ⟨by rfl, ?_⟩) ?_ ?_
                rotate_left
                · intro w'
                  go_simp
                  with_reducible rfl
                rotate_left
                · simp only [Act.put, List.setIfInBounds_toArray, List.set_cons_zero, List.set_cons_succ]
                  rfl
                refine pure_ (i := 12) (N := some 86) (v := ?_) (a' := ?_) #[true, true, true, true, true, true, true, true, true, true, true, true, true, false, false, false, false, false, false, false, false, false] rfl rfl (by kernel_rfl) (fun _ _ _ h => h) (Or.inl ⟨by rfl, ?_⟩) ?_ ?_
                rotate_left
                · intro w'
                  go_simp
                  with_reducible rfl
                rotate_left
                · simp only [Act.put, List.setIfInBounds_toArray, List.set_cons_zero, List.set_cons_succ]
                  rfl
                refine pure_ (i := 13) (N := some 87) (v := ?_) (a' := ?_) #[true, true, true, true, true, true, true, true, true, true, true, true, true, true, false, false, false, false, false, false, false, false] rfl rfl (by kernel_rfl) (fun _ _ _ h => h) (Or.inl ⟨by rfl, ?_⟩) ?_ ?_
                rotate_left
                · intro w'
                  go_simp
                  with_reducible rfl
                rotate_left
                · simp only [Act.put, List.setIfInBounds_toArray, List.set_cons_zero, List.set_cons_succ]
                  rfl
                refine pure_ (i := 14) (N := some 88) (v := ?_) (a' := ?_) #[true, true, true, true, true, true, true, true, true, true, true, true, true, true, true, false, false, false, false, false, false, false] rfl rfl (by kernel_rfl) (fun _ _ _ h => h) (Or.inl ⟨by rfl, ?_⟩) ?_ ?_
                rotate_left
                · intro w'
                  go_simp
                  with_reducible rfl
                rotate_left
                · simp only [Act.put, List.setIfInBounds_toArray, List.set_cons_zero, List.set_cons_succ]
                  rfl
                refine take_ (i := 15) (N := some 89) (v := ?_) (a' := ?_) #[true, true, true, true, true, true, true, true, true, true, true, true, true, true, true, true, false, false, false, false, false, false] rfl rfl (by kernel_rfl) (fun _ _ _ h => h) (Or.inl ⟨by rfl, ?_⟩) hHeld ?_ ?_
                rotate_left
                · rintro w' ⟨s0, s1⟩
                  go_simp
                  with_reducible rfl
                rotate_left
                · simp only [Act.put, List.setIfInBounds_toArray, List.set_cons_zero, List.set_cons_succ]
                  rfl
                refine pure_ (i := 16) (N := some 90) (v := ?_) (a' := ?_) #[true, true, true, true, true, true, true, true, true, true, true, true, true, true, true, true, true, false, false, false, false, false] rfl rfl (by kernel_rfl) (fun _ _ _ h => h) (Or.inl ⟨by rfl, ?_⟩) ?_ ?_
                rotate_left
                · intro w'
                  go_simp
                  with_reducible rfl
                rotate_left
                · simp only [Act.put, List.setIfInBounds_toArray, List.set_cons_zero, List.set_cons_succ]
                  rfl
                refine pure_ (i := 17) (N := some 91) (v := ?_) (a' := ?_) #[true, true, true, true, true, true, true, true, true, true, true, true, true, true, true, true, true, true, false, false, false, false] rfl rfl (by kernel_rfl) (fun _ _ _ h => h) (Or.inl ⟨by rfl, ?_⟩) ?_ ?_
                rotate_left
                · intro w'
                  go_simp
                  with_reducible rfl
                rotate_left
                · simp only [Act.put, List.setIfInBounds_toArray, List.set_cons_zero, List.set_cons_succ]
                  rfl
                refine pure_ (i := 18) (N := some 92) (v := ?_) (a' := ?_) #[true, true, true, true, true, true, true, true, true, true, true, true, true, true, true, true, true, true, true, false, false, false] rfl rfl (by kernel_rfl) (fun _ _ _ h => h) (Or.inl ⟨by rfl, ?_⟩) ?_ ?_
                rotate_left
                · intro w'
                  go_simp
                  with_reducible rfl
                rotate_left
                · simp only [Act.put, List.setIfInBounds_toArray, List.set_cons_zero, List.set_cons_succ]
                  rfl
                refine take_ (i := 19) (N := some 93) (v := ?_) (a' := ?_) #[true, true, true, true, true, true, true, true, true, true, true, true, true, true, true, true, true, true, true, true, false, false] rfl rfl (by kernel_rfl) (fun _ _ _ h => h) (Or.inl ⟨by rfl, ?_⟩) hHeld ?_ ?_
                rotate_left
                · rintro w' ⟨s0, s1⟩
                  go_simp
                  with_reducible rfl
                rotate_left
                · simp only [Act.put, List.setIfInBounds_toArray, List.set_cons_zero, List.set_cons_succ]
                  rfl
                refine pure_ (i := 20) (N := some 94) (v := ?_) (a' := ?_) #[true, true, true, true, true, true, true, true, true, true, true, true, true, true, true, true, true, true, true, true, true, false] rfl rfl (by kernel_rfl) (fun _ _ _ h => h) (Or.inl ⟨by rfl, ?_⟩) ?_ ?_
                rotate_left
                · intro w'
                  go_simp
                  with_reducible rfl
                rotate_left
                · simp only [Act.put, List.setIfInBounds_toArray, List.set_cons_zero, List.set_cons_succ]
                  rfl
                refine pure_ (i := 21) (N := some 95) (v := ?_) (a' := ?_) #[true, true, true, true, true, true, true, true, true, true, true, true, true, true, true, true, true, true, true, true, true, true] rfl rfl (by kernel_rfl) (fun _ _ _ h => h) (Or.inl ⟨by rfl, ?_⟩) ?_ ?_
                rotate_left
                · intro w'
                  go_simp
                  with_reducible rfl
                rotate_left
                · simp only [Act.put, List.setIfInBounds_toArray, List.set_cons_zero, List.set_cons_succ]
                  rfl
                refine done_ (by kernel_rfl) ?_
                go_wp2_with fail
                go_meet
                case rel => exact HK0.out.closed_no hk0 HT2.out HWd.out HEn.out
            | some x =>
              have HCl := Lib.hid (close_some HK0.out hk0 hen)
              have HGk := Lib.hid (HK0.out.at_some hk0 hen)
              rw [HGk.out] at y0
              clear hen
              as_aux_lemma =>
                go_wp2_with fail
                refine start_ (n := 22) (S := (fun w' => w'.cell? ⟨bx, 4, none⟩ = some (.int .i64 (k0 : Int)) ∧ w'.cell? ⟨h, k0 * 3, none⟩ = some (.bool true))) (ds := []) #[false, false, false, false, false, false, false, false, false, false, false, false, false, false, false, false, false, false, false, false, false, false] (by kernel_rfl) rfl rfl ⟨e4, y0⟩ (fun hHeld => ?_)
                have HBd := Lib.hid (below_drew (Below.refl W0.heap.size W0))
                generalize W0.drew = wd at HBd hHeld ⊢
                refine pure_ (i := 0) (N := some 74) (v := ?_) (a' := ?_) #[true, false, false, false, false, false, false, false, false, false, false, false, false, false, false, false, false, false, false, false, false, false] rfl rfl (by kernel_rfl) (fun _ _ _ h => h) (Or.inl ⟨by rfl, ?_⟩) ?_ ?_
                rotate_left
                · intro w'
                  go_simp
                  with_reducible rfl
                rotate_left
                · simp only [Act.put, List.setIfInBounds_toArray, List.set_cons_zero, List.set_cons_succ]
                  rfl
                refine pure_ (i := 1) (N := some 75) (v := ?_) (a' := ?_) #[true, true, false, false, false, false, false, false, false, false, false, false, false, false, false, false, false, false, false, false, false, false] rfl rfl (by kernel_rfl) (fun _ _ _ h => h) (Or.inl ⟨by rfl, ?_⟩) ?_ ?_
                rotate_left
                · intro w'
                  go_simp
                  with_reducible rfl
                rotate_left
                · simp only [Act.put, List.setIfInBounds_toArray, List.set_cons_zero, List.set_cons_succ]
                  rfl
                refine take_ (i := 2) (N := some 76) (v := ?_) (a' := ?_) #[true, true, true, false, false, false, false, false, false, false, false, false, false, false, false, false, false, false, false, false, false, false] rfl rfl (by kernel_rfl) (fun _ _ _ h => h) (Or.inl ⟨by rfl, ?_⟩) hHeld ?_ ?_
                rotate_left
                · rintro w' ⟨s0, s1⟩
                  go_simp
                  with_reducible rfl
                rotate_left
                · simp only [Act.put, List.setIfInBounds_toArray, List.set_cons_zero, List.set_cons_succ]
                  rfl
                refine pure_ (i := 5) (N := some 79) (v := ?_) (a' := ?_) #[true, true, true, false, false, true, false, false, false, false, false, false, false, false, false, false, false, false, false, false, false, false] rfl rfl (by kernel_rfl) (fun _ _ _ h => h) (Or.inl ⟨by rfl, ?_⟩) ?_ ?_
                rotate_left
                · intro w'
                  go_simp
                  with_reducible rfl
                rotate_left
                · simp only [Act.put, List.setIfInBounds_toArray, List.set_cons_zero, List.set_cons_succ]
                  rfl
                refine take_ (i := 6) (N := some 80) (v := ?_) (a' := ?_) #[true, true, true, false, false, true, true, false, false, false, false, false, false, false, false, false, false, false, false, false, false, false] rfl rfl (by kernel_rfl) (fun _ _ _ h => h) (Or.inl ⟨by rfl, ?_⟩) hHeld ?_ ?_
                rotate_left
                · rintro w' ⟨s0, s1⟩
                  go_simp
                  with_reducible rfl
                rotate_left
                · simp only [Act.put, List.setIfInBounds_toArray, List.set_cons_zero, List.set_cons_succ]
                  rfl
                refine pure_ (i := 7) (N := some 81) (v := ?_) (a' := ?_) #[true, true, true, false, false, true, true, true, false, false, false, false, false, false, false, false, false, false, false, false, false, false] rfl rfl (by kernel_rfl) (fun _ _ _ h => h) (Or.inl ⟨by rfl, ?_⟩) ?_ ?_
                rotate_left
                · intro w'
                  go_simp
                  with_reducible rfl
                rotate_left
                · simp only [Act.put, List.setIfInBounds_toArray, List.set_cons_zero, List.set_cons_succ]
                  rfl
                refine one_ (i := 3) (N := some 77) #[true, true, true, true, false, true, true, true, false, false, false, false, false, false, false, false, false, false, false, false, false, false] rfl rfl (by kernel_rfl) (by decide) (fun K hK => ?_)
                refine goes_ Tryd.func17 (by kernel_rfl) rfl #[.pointer (some ⟨t, 0, none⟩), .int .i64 (k0 : Int)] (by rfl) rfl rfl (by (try simp only [List.map_toArray, List.map_cons, List.map_nil]); first | done | rfl) ?_
                refine (HCl.out _ HBd.out).mono ?_
                rintro e w2 ⟨rfl, F', hT, hf⟩
                refine ⟨_, rfl, ?_⟩
                have HT2 := Lib.hid hT
                have HF2 := Lib.hid hf
                clear hT hf
                have HWd := Lib.hid (HF2.out.pre HBd.out)
                have hx2 := HX.out w2 (HWd.out.keep bx HXl.out HXb.out)
                obtain ⟨-, -, -, x4⟩ := hx2
                have hh2 := (HK0.out.step' HT2.out HWd.out).2.2.1
                obtain ⟨y0, y1, y2⟩ := hh2.cells hk0
                have z0 := hh2.frozen (k0 * 3)
                rw [HGk.out] at y0
                have HH2 := Lib.hid hh2
                clear hh2 y1 y2
                refine hK.out _ _ ⟨x4, y0⟩ (fun hHeld => ?_)
                clear hK K
                refine norm_ (a' := ?_) ?_ ?_
                rotate_left
                · show Act.put _ (some 77) _ = _
                  simp only [Act.put, List.setIfInBounds_toArray, List.set_cons_zero, List.set_cons_succ]
                  rfl
                refine pure_ (i := 4) (N := some 78) (v := ?_) (a' := ?_) #[true, true, true, true, true, true, true, true, false, false, false, false, false, false, false, false, false, false, false, false, false, false] rfl rfl (by kernel_rfl) (fun _ _ _ h => h) (Or.inl ⟨by rfl, ?_⟩) ?_ ?_
                rotate_left
                · intro w'
                  go_simp
                  with_reducible rfl
                rotate_left
                · simp only [Act.put, List.setIfInBounds_toArray, List.set_cons_zero, List.set_cons_succ]
                  rfl
                refine pure_ (i := 8) (N := some 82) (v := ?_) (a' := ?_) #[true, true, true, true, true, true, true, true, true, false, false, false, false, false, false, false, false, false, false, false, false, false] rfl rfl (by kernel_rfl) (fun _ _ _ h => h) (Or.inl ⟨by rfl, ?_⟩) ?_ ?_
                rotate_left
                · intro w'
                  go_simp
                  with_reducible rfl
                rotate_left
                · simp only [Act.put, List.setIfInBounds_toArray, List.set_cons_zero, List.set_cons_succ]
                  rfl
                refine pure_ (i := 9) (N := some 83) (v := ?_) (a' := ?_) #[true, true, true, true, true, true, true, true, true, true, false, false, false, false, false, false, false, false, false, false, false, false] rfl rfl (by kernel_rfl) (fun _ _ _ h => h) (Or.inl ⟨by rfl, ?_⟩) ?_ ?_
                rotate_left
                · intro w'
                  go_simp
                  with_reducible rfl
                rotate_left
                · simp only [Act.put, List.setIfInBounds_toArray, List.set_cons_zero, List.set_cons_succ]
                  rfl
                refine take_ (i := 10) (N := some 84) (v := ?_) (a' := ?_) #[true, true, true, true, true, true, true, true, true, true, true, false, false, false, false, false, false, false, false, false, false, false] rfl rfl (by kernel_rfl) (fun _ _ _ h => h) (Or.inl ⟨by rfl, ?_⟩) hHeld ?_ ?_
                rotate_left
                · rintro w' ⟨s0, s1⟩
                  go_simp
                  with_reducible rfl
                rotate_left
                · simp only [Act.put, List.setIfInBounds_toArray, List.set_cons_zero, List.set_cons_succ]
                  rfl
                refine pure_ (i := 11) (N := some 85) (v := ?_) (a' := ?_) #[true, true, true, true, true, true, true, true, true, true, true, true, false, false, false, false, false, false, false, false, false, false] rfl rfl (by kernel_rfl) (fun _ _ _ h => h) (Or.inl ⟨by rfl, ?_⟩) ?_ ?_
                rotate_left
                · intro w'
                  go_simp
                  with_reducible rfl
                rotate_left
                · simp only [Act.put, List.setIfInBounds_toArray, List.set_cons_zero, List.set_cons_succ]
                  rfl
                refine pure_ (i := 12) (N := some 86) (v := ?_) (a' := ?_) #[true, true, true, true, true, true, true, true, true, true, true, true, true, false, false, false, false, false, false, false, false, false] rfl rfl (by kernel_rfl) (fun _ _ _ h => h) (Or.inl ⟨by rfl, ?_⟩) ?_ ?_
                rotate_left
                · intro w'
                  go_simp
                  with_reducible rfl
                rotate_left
                · simp only [Act.put, List.setIfInBounds_toArray, List.set_cons_zero, List.set_cons_succ]
                  rfl
                refine pure_ (i := 13) (N := some 87) (v := ?_) (a' := ?_) #[true, true, true, true, true, true, true, true, true, true, true, true, true, true, false, false, false, false, false, false, false, false] rfl rfl (by kernel_rfl) (fun _ _ _ h => h) (Or.inl ⟨by rfl, ?_⟩) ?_ ?_
                rotate_left
                · intro w'
                  go_simp
                  with_reducible rfl
                rotate_left
                · simp only [Act.put, List.setIfInBounds_toArray, List.set_cons_zero, List.set_cons_succ]
                  rfl
                refine pure_ (i := 14) (N := some 88) (v := ?_) (a' := ?_) #[true, true, true, true, true, true, true, true, true, true, true, true, true, true, true, false, false, false, false, false, false, false] rfl rfl (by kernel_rfl) (fun _ _ _ h => h) (Or.inl ⟨by rfl, ?_⟩) ?_ ?_
                rotate_left
                · intro w'
                  go_simp
                  with_reducible rfl
                rotate_left
                · simp only [Act.put, List.setIfInBounds_toArray, List.set_cons_zero, List.set_cons_succ]
                  rfl
                refine take_ (i := 15) (N := some 89) (v := ?_) (a' := ?_) #[true, true, true, true, true, true, true, true, true, true, true, true, true, true, true, true, false, false, false, false, false, false] rfl rfl (by kernel_rfl) (fun _ _ _ h => h) (Or.inl ⟨by rfl, ?_⟩) hHeld ?_ ?_
                rotate_left
                · rintro w' ⟨s0, s1⟩
                  go_simp
                  with_reducible rfl
                rotate_left
                · simp only [Act.put, List.setIfInBounds_toArray, List.set_cons_zero, List.set_cons_succ]
                  rfl
                refine pure_ (i := 16) (N := some 90) (v := ?_) (a' := ?_) #[true, true, true, true, true, true, true, true, true, true, true, true, true, true, true, true, true, false, false, false, false, false] rfl rfl (by kernel_rfl) (fun _ _ _ h => h) (Or.inl ⟨by rfl, ?_⟩) ?_ ?_
                rotate_left
                · intro w'
                  go_simp
                  with_reducible rfl
                rotate_left
                · simp only [Act.put, List.setIfInBounds_toArray, List.set_cons_zero, List.set_cons_succ]
                  rfl
                refine pure_ (i := 17) (N := some 91) (v := ?_) (a' := ?_) #[true, true, true, true, true, true, true, true, true, true, true, true, true, true, true, true, true, true, false, false, false, false] rfl rfl (by kernel_rfl) (fun _ _ _ h => h) (Or.inl ⟨by rfl, ?_⟩) ?_ ?_
                rotate_left
                · intro w'
                  go_simp
                  with_reducible rfl
                rotate_left
                · simp only [Act.put, List.setIfInBounds_toArray, List.set_cons_zero, List.set_cons_succ]
                  rfl
                refine pure_ (i := 18) (N := some 92) (v := ?_) (a' := ?_) #[true, true, true, true, true, true, true, true, true, true, true, true, true, true, true, true, true, true, true, false, false, false] rfl rfl (by kernel_rfl) (fun _ _ _ h => h) (Or.inl ⟨by rfl, ?_⟩) ?_ ?_
                rotate_left
                · intro w'
                  go_simp
                  with_reducible rfl
                rotate_left
                · simp only [Act.put, List.setIfInBounds_toArray, List.set_cons_zero, List.set_cons_succ]
                  rfl
                refine take_ (i := 19) (N := some 93) (v := ?_) (a' := ?_) #[true, true, true, true, true, true, true, true, true, true, true, true, true, true, true, true, true, true, true, true, false, false] rfl rfl (by kernel_rfl) (fun _ _ _ h => h) (Or.inl ⟨by rfl, ?_⟩) hHeld ?_ ?_
                rotate_left
                · rintro w' ⟨s0, s1⟩
                  go_simp
                  with_reducible rfl
                rotate_left
                · simp only [Act.put, List.setIfInBounds_toArray, List.set_cons_zero, List.set_cons_succ]
                  rfl
                refine pure_ (i := 20) (N := some 94) (v := ?_) (a' := ?_) #[true, true, true, true, true, true, true, true, true, true, true, true, true, true, true, true, true, true, true, true, true, false] rfl rfl (by kernel_rfl) (fun _ _ _ h => h) (Or.inl ⟨by rfl, ?_⟩) ?_ ?_
                rotate_left
                · intro w'
                  go_simp
                  with_reducible rfl
                rotate_left
                · simp only [Act.put, List.setIfInBounds_toArray, List.set_cons_zero, List.set_cons_succ]
                  rfl
                refine pure_ (i := 21) (N := some 95) (v := ?_) (a' := ?_) #[true, true, true, true, true, true, true, true, true, true, true, true, true, true, true, true, true, true, true, true, true, true] rfl rfl (by kernel_rfl) (fun _ _ _ h => h) (Or.inl ⟨by rfl, ?_⟩) ?_ ?_
                rotate_left
                · intro w'
                  go_simp
                  with_reducible rfl
                rotate_left
                · simp only [Act.put, List.setIfInBounds_toArray, List.set_cons_zero, List.set_cons_succ]
                  rfl
                refine done_ (by kernel_rfl) ?_
                go_wp2_with fail
                go_meet
                case rel => exact HK0.out.closed_yes hk0 HT2.out HWd.out
          · have HCl := Lib.hid (close_out HK0.out hin)
            by_cases h0 : xd < 0
            · have d2 : decide (xd ≥ 0) = false := decide_eq_false (by omega)
              clear hin h0
              as_aux_lemma =>
                go_wp2_with fail
                refine start_ (n := 22) (S := (fun w' => w'.cell? ⟨bx, 4, none⟩ = some (.int .i64 xd))) (ds := []) #[false, false, false, false, false, false, false, false, false, false, false, false, false, false, false, false, false, false, false, false, false, false] (by kernel_rfl) rfl rfl e4 (fun hHeld => ?_)
                have HBd := Lib.hid (below_drew (Below.refl W0.heap.size W0))
                generalize W0.drew = wd at HBd hHeld ⊢
                refine pure_ (i := 0) (N := some 74) (v := ?_) (a' := ?_) #[true, false, false, false, false, false, false, false, false, false, false, false, false, false, false, false, false, false, false, false, false, false] rfl rfl (by kernel_rfl) (fun _ _ _ h => h) (Or.inl ⟨by rfl, ?_⟩) ?_ ?_
                rotate_left
                · intro w'
                  go_simp
                  with_reducible rfl
                rotate_left
                · simp only [Act.put, List.setIfInBounds_toArray, List.set_cons_zero, List.set_cons_succ]
                  rfl
                refine pure_ (i := 1) (N := some 75) (v := ?_) (a' := ?_) #[true, true, false, false, false, false, false, false, false, false, false, false, false, false, false, false, false, false, false, false, false, false] rfl rfl (by kernel_rfl) (fun _ _ _ h => h) (Or.inl ⟨by rfl, ?_⟩) ?_ ?_
                rotate_left
                · intro w'
                  go_simp
                  with_reducible rfl
                rotate_left
                · simp only [Act.put, List.setIfInBounds_toArray, List.set_cons_zero, List.set_cons_succ]
                  rfl
                refine take_ (i := 2) (N := some 76) (v := ?_) (a' := ?_) #[true, true, true, false, false, false, false, false, false, false, false, false, false, false, false, false, false, false, false, false, false, false] rfl rfl (by kernel_rfl) (fun _ _ _ h => h) (Or.inl ⟨by rfl, ?_⟩) hHeld ?_ ?_
                rotate_left
                · intro w' s0
                  go_simp
                  with_reducible rfl
                rotate_left
                · simp only [Act.put, List.setIfInBounds_toArray, List.set_cons_zero, List.set_cons_succ]
                  rfl
                refine pure_ (i := 5) (N := some 79) (v := ?_) (a' := ?_) #[true, true, true, false, false, true, false, false, false, false, false, false, false, false, false, false, false, false, false, false, false, false] rfl rfl (by kernel_rfl) (fun _ _ _ h => h) (Or.inl ⟨by rfl, ?_⟩) ?_ ?_
                rotate_left
                · intro w'
                  go_simp
                  with_reducible rfl
                rotate_left
                · simp only [Act.put, List.setIfInBounds_toArray, List.set_cons_zero, List.set_cons_succ]
                  rfl
                refine take_ (i := 6) (N := some 80) (v := ?_) (a' := ?_) #[true, true, true, false, false, true, true, false, false, false, false, false, false, false, false, false, false, false, false, false, false, false] rfl rfl (by kernel_rfl) (fun _ _ _ h => h) (Or.inl ⟨by rfl, ?_⟩) hHeld ?_ ?_
                rotate_left
                · intro w' s0
                  go_simp
                  with_reducible rfl
                rotate_left
                · simp only [Act.put, List.setIfInBounds_toArray, List.set_cons_zero, List.set_cons_succ]
                  rfl
                refine pure_ (i := 7) (N := some 81) (v := ?_) (a' := ?_) #[true, true, true, false, false, true, true, true, false, false, false, false, false, false, false, false, false, false, false, false, false, false] rfl rfl (by kernel_rfl) (fun _ _ _ h => h) (Or.inl ⟨by rfl, ?_⟩) ?_ ?_
                rotate_left
                · intro w'
                  go_simp
                  with_reducible rfl
                rotate_left
                · simp only [Act.put, List.setIfInBounds_toArray, List.set_cons_zero, List.set_cons_succ]
                  rfl
                refine one_ (i := 3) (N := some 77) #[true, true, true, true, false, true, true, true, false, false, false, false, false, false, false, false, false, false, false, false, false, false] rfl rfl (by kernel_rfl) (by decide) (fun K hK => ?_)
                refine goes_ Tryd.func17 (by kernel_rfl) rfl #[.pointer (some ⟨t, 0, none⟩), .int .i64 xd] (by rfl) rfl rfl (by (try simp only [List.map_toArray, List.map_cons, List.map_nil]); first | done | rfl) ?_
                refine (HCl.out _ HBd.out).mono ?_
                rintro e w2 ⟨rfl, F', hT, hf⟩
                refine ⟨_, rfl, ?_⟩
                have HT2 := Lib.hid hT
                have HF2 := Lib.hid hf
                clear hT hf
                have HWd := Lib.hid (HF2.out.pre HBd.out)
                have hx2 := HX.out w2 (HWd.out.keep bx HXl.out HXb.out)
                obtain ⟨-, -, -, x4⟩ := hx2
                refine hK.out _ _ x4 (fun hHeld => ?_)
                clear hK K
                refine norm_ (a' := ?_) ?_ ?_
                rotate_left
                · show Act.put _ (some 77) _ = _
                  simp only [Act.put, List.setIfInBounds_toArray, List.set_cons_zero, List.set_cons_succ]
                  rfl
                refine pure_ (i := 4) (N := some 78) (v := ?_) (a' := ?_) #[true, true, true, true, true, true, true, true, false, false, false, false, false, false, false, false, false, false, false, false, false, false] rfl rfl (by kernel_rfl) (fun _ _ _ h => h) (Or.inl ⟨by rfl, ?_⟩) ?_ ?_
                rotate_left
                · intro w'
                  go_simp
                  with_reducible rfl
                rotate_left
                · simp only [Act.put, List.setIfInBounds_toArray, List.set_cons_zero, List.set_cons_succ]
                  rfl
                refine pure_ (i := 8) (N := some 82) (v := ?_) (a' := ?_) #[true, true, true, true, true, true, true, true, true, false, false, false, false, false, false, false, false, false, false, false, false, false] rfl rfl (by kernel_rfl) (fun _ _ _ h => h) (Or.inl ⟨by rfl, ?_⟩) ?_ ?_
                rotate_left
                · intro w'
                  go_simp
                  with_reducible rfl
                rotate_left
                · simp only [Act.put, List.setIfInBounds_toArray, List.set_cons_zero, List.set_cons_succ]
                  rfl
                refine pure_ (i := 9) (N := some 83) (v := undef) (a' := ?_) #[true, true, true, true, true, true, true, true, true, true, false, false, false, false, false, false, false, false, false, false, false, false] rfl rfl (by kernel_rfl) (fun _ _ _ h => h) (Or.inr ⟨by rfl, rfl⟩) ?_ ?_
                rotate_left
                · simp only [Act.put, List.setIfInBounds_toArray, List.set_cons_zero, List.set_cons_succ]
                  rfl
                refine pure_ (i := 10) (N := some 84) (v := undef) (a' := ?_) #[true, true, true, true, true, true, true, true, true, true, true, false, false, false, false, false, false, false, false, false, false, false] rfl rfl (by kernel_rfl) (fun _ _ _ h => h) (Or.inr ⟨by rfl, rfl⟩) ?_ ?_
                rotate_left
                · simp only [Act.put, List.setIfInBounds_toArray, List.set_cons_zero, List.set_cons_succ]
                  rfl
                refine pure_ (i := 11) (N := some 85) (v := undef) (a' := ?_) #[true, true, true, true, true, true, true, true, true, true, true, true, false, false, false, false, false, false, false, false, false, false] rfl rfl (by kernel_rfl) (fun _ _ _ h => h) (Or.inr ⟨by rfl, rfl⟩) ?_ ?_
                rotate_left
                · simp only [Act.put, List.setIfInBounds_toArray, List.set_cons_zero, List.set_cons_succ]
                  rfl
                refine pure_ (i := 12) (N := some 86) (v := ?_) (a' := ?_) #[true, true, true, true, true, true, true, true, true, true, true, true, true, false, false, false, false, false, false, false, false, false] rfl rfl (by kernel_rfl) (fun _ _ _ h => h) (Or.inl ⟨by rfl, ?_⟩) ?_ ?_
                rotate_left
                · intro w'
                  go_simp
                  with_reducible rfl
                rotate_left
                · simp only [Act.put, List.setIfInBounds_toArray, List.set_cons_zero, List.set_cons_succ]
                  rfl
                refine pure_ (i := 13) (N := some 87) (v := ?_) (a' := ?_) #[true, true, true, true, true, true, true, true, true, true, true, true, true, true, false, false, false, false, false, false, false, false] rfl rfl (by kernel_rfl) (fun _ _ _ h => h) (Or.inl ⟨by rfl, ?_⟩) ?_ ?_
                rotate_left
                · intro w'
                  go_simp
                  with_reducible rfl
                rotate_left
                · simp only [Act.put, List.setIfInBounds_toArray, List.set_cons_zero, List.set_cons_succ]
                  rfl
                refine pure_ (i := 14) (N := some 88) (v := undef) (a' := ?_) #[true, true, true, true, true, true, true, true, true, true, true, true, true, true, true, false, false, false, false, false, false, false] rfl rfl (by kernel_rfl) (fun _ _ _ h => h) (Or.inr ⟨by rfl, rfl⟩) ?_ ?_
                rotate_left
                · simp only [Act.put, List.setIfInBounds_toArray, List.set_cons_zero, List.set_cons_succ]
                  rfl
                refine pure_ (i := 15) (N := some 89) (v := undef) (a' := ?_) #[true, true, true, true, true, true, true, true, true, true, true, true, true, true, true, true, false, false, false, false, false, false] rfl rfl (by kernel_rfl) (fun _ _ _ h => h) (Or.inr ⟨by rfl, rfl⟩) ?_ ?_
                rotate_left
                · simp only [Act.put, List.setIfInBounds_toArray, List.set_cons_zero, List.set_cons_succ]
                  rfl
                refine pure_ (i := 16) (N := some 90) (v := undef) (a' := ?_) #[true, true, true, true, true, true, true, true, true, true, true, true, true, true, true, true, true, false, false, false, false, false] rfl rfl (by kernel_rfl) (fun _ _ _ h => h) (Or.inr ⟨by rfl, rfl⟩) ?_ ?_
                rotate_left
                · simp only [Act.put, List.setIfInBounds_toArray, List.set_cons_zero, List.set_cons_succ]
                  rfl
                refine pure_ (i := 17) (N := some 91) (v := undef) (a' := ?_) #[true, true, true, true, true, true, true, true, true, true, true, true, true, true, true, true, true, true, false, false, false, false] rfl rfl (by kernel_rfl) (fun _ _ _ h => h) (Or.inr ⟨by rfl, rfl⟩) ?_ ?_
                rotate_left
                · simp only [Act.put, List.setIfInBounds_toArray, List.set_cons_zero, List.set_cons_succ]
                  rfl
                refine pure_ (i := 18) (N := some 92) (v := undef) (a' := ?_) #[true, true, true, true, true, true, true, true, true, true, true, true, true, true, true, true, true, true, true, false, false, false] rfl rfl (by kernel_rfl) (fun _ _ _ h => h) (Or.inr ⟨by rfl, rfl⟩) ?_ ?_
                rotate_left
                · simp only [Act.put, List.setIfInBounds_toArray, List.set_cons_zero, List.set_cons_succ]
                  rfl
                refine pure_ (i := 19) (N := some 93) (v := undef) (a' := ?_) #[true, true, true, true, true, true, true, true, true, true, true, true, true, true, true, true, true, true, true, true, false, false] rfl rfl (by kernel_rfl) (fun _ _ _ h => h) (Or.inr ⟨by rfl, rfl⟩) ?_ ?_
                rotate_left
                · simp only [Act.put, List.setIfInBounds_toArray, List.set_cons_zero, List.set_cons_succ]
                  rfl
                refine pure_ (i := 20) (N := some 94) (v := ?_) (a' := ?_) #[true, true, true, true, true, true, true, true, true, true, true, true, true, true, true, true, true, true, true, true, true, false] rfl rfl (by kernel_rfl) (fun _ _ _ h => h) (Or.inl ⟨by rfl, ?_⟩) ?_ ?_
                rotate_left
                · intro w'
                  go_simp
                  with_reducible rfl
                rotate_left
                · simp only [Act.put, List.setIfInBounds_toArray, List.set_cons_zero, List.set_cons_succ]
                  rfl
                refine pure_ (i := 21) (N := some 95) (v := ?_) (a' := ?_) #[true, true, true, true, true, true, true, true, true, true, true, true, true, true, true, true, true, true, true, true, true, true] rfl rfl (by kernel_rfl) (fun _ _ _ h => h) (Or.inl ⟨by rfl, ?_⟩) ?_ ?_
                rotate_left
                · intro w'
                  go_simp
                  with_reducible rfl
                rotate_left
                · simp only [Act.put, List.setIfInBounds_toArray, List.set_cons_zero, List.set_cons_succ]
                  rfl
                refine done_ (by kernel_rfl) ?_
                go_wp2_with fail
                go_meet
                case rel => exact (HK0.out.kept HT2.out HWd.out).kr
            · have d2 : decide (xd ≥ 0) = true := decide_eq_true (by omega)
              have d3 : decide (xd < 8) = false := decide_eq_false (by omega)
              clear hin h0
              as_aux_lemma =>
                go_wp2_with fail
                refine start_ (n := 22) (S := (fun w' => w'.cell? ⟨bx, 4, none⟩ = some (.int .i64 xd))) (ds := []) #[false, false, false, false, false, false, false, false, false, false, false, false, false, false, false, false, false, false, false, false, false, false] (by kernel_rfl) rfl rfl e4 (fun hHeld => ?_)
                have HBd := Lib.hid (below_drew (Below.refl W0.heap.size W0))
                generalize W0.drew = wd at HBd hHeld ⊢
                refine pure_ (i := 0) (N := some 74) (v := ?_) (a' := ?_) #[true, false, false, false, false, false, false, false, false, false, false, false, false, false, false, false, false, false, false, false, false, false] rfl rfl (by kernel_rfl) (fun _ _ _ h => h) (Or.inl ⟨by rfl, ?_⟩) ?_ ?_
                rotate_left
                · intro w'
                  go_simp
                  with_reducible rfl
                rotate_left
                · simp only [Act.put, List.setIfInBounds_toArray, List.set_cons_zero, List.set_cons_succ]
                  rfl
                refine pure_ (i := 1) (N := some 75) (v := ?_) (a' := ?_) #[true, true, false, false, false, false, false, false, false, false, false, false, false, false, false, false, false, false, false, false, false, false] rfl rfl (by kernel_rfl) (fun _ _ _ h => h) (Or.inl ⟨by rfl, ?_⟩) ?_ ?_
                rotate_left
                · intro w'
                  go_simp
                  with_reducible rfl
                rotate_left
                · simp only [Act.put, List.setIfInBounds_toArray, List.set_cons_zero, List.set_cons_succ]
                  rfl
                refine take_ (i := 2) (N := some 76) (v := ?_) (a' := ?_) #[true, true, true, false, false, false, false, false, false, false, false, false, false, false, false, false, false, false, false, false, false, false] rfl rfl (by kernel_rfl) (fun _ _ _ h => h) (Or.inl ⟨by rfl, ?_⟩) hHeld ?_ ?_
                rotate_left
                · intro w' s0
                  go_simp
                  with_reducible rfl
                rotate_left
                · simp only [Act.put, List.setIfInBounds_toArray, List.set_cons_zero, List.set_cons_succ]
                  rfl
                refine pure_ (i := 5) (N := some 79) (v := ?_) (a' := ?_) #[true, true, true, false, false, true, false, false, false, false, false, false, false, false, false, false, false, false, false, false, false, false] rfl rfl (by kernel_rfl) (fun _ _ _ h => h) (Or.inl ⟨by rfl, ?_⟩) ?_ ?_
                rotate_left
                · intro w'
                  go_simp
                  with_reducible rfl
                rotate_left
                · simp only [Act.put, List.setIfInBounds_toArray, List.set_cons_zero, List.set_cons_succ]
                  rfl
                refine take_ (i := 6) (N := some 80) (v := ?_) (a' := ?_) #[true, true, true, false, false, true, true, false, false, false, false, false, false, false, false, false, false, false, false, false, false, false] rfl rfl (by kernel_rfl) (fun _ _ _ h => h) (Or.inl ⟨by rfl, ?_⟩) hHeld ?_ ?_
                rotate_left
                · intro w' s0
                  go_simp
                  with_reducible rfl
                rotate_left
                · simp only [Act.put, List.setIfInBounds_toArray, List.set_cons_zero, List.set_cons_succ]
                  rfl
                refine pure_ (i := 7) (N := some 81) (v := ?_) (a' := ?_) #[true, true, true, false, false, true, true, true, false, false, false, false, false, false, false, false, false, false, false, false, false, false] rfl rfl (by kernel_rfl) (fun _ _ _ h => h) (Or.inl ⟨by rfl, ?_⟩) ?_ ?_
                rotate_left
                · intro w'
                  go_simp
                  with_reducible rfl
                rotate_left
                · simp only [Act.put, List.setIfInBounds_toArray, List.set_cons_zero, List.set_cons_succ]
                  rfl
                refine one_ (i := 3) (N := some 77) #[true, true, true, true, false, true, true, true, false, false, false, false, false, false, false, false, false, false, false, false, false, false] rfl rfl (by kernel_rfl) (by decide) (fun K hK => ?_)
                refine goes_ Tryd.func17 (by kernel_rfl) rfl #[.pointer (some ⟨t, 0, none⟩), .int .i64 xd] (by rfl) rfl rfl (by (try simp only [List.map_toArray, List.map_cons, List.map_nil]); first | done | rfl) ?_
                refine (HCl.out _ HBd.out).mono ?_
                rintro e w2 ⟨rfl, F', hT, hf⟩
                refine ⟨_, rfl, ?_⟩
                have HT2 := Lib.hid hT
                have HF2 := Lib.hid hf
                clear hT hf
                have HWd := Lib.hid (HF2.out.pre HBd.out)
                have hx2 := HX.out w2 (HWd.out.keep bx HXl.out HXb.out)
                obtain ⟨-, -, -, x4⟩ := hx2
                refine hK.out _ _ x4 (fun hHeld => ?_)
                clear hK K
                refine norm_ (a' := ?_) ?_ ?_
                rotate_left
                · show Act.put _ (some 77) _ = _
                  simp only [Act.put, List.setIfInBounds_toArray, List.set_cons_zero, List.set_cons_succ]
                  rfl
                refine pure_ (i := 4) (N := some 78) (v := ?_) (a' := ?_) #[true, true, true, true, true, true, true, true, false, false, false, false, false, false, false, false, false, false, false, false, false, false] rfl rfl (by kernel_rfl) (fun _ _ _ h => h) (Or.inl ⟨by rfl, ?_⟩) ?_ ?_
                rotate_left
                · intro w'
                  go_simp
                  with_reducible rfl
                rotate_left
                · simp only [Act.put, List.setIfInBounds_toArray, List.set_cons_zero, List.set_cons_succ]
                  rfl
                refine pure_ (i := 8) (N := some 82) (v := ?_) (a' := ?_) #[true, true, true, true, true, true, true, true, true, false, false, false, false, false, false, false, false, false, false, false, false, false] rfl rfl (by kernel_rfl) (fun _ _ _ h => h) (Or.inl ⟨by rfl, ?_⟩) ?_ ?_
                rotate_left
                · intro w'
                  go_simp
                  with_reducible rfl
                rotate_left
                · simp only [Act.put, List.setIfInBounds_toArray, List.set_cons_zero, List.set_cons_succ]
                  rfl
                refine pure_ (i := 9) (N := some 83) (v := ?_) (a' := ?_) #[true, true, true, true, true, true, true, true, true, true, false, false, false, false, false, false, false, false, false, false, false, false] rfl rfl (by kernel_rfl) (fun _ _ _ h => h) (Or.inl ⟨by rfl, ?_⟩) ?_ ?_
                rotate_left
                · intro w'
                  go_simp
                  with_reducible rfl
                rotate_left
                · simp only [Act.put, List.setIfInBounds_toArray, List.set_cons_zero, List.set_cons_succ]
                  rfl
                refine take_ (i := 10) (N := some 84) (v := ?_) (a' := ?_) #[true, true, true, true, true, true, true, true, true, true, true, false, false, false, false, false, false, false, false, false, false, false] rfl rfl (by kernel_rfl) (fun _ _ _ h => h) (Or.inl ⟨by rfl, ?_⟩) hHeld ?_ ?_
                rotate_left
                · intro w' s0
                  go_simp
                  with_reducible rfl
                rotate_left
                · simp only [Act.put, List.setIfInBounds_toArray, List.set_cons_zero, List.set_cons_succ]
                  rfl
                refine pure_ (i := 11) (N := some 85) (v := ?_) (a' := ?_) #[true, true, true, true, true, true, true, true, true, true, true, true, false, false, false, false, false, false, false, false, false, false] rfl rfl (by kernel_rfl) (fun _ _ _ h => h) (Or.inl ⟨by rfl, ?_⟩) ?_ ?_
                rotate_left
                · intro w'
                  go_simp
                  with_reducible rfl
                rotate_left
                · simp only [Act.put, List.setIfInBounds_toArray, List.set_cons_zero, List.set_cons_succ]
                  rfl
                refine pure_ (i := 12) (N := some 86) (v := ?_) (a' := ?_) #[true, true, true, true, true, true, true, true, true, true, true, true, true, false, false, false, false, false, false, false, false, false] rfl rfl (by kernel_rfl) (fun _ _ _ h => h) (Or.inl ⟨by rfl, ?_⟩) ?_ ?_
                rotate_left
                · intro w'
                  go_simp
                  with_reducible rfl
                rotate_left
                · simp only [Act.put, List.setIfInBounds_toArray, List.set_cons_zero, List.set_cons_succ]
                  rfl
                refine pure_ (i := 13) (N := some 87) (v := ?_) (a' := ?_) #[true, true, true, true, true, true, true, true, true, true, true, true, true, true, false, false, false, false, false, false, false, false] rfl rfl (by kernel_rfl) (fun _ _ _ h => h) (Or.inl ⟨by rfl, ?_⟩) ?_ ?_
                rotate_left
                · intro w'
                  go_simp
                  with_reducible rfl
                rotate_left
                · simp only [Act.put, List.setIfInBounds_toArray, List.set_cons_zero, List.set_cons_succ]
                  rfl
                refine pure_ (i := 14) (N := some 88) (v := undef) (a' := ?_) #[true, true, true, true, true, true, true, true, true, true, true, true, true, true, true, false, false, false, false, false, false, false] rfl rfl (by kernel_rfl) (fun _ _ _ h => h) (Or.inr ⟨by rfl, rfl⟩) ?_ ?_
                rotate_left
                · simp only [Act.put, List.setIfInBounds_toArray, List.set_cons_zero, List.set_cons_succ]
                  rfl
                refine pure_ (i := 15) (N := some 89) (v := undef) (a' := ?_) #[true, true, true, true, true, true, true, true, true, true, true, true, true, true, true, true, false, false, false, false, false, false] rfl rfl (by kernel_rfl) (fun _ _ _ h => h) (Or.inr ⟨by rfl, rfl⟩) ?_ ?_
                rotate_left
                · simp only [Act.put, List.setIfInBounds_toArray, List.set_cons_zero, List.set_cons_succ]
                  rfl
                refine pure_ (i := 16) (N := some 90) (v := undef) (a' := ?_) #[true, true, true, true, true, true, true, true, true, true, true, true, true, true, true, true, true, false, false, false, false, false] rfl rfl (by kernel_rfl) (fun _ _ _ h => h) (Or.inr ⟨by rfl, rfl⟩) ?_ ?_
                rotate_left
                · simp only [Act.put, List.setIfInBounds_toArray, List.set_cons_zero, List.set_cons_succ]
                  rfl
                refine pure_ (i := 17) (N := some 91) (v := undef) (a' := ?_) #[true, true, true, true, true, true, true, true, true, true, true, true, true, true, true, true, true, true, false, false, false, false] rfl rfl (by kernel_rfl) (fun _ _ _ h => h) (Or.inr ⟨by rfl, rfl⟩) ?_ ?_
                rotate_left
                · simp only [Act.put, List.setIfInBounds_toArray, List.set_cons_zero, List.set_cons_succ]
                  rfl
                refine pure_ (i := 18) (N := some 92) (v := undef) (a' := ?_) #[true, true, true, true, true, true, true, true, true, true, true, true, true, true, true, true, true, true, true, false, false, false] rfl rfl (by kernel_rfl) (fun _ _ _ h => h) (Or.inr ⟨by rfl, rfl⟩) ?_ ?_
                rotate_left
                · simp only [Act.put, List.setIfInBounds_toArray, List.set_cons_zero, List.set_cons_succ]
                  rfl
                refine pure_ (i := 19) (N := some 93) (v := undef) (a' := ?_) #[true, true, true, true, true, true, true, true, true, true, true, true, true, true, true, true, true, true, true, true, false, false] rfl rfl (by kernel_rfl) (fun _ _ _ h => h) (Or.inr ⟨by rfl, rfl⟩) ?_ ?_
                rotate_left
                · simp only [Act.put, List.setIfInBounds_toArray, List.set_cons_zero, List.set_cons_succ]
                  rfl
                refine pure_ (i := 20) (N := some 94) (v := ?_) (a' := ?_) #[true, true, true, true, true, true, true, true, true, true, true, true, true, true, true, true, true, true, true, true, true, false] rfl rfl (by kernel_rfl) (fun _ _ _ h => h) (Or.inl ⟨by rfl, ?_⟩) ?_ ?_
                rotate_left
                · intro w'
                  go_simp
                  with_reducible rfl
                rotate_left
                · simp only [Act.put, List.setIfInBounds_toArray, List.set_cons_zero, List.set_cons_succ]
                  rfl
                refine pure_ (i := 21) (N := some 95) (v := ?_) (a' := ?_) #[true, true, true, true, true, true, true, true, true, true, true, true, true, true, true, true, true, true, true, true, true, true] rfl rfl (by kernel_rfl) (fun _ _ _ h => h) (Or.inl ⟨by rfl, ?_⟩) ?_ ?_
                rotate_left
                · intro w'
                  go_simp
                  with_reducible rfl
                rotate_left
                · simp only [Act.put, List.setIfInBounds_toArray, List.set_cons_zero, List.set_cons_succ]
                  rfl
                refine done_ (by kernel_rfl) ?_
                go_wp2_with fail
                go_meet
                case rel => exact (HK0.out.kept HT2.out HWd.out).kr
        · clear e3 e4 zd1 zd2
          have HOp := Lib.hid (HK0.out.open_ HR1.out HS1.out HNa.out xs)
          by_cases hok : okP xa = true
          · by_cases hfr : freeS st < 8
            · have ho : openS st xs xa = (st.set (freeS st) (some (xs, xa)), (freeS st : Int), 0) := by unfold openS; rw [if_pos hok, if_pos hfr]
              have hno := freeS_at st hfr
              rw [ho] at HOp
              obtain ⟨k0, hk0e⟩ : ∃ k0, k0 = freeS st := ⟨_, rfl⟩
              rw [← hk0e] at HOp hfr hno
              have hk0 := hfr
              have HGk := Lib.hid (HK0.out.at_none hk0 hno)
              have HOk := Lib.hid hok
              have c0 : (0 : Int) ≤ (k0 : Int) := by omega
              have c8 : (k0 : Int) < 8 := by omega
              have d2 : decide ((k0 : Int) < 0) = false := decide_eq_false (by omega)
              have d3 : decide ((k0 : Int) > 7) = false := decide_eq_false (by omega)
              have HJ := Lib.hid (fun (W : World) (F2 : Nat → Prop) (hT : Tab w.heap.size W t true (st.set k0 (some (xs, xa))) F2) (hf : Fr F F2 W0 W) (W2 : World) (hb : Below W.heap.size W W2) => join_later HK0.out hT hf HR1.out HOk.out HNa.out W2 hb)
              have hjs := ok_join_size hok
              have hj2 : (9223372036854775807 < (joinB xa ⟨#[47]⟩).size + 1) = False := eq_false (by omega)
              have HJx : Hid (∃ j, j = joinB xa ⟨#[47]⟩) := ⟨_, rfl⟩
              obtain ⟨jx, hjx⟩ := HJx.out
              rw [← hjx] at HJ hjs hj2
              have HJe := Lib.hid hjx
              clear hjx HJx hok hfr hno ho hk0e
              rcases h012 with h0 | h0 | h0
              all_goals
                first
                  | (have m0 : (xw % 6 == 0) = true := beq_iff_eq.2 (by omega))
                  | (have m0 : (xw % 6 == 0) = false := beq_eq_false_iff_ne.2 (by omega); have m1 : (xw % 6 == 1) = true := beq_iff_eq.2 (by omega))
                  | (have m0 : (xw % 6 == 0) = false := beq_eq_false_iff_ne.2 (by omega); have m1 : (xw % 6 == 1) = false := beq_eq_false_iff_ne.2 (by omega); have m2 : (xw % 6 == 2) = true := beq_iff_eq.2 (by omega))
                clear hrm hr6 h0
                as_aux_lemma =>
                  go_wp2_with (go_at_call 15; refine HOp.out.mono ?_; rintro e w2 ⟨rfl, F2, hT, hf⟩; have HT2 := Lib.hid hT; have HF2 := Lib.hid hf; have hh2 := (HK0.out.step' hT hf).2.2.1; obtain ⟨y0, y1, y2⟩ := hh2.cells hk0; have z0 := hh2.frozen (k0 * 3); have z1 := hh2.frozen (k0 * 3 + 1); have z2 := hh2.frozen (k0 * 3 + 2); have hhl := hh2.lt; rw [HGk.out] at y0; obtain ⟨x1, x2, -, -⟩ := HX.out w2 (hf.keep bx HXl.out HXb.out); have hxl2 : bx < w2.heap.size := Nat.lt_of_lt_of_le HXl.out hf.size; clear hT hf hh2)
                  go_region_held3 (fun w' => w'.cell? ⟨bx, 1, none⟩ = some (.string xs) ∧ w'.cell? ⟨bx, 2, none⟩ = some (.slice A1 na c1)) ((go_split_ands; refine ⟨?_, ?_⟩ <;> go_keep))
                    ((go_at_call 16; refine (HJ.out _ _ HT2.out HF2.out _ (below_drew (Below.refl _ _))).mono ?_; rintro e w3 ⟨rfl, hb⟩; have y0' : w3.cell? ⟨h, k0 * 3, none⟩ = some (.bool false) := (hb.cell (p := ⟨h, k0 * 3, none⟩) hhl).trans y0; have y1' : w3.cell? ⟨h, k0 * 3 + 1, none⟩ = some (.string (g k0).snap) := (hb.cell (p := ⟨h, k0 * 3 + 1, none⟩) hhl).trans y1; have y2' : w3.cell? ⟨h, k0 * 3 + 2, none⟩ = some (.string (g k0).path) := (hb.cell (p := ⟨h, k0 * 3 + 2, none⟩) hhl).trans y2; have z0' : w3.frozen? ⟨h, k0 * 3, none⟩ = false := (hb.frozen (p := ⟨h, k0 * 3, none⟩) hhl).trans z0; have z1' : w3.frozen? ⟨h, k0 * 3 + 1, none⟩ = false := (hb.frozen (p := ⟨h, k0 * 3 + 1, none⟩) hhl).trans z1; have z2' : w3.frozen? ⟨h, k0 * 3 + 2, none⟩ = false := (hb.frozen (p := ⟨h, k0 * 3 + 2, none⟩) hhl).trans z2; have hhl3 : h < w3.heap.size := Nat.lt_of_lt_of_le hhl hb.size; have x1' : w3.cell? ⟨bx, 1, none⟩ = some (.string xs) := (hb.cell (p := ⟨bx, 1, none⟩) hxl2).trans x1; have x2' : w3.cell? ⟨bx, 2, none⟩ = some (.slice A1 na c1) := (hb.cell (p := ⟨bx, 2, none⟩) hxl2).trans x2; have ne1 : ¬ h = bx := Nat.ne_of_lt HHx.out; have ne2 : ¬ bx = h := Nat.ne_of_gt HHx.out))
                  go_wp2_with fail
                  go_meet
                  case rel => rw [HJe.out]; exact HK0.out.opened hk0 HT2.out HF2.out (Below.trans (below_drew (Below.refl _ _)) hb) HOk.out
            · have ho : openS st xs xa = (st, 0, 7) := by unfold openS; rw [if_pos hok, if_neg hfr]
              rw [ho] at HOp
              clear ho hok hfr
              rcases h012 with h0 | h0 | h0
              all_goals
                first
                  | (have m0 : (xw % 6 == 0) = true := beq_iff_eq.2 (by omega))
                  | (have m0 : (xw % 6 == 0) = false := beq_eq_false_iff_ne.2 (by omega); have m1 : (xw % 6 == 1) = true := beq_iff_eq.2 (by omega))
                  | (have m0 : (xw % 6 == 0) = false := beq_eq_false_iff_ne.2 (by omega); have m1 : (xw % 6 == 1) = false := beq_eq_false_iff_ne.2 (by omega); have m2 : (xw % 6 == 2) = true := beq_iff_eq.2 (by omega))
                clear hrm hr6 h0
                as_aux_lemma =>
                  go_wp2_with (go_at_call 15; refine HOp.out.mono ?_; rintro e w2 ⟨rfl, F2, hT, hf⟩; have HK2 := Lib.hid (HK0.out.kept hT hf).kr; clear hT hf)
                  go_roundw
                  case rel => exact ⟨k + 1, by omega, by go_num, HK2⟩
                  case measure => simp [intOf]; omega
          · have ho : openS st xs xa = (st, 0, 4) := by unfold openS; rw [if_neg hok]
            rw [ho] at HOp
            clear ho hok
            rcases h012 with h0 | h0 | h0
            all_goals
              first
                | (have m0 : (xw % 6 == 0) = true := beq_iff_eq.2 (by omega))
                | (have m0 : (xw % 6 == 0) = false := beq_eq_false_iff_ne.2 (by omega); have m1 : (xw % 6 == 1) = true := beq_iff_eq.2 (by omega))
                | (have m0 : (xw % 6 == 0) = false := beq_eq_false_iff_ne.2 (by omega); have m1 : (xw % 6 == 1) = false := beq_eq_false_iff_ne.2 (by omega); have m2 : (xw % 6 == 2) = true := beq_iff_eq.2 (by omega))
              clear hrm hr6 h0
              as_aux_lemma =>
                go_wp2_with (go_at_call 15; refine HOp.out.mono ?_; rintro e w2 ⟨rfl, F2, hT, hf⟩; have HK2 := Lib.hid (HK0.out.kept hT hf).kr; clear hT hf)
                go_roundw
                case rel => exact ⟨k + 1, by omega, by go_num, HK2⟩
                case measure => simp [intOf]; omega
      case rest =>
        clear HK0 HX HXb HXl HHx e1 e2 e3 e4 HR1 HR2 HNa HNb HS1 HS2 zw1 zw2 zd1 zd2 hrm hr6
        obtain ⟨st1, F1, g1, hK⟩ := hcut
        have HK1 := Lib.hid hK
        clear hK
        go_wp2
        go_loopw [14] (fun i wx => ∃ j : Nat, j ≤ 8 ∧ i = .int .i64 j ∧ Hid (KS w t h st1 F1 g1 wx)) (fun i _ => 8 - (intOf i).toNat)
        case atStart => exact ⟨0, by omega, rfl, HK1⟩
        case round =>
          clear HK1
          rename_i wy _ _
          obtain ⟨j, hj, rfl, HK1⟩ := hrel
          by_cases hj8 : j < 8
          · obtain ⟨y0, y1, y2⟩ := HK1.out.held.cells hj8
            have hhr := HK1.out.inv.at_ j hj8
            have hof := HR_of hhr
            have hsz := HK1.out.sz j hj8
            have hte := fun hi => HR_tells hhr hi ⟨(Lib.trimSuffix (g1 j).path.data.toList [47]).toArray⟩ (by simp)
            have htl := HK1.out.tells j (g1 j).snap ⟨(Lib.trimSuffix (g1 j).path.data.toList [47]).toArray⟩
            have htr := fun W => trim_calls (g1 j).path W hsz
            have hfo := HK1.out.of_ j
            rw [hof] at hfo
            have hhl := HK1.out.held.lt
            have c0 : (0 : Int) ≤ (j : Int) := by omega
            have c8 : (j : Int) < 8 := by omega
            clear hhr hsz hof
            obtain ⟨⟨gi, gs, gp⟩, hg⟩ : ∃ x, g1 j = x := ⟨_, rfl⟩
            rw [hg] at y0 y1 y2 hte htl htr hfo
            simp only at y0 y1 y2 hte htl htr hfo
            clear hg
            cases gi with
            | true =>
              rw [hte rfl] at htl
              rw [if_pos rfl] at hfo
              have HTe := Lib.hid htl
              have HTr := Lib.hid htr
              have HOf := Lib.hid hfo
              clear hte htl htr hfo
              as_aux_lemma =>
                go_wp2_with fail
                refine start_ (n := 23) (S := (fun w' => w'.cell? ⟨h, j * 3, none⟩ = some (.bool true) ∧ w'.cell? ⟨h, j * 3 + 1, none⟩ = some (.string gs) ∧ w'.cell? ⟨h, j * 3 + 2, none⟩ = some (.string gp))) (ds := []) #[false, false, false, false, false, false, false, false, false, false, false, false, false, false, false, false, false, false, false, false, false, false, false] (by kernel_rfl) rfl rfl ⟨y0, y1, y2⟩ (fun hHeld => ?_)
                have HBd := Lib.hid (below_drew (Below.refl wr.heap.size wr))
                generalize wr.drew = wd at HBd hHeld ⊢
                refine pure_ (i := 0) (N := some 180) (v := ?_) (a' := ?_) #[true, false, false, false, false, false, false, false, false, false, false, false, false, false, false, false, false, false, false, false, false, false, false] rfl rfl (by kernel_rfl) (fun _ _ _ h => h) (Or.inl ⟨by rfl, ?_⟩) ?_ ?_
                rotate_left
                · intro w'
                  go_simp
                  with_reducible rfl
                rotate_left
                · simp only [Act.put, List.setIfInBounds_toArray, List.set_cons_zero, List.set_cons_succ]
                  rfl
                refine pure_ (i := 1) (N := some 181) (v := ?_) (a' := ?_) #[true, true, false, false, false, false, false, false, false, false, false, false, false, false, false, false, false, false, false, false, false, false, false] rfl rfl (by kernel_rfl) (fun _ _ _ h => h) (Or.inl ⟨by rfl, ?_⟩) ?_ ?_
                rotate_left
                · intro w'
                  go_simp
                  with_reducible rfl
                rotate_left
                · simp only [Act.put, List.setIfInBounds_toArray, List.set_cons_zero, List.set_cons_succ]
                  rfl
                refine pure_ (i := 2) (N := some 182) (v := ?_) (a' := ?_) #[true, true, true, false, false, false, false, false, false, false, false, false, false, false, false, false, false, false, false, false, false, false, false] rfl rfl (by kernel_rfl) (fun _ _ _ h => h) (Or.inl ⟨by rfl, ?_⟩) ?_ ?_
                rotate_left
                · intro w'
                  go_simp
                  with_reducible rfl
                rotate_left
                · simp only [Act.put, List.setIfInBounds_toArray, List.set_cons_zero, List.set_cons_succ]
                  rfl
                refine take_ (i := 3) (N := some 183) (v := ?_) (a' := ?_) #[true, true, true, true, false, false, false, false, false, false, false, false, false, false, false, false, false, false, false, false, false, false, false] rfl rfl (by kernel_rfl) (fun _ _ _ h => h) (Or.inl ⟨by rfl, ?_⟩) hHeld ?_ ?_
                rotate_left
                · rintro w' ⟨s0, s1, s2⟩
                  go_simp
                  with_reducible rfl
                rotate_left
                · simp only [Act.put, List.setIfInBounds_toArray, List.set_cons_zero, List.set_cons_succ]
                  rfl
                refine pure_ (i := 4) (N := some 184) (v := ?_) (a' := ?_) #[true, true, true, true, true, false, false, false, false, false, false, false, false, false, false, false, false, false, false, false, false, false, false] rfl rfl (by kernel_rfl) (fun _ _ _ h => h) (Or.inl ⟨by rfl, ?_⟩) ?_ ?_
                rotate_left
                · intro w'
                  go_simp
                  with_reducible rfl
                rotate_left
                · simp only [Act.put, List.setIfInBounds_toArray, List.set_cons_zero, List.set_cons_succ]
                  rfl
                refine pure_ (i := 5) (N := some 185) (v := ?_) (a' := ?_) #[true, true, true, true, true, true, false, false, false, false, false, false, false, false, false, false, false, false, false, false, false, false, false] rfl rfl (by kernel_rfl) (fun _ _ _ h => h) (Or.inl ⟨by rfl, ?_⟩) ?_ ?_
                rotate_left
                · intro w'
                  go_simp
                  with_reducible rfl
                rotate_left
                · simp only [Act.put, List.setIfInBounds_toArray, List.set_cons_zero, List.set_cons_succ]
                  rfl
                refine pure_ (i := 6) (N := some 186) (v := ?_) (a' := ?_) #[true, true, true, true, true, true, true, false, false, false, false, false, false, false, false, false, false, false, false, false, false, false, false] rfl rfl (by kernel_rfl) (fun _ _ _ h => h) (Or.inl ⟨by rfl, ?_⟩) ?_ ?_
                rotate_left
                · intro w'
                  go_simp
                  with_reducible rfl
                rotate_left
                · simp only [Act.put, List.setIfInBounds_toArray, List.set_cons_zero, List.set_cons_succ]
                  rfl
                refine pure_ (i := 7) (N := some 187) (v := ?_) (a' := ?_) #[true, true, true, true, true, true, true, true, false, false, false, false, false, false, false, false, false, false, false, false, false, false, false] rfl rfl (by kernel_rfl) (fun _ _ _ h => h) (Or.inl ⟨by rfl, ?_⟩) ?_ ?_
                rotate_left
                · intro w'
                  go_simp
                  with_reducible rfl
                rotate_left
                · simp only [Act.put, List.setIfInBounds_toArray, List.set_cons_zero, List.set_cons_succ]
                  rfl
                refine pure_ (i := 8) (N := some 188) (v := ?_) (a' := ?_) #[true, true, true, true, true, true, true, true, true, false, false, false, false, false, false, false, false, false, false, false, false, false, false] rfl rfl (by kernel_rfl) (fun _ _ _ h => h) (Or.inl ⟨by rfl, ?_⟩) ?_ ?_
                rotate_left
                · intro w'
                  go_simp
                  with_reducible rfl
                rotate_left
                · simp only [Act.put, List.setIfInBounds_toArray, List.set_cons_zero, List.set_cons_succ]
                  rfl
                refine take_ (i := 9) (N := some 189) (v := ?_) (a' := ?_) #[true, true, true, true, true, true, true, true, true, true, false, false, false, false, false, false, false, false, false, false, false, false, false] rfl rfl (by kernel_rfl) (fun _ _ _ h => h) (Or.inl ⟨by rfl, ?_⟩) hHeld ?_ ?_
                rotate_left
                · rintro w' ⟨s0, s1, s2⟩
                  go_simp
                  with_reducible rfl
                rotate_left
                · simp only [Act.put, List.setIfInBounds_toArray, List.set_cons_zero, List.set_cons_succ]
                  rfl
                refine pure_ (i := 10) (N := some 190) (v := ?_) (a' := ?_) #[true, true, true, true, true, true, true, true, true, true, true, false, false, false, false, false, false, false, false, false, false, false, false] rfl rfl (by kernel_rfl) (fun _ _ _ h => h) (Or.inl ⟨by rfl, ?_⟩) ?_ ?_
                rotate_left
                · intro w'
                  go_simp
                  with_reducible rfl
                rotate_left
                · simp only [Act.put, List.setIfInBounds_toArray, List.set_cons_zero, List.set_cons_succ]
                  rfl
                refine pure_ (i := 11) (N := some 191) (v := ?_) (a' := ?_) #[true, true, true, true, true, true, true, true, true, true, true, true, false, false, false, false, false, false, false, false, false, false, false] rfl rfl (by kernel_rfl) (fun _ _ _ h => h) (Or.inl ⟨by rfl, ?_⟩) ?_ ?_
                rotate_left
                · intro w'
                  go_simp
                  with_reducible rfl
                rotate_left
                · simp only [Act.put, List.setIfInBounds_toArray, List.set_cons_zero, List.set_cons_succ]
                  rfl
                refine pure_ (i := 12) (N := some 192) (v := ?_) (a' := ?_) #[true, true, true, true, true, true, true, true, true, true, true, true, true, false, false, false, false, false, false, false, false, false, false] rfl rfl (by kernel_rfl) (fun _ _ _ h => h) (Or.inl ⟨by rfl, ?_⟩) ?_ ?_
                rotate_left
                · intro w'
                  go_simp
                  with_reducible rfl
                rotate_left
                · simp only [Act.put, List.setIfInBounds_toArray, List.set_cons_zero, List.set_cons_succ]
                  rfl
                refine take_ (i := 13) (N := some 193) (v := ?_) (a' := ?_) #[true, true, true, true, true, true, true, true, true, true, true, true, true, true, false, false, false, false, false, false, false, false, false] rfl rfl (by kernel_rfl) (fun _ _ _ h => h) (Or.inl ⟨by rfl, ?_⟩) hHeld ?_ ?_
                rotate_left
                · rintro w' ⟨s0, s1, s2⟩
                  go_simp
                  with_reducible rfl
                rotate_left
                · simp only [Act.put, List.setIfInBounds_toArray, List.set_cons_zero, List.set_cons_succ]
                  rfl
                refine one_ (i := 14) (N := some 194) #[true, true, true, true, true, true, true, true, true, true, true, true, true, true, true, false, false, false, false, false, false, false, false] rfl rfl (by kernel_rfl) (by decide) (fun K hK => ?_)
                refine goes_ Tryd.func23 (by kernel_rfl) rfl #[.string gp, .string ⟨#[47]⟩] (by rfl) rfl rfl (by (try simp only [List.map_toArray, List.map_cons, List.map_nil]); first | done | rfl) ?_
                refine (HTr.out _).mono ?_
                rintro e w1 ⟨rfl, rfl⟩
                refine ⟨_, rfl, ?_⟩
                refine hK.out _ _ hHeld (fun hHeld => ?_)
                clear hK K
                refine norm_ (a' := ?_) ?_ ?_
                rotate_left
                · show Act.put _ (some 194) _ = _
                  simp only [Act.put, List.setIfInBounds_toArray, List.set_cons_zero, List.set_cons_succ]
                  rfl
                refine one_ (i := 15) (N := some 195) #[true, true, true, true, true, true, true, true, true, true, true, true, true, true, true, true, false, false, false, false, false, false, false] rfl rfl (by kernel_rfl) (by decide) (fun K hK => ?_)
                refine goes_ Tryd.func22 (by kernel_rfl) rfl #[.pointer (some ⟨t, 0, none⟩), .int .i64 (j : Int), .string gs, .string ⟨(Lib.trimSuffix gp.data.toList [47]).toArray⟩] (by rfl) rfl rfl (by (try simp only [List.map_toArray, List.map_cons, List.map_nil]); first | done | rfl) ?_
                refine (HTe.out _ HBd.out).mono ?_
                rintro e w2 ⟨rfl, hb⟩
                refine ⟨_, rfl, ?_⟩
                have HB2 := Lib.hid (Below.trans HBd.out (hb.mono HBd.out.size))
                clear hb
                have k0 : w2.cell? ⟨h, j * 3, none⟩ = some (.bool true) := (HB2.out.cell (p := ⟨h, j * 3, none⟩) hhl).trans y0
                refine hK.out _ _ ⟨k0, (HB2.out.cell (p := ⟨h, j * 3 + 1, none⟩) hhl).trans y1, (HB2.out.cell (p := ⟨h, j * 3 + 2, none⟩) hhl).trans y2⟩ (fun hHeld => ?_)
                clear hK K
                refine norm_ (a' := ?_) ?_ ?_
                rotate_left
                · show Act.put _ (some 195) _ = _
                  simp only [Act.put, List.setIfInBounds_toArray, List.set_cons_zero, List.set_cons_succ]
                  rfl
                refine pure_ (i := 16) (N := some 196) (v := ?_) (a' := ?_) #[true, true, true, true, true, true, true, true, true, true, true, true, true, true, true, true, true, false, false, false, false, false, false] rfl rfl (by kernel_rfl) (fun _ _ _ h => h) (Or.inl ⟨by rfl, ?_⟩) ?_ ?_
                rotate_left
                · intro w'
                  go_simp
                  with_reducible rfl
                rotate_left
                · simp only [Act.put, List.setIfInBounds_toArray, List.set_cons_zero, List.set_cons_succ]
                  rfl
                refine pure_ (i := 17) (N := some 197) (v := ?_) (a' := ?_) #[true, true, true, true, true, true, true, true, true, true, true, true, true, true, true, true, true, true, false, false, false, false, false] rfl rfl (by kernel_rfl) (fun _ _ _ h => h) (Or.inl ⟨by rfl, ?_⟩) ?_ ?_
                rotate_left
                · intro w'
                  go_simp
                  with_reducible rfl
                rotate_left
                · simp only [Act.put, List.setIfInBounds_toArray, List.set_cons_zero, List.set_cons_succ]
                  rfl
                refine pure_ (i := 18) (N := some 198) (v := undef) (a' := ?_) #[true, true, true, true, true, true, true, true, true, true, true, true, true, true, true, true, true, true, true, false, false, false, false] rfl rfl (by kernel_rfl) (fun _ _ _ h => h) (Or.inr ⟨by rfl, rfl⟩) ?_ ?_
                rotate_left
                · simp only [Act.put, List.setIfInBounds_toArray, List.set_cons_zero, List.set_cons_succ]
                  rfl
                refine pure_ (i := 19) (N := some 199) (v := undef) (a' := ?_) #[true, true, true, true, true, true, true, true, true, true, true, true, true, true, true, true, true, true, true, true, false, false, false] rfl rfl (by kernel_rfl) (fun _ _ _ h => h) (Or.inr ⟨by rfl, rfl⟩) ?_ ?_
                rotate_left
                · simp only [Act.put, List.setIfInBounds_toArray, List.set_cons_zero, List.set_cons_succ]
                  rfl
                refine pure_ (i := 20) (N := some 200) (v := undef) (a' := ?_) #[true, true, true, true, true, true, true, true, true, true, true, true, true, true, true, true, true, true, true, true, true, false, false] rfl rfl (by kernel_rfl) (fun _ _ _ h => h) (Or.inr ⟨by rfl, rfl⟩) ?_ ?_
                rotate_left
                · simp only [Act.put, List.setIfInBounds_toArray, List.set_cons_zero, List.set_cons_succ]
                  rfl
                refine pure_ (i := 21) (N := some 201) (v := undef) (a' := ?_) #[true, true, true, true, true, true, true, true, true, true, true, true, true, true, true, true, true, true, true, true, true, true, false] rfl rfl (by kernel_rfl) (fun _ _ _ h => h) (Or.inr ⟨by rfl, rfl⟩) ?_ ?_
                rotate_left
                · simp only [Act.put, List.setIfInBounds_toArray, List.set_cons_zero, List.set_cons_succ]
                  rfl
                refine pure_ (i := 22) (N := some 202) (v := ?_) (a' := ?_) #[true, true, true, true, true, true, true, true, true, true, true, true, true, true, true, true, true, true, true, true, true, true, true] rfl rfl (by kernel_rfl) (fun _ _ _ h => h) (Or.inl ⟨by rfl, ?_⟩) ?_ ?_
                rotate_left
                · intro w'
                  go_simp
                  with_reducible rfl
                rotate_left
                · simp only [Act.put, List.setIfInBounds_toArray, List.set_cons_zero, List.set_cons_succ]
                  rfl
                refine done_ (by kernel_rfl) ?_
                go_wp2_with (go_at_call 24; refine (HOf.out _ HB2.out).mono ?_; rintro e w3 ⟨v, rfl, hb⟩; have HB3 := Lib.hid (Below.trans HB2.out (hb.mono HB2.out.size)); clear hb; have k1 : w3.cell? ⟨h, j * 3, none⟩ = some (.bool true) := (HB3.out.cell (p := ⟨h, j * 3, none⟩) hhl).trans y0)
                go_roundw
                case rel => exact ⟨j + 1, by omega, by go_num, HK1.out.later HB3.out⟩
                case measure => simp [intOf]; omega
            | false =>
              rw [if_neg (by decide)] at hfo
              generalize tellsB st1 (j : Int) gs _ = bt at htl
              have HTe := Lib.hid htl
              have HTr := Lib.hid htr
              have HOf := Lib.hid hfo
              clear hte htl htr hfo
              cases bt
              · skip
                as_aux_lemma =>
                  go_wp2_with fail
                  refine start_ (n := 23) (S := (fun w' => w'.cell? ⟨h, j * 3, none⟩ = some (.bool false) ∧ w'.cell? ⟨h, j * 3 + 1, none⟩ = some (.string gs) ∧ w'.cell? ⟨h, j * 3 + 2, none⟩ = some (.string gp))) (ds := []) #[false, false, false, false, false, false, false, false, false, false, false, false, false, false, false, false, false, false, false, false, false, false, false] (by kernel_rfl) rfl rfl ⟨y0, y1, y2⟩ (fun hHeld => ?_)
                  have HBd := Lib.hid (below_drew (Below.refl wr.heap.size wr))
                  generalize wr.drew = wd at HBd hHeld ⊢
                  refine pure_ (i := 0) (N := some 180) (v := ?_) (a' := ?_) #[true, false, false, false, false, false, false, false, false, false, false, false, false, false, false, false, false, false, false, false, false, false, false] rfl rfl (by kernel_rfl) (fun _ _ _ h => h) (Or.inl ⟨by rfl, ?_⟩) ?_ ?_
                  rotate_left
                  · intro w'
                    go_simp
                    with_reducible rfl
                  rotate_left
                  · simp only [Act.put, List.setIfInBounds_toArray, List.set_cons_zero, List.set_cons_succ]
                    rfl
                  refine pure_ (i := 1) (N := some 181) (v := ?_) (a' := ?_) #[true, true, false, false, false, false, false, false, false, false, false, false, false, false, false, false, false, false, false, false, false, false, false] rfl rfl (by kernel_rfl) (fun _ _ _ h => h) (Or.inl ⟨by rfl, ?_⟩) ?_ ?_
                  rotate_left
                  · intro w'
                    go_simp
                    with_reducible rfl
                  rotate_left
                  · simp only [Act.put, List.setIfInBounds_toArray, List.set_cons_zero, List.set_cons_succ]
                    rfl
                  refine pure_ (i := 2) (N := some 182) (v := ?_) (a' := ?_) #[true, true, true, false, false, false, false, false, false, false, false, false, false, false, false, false, false, false, false, false, false, false, false] rfl rfl (by kernel_rfl) (fun _ _ _ h => h) (Or.inl ⟨by rfl, ?_⟩) ?_ ?_
                  rotate_left
                  · intro w'
                    go_simp
                    with_reducible rfl
                  rotate_left
                  · simp only [Act.put, List.setIfInBounds_toArray, List.set_cons_zero, List.set_cons_succ]
                    rfl
                  refine take_ (i := 3) (N := some 183) (v := ?_) (a' := ?_) #[true, true, true, true, false, false, false, false, false, false, false, false, false, false, false, false, false, false, false, false, false, false, false] rfl rfl (by kernel_rfl) (fun _ _ _ h => h) (Or.inl ⟨by rfl, ?_⟩) hHeld ?_ ?_
                  rotate_left
                  · rintro w' ⟨s0, s1, s2⟩
                    go_simp
                    with_reducible rfl
                  rotate_left
                  · simp only [Act.put, List.setIfInBounds_toArray, List.set_cons_zero, List.set_cons_succ]
                    rfl
                  refine pure_ (i := 4) (N := some 184) (v := ?_) (a' := ?_) #[true, true, true, true, true, false, false, false, false, false, false, false, false, false, false, false, false, false, false, false, false, false, false] rfl rfl (by kernel_rfl) (fun _ _ _ h => h) (Or.inl ⟨by rfl, ?_⟩) ?_ ?_
                  rotate_left
                  · intro w'
                    go_simp
                    with_reducible rfl
                  rotate_left
                  · simp only [Act.put, List.setIfInBounds_toArray, List.set_cons_zero, List.set_cons_succ]
                    rfl
                  refine pure_ (i := 5) (N := some 185) (v := ?_) (a' := ?_) #[true, true, true, true, true, true, false, false, false, false, false, false, false, false, false, false, false, false, false, false, false, false, false] rfl rfl (by kernel_rfl) (fun _ _ _ h => h) (Or.inl ⟨by rfl, ?_⟩) ?_ ?_
                  rotate_left
                  · intro w'
                    go_simp
                    with_reducible rfl
                  rotate_left
                  · simp only [Act.put, List.setIfInBounds_toArray, List.set_cons_zero, List.set_cons_succ]
                    rfl
                  refine pure_ (i := 6) (N := some 186) (v := ?_) (a' := ?_) #[true, true, true, true, true, true, true, false, false, false, false, false, false, false, false, false, false, false, false, false, false, false, false] rfl rfl (by kernel_rfl) (fun _ _ _ h => h) (Or.inl ⟨by rfl, ?_⟩) ?_ ?_
                  rotate_left
                  · intro w'
                    go_simp
                    with_reducible rfl
                  rotate_left
                  · simp only [Act.put, List.setIfInBounds_toArray, List.set_cons_zero, List.set_cons_succ]
                    rfl
                  refine pure_ (i := 7) (N := some 187) (v := ?_) (a' := ?_) #[true, true, true, true, true, true, true, true, false, false, false, false, false, false, false, false, false, false, false, false, false, false, false] rfl rfl (by kernel_rfl) (fun _ _ _ h => h) (Or.inl ⟨by rfl, ?_⟩) ?_ ?_
                  rotate_left
                  · intro w'
                    go_simp
                    with_reducible rfl
                  rotate_left
                  · simp only [Act.put, List.setIfInBounds_toArray, List.set_cons_zero, List.set_cons_succ]
                    rfl
                  refine pure_ (i := 8) (N := some 188) (v := ?_) (a' := ?_) #[true, true, true, true, true, true, true, true, true, false, false, false, false, false, false, false, false, false, false, false, false, false, false] rfl rfl (by kernel_rfl) (fun _ _ _ h => h) (Or.inl ⟨by rfl, ?_⟩) ?_ ?_
                  rotate_left
                  · intro w'
                    go_simp
                    with_reducible rfl
                  rotate_left
                  · simp only [Act.put, List.setIfInBounds_toArray, List.set_cons_zero, List.set_cons_succ]
                    rfl
                  refine take_ (i := 9) (N := some 189) (v := ?_) (a' := ?_) #[true, true, true, true, true, true, true, true, true, true, false, false, false, false, false, false, false, false, false, false, false, false, false] rfl rfl (by kernel_rfl) (fun _ _ _ h => h) (Or.inl ⟨by rfl, ?_⟩) hHeld ?_ ?_
                  rotate_left
                  · rintro w' ⟨s0, s1, s2⟩
                    go_simp
                    with_reducible rfl
                  rotate_left
                  · simp only [Act.put, List.setIfInBounds_toArray, List.set_cons_zero, List.set_cons_succ]
                    rfl
                  refine pure_ (i := 10) (N := some 190) (v := ?_) (a' := ?_) #[true, true, true, true, true, true, true, true, true, true, true, false, false, false, false, false, false, false, false, false, false, false, false] rfl rfl (by kernel_rfl) (fun _ _ _ h => h) (Or.inl ⟨by rfl, ?_⟩) ?_ ?_
                  rotate_left
                  · intro w'
                    go_simp
                    with_reducible rfl
                  rotate_left
                  · simp only [Act.put, List.setIfInBounds_toArray, List.set_cons_zero, List.set_cons_succ]
                    rfl
                  refine pure_ (i := 11) (N := some 191) (v := ?_) (a' := ?_) #[true, true, true, true, true, true, true, true, true, true, true, true, false, false, false, false, false, false, false, false, false, false, false] rfl rfl (by kernel_rfl) (fun _ _ _ h => h) (Or.inl ⟨by rfl, ?_⟩) ?_ ?_
                  rotate_left
                  · intro w'
                    go_simp
                    with_reducible rfl
                  rotate_left
                  · simp only [Act.put, List.setIfInBounds_toArray, List.set_cons_zero, List.set_cons_succ]
                    rfl
                  refine pure_ (i := 12) (N := some 192) (v := ?_) (a' := ?_) #[true, true, true, true, true, true, true, true, true, true, true, true, true, false, false, false, false, false, false, false, false, false, false] rfl rfl (by kernel_rfl) (fun _ _ _ h => h) (Or.inl ⟨by rfl, ?_⟩) ?_ ?_
                  rotate_left
                  · intro w'
                    go_simp
                    with_reducible rfl
                  rotate_left
                  · simp only [Act.put, List.setIfInBounds_toArray, List.set_cons_zero, List.set_cons_succ]
                    rfl
                  refine take_ (i := 13) (N := some 193) (v := ?_) (a' := ?_) #[true, true, true, true, true, true, true, true, true, true, true, true, true, true, false, false, false, false, false, false, false, false, false] rfl rfl (by kernel_rfl) (fun _ _ _ h => h) (Or.inl ⟨by rfl, ?_⟩) hHeld ?_ ?_
                  rotate_left
                  · rintro w' ⟨s0, s1, s2⟩
                    go_simp
                    with_reducible rfl
                  rotate_left
                  · simp only [Act.put, List.setIfInBounds_toArray, List.set_cons_zero, List.set_cons_succ]
                    rfl
                  refine one_ (i := 14) (N := some 194) #[true, true, true, true, true, true, true, true, true, true, true, true, true, true, true, false, false, false, false, false, false, false, false] rfl rfl (by kernel_rfl) (by decide) (fun K hK => ?_)
                  refine goes_ Tryd.func23 (by kernel_rfl) rfl #[.string gp, .string ⟨#[47]⟩] (by rfl) rfl rfl (by (try simp only [List.map_toArray, List.map_cons, List.map_nil]); first | done | rfl) ?_
                  refine (HTr.out _).mono ?_
                  rintro e w1 ⟨rfl, rfl⟩
                  refine ⟨_, rfl, ?_⟩
                  refine hK.out _ _ hHeld (fun hHeld => ?_)
                  clear hK K
                  refine norm_ (a' := ?_) ?_ ?_
                  rotate_left
                  · show Act.put _ (some 194) _ = _
                    simp only [Act.put, List.setIfInBounds_toArray, List.set_cons_zero, List.set_cons_succ]
                    rfl
                  refine one_ (i := 15) (N := some 195) #[true, true, true, true, true, true, true, true, true, true, true, true, true, true, true, true, false, false, false, false, false, false, false] rfl rfl (by kernel_rfl) (by decide) (fun K hK => ?_)
                  refine goes_ Tryd.func22 (by kernel_rfl) rfl #[.pointer (some ⟨t, 0, none⟩), .int .i64 (j : Int), .string gs, .string ⟨(Lib.trimSuffix gp.data.toList [47]).toArray⟩] (by rfl) rfl rfl (by (try simp only [List.map_toArray, List.map_cons, List.map_nil]); first | done | rfl) ?_
                  refine (HTe.out _ HBd.out).mono ?_
                  rintro e w2 ⟨rfl, hb⟩
                  refine ⟨_, rfl, ?_⟩
                  have HB2 := Lib.hid (Below.trans HBd.out (hb.mono HBd.out.size))
                  clear hb
                  have k0 : w2.cell? ⟨h, j * 3, none⟩ = some (.bool false) := (HB2.out.cell (p := ⟨h, j * 3, none⟩) hhl).trans y0
                  refine hK.out _ _ ⟨k0, (HB2.out.cell (p := ⟨h, j * 3 + 1, none⟩) hhl).trans y1, (HB2.out.cell (p := ⟨h, j * 3 + 2, none⟩) hhl).trans y2⟩ (fun hHeld => ?_)
                  clear hK K
                  refine norm_ (a' := ?_) ?_ ?_
                  rotate_left
                  · show Act.put _ (some 195) _ = _
                    simp only [Act.put, List.setIfInBounds_toArray, List.set_cons_zero, List.set_cons_succ]
                    rfl
                  refine pure_ (i := 16) (N := some 196) (v := ?_) (a' := ?_) #[true, true, true, true, true, true, true, true, true, true, true, true, true, true, true, true, true, false, false, false, false, false, false] rfl rfl (by kernel_rfl) (fun _ _ _ h => h) (Or.inl ⟨by rfl, ?_⟩) ?_ ?_
                  rotate_left
                  · intro w'
                    go_simp
                    with_reducible rfl
                  rotate_left
                  · simp only [Act.put, List.setIfInBounds_toArray, List.set_cons_zero, List.set_cons_succ]
                    rfl
                  refine pure_ (i := 17) (N := some 197) (v := ?_) (a' := ?_) #[true, true, true, true, true, true, true, true, true, true, true, true, true, true, true, true, true, true, false, false, false, false, false] rfl rfl (by kernel_rfl) (fun _ _ _ h => h) (Or.inl ⟨by rfl, ?_⟩) ?_ ?_
                  rotate_left
                  · intro w'
                    go_simp
                    with_reducible rfl
                  rotate_left
                  · simp only [Act.put, List.setIfInBounds_toArray, List.set_cons_zero, List.set_cons_succ]
                    rfl
                  refine pure_ (i := 18) (N := some 198) (v := undef) (a' := ?_) #[true, true, true, true, true, true, true, true, true, true, true, true, true, true, true, true, true, true, true, false, false, false, false] rfl rfl (by kernel_rfl) (fun _ _ _ h => h) (Or.inr ⟨by rfl, rfl⟩) ?_ ?_
                  rotate_left
                  · simp only [Act.put, List.setIfInBounds_toArray, List.set_cons_zero, List.set_cons_succ]
                    rfl
                  refine pure_ (i := 19) (N := some 199) (v := undef) (a' := ?_) #[true, true, true, true, true, true, true, true, true, true, true, true, true, true, true, true, true, true, true, true, false, false, false] rfl rfl (by kernel_rfl) (fun _ _ _ h => h) (Or.inr ⟨by rfl, rfl⟩) ?_ ?_
                  rotate_left
                  · simp only [Act.put, List.setIfInBounds_toArray, List.set_cons_zero, List.set_cons_succ]
                    rfl
                  refine pure_ (i := 20) (N := some 200) (v := undef) (a' := ?_) #[true, true, true, true, true, true, true, true, true, true, true, true, true, true, true, true, true, true, true, true, true, false, false] rfl rfl (by kernel_rfl) (fun _ _ _ h => h) (Or.inr ⟨by rfl, rfl⟩) ?_ ?_
                  rotate_left
                  · simp only [Act.put, List.setIfInBounds_toArray, List.set_cons_zero, List.set_cons_succ]
                    rfl
                  refine pure_ (i := 21) (N := some 201) (v := undef) (a' := ?_) #[true, true, true, true, true, true, true, true, true, true, true, true, true, true, true, true, true, true, true, true, true, true, false] rfl rfl (by kernel_rfl) (fun _ _ _ h => h) (Or.inr ⟨by rfl, rfl⟩) ?_ ?_
                  rotate_left
                  · simp only [Act.put, List.setIfInBounds_toArray, List.set_cons_zero, List.set_cons_succ]
                    rfl
                  refine pure_ (i := 22) (N := some 202) (v := ?_) (a' := ?_) #[true, true, true, true, true, true, true, true, true, true, true, true, true, true, true, true, true, true, true, true, true, true, true] rfl rfl (by kernel_rfl) (fun _ _ _ h => h) (Or.inl ⟨by rfl, ?_⟩) ?_ ?_
                  rotate_left
                  · intro w'
                    go_simp
                    with_reducible rfl
                  rotate_left
                  · simp only [Act.put, List.setIfInBounds_toArray, List.set_cons_zero, List.set_cons_succ]
                    rfl
                  refine done_ (by kernel_rfl) ?_
                  go_wp2_with (go_at_call 24; refine (HOf.out _ HB2.out).mono ?_; rintro e w3 ⟨v, rfl, hb⟩; have HB3 := Lib.hid (Below.trans HB2.out (hb.mono HB2.out.size)); clear hb; have k1 : w3.cell? ⟨h, j * 3, none⟩ = some (.bool false) := (HB3.out.cell (p := ⟨h, j * 3, none⟩) hhl).trans y0)
                  go_roundw
                  case rel => exact ⟨j + 1, by omega, by go_num, HK1.out.later HB3.out⟩
                  case measure => simp [intOf]; omega
              · skip
                as_aux_lemma =>
                  go_wp2_with fail
                  refine start_ (n := 23) (S := (fun w' => w'.cell? ⟨h, j * 3, none⟩ = some (.bool false) ∧ w'.cell? ⟨h, j * 3 + 1, none⟩ = some (.string gs) ∧ w'.cell? ⟨h, j * 3 + 2, none⟩ = some (.string gp))) (ds := []) #[false, false, false, false, false, false, false, false, false, false, false, false, false, false, false, false, false, false, false, false, false, false, false] (by kernel_rfl) rfl rfl ⟨y0, y1, y2⟩ (fun hHeld => ?_)
                  have HBd := Lib.hid (below_drew (Below.refl wr.heap.size wr))
                  generalize wr.drew = wd at HBd hHeld ⊢
                  refine pure_ (i := 0) (N := some 180) (v := ?_) (a' := ?_) #[true, false, false, false, false, false, false, false, false, false, false, false, false, false, false, false, false, false, false, false, false, false, false] rfl rfl (by kernel_rfl) (fun _ _ _ h => h) (Or.inl ⟨by rfl, ?_⟩) ?_ ?_
                  rotate_left
                  · intro w'
                    go_simp
                    with_reducible rfl
                  rotate_left
                  · simp only [Act.put, List.setIfInBounds_toArray, List.set_cons_zero, List.set_cons_succ]
                    rfl
                  refine pure_ (i := 1) (N := some 181) (v := ?_) (a' := ?_) #[true, true, false, false, false, false, false, false, false, false, false, false, false, false, false, false, false, false, false, false, false, false, false] rfl rfl (by kernel_rfl) (fun _ _ _ h => h) (Or.inl ⟨by rfl, ?_⟩) ?_ ?_
                  rotate_left
                  · intro w'
                    go_simp
                    with_reducible rfl
                  rotate_left
                  · simp only [Act.put, List.setIfInBounds_toArray, List.set_cons_zero, List.set_cons_succ]
                    rfl
                  refine pure_ (i := 2) (N := some 182) (v := ?_) (a' := ?_) #[true, true, true, false, false, false, false, false, false, false, false, false, false, false, false, false, false, false, false, false, false, false, false] rfl rfl (by kernel_rfl) (fun _ _ _ h => h) (Or.inl ⟨by rfl, ?_⟩) ?_ ?_
                  rotate_left
                  · intro w'
                    go_simp
                    with_reducible rfl
                  rotate_left
                  · simp only [Act.put, List.setIfInBounds_toArray, List.set_cons_zero, List.set_cons_succ]
                    rfl
                  refine take_ (i := 3) (N := some 183) (v := ?_) (a' := ?_) #[true, true, true, true, false, false, false, false, false, false, false, false, false, false, false, false, false, false, false, false, false, false, false] rfl rfl (by kernel_rfl) (fun _ _ _ h => h) (Or.inl ⟨by rfl, ?_⟩) hHeld ?_ ?_
                  rotate_left
                  · rintro w' ⟨s0, s1, s2⟩
                    go_simp
                    with_reducible rfl
                  rotate_left
                  · simp only [Act.put, List.setIfInBounds_toArray, List.set_cons_zero, List.set_cons_succ]
                    rfl
                  refine pure_ (i := 4) (N := some 184) (v := ?_) (a' := ?_) #[true, true, true, true, true, false, false, false, false, false, false, false, false, false, false, false, false, false, false, false, false, false, false] rfl rfl (by kernel_rfl) (fun _ _ _ h => h) (Or.inl ⟨by rfl, ?_⟩) ?_ ?_
                  rotate_left
                  · intro w'
                    go_simp
                    with_reducible rfl
                  rotate_left
                  · simp only [Act.put, List.setIfInBounds_toArray, List.set_cons_zero, List.set_cons_succ]
                    rfl
                  refine pure_ (i := 5) (N := some 185) (v := ?_) (a' := ?_) #[true, true, true, true, true, true, false, false, false, false, false, false, false, false, false, false, false, false, false, false, false, false, false] rfl rfl (by kernel_rfl) (fun _ _ _ h => h) (Or.inl ⟨by rfl, ?_⟩) ?_ ?_
                  rotate_left
                  · intro w'
                    go_simp
                    with_reducible rfl
                  rotate_left
                  · simp only [Act.put, List.setIfInBounds_toArray, List.set_cons_zero, List.set_cons_succ]
                    rfl
                  refine pure_ (i := 6) (N := some 186) (v := ?_) (a' := ?_) #[true, true, true, true, true, true, true, false, false, false, false, false, false, false, false, false, false, false, false, false, false, false, false] rfl rfl (by kernel_rfl) (fun _ _ _ h => h) (Or.inl ⟨by rfl, ?_⟩) ?_ ?_
                  rotate_left
                  · intro w'
                    go_simp
                    with_reducible rfl
                  rotate_left
                  · simp only [Act.put, List.setIfInBounds_toArray, List.set_cons_zero, List.set_cons_succ]
                    rfl
                  refine pure_ (i := 7) (N := some 187) (v := ?_) (a' := ?_) #[true, true, true, true, true, true, true, true, false, false, false, false, false, false, false, false, false, false, false, false, false, false, false] rfl rfl (by kernel_rfl) (fun _ _ _ h => h) (Or.inl ⟨by rfl, ?_⟩) ?_ ?_
                  rotate_left
                  · intro w'
                    go_simp
                    with_reducible rfl
                  rotate_left
                  · simp only [Act.put, List.setIfInBounds_toArray, List.set_cons_zero, List.set_cons_succ]
                    rfl
                  refine pure_ (i := 8) (N := some 188) (v := ?_) (a' := ?_) #[true, true, true, true, true, true, true, true, true, false, false, false, false, false, false, false, false, false, false, false, false, false, false] rfl rfl (by kernel_rfl) (fun _ _ _ h => h) (Or.inl ⟨by rfl, ?_⟩) ?_ ?_
                  rotate_left
                  · intro w'
                    go_simp
                    with_reducible rfl
                  rotate_left
                  · simp only [Act.put, List.setIfInBounds_toArray, List.set_cons_zero, List.set_cons_succ]
                    rfl
                  refine take_ (i := 9) (N := some 189) (v := ?_) (a' := ?_) #[true, true, true, true, true, true, true, true, true, true, false, false, false, false, false, false, false, false, false, false, false, false, false] rfl rfl (by kernel_rfl) (fun _ _ _ h => h) (Or.inl ⟨by rfl, ?_⟩) hHeld ?_ ?_
                  rotate_left
                  · rintro w' ⟨s0, s1, s2⟩
                    go_simp
                    with_reducible rfl
                  rotate_left
                  · simp only [Act.put, List.setIfInBounds_toArray, List.set_cons_zero, List.set_cons_succ]
                    rfl
                  refine pure_ (i := 10) (N := some 190) (v := ?_) (a' := ?_) #[true, true, true, true, true, true, true, true, true, true, true, false, false, false, false, false, false, false, false, false, false, false, false] rfl rfl (by kernel_rfl) (fun _ _ _ h => h) (Or.inl ⟨by rfl, ?_⟩) ?_ ?_
                  rotate_left
                  · intro w'
                    go_simp
                    with_reducible rfl
                  rotate_left
                  · simp only [Act.put, List.setIfInBounds_toArray, List.set_cons_zero, List.set_cons_succ]
                    rfl
                  refine pure_ (i := 11) (N := some 191) (v := ?_) (a' := ?_) #[true, true, true, true, true, true, true, true, true, true, true, true, false, false, false, false, false, false, false, false, false, false, false] rfl rfl (by kernel_rfl) (fun _ _ _ h => h) (Or.inl ⟨by rfl, ?_⟩) ?_ ?_
                  rotate_left
                  · intro w'
                    go_simp
                    with_reducible rfl
                  rotate_left
                  · simp only [Act.put, List.setIfInBounds_toArray, List.set_cons_zero, List.set_cons_succ]
                    rfl
                  refine pure_ (i := 12) (N := some 192) (v := ?_) (a' := ?_) #[true, true, true, true, true, true, true, true, true, true, true, true, true, false, false, false, false, false, false, false, false, false, false] rfl rfl (by kernel_rfl) (fun _ _ _ h => h) (Or.inl ⟨by rfl, ?_⟩) ?_ ?_
                  rotate_left
                  · intro w'
                    go_simp
                    with_reducible rfl
                  rotate_left
                  · simp only [Act.put, List.setIfInBounds_toArray, List.set_cons_zero, List.set_cons_succ]
                    rfl
                  refine take_ (i := 13) (N := some 193) (v := ?_) (a' := ?_) #[true, true, true, true, true, true, true, true, true, true, true, true, true, true, false, false, false, false, false, false, false, false, false] rfl rfl (by kernel_rfl) (fun _ _ _ h => h) (Or.inl ⟨by rfl, ?_⟩) hHeld ?_ ?_
                  rotate_left
                  · rintro w' ⟨s0, s1, s2⟩
                    go_simp
                    with_reducible rfl
                  rotate_left
                  · simp only [Act.put, List.setIfInBounds_toArray, List.set_cons_zero, List.set_cons_succ]
                    rfl
                  refine one_ (i := 14) (N := some 194) #[true, true, true, true, true, true, true, true, true, true, true, true, true, true, true, false, false, false, false, false, false, false, false] rfl rfl (by kernel_rfl) (by decide) (fun K hK => ?_)
                  refine goes_ Tryd.func23 (by kernel_rfl) rfl #[.string gp, .string ⟨#[47]⟩] (by rfl) rfl rfl (by (try simp only [List.map_toArray, List.map_cons, List.map_nil]); first | done | rfl) ?_
                  refine (HTr.out _).mono ?_
                  rintro e w1 ⟨rfl, rfl⟩
                  refine ⟨_, rfl, ?_⟩
                  refine hK.out _ _ hHeld (fun hHeld => ?_)
                  clear hK K
                  refine norm_ (a' := ?_) ?_ ?_
                  rotate_left
                  · show Act.put _ (some 194) _ = _
                    simp only [Act.put, List.setIfInBounds_toArray, List.set_cons_zero, List.set_cons_succ]
                    rfl
                  refine one_ (i := 15) (N := some 195) #[true, true, true, true, true, true, true, true, true, true, true, true, true, true, true, true, false, false, false, false, false, false, false] rfl rfl (by kernel_rfl) (by decide) (fun K hK => ?_)
                  refine goes_ Tryd.func22 (by kernel_rfl) rfl #[.pointer (some ⟨t, 0, none⟩), .int .i64 (j : Int), .string gs, .string ⟨(Lib.trimSuffix gp.data.toList [47]).toArray⟩] (by rfl) rfl rfl (by (try simp only [List.map_toArray, List.map_cons, List.map_nil]); first | done | rfl) ?_
                  refine (HTe.out _ HBd.out).mono ?_
                  rintro e w2 ⟨rfl, hb⟩
                  refine ⟨_, rfl, ?_⟩
                  have HB2 := Lib.hid (Below.trans HBd.out (hb.mono HBd.out.size))
                  clear hb
                  have k0 : w2.cell? ⟨h, j * 3, none⟩ = some (.bool false) := (HB2.out.cell (p := ⟨h, j * 3, none⟩) hhl).trans y0
                  refine hK.out _ _ ⟨k0, (HB2.out.cell (p := ⟨h, j * 3 + 1, none⟩) hhl).trans y1, (HB2.out.cell (p := ⟨h, j * 3 + 2, none⟩) hhl).trans y2⟩ (fun hHeld => ?_)
                  clear hK K
                  refine norm_ (a' := ?_) ?_ ?_
                  rotate_left
                  · show Act.put _ (some 195) _ = _
                    simp only [Act.put, List.setIfInBounds_toArray, List.set_cons_zero, List.set_cons_succ]
                    rfl
                  refine pure_ (i := 16) (N := some 196) (v := ?_) (a' := ?_) #[true, true, true, true, true, true, true, true, true, true, true, true, true, true, true, true, true, false, false, false, false, false, false] rfl rfl (by kernel_rfl) (fun _ _ _ h => h) (Or.inl ⟨by rfl, ?_⟩) ?_ ?_
                  rotate_left
                  · intro w'
                    go_simp
                    with_reducible rfl
                  rotate_left
                  · simp only [Act.put, List.setIfInBounds_toArray, List.set_cons_zero, List.set_cons_succ]
                    rfl
                  refine pure_ (i := 17) (N := some 197) (v := ?_) (a' := ?_) #[true, true, true, true, true, true, true, true, true, true, true, true, true, true, true, true, true, true, false, false, false, false, false] rfl rfl (by kernel_rfl) (fun _ _ _ h => h) (Or.inl ⟨by rfl, ?_⟩) ?_ ?_
                  rotate_left
                  · intro w'
                    go_simp
                    with_reducible rfl
                  rotate_left
                  · simp only [Act.put, List.setIfInBounds_toArray, List.set_cons_zero, List.set_cons_succ]
                    rfl
                  refine pure_ (i := 18) (N := some 198) (v := ?_) (a' := ?_) #[true, true, true, true, true, true, true, true, true, true, true, true, true, true, true, true, true, true, true, false, false, false, false] rfl rfl (by kernel_rfl) (fun _ _ _ h => h) (Or.inl ⟨by rfl, ?_⟩) ?_ ?_
                  rotate_left
                  · intro w'
                    go_simp
                    with_reducible rfl
                  rotate_left
                  · simp only [Act.put, List.setIfInBounds_toArray, List.set_cons_zero, List.set_cons_succ]
                    rfl
                  refine pure_ (i := 19) (N := some 199) (v := ?_) (a' := ?_) #[true, true, true, true, true, true, true, true, true, true, true, true, true, true, true, true, true, true, true, true, false, false, false] rfl rfl (by kernel_rfl) (fun _ _ _ h => h) (Or.inl ⟨by rfl, ?_⟩) ?_ ?_
                  rotate_left
                  · intro w'
                    go_simp
                    with_reducible rfl
                  rotate_left
                  · simp only [Act.put, List.setIfInBounds_toArray, List.set_cons_zero, List.set_cons_succ]
                    rfl
                  refine pure_ (i := 20) (N := some 200) (v := ?_) (a' := ?_) #[true, true, true, true, true, true, true, true, true, true, true, true, true, true, true, true, true, true, true, true, true, false, false] rfl rfl (by kernel_rfl) (fun _ _ _ h => h) (Or.inl ⟨by rfl, ?_⟩) ?_ ?_
                  rotate_left
                  · intro w'
                    go_simp
                    with_reducible rfl
                  rotate_left
                  · simp only [Act.put, List.setIfInBounds_toArray, List.set_cons_zero, List.set_cons_succ]
                    rfl
                  refine take_ (i := 21) (N := some 201) (v := ?_) (a' := ?_) #[true, true, true, true, true, true, true, true, true, true, true, true, true, true, true, true, true, true, true, true, true, true, false] rfl rfl (by kernel_rfl) (fun _ _ _ h => h) (Or.inl ⟨by rfl, ?_⟩) hHeld ?_ ?_
                  rotate_left
                  · rintro w' ⟨s0, s1, s2⟩
                    go_simp
                    with_reducible rfl
                  rotate_left
                  · simp only [Act.put, List.setIfInBounds_toArray, List.set_cons_zero, List.set_cons_succ]
                    rfl
                  refine pure_ (i := 22) (N := some 202) (v := ?_) (a' := ?_) #[true, true, true, true, true, true, true, true, true, true, true, true, true, true, true, true, true, true, true, true, true, true, true] rfl rfl (by kernel_rfl) (fun _ _ _ h => h) (Or.inl ⟨by rfl, ?_⟩) ?_ ?_
                  rotate_left
                  · intro w'
                    go_simp
                    with_reducible rfl
                  rotate_left
                  · simp only [Act.put, List.setIfInBounds_toArray, List.set_cons_zero, List.set_cons_succ]
                    rfl
                  refine done_ (by kernel_rfl) ?_
                  go_wp2_with (go_at_call 24; refine (HOf.out _ HB2.out).mono ?_; rintro e w3 ⟨v, rfl, hb⟩; have HB3 := Lib.hid (Below.trans HB2.out (hb.mono HB2.out.size)); clear hb; have k1 : w3.cell? ⟨h, j * 3, none⟩ = some (.bool false) := (HB3.out.cell (p := ⟨h, j * 3, none⟩) hhl).trans y0)
                  go_roundw
                  case rel => exact ⟨j + 1, by omega, by go_num, HK1.out.later HB3.out⟩
                  case measure => simp [intOf]; omega
          · obtain rfl : j = 8 := by omega
            go_wp2
            go_roundw
            case rel => exact ⟨k + 1, by omega, by go_num, HK1.out.kr⟩
            case measure => simp [intOf]; omega
    · obtain rfl : k = n := by omega
      have d1 : decide (k < k) = false := decide_eq_false (by omega)
      go_wp2_with (go_at_call 13; refine (works_calls _).mono ?_; rintro e w2 ⟨rfl, hb⟩)
      go_ret
      exact ⟨rfl, HK.out.elim fun _ ⟨_, _, q⟩ => Below.trans q.bel (hb.mono q.bel.size)⟩
end Go.Proofs.YthafpbidfgmacaaDoor.Hd
