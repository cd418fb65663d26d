/- The walk of HandleKnown. -/
import Derived.Test.YthafpbidfgmacaaDoorT12
namespace Go.Proofs.YthafpbidfgmacaaDoor.Hd
open Go.RowKit Go.Proofs.YthafpbidfgmacaaDoor Go.Proofs.YthafpbidfgmacaaDoorW.PrintWords Go.Proofs.YthafpbidfgmacaaDoorW.PrintLast Go.Proofs.YthafpbidfgmacaaDoorW.PrintMore
set_option linter.unusedVariables false
set_option linter.unusedSimpArgs false

def nC : ByteArray := ⟨#[99]⟩
def nX : ByteArray := ⟨#[120]⟩
def nY : ByteArray := ⟨#[121]⟩
def l6 : List ByteArray := [⟨#[49]⟩, ⟨#[50]⟩, ⟨#[51]⟩, ⟨#[52]⟩, ⟨#[53]⟩, ⟨#[54]⟩]
def nAB : ByteArray := ⟨#[97, 47, 98]⟩
def sK2 : St := [some (n0, [nX, nY]), some (nS, [nA]), some (n0, [nX, nY, nB]), none, none, none, none, none]
def sK3 : St := [none, some (nS, [nA]), some (n0, [nX, nY, nB]), none, none, none, none, none]
def sLoop (k : Nat) : St := [some (n0, [nC]), some (nS, [nA]), some (n0, [nX, nY, nB])] ++ (List.replicate (k - 3) (some (n0, [nA])) ++ List.replicate (8 - k) none)
def sK6 : St := [some (n0, [nC]), some (nS, [nA]), some (n0, l6), some (n0, [nA]), some (n0, [nA]), some (n0, [nA]), some (n0, [nA]), some (n0, [nA])]
def sD1 : St := [some (n0, [nA, nB]), none, none, none, none, none, none, none]
def sE1 : St := [some (n0, [nA]), none, none, none, none, none, none, none]
theorem names_B : namesL ⟨#[98]⟩ = [nB] := by decide +kernel
theorem names_C : namesL ⟨#[99]⟩ = [nC] := by decide +kernel
theorem names_XY : namesL ⟨#[120, 47, 121]⟩ = [nX, nY] := by decide +kernel
theorem names_XYB : namesL ⟨#[120, 47, 121, 47, 98]⟩ = [nX, nY, nB] := by decide +kernel
theorem names_6 : namesL ⟨#[49, 47, 50, 47, 51, 47, 52, 47, 53, 47, 54]⟩ = l6 := by decide +kernel
theorem fits_B : fits [nB] := ⟨by decide, by decide +kernel⟩
theorem fits_C : fits [nC] := ⟨by decide, by decide +kernel⟩
theorem fits_XY : fits [nX, nY] := ⟨by decide, by decide +kernel⟩
theorem fits_XYB : fits [nX, nY, nB] := ⟨by decide, by decide +kernel⟩
theorem fits_6 : fits l6 := ⟨by decide, by decide +kernel⟩
theorem fits_nil : fits [] := ⟨by decide, by decide +kernel⟩
theorem fits_nAB : fits [nAB] := ⟨by decide, by decide +kernel⟩
theorem mv1 : movedS sGiven [nA] [nX, nY] = sK2 := by decide +kernel
theorem tk0 : tellsB sK2 0 ⟨#[]⟩ ⟨#[120, 47, 121]⟩ = true := by decide +kernel
theorem tk1 : tellsB sK2 1 ⟨#[115]⟩ ⟨#[97]⟩ = true := by decide +kernel
theorem tk2 : tellsB sK2 2 ⟨#[]⟩ ⟨#[120, 47, 121, 47, 98]⟩ = true := by decide +kernel
theorem cl0 : closeS sK2 0 = (sK3, 0) := by decide +kernel
theorem op0 : openS sK3 ⟨#[]⟩ [nC] = (sLoop 3, 0, 0) := by decide +kernel
theorem ct3 : countS (sLoop 3) = 3 := by decide +kernel
theorem op1 : openS (sLoop 3) ⟨#[]⟩ [] = (sLoop 3, 0, 4) := by decide +kernel
theorem op2 : openS (sLoop 3) ⟨#[]⟩ [nAB] = (sLoop 3, 0, 4) := by decide +kernel
theorem opL (k : Nat) (h3 : 3 ≤ k) (h8 : k < 8) : openS (sLoop k) ⟨#[]⟩ [nA] = (sLoop (k + 1), (k : Int), 0) := by
  rcases (by omega : k = 3 ∨ k = 4 ∨ k = 5 ∨ k = 6 ∨ k = 7) with rfl | rfl | rfl | rfl | rfl <;> decide +kernel
theorem op3 : openS (sLoop 8) ⟨#[]⟩ [nA] = (sLoop 8, 0, 7) := by decide +kernel
theorem of1 : ofS (sLoop 8) (-1) = (⟨#[]⟩, [], 12) := by decide +kernel
theorem of8 : ofS (sLoop 8) 8 = (⟨#[]⟩, [], 12) := by decide +kernel
theorem mv2 : movedS (sLoop 8) [nX, nY, nB] l6 = sK6 := by decide +kernel
theorem mv3 : movedS sK6 [nA] [] = sK6 := by decide +kernel
theorem tk3 : tellsB sK6 2 ⟨#[]⟩ ⟨#[49, 47, 50, 47, 51, 47, 52, 47, 53, 47, 54]⟩ = true := by decide +kernel
theorem tk4 : tellsB sK6 3 ⟨#[]⟩ ⟨#[97]⟩ = true := by decide +kernel
theorem opd : openS newS ⟨#[]⟩ [nA, nB] = (sD1, 0, 0) := by decide +kernel
theorem mvd : movedS sD1 [nA] l6 = newS := by decide +kernel
theorem ct0 : countS newS = 0 := by decide +kernel
theorem ope : openS newS ⟨#[]⟩ [nA] = (sE1, 0, 0) := by decide +kernel
section
variable {Ws W0 w w' : World} {L L' : List Tb} {i t : Nat} {st st' : St}
theorem Stt.zero (h : Stt Ws W0 L w) : Stt Ws (w.alloc (.cells #[.bool false, .pointer none, .pointer none, .pointer none, .pointer none, .pointer none, .pointer none, .pointer none, .pointer none] 87)) (L ++ [(w.heap.size, false, newS)]) (w.alloc (.cells #[.bool false, .pointer none, .pointer none, .pointer none, .pointer none, .pointer none, .pointer none, .pointer none, .pointer none] 87)) :=
  h.anew ((h.tabs.below h.cur).more h.all.size (tab_new w false) (below_alloc (Below.refl _ _) _)) (Below.mono (below_alloc (Below.refl w.heap.size w) _) h.all.size)
theorem Stt.clear_z (h : Stt Ws W0 L w) (hi : L[i]? = some (t, false, st)) : Calls Tryd.prog 57 #[.pointer (some ⟨t, 0, none⟩)] w fun e w' => e = .returned (.tuple #[]) ∧ w = w' := by
  obtain ⟨F, hT⟩ := h.tabs.at_ hi
  exact clear_zero (hT.below h.cur)
theorem Stt.of_z (h : Stt Ws W0 L w) (hi : L[i]? = some (t, false, st)) (d : Int) : Calls Tryd.prog 24 #[.pointer (some ⟨t, 0, none⟩), .int .i64 d] w fun e w' => e = .returned (.tuple #[.string ⟨#[]⟩, .slice none 0 0, .int .i64 1]) ∧ w = w' := by
  obtain ⟨F, hT⟩ := h.tabs.at_ hi
  exact of_zero (hT.below h.cur) d
theorem Stt.count_z (h : Stt Ws W0 L w) (hi : L[i]? = some (t, false, st)) : Calls Tryd.prog 52 #[.pointer (some ⟨t, 0, none⟩)] w fun e w' => e = .returned (.int .i64 0) ∧ w = w' := by
  obtain ⟨F, hT⟩ := h.tabs.at_ hi
  exact count_zero (hT.below h.cur)
theorem RowI.one (h : Below W0.heap.size W0 w) (s : ByteArray) : RowI W0 (some ⟨w.heap.size, 0, none⟩) 1 [s] (w.alloc (.cells #[.string s] 9)) := by
  refine ⟨RowS.reads (l := [s]) (fun j x hx => ?_) (show 1 ≤ _ by omega), Nat.le_refl _, fun a ha => by rw [← Option.some.inj ha]; exact h.size⟩
  rw [Nat.zero_add, cell_of_row _ _ _ _ _ _ (heap_alloc_new w _)]
  have hj : j < 1 := (List.getElem?_eq_some_iff.1 hx).1
  obtain rfl : j = 0 := by omega
  obtain rfl := Option.some.inj hx
  rfl
end
set_option maxRecDepth 100000 in
set_option maxHeartbeats 16000000 in
theorem handleKnown_walk (Ws : World) : Calls Tryd.prog 11 #[] Ws fun e w' => e = .returned (.bool true) ∧ Below Ws.heap.size Ws w' := by
  have HS0 := Lib.hid (Stt.start Ws)
  go_enter Tryd.func11, Tryd.ntmps11
  go_wp2_with fail
  refine (Stt.given HS0.out rfl).mono ?_
  rintro e w1 ⟨t, rfl, h1⟩
  have HS1 : Hid (Stt Ws w1 [(t, true, sGiven)] w1) := Lib.hid h1
  clear h1 HS0
  go_wp2_with fail
  refine (Stt.names HS1.out names_A (by decide)).mono ?_
  rintro e w2 ⟨A2, c2, rfl, h2, h1, h3⟩
  have HR2 := Lib.hid h2
  clear h2 h3
  have HS2 := Lib.hid h1
  clear h1 HS1
  go_wp2_with fail
  refine (Stt.names HS2.out names_XY (by decide)).mono ?_
  rintro e w3 ⟨A3, c3, rfl, h2, h1, h3⟩
  have HR3 := Lib.hid h2
  replace HR2 := Lib.hid (HR2.out.later h3)
  clear h2 h3
  have HS3 := Lib.hid h1
  clear h1 HS2
  go_wp2_with fail
  refine (Stt.moved HS3.out (i := 0) (L' := [(t, true, sK2)]) rfl HR2.out fits_A HR3.out fits_XY mv1 rfl).mono ?_
  rintro e w4 ⟨rfl, h1⟩
  have HS4 : Hid (Stt Ws w4 [(t, true, sK2)] w4) := Lib.hid h1
  clear h1 HS3
  clear HR2 HR3
  go_wp2_with fail
  refine (works_calls _).mono ?_
  rintro e w5 ⟨rfl, h2⟩
  have h1 := HS4.out.later h2
  clear h2
  have HS5 := Lib.hid h1
  clear h1 HS4
  go_wp2_with fail
  refine (Stt.tells HS5.out (i := 0) rfl tk0).mono ?_
  rintro e w6 ⟨rfl, h1⟩
  have HS6 := Lib.hid h1
  clear h1 HS5
  go_wp2_with fail
  refine (Stt.tells HS6.out (i := 0) rfl tk1).mono ?_
  rintro e w7 ⟨rfl, h1⟩
  have HS7 := Lib.hid h1
  clear h1 HS6
  go_wp2_with fail
  refine (Stt.tells HS7.out (i := 0) rfl tk2).mono ?_
  rintro e w8 ⟨rfl, h1⟩
  have HS8 := Lib.hid h1
  clear h1 HS7
  go_wp2_with fail
  refine (Stt.close HS8.out (i := 0) (L' := [(t, true, sK3)]) rfl cl0 rfl).mono ?_
  rintro e w9 ⟨rfl, h1⟩
  have HS9 : Hid (Stt Ws w9 [(t, true, sK3)] w9) := Lib.hid h1
  clear h1 HS8
  go_wp2_with fail
  refine (Stt.opens HS9.out (i := 0) (L' := [(t, true, sLoop 3)]) rfl names_C (by decide) fits_C op0 rfl).mono ?_
  rintro e w10 ⟨rfl, h1⟩
  have HS10 : Hid (Stt Ws w10 [(t, true, sLoop 3)] w10) := Lib.hid h1
  clear h1 HS9
  go_wp2_with fail
  refine (Stt.count HS10.out (i := 0) rfl ct3).mono ?_
  rintro e w11 ⟨rfl, rfl⟩
  go_wp2_with fail
  refine (Stt.open_ HS10.out (i := 0) (L' := [(t, true, sLoop 3)]) rfl (RowI.nil _ _) fits_nil op1 rfl).mono ?_
  rintro e w12 ⟨rfl, h1⟩
  have HS12 : Hid (Stt Ws w12 [(t, true, sLoop 3)] w12) := Lib.hid h1
  clear h1 HS10
  have HSb : Hid (Stt Ws w12 [(t, true, sLoop 3)] (w12.alloc (.cells #[.string ⟨#[97, 47, 98]⟩] 9))) := Lib.hid (HS12.out.later (below_alloc (Below.refl _ _) _))
  have HRb : Hid (RowI w12 (some ⟨w12.heap.size, 0, none⟩) 1 [nAB] (w12.alloc (.cells #[.string ⟨#[97, 47, 98]⟩] 9))) := Lib.hid (RowI.one (HS12.out.cur) _)
  go_wp2_with fail
  refine (Stt.open_ HSb.out (i := 0) (L' := [(t, true, sLoop 3)]) rfl HRb.out fits_nAB op2 rfl).mono ?_
  rintro e w13 ⟨rfl, h1⟩
  clear HSb HRb
  have HS13 : Hid (Stt Ws w13 [(t, true, sLoop 3)] w13) := Lib.hid h1
  clear h1 HS12
  go_wp2
  go_loopw [6] (fun i wr => ∃ (k : Nat) (W0 : World), 3 ≤ k ∧ k ≤ 8 ∧ i = .int .i64 k ∧ Hid (Stt Ws W0 [(t, true, sLoop k)] wr)) (fun i _ => 8 - (intOf i).toNat)
  case atStart => exact ⟨3, _, by omega, by omega, rfl, HS13⟩
  case round =>
    clear HS13
    obtain ⟨k, W1, hk3, hk8, rfl, HS⟩ := hrel
    by_cases hlt : k < 8
    · have HO := Lib.hid (opL k hk3 hlt)
      go_wp2_with (go_at_call 56; refine (Stt.opens HS.out (i := 0) (L' := [(t, true, sLoop (k + 1))]) rfl names_A (by decide) fits_A HO.out rfl).mono ?_; rintro e w2 ⟨rfl, h1⟩; have HS2 := Lib.hid h1; clear h1)
      go_roundw
      case rel => exact ⟨k + 1, _, by omega, by omega, by go_num, HS2⟩
      case measure => simp [intOf]; omega
    · obtain rfl : k = 8 := by omega
      clear hk3 hk8 hlt
      obtain ⟨wl, rfl⟩ : ∃ x : World, x = wr := ⟨_, rfl⟩
      have HS100 := Lib.hid HS.out
      clear HS
      go_wp2_with fail
      refine (Stt.names HS100.out names_A (by decide)).mono ?_
      rintro e w101 ⟨A101, c101, rfl, h2, h1, h3⟩
      have HR101 := Lib.hid h2
      clear h2 h3
      have HS101 := Lib.hid h1
      clear h1 HS100
      go_wp2_with fail
      refine (Stt.open_ HS101.out (i := 0) (L' := [(t, true, sLoop 8)]) rfl HR101.out fits_A op3 rfl).mono ?_
      rintro e w102 ⟨rfl, h1⟩
      have HS102 : Hid (Stt Ws w102 [(t, true, sLoop 8)] w102) := Lib.hid h1
      clear h1 HS101
      clear HR101
      go_wp2_with fail
      refine (Stt.of_ HS102.out (i := 0) rfl of1).mono ?_
      rintro e w103 ⟨A103, c103, rfl, h1⟩
      have HS103 := Lib.hid h1
      clear h1 HS102
      go_wp2_with fail
      refine (Stt.of_ HS103.out (i := 0) rfl of8).mono ?_
      rintro e w104 ⟨A104, c104, rfl, h1⟩
      have HS104 := Lib.hid h1
      clear h1 HS103
      go_wp2_with fail
      refine (Stt.names HS104.out names_XYB (by decide)).mono ?_
      rintro e w105 ⟨A105, c105, rfl, h2, h1, h3⟩
      have HR105 := Lib.hid h2
      clear h2 h3
      have HS105 := Lib.hid h1
      clear h1 HS104
      go_wp2_with fail
      refine (Stt.names HS105.out names_6 (by decide)).mono ?_
      rintro e w106 ⟨A106, c106, rfl, h2, h1, h3⟩
      have HR106 := Lib.hid h2
      replace HR105 := Lib.hid (HR105.out.later h3)
      clear h2 h3
      have HS106 := Lib.hid h1
      clear h1 HS105
      go_wp2_with fail
      refine (Stt.moved HS106.out (i := 0) (L' := [(t, true, sK6)]) rfl HR105.out fits_XYB HR106.out fits_6 mv2 rfl).mono ?_
      rintro e w107 ⟨rfl, h1⟩
      have HS107 : Hid (Stt Ws w107 [(t, true, sK6)] w107) := Lib.hid h1
      clear h1 HS106
      clear HR105 HR106
      go_wp2_with fail
      refine (Stt.names HS107.out names_A (by decide)).mono ?_
      rintro e w108 ⟨A108, c108, rfl, h2, h1, h3⟩
      have HR108 := Lib.hid h2
      clear h2 h3
      have HS108 := Lib.hid h1
      clear h1 HS107
      go_wp2_with fail
      refine (Stt.moved HS108.out (i := 0) (L' := [(t, true, sK6)]) rfl HR108.out fits_A (RowI.nil _ _) fits_nil mv3 rfl).mono ?_
      rintro e w109 ⟨rfl, h1⟩
      have HS109 : Hid (Stt Ws w109 [(t, true, sK6)] w109) := Lib.hid h1
      clear h1 HS108
      clear HR108
      go_wp2_with fail
      refine (Stt.tells HS109.out (i := 0) rfl tk3).mono ?_
      rintro e w110 ⟨rfl, h1⟩
      have HS110 := Lib.hid h1
      clear h1 HS109
      go_wp2_with fail
      refine (Stt.tells HS110.out (i := 0) rfl tk4).mono ?_
      rintro e w111 ⟨rfl, h1⟩
      have HS111 := Lib.hid h1
      clear h1 HS110
      go_wp2_with fail
      refine (Stt.new_ HS111.out).mono ?_
      rintro e w112 ⟨dp, rfl, h1⟩
      have HS112 : Hid (Stt Ws w112 [(t, true, sK6), (dp, true, newS)] w112) := Lib.hid h1
      clear h1 HS111
      go_wp2_with fail
      refine (Stt.names HS112.out names_AB (by decide)).mono ?_
      rintro e w113 ⟨A113, c113, rfl, h2, h1, h3⟩
      have HR113 := Lib.hid h2
      clear h2 h3
      have HS113 := Lib.hid h1
      clear h1 HS112
      go_wp2_with fail
      refine (Stt.open_ HS113.out (i := 1) (L' := [(t, true, sK6), (dp, true, sD1)]) rfl HR113.out fits_AB opd rfl).mono ?_
      rintro e w114 ⟨rfl, h1⟩
      have HS114 : Hid (Stt Ws w114 [(t, true, sK6), (dp, true, sD1)] w114) := Lib.hid h1
      clear h1 HS113
      clear HR113
      go_wp2_with fail
      refine (Stt.names HS114.out names_A (by decide)).mono ?_
      rintro e w115 ⟨A115, c115, rfl, h2, h1, h3⟩
      have HR115 := Lib.hid h2
      clear h2 h3
      have HS115 := Lib.hid h1
      clear h1 HS114
      go_wp2_with fail
      refine (Stt.names HS115.out names_6 (by decide)).mono ?_
      rintro e w116 ⟨A116, c116, rfl, h2, h1, h3⟩
      have HR116 := Lib.hid h2
      replace HR115 := Lib.hid (HR115.out.later h3)
      clear h2 h3
      have HS116 := Lib.hid h1
      clear h1 HS115
      go_wp2_with fail
      refine (Stt.moved HS116.out (i := 1) (L' := [(t, true, sK6), (dp, true, newS)]) rfl HR115.out fits_A HR116.out fits_6 mvd rfl).mono ?_
      rintro e w117 ⟨rfl, h1⟩
      have HS117 : Hid (Stt Ws w117 [(t, true, sK6), (dp, true, newS)] w117) := Lib.hid h1
      clear h1 HS116
      clear HR115 HR116
      go_wp2_with fail
      refine (Stt.clear HS117.out (i := 0) (L' := [(t, true, newS), (dp, true, newS)]) rfl rfl).mono ?_
      rintro e w118 ⟨rfl, h1⟩
      have HS118 : Hid (Stt Ws w118 [(t, true, newS), (dp, true, newS)] w118) := Lib.hid h1
      clear h1 HS117
      obtain ⟨zp, hzp⟩ : ∃ z, z = w118.heap.size := ⟨_, rfl⟩
      obtain ⟨wz, hwz⟩ : ∃ z, z = w118.alloc (.cells #[.bool false, .pointer none, .pointer none, .pointer none, .pointer none, .pointer none, .pointer none, .pointer none, .pointer none] 87) := ⟨_, rfl⟩
      have h1 : Stt Ws wz [(t, true, newS), (dp, true, newS), (zp, false, newS)] wz := by rw [hwz, hzp]; exact Stt.zero HS118.out
      have HZP := Lib.hid hzp
      have HWZ := Lib.hid hwz
      clear hzp hwz
      have HS200 := Lib.hid h1
      clear h1 HS118
      go_wp2_with fail
      rw [← HWZ.out, ← HZP.out]
      refine (Stt.names HS200.out names_A (by decide)).mono ?_
      rintro e w201 ⟨A201, c201, rfl, h2, h1, h3⟩
      have HR201 := Lib.hid h2
      clear h2 h3
      have HS201 := Lib.hid h1
      clear h1 HS200
      go_wp2_with fail
      refine (Stt.names HS201.out names_B (by decide)).mono ?_
      rintro e w202 ⟨A202, c202, rfl, h2, h1, h3⟩
      have HR202 := Lib.hid h2
      replace HR201 := Lib.hid (HR201.out.later h3)
      clear h2 h3
      have HS202 := Lib.hid h1
      clear h1 HS201
      go_wp2_with fail
      refine (moved_nil _ _ _).mono ?_
      rintro e w203 ⟨rfl, rfl⟩
      clear HR201 HR202
      go_wp2_with fail
      refine (Stt.clear_z HS202.out (i := 2) rfl).mono ?_
      rintro e w204 ⟨rfl, rfl⟩
      go_wp2_with fail
      refine (Stt.names HS202.out names_A (by decide)).mono ?_
      rintro e w205 ⟨A205, c205, rfl, h2, h1, h3⟩
      have HR205 := Lib.hid h2
      clear h2 h3
      have HS205 := Lib.hid h1
      clear h1 HS202
      go_wp2_with fail
      refine (open_nil _ _ _).mono ?_
      rintro e w206 ⟨rfl, rfl⟩
      clear HR205
      go_wp2_with fail
      refine (Stt.of_z HS205.out (i := 2) rfl 0).mono ?_
      rintro e w207 ⟨rfl, rfl⟩
      go_wp2_with fail
      refine (Stt.count HS205.out (i := 1) rfl ct0).mono ?_
      rintro e w208 ⟨rfl, rfl⟩
      go_wp2_with fail
      refine (Stt.count HS205.out (i := 0) rfl ct0).mono ?_
      rintro e w209 ⟨rfl, rfl⟩
      go_wp2_with fail
      refine (Stt.opens HS205.out (i := 0) (L' := [(t, true, sE1), (dp, true, newS), (zp, false, newS)]) rfl names_A (by decide) fits_A ope rfl).mono ?_
      rintro e w210 ⟨rfl, h1⟩
      have HS210 : Hid (Stt Ws w210 [(t, true, sE1), (dp, true, newS), (zp, false, newS)] w210) := Lib.hid h1
      clear h1 HS205
      go_wp2_with fail
      refine (close_nil _ 0).mono ?_
      rintro e w211 ⟨rfl, rfl⟩
      go_wp2_with fail
      refine (Stt.count_z HS210.out (i := 2) rfl).mono ?_
      rintro e w212 ⟨rfl, rfl⟩
      go_wp2_with fail
      refine (works_calls _).mono ?_
      rintro e w213 ⟨rfl, h2⟩
      have h1 := HS210.out.later h2
      clear h2
      have HS213 := Lib.hid h1
      clear h1 HS210
      go_wp2
      go_ret
      exact ⟨rfl, HS213.out.all⟩

end Go.Proofs.YthafpbidfgmacaaDoor.Hd
