/- The walks of given, works, opens, right (of the laws over descriptors). -/
import Derived.Test.YthafpbidfgmacaaDoorT11
namespace Go.Proofs.YthafpbidfgmacaaDoor.Hd
open Go.RowKit Go.Proofs.YthafpbidfgmacaaDoor Go.Proofs.YthafpbidfgmacaaDoorW.PrintWords Go.Proofs.YthafpbidfgmacaaDoorW.PrintLast Go.Proofs.YthafpbidfgmacaaDoorW.PrintMore
set_option linter.unusedVariables false
set_option linter.unusedSimpArgs false

set_option maxHeartbeats 4000000 in
theorem Stt.given {Ws W0 w : World} {L : List Tb} (h : Stt Ws W0 L w) (hl : L = []) : Calls Tryd.prog 54 #[] w fun e w' => ∃ t, e = .returned (.pointer (some ⟨t, 0, none⟩)) ∧ Stt Ws w' [(t, true, sGiven)] w' := by
  subst hl
  have HS0 := Lib.hid h
  clear h
  go_enter Tryd.func54, Tryd.ntmps54
  go_wp2_with fail
  refine (Stt.new_ HS0.out).mono ?_
  rintro e w1 ⟨t, rfl, h1⟩
  have HS1 : Hid (Stt Ws w1 [(t, true, newS)] w1) := Lib.hid h1
  clear h1 HS0
  go_wp2_with fail
  refine (Stt.names HS1.out names_A (by decide)).mono ?_
  rintro e w2 ⟨A2, c2, rfl, h2, h1, h3⟩
  have HR2 := Lib.hid h2
  clear h2 h3
  have HS2 := Lib.hid h1
  clear h1 HS1
  go_wp2_with fail
  refine (Stt.open_ HS2.out (i := 0) (L' := [(t, true, sGiven1)]) rfl HR2.out fits_A open_g1 rfl).mono ?_
  rintro e w3 ⟨rfl, h1⟩
  have HS3 : Hid (Stt Ws w3 [(t, true, sGiven1)] w3) := Lib.hid h1
  clear h1 HS2
  clear HR2
  go_wp2_with fail
  refine (Stt.names HS3.out names_A (by decide)).mono ?_
  rintro e w4 ⟨A4, c4, rfl, h2, h1, h3⟩
  have HR4 := Lib.hid h2
  clear h2 h3
  have HS4 := Lib.hid h1
  clear h1 HS3
  go_wp2_with fail
  refine (Stt.open_ HS4.out (i := 0) (L' := [(t, true, sGiven2)]) rfl HR4.out fits_A open_g2 rfl).mono ?_
  rintro e w5 ⟨rfl, h1⟩
  have HS5 : Hid (Stt Ws w5 [(t, true, sGiven2)] w5) := Lib.hid h1
  clear h1 HS4
  clear HR4
  go_wp2_with fail
  refine (Stt.names HS5.out names_AB (by decide)).mono ?_
  rintro e w6 ⟨A6, c6, rfl, h2, h1, h3⟩
  have HR6 := Lib.hid h2
  clear h2 h3
  have HS6 := Lib.hid h1
  clear h1 HS5
  go_wp2_with fail
  refine (Stt.open_ HS6.out (i := 0) (L' := [(t, true, sGiven)]) rfl HR6.out fits_AB open_g3 rfl).mono ?_
  rintro e w7 ⟨rfl, h1⟩
  have HS7 : Hid (Stt Ws w7 [(t, true, sGiven)] w7) := Lib.hid h1
  clear h1 HS6
  clear HR6
  go_wp2
  go_ret
  exact ⟨_, rfl, HS7.out⟩

theorem tells_w0 : tellsB sGiven 0 ⟨#[]⟩ ⟨#[97]⟩ = true := by decide +kernel
theorem tells_w1 : tellsB sGiven 1 ⟨#[115]⟩ ⟨#[97]⟩ = true := by decide +kernel
theorem tells_w2 : tellsB sGiven 2 ⟨#[]⟩ ⟨#[97, 47, 98]⟩ = true := by decide +kernel
theorem close_w0 : closeS sGiven 0 = (sGiven0, 0) := by decide +kernel
theorem close_w1 : closeS sGiven0 0 = (sGiven0, 12) := by decide +kernel
theorem count_w : countS sGiven = 3 := by decide
set_option maxHeartbeats 4000000 in
theorem works_calls (Ws : World) : Calls Tryd.prog 13 #[] Ws fun e w' => e = .returned (.bool true) ∧ Below Ws.heap.size Ws w' := by
  have HS0 := Lib.hid (Stt.start Ws)
  go_enter Tryd.func13, Tryd.ntmps13
  go_wp2_with fail
  refine (Stt.given HS0.out rfl).mono ?_
  rintro e w1 ⟨t, rfl, h1⟩
  have HS1 : Hid (Stt Ws w1 [(t, true, sGiven)] w1) := Lib.hid h1
  clear h1 HS0
  go_wp2_with fail
  refine (Stt.count HS1.out (i := 0) rfl count_w).mono ?_
  rintro e w2 ⟨rfl, rfl⟩
  go_wp2_with fail
  refine (Stt.tells HS1.out (i := 0) rfl tells_w0).mono ?_
  rintro e w3 ⟨rfl, h1⟩
  have HS3 := Lib.hid h1
  clear h1 HS1
  go_wp2_with fail
  refine (Stt.tells HS3.out (i := 0) rfl tells_w1).mono ?_
  rintro e w4 ⟨rfl, h1⟩
  have HS4 := Lib.hid h1
  clear h1 HS3
  go_wp2_with fail
  refine (Stt.tells HS4.out (i := 0) rfl tells_w2).mono ?_
  rintro e w5 ⟨rfl, h1⟩
  have HS5 := Lib.hid h1
  clear h1 HS4
  go_wp2_with fail
  refine (Stt.close HS5.out (i := 0) (L' := [(t, true, sGiven0)]) rfl close_w0 rfl).mono ?_
  rintro e w6 ⟨rfl, h1⟩
  have HS6 : Hid (Stt Ws w6 [(t, true, sGiven0)] w6) := Lib.hid h1
  clear h1 HS5
  go_wp2_with fail
  refine (Stt.close HS6.out (i := 0) (L' := [(t, true, sGiven0)]) rfl close_w1 rfl).mono ?_
  rintro e w7 ⟨rfl, h1⟩
  have HS7 : Hid (Stt Ws w7 [(t, true, sGiven0)] w7) := Lib.hid h1
  clear h1 HS6
  go_wp2
  go_ret
  exact ⟨rfl, HS7.out.all⟩

set_option maxHeartbeats 4000000 in
theorem Stt.opens {Ws W0 w : World} {L L' : List Tb} {i t : Nat} {st st' : St} (h : Stt Ws W0 L w) (hi : L[i]? = some (t, true, st)) {s p : ByteArray} {l : List ByteArray} {d : Int} (hl : namesL p = l) (hp : p.size < 4294967281) (hf : fits l) (ho : openS st s l = (st', d, 0)) (hL : L.set i (t, true, st') = L') :
    Calls Tryd.prog 56 #[.pointer (some ⟨t, 0, none⟩), .string s, .string p, .int .i64 d] w fun e w' => e = .returned (.bool true) ∧ Stt Ws w' L' w' := by
  have HN := Lib.hid (Stt.names h hl hp)
  have HO : Hid (∀ (A : Option Addr) (c : Nat) (w' : World), Stt Ws W0 L w' → RowI W0 A c l w' → Calls Tryd.prog 15 #[.pointer (some ⟨t, 0, none⟩), .string s, .slice A l.length c] w' fun e w' => e = .returned (.tuple #[.int .i64 d, .int .i64 0]) ∧ Stt Ws w' L' w') := fun A c w' h' hr => h'.open_ hi hr hf ho hL
  clear h hl hp hf ho hL hi
  generalize l.length = n at *
  go_enter Tryd.func56, Tryd.ntmps56
  go_wp2_with (first | (go_at_call 55; refine HN.out.mono ?_; rintro e w1 ⟨A, c, rfl, h2, h1, h3⟩; have HS1 := Lib.hid h1; have HR1 := Lib.hid h2; clear h1 h2 h3) | (go_at_call 15; refine (HO.out _ _ _ HS1.out HR1.out).mono ?_; rintro e w2 ⟨rfl, h1⟩; have HS2 := Lib.hid h1; clear h1))
  go_ret
  exact ⟨rfl, HS2.out⟩
theorem open_new (l : List ByteArray) : openS newS ⟨#[]⟩ l = (if okP l = true then ([some (⟨#[]⟩, l), none, none, none, none, none, none, none], 0, 0) else (newS, 0, 4)) := by
  unfold openS
  rfl
set_option maxHeartbeats 4000000 in
theorem lawright_calls (A : Option Addr) (c : Nat) (l : List ByteArray) (w : World) (hr : Kd.C Kd.string w A l.length l) (hc : l.length ≤ c) (hf : fits l) :
    Calls Tryd.prog 19 #[.slice A l.length c] w fun e w' => e = .returned (.bool (okP l)) ∧ Below w.heap.size w w' := by
  have HN := Lib.hid (new_calls w)
  have HO : Hid (∀ w1, Tab w.heap.size w1 w.heap.size true newS (fun g => g = w.heap.size) → Below w.heap.size w w1 → Calls Tryd.prog 15 #[.pointer (some ⟨w.heap.size, 0, none⟩), .string ⟨#[]⟩, .slice A l.length c] w1 fun e w' => e = .returned (.tuple #[.int .i64 0, .int .i64 (if okP l = true then 0 else 4)]) ∧ Below w.heap.size w w') := by
    intro w1 hT hb
    refine (open_tab hT hb.size ⟨#[]⟩ A c l (Kd.C_below hr hb) hc hf).mono ?_
    rintro e w' ⟨he, F', hT', hf'⟩
    refine ⟨?_, Below.trans hb (hT.bframe hf' hb.size)⟩
    rw [he, open_new]
    by_cases h : okP l = true
    · rw [if_pos h, if_pos h]
    · rw [if_neg h, if_neg h]
  clear hr hc hf
  generalize l.length = n at *
  by_cases h : okP l = true
  · rw [if_pos h] at HO
    rw [h]
    clear h
    go_enter Tryd.func19, Tryd.ntmps19
    go_wp2_with (first | (go_at_call 14; refine HN.out.mono ?_; rintro e w1 ⟨rfl, hT, hb⟩; have HT := Lib.hid hT; have HB := Lib.hid hb; clear hT hb) | (go_at_call 15; refine (HO.out _ HT.out HB.out).mono ?_; rintro e w2 ⟨rfl, hb⟩))
    go_ret
    exact ⟨rfl, hb⟩
  · rw [if_neg h] at HO
    have h' : okP l = false := by simpa using h
    rw [h']
    clear h h'
    go_enter Tryd.func19, Tryd.ntmps19
    go_wp2_with (first | (go_at_call 14; refine HN.out.mono ?_; rintro e w1 ⟨rfl, hT, hb⟩; have HT := Lib.hid hT; have HB := Lib.hid hb; clear hT hb) | (go_at_call 15; refine (HO.out _ HT.out HB.out).mono ?_; rintro e w2 ⟨rfl, hb⟩))
    go_ret
    exact ⟨rfl, hb⟩
end Go.Proofs.YthafpbidfgmacaaDoor.Hd
