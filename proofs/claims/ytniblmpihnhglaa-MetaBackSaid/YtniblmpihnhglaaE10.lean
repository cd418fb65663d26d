/- Walks of layer 7: PutChange of the reference. -/
import Derived.Test.YtniblmpihnhglaaE9
import Derived.Test.YtniblmpihnhglaaE5a
import Derived.Deep.RegionWith
namespace Go.Proofs.Ytniblmpihnhglaa
open Go.RowKit
set_option linter.unusedVariables false

abbrev C77 (k n op y : Nat) : Obj := .cells #[.int .u8 k, .int .u64 n, .int .u8 op, .int .u64 y] 77
theorem c77_keep {k n op y : Nat} {w w1 : World} (h : Bl (w.alloc (C77 k n op y)) w1) : w1.heap[w.heap.size]? = some (.cells #[.int .u8 k, .int .u64 n, .int .u8 op, .int .u64 y] 77 (0, 0)) ∧ w.heap.size < w1.heap.size := by
  have hlt : w.heap.size < (w.alloc (C77 k n op y)).heap.size := by show _ < (w.heap.push _).size; rw [Array.size_push]; omega
  exact ⟨(h.block _ hlt).trans (heap_alloc_new _ _), Nat.lt_of_lt_of_le hlt h.size⟩

set_option maxRecDepth 100000 in
set_option maxHeartbeats 1600000 in
theorem rcput_no (k n op y : Nat) (w : World) (hM : mayC k n op y = false) :
    Calls Try.prog 41 #[.agg #[.int .u8 k, .int .u64 n, .int .u8 op, .int .u64 y]] w fun x w' => x = .returned (.tuple #[.string (strL []), .int .i64 4]) ∧ Bl w w' := by
  have CH := Lib.hid (fun w => rmayc_any k n op y w)
  unfold MayP at CH
  rw [hM] at CH
  clear hM
  go_enter Try.func41, Try.ntmps41
  go_wp2_with (go_at_call 72; refine (CH.out _).mono ?_; rintro e w1 ⟨rfl, h⟩; have B1 := Lib.hid h; clear h)
  go_ret2
  exact ⟨rfl, ((Bl.refl w).alloc _).trans B1.out⟩

set_option maxRecDepth 100000 in
set_option maxHeartbeats 1600000 in
theorem rcput_size (k n op y : Nat) (w : World) (hk : k = 1 ∨ k = 2) (hn : n ≤ 2048) (hM : mayC k n op y = true) :
    Calls Try.prog 41 #[.agg #[.int .u8 k, .int .u64 n, .int .u8 op, .int .u64 y]] w fun x w' => x = .returned (.tuple #[.string (strL (beB k 1 ++ beB n 4)), .int .i64 0]) ∧ Bl w w' := by
  have CH := Lib.hid (fun w => rmayc_any k n op y w)
  unfold MayP at CH
  rw [hM] at CH
  clear hM
  have N4 := Lib.hid (fun w => number_any n 4 w (by omega) (by decide) (by decide))
  have z1 : (strL (beB k 1)).size = 1 := by rw [strL_size, beB_length]
  have z4 : (strL (beB n 4)).size = 4 := by rw [strL_size, beB_length]
  have a5 : strL (beB k 1) ++ strL (beB n 4) = strL (beB k 1 ++ beB n 4) := strL_append _ _
  have hcv0 := fun W : World => cv1 (Bl.refl (W.alloc (.cells #[.int .u8 k] 5))) (by omega)
  have e3 : ((k : Int) == 3) = false := by rw [beq_eq_false_iff_ne]; omega
  have e4 : ((k : Int) == 4) = false := by rw [beq_eq_false_iff_ne]; omega
  clear hn hk
  go_enter Try.func41, Try.ntmps41
  go_wp2_with (first
    | (go_at_call 73; refine (N4.out _).mono ?_; rintro e w4 ⟨rfl, h⟩; have B4 := Lib.hid h; clear h)
    | (go_at_call 72; refine (CH.out _).mono ?_; rintro e w1 ⟨rfl, h⟩; have B1 := Lib.hid h; have bx := c77_keep h; obtain ⟨c0, c1, c2, c3, _, _, _, _⟩ := four_cells bx.1; have bz : ∀ v, (w1.alloc (.cells #[v] 5)).heap[w.heap.size]? = some (.cells #[.int .u8 k, .int .u64 n, .int .u8 op, .int .u64 y] 77 (0, 0)) := fun v => (Below.heap_alloc w1 _ _ bx.2).trans bx.1; have d0 := fun v => (four_cells (bz v)).1; have d1 := fun v => (four_cells (bz v)).2.1; have d2 := fun v => (four_cells (bz v)).2.2.1; have d3 := fun v => (four_cells (bz v)).2.2.2.1; have Z := Lib.hid bx.2; clear h bx bz))
  go_ret2
  exact ⟨rfl, Bl.trans (Bl.trans ((Bl.refl w).alloc _) B1.out) (Bl.trans ((Bl.refl w1).alloc _) B4.out)⟩

set_option maxRecDepth 100000 in
set_option maxHeartbeats 1600000 in
theorem rcput_stamp (k n op y : Nat) (w : World) (hk : k = 4) (hn : n < 18446744073709551616) (hM : mayC k n op y = true) :
    Calls Try.prog 41 #[.agg #[.int .u8 k, .int .u64 n, .int .u8 op, .int .u64 y]] w fun x w' => x = .returned (.tuple #[.string (strL (beB k 1 ++ beB n 8)), .int .i64 0]) ∧ Bl w w' := by
  have CH := Lib.hid (fun w => rmayc_any k n op y w)
  unfold MayP at CH
  rw [hM] at CH
  clear hM
  have N4 := Lib.hid (fun w => number_any n 8 w (by omega) (by decide) (by decide))
  have z1 : (strL (beB k 1)).size = 1 := by rw [strL_size, beB_length]
  have z4 : (strL (beB n 8)).size = 8 := by rw [strL_size, beB_length]
  have a5 : strL (beB k 1) ++ strL (beB n 8) = strL (beB k 1 ++ beB n 8) := strL_append _ _
  have hcv0 := fun W : World => cv1 (Bl.refl (W.alloc (.cells #[.int .u8 k] 5))) (by omega)
  have e3 : ((k : Int) == 3) = false := by rw [beq_eq_false_iff_ne]; omega
  have e4 : ((k : Int) == 4) = true := by rw [beq_iff_eq]; omega
  clear hn hk
  go_enter Try.func41, Try.ntmps41
  go_wp2_with (first
    | (go_at_call 73; refine (N4.out _).mono ?_; rintro e w4 ⟨rfl, h⟩; have B4 := Lib.hid h; clear h)
    | (go_at_call 72; refine (CH.out _).mono ?_; rintro e w1 ⟨rfl, h⟩; have B1 := Lib.hid h; have bx := c77_keep h; obtain ⟨c0, c1, c2, c3, _, _, _, _⟩ := four_cells bx.1; have bz : ∀ v, (w1.alloc (.cells #[v] 5)).heap[w.heap.size]? = some (.cells #[.int .u8 k, .int .u64 n, .int .u8 op, .int .u64 y] 77 (0, 0)) := fun v => (Below.heap_alloc w1 _ _ bx.2).trans bx.1; have d0 := fun v => (four_cells (bz v)).1; have d1 := fun v => (four_cells (bz v)).2.1; have d2 := fun v => (four_cells (bz v)).2.2.1; have d3 := fun v => (four_cells (bz v)).2.2.2.1; have Z := Lib.hid bx.2; clear h bx bz))
  go_ret2
  exact ⟨rfl, Bl.trans (Bl.trans ((Bl.refl w).alloc _) B1.out) (Bl.trans ((Bl.refl w1).alloc _) B4.out)⟩

/-- Behind the region's first steps. -/
theorem rest_below {W0 W w' : World} (h : Bl W w') (hw : W = W0.drew ∨ (∃ o, W = (W0.alloc o).drew) := by first | exact .inl rfl | exact .inr ⟨_, rfl⟩) : Bl W0 w' := by
  rcases hw with rfl | ⟨o, rfl⟩
  · exact (Bl.refl _).drew.trans h
  · exact ((Bl.refl _).alloc o).drew.trans h

set_option maxRecDepth 100000 in
set_option maxHeartbeats 3200000 in
theorem rcput_mark (k n op y : Nat) (w : World) (hk : k = 3) (ho : op < 256) (hy : y < 18446744073709551616) (hM : mayC k n op y = true) :
    Calls Try.prog 41 #[.agg #[.int .u8 k, .int .u64 n, .int .u8 op, .int .u64 y]] w fun x w' => x = .returned (.tuple #[.string (strL (beB k 1 ++ beB op 1 ++ beB y 8)), .int .i64 0]) ∧ Bl w w' := by
  have CH := Lib.hid (fun w => rmayc_any k n op y w)
  unfold MayP at CH
  rw [hM] at CH
  clear hM
  have N8 := Lib.hid (fun w => number_any y 8 w hy (by decide) (by decide))
  have z1 : (strL (beB k 1)).size = 1 := by rw [strL_size, beB_length]
  have y1 : (strL (beB op 1)).size = 1 := by rw [strL_size, beB_length]
  have z4 : (strL (beB y 8)).size = 8 := by rw [strL_size, beB_length]
  have a2 : strL (beB k 1) ++ strL (beB op 1) = strL (beB k 1 ++ beB op 1) := strL_append _ _
  have z2 : (strL (beB k 1 ++ beB op 1)).size = 2 := by rw [strL_size, List.length_append, beB_length, beB_length]
  have a10 : strL (beB k 1 ++ beB op 1) ++ strL (beB y 8) = strL (beB k 1 ++ beB op 1 ++ beB y 8) := strL_append _ _
  generalize strL (beB k 1 ++ beB op 1) = S2 at a2 z2 a10
  have hcv3 := fun W : World => cv1 (Bl.refl (W.alloc (.cells #[.int .u8 k] 5))) (by omega)
  have hcv0 := fun W : World => cv1 (Bl.refl (W.alloc (.cells #[.int .u8 op] 5))) ho
  have hcv1 := fun W : World => cv1 ((Bl.refl (W.alloc (.cells #[.int .u8 op] 5))).drew) ho
  have e3 : ((k : Int) == 3) = true := by rw [beq_iff_eq]; omega
  have HK := Lib.hid ho
  clear hy ho hk
  go_enter Try.func41, Try.ntmps41
  go_wp2_with (go_at_call 72; refine (CH.out _).mono ?_; rintro e w1 ⟨rfl, h⟩; have B1 := Lib.hid h; have bx := c77_keep h; obtain ⟨c0, c1, c2, c3, _, _, _, _⟩ := four_cells bx.1; have bz : ∀ v, (w1.alloc (.cells #[v] 5)).heap[w.heap.size]? = some (.cells #[.int .u8 k, .int .u64 n, .int .u8 op, .int .u64 y] 77 (0, 0)) := fun v => (Below.heap_alloc w1 _ _ bx.2).trans bx.1; have d0 := fun v => (four_cells (bz v)).1; have d1 := fun v => (four_cells (bz v)).2.1; have d2 := fun v => (four_cells (bz v)).2.2.1; have d3 := fun v => (four_cells (bz v)).2.2.2.1; have Z := Lib.hid bx.2; clear h bx bz)
  have KS0 : Hid (∀ w', Bl (w1.alloc (.cells #[.int .u8 k] 5)) w' → ((w'.cell? ⟨w.heap.size, 2, none⟩ = some (.int .u8 op) ∧ w'.cell? ⟨w.heap.size, 3, none⟩ = some (.int .u64 y)) ∧ Bl (w1.alloc (.cells #[.int .u8 k] 5)) w')) := Lib.hid (fun w' hb => by
    have hlt : w.heap.size < (w1.alloc (.cells #[.int .u8 k] 5)).heap.size := by have := Z.out; show _ < (w1.heap.push _).size; rw [Array.size_push]; omega
    exact ⟨⟨(hb.cell (p := ⟨w.heap.size, 2, none⟩) hlt).trans (d2 _), (hb.cell (p := ⟨w.heap.size, 3, none⟩) hlt).trans (d3 _)⟩, hb⟩)
  have BW : Hid (Bl w (w1.alloc (.cells #[.int .u8 k] 5))) := Lib.hid ((Bl.trans ((Bl.refl w).alloc _) B1.out).alloc _)
  clear c0 c1 c2 c3 d0 d1 d2 d3 hcv3
  generalize w1.alloc (.cells #[.int .u8 k] 5) = W0 at KS0 BW ⊢
  have KA : Hid (∀ w', Bl W0 w' → ∀ v, (w'.alloc (.cells #[v] 5)).cell? ⟨w.heap.size, 2, none⟩ = some (.int .u8 op) ∧ (w'.alloc (.cells #[v] 5)).cell? ⟨w.heap.size, 3, none⟩ = some (.int .u64 y)) := Lib.hid (fun w' hb v => (KS0.out _ (hb.alloc (.cells #[v] 5))).1)
  have c2 := (KS0.out W0 (Bl.refl W0)).1.1
  have c3 := (KS0.out W0 (Bl.refl W0)).1.2
  have a2 := fun v => (KA.out W0 (Bl.refl W0) v).1
  have a3 := fun v => (KA.out W0 (Bl.refl W0) v).2
  go_region_with
    (go_at_call 73; refine (N8.out _).mono ?_; rintro e w' ⟨rfl, hb⟩; have hb2 := Lib.hid (rest_below (W0 := W0) hb); have k2 := (KS0.out w' hb2.out).1.1; have k3 := (KS0.out w' hb2.out).1.2; have l2 := fun v => (KA.out w' hb2.out v).1; have l3 := fun v => (KA.out w' hb2.out v).2; (try (have hq := cv2 (W := W0) hb HK.out)); clear hb)
  all_goals go_wp2_with fail
  all_goals go_ret2
  all_goals first | exact ⟨rfl, BW.out.trans hb2.out⟩ | exact ⟨rfl, BW.out.trans (hb2.out.alloc _)⟩

theorem rcput_any (k n op y : Nat) (w : World) (hk : k < 256) (hn : n < 18446744073709551616) (ho : op < 256) (hy : y < 18446744073709551616) :
    Calls Try.prog 41 #[.agg #[.int .u8 k, .int .u64 n, .int .u8 op, .int .u64 y]] w (CPutP k n op y w) := by
  unfold CPutP cE
  by_cases hM : mayC k n op y = true
  · rw [if_pos hM, if_pos hM]
    rcases mayC_form hM with ⟨h1, h2⟩ | rfl | rfl
    · have : changeL k n op y = beB k 1 ++ beB n 4 := by unfold changeL; rw [if_neg (by omega), if_neg (by omega)]
      rw [this]
      exact rcput_size k n op y w h1 h2 hM
    · exact rcput_stamp 4 n op y w rfl hn hM
    · have : changeL 3 n op y = beB 3 1 ++ beB op 1 ++ beB y 8 := by unfold changeL; rw [if_pos rfl, List.append_assoc]
      rw [this]
      exact rcput_mark 3 n op y w rfl ho hy hM
  · rw [if_neg hM, if_neg hM]
    exact rcput_no k n op y w (by simpa using hM)
end Go.Proofs.Ytniblmpihnhglaa
