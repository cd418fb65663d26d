/- Walks of layer 7: Put of the reference. -/
import Derived.Test.YtniblmpihnhglaaE5a
import Derived.Deep.RegionHeldLaw
namespace Go.Proofs.Ytniblmpihnhglaa
open Go.RowKit
set_option linter.unusedVariables false

set_option maxRecDepth 100000 in
set_option maxHeartbeats 1600000 in
theorem rput_yes (k s m t : Nat) (w : World) (hk : k < 256) (hs : s < 4294967296) (hm : m < 18446744073709551616) (ht : t < 18446744073709551616) (hM : mayM k s m = true) :
    Calls Try.prog 50 #[.agg #[.int .u8 k, .int .u32 s, .int .u64 m, .int .u64 t]] w fun x w' => x = .returned (.tuple #[.string (strL (metaL k s m t)), .int .i64 0]) ∧ Bl w w' := by
  have RM : Hid (∀ w, Calls Try.prog 77 #[.agg #[.int .u8 k, .int .u32 s, .int .u64 m, .int .u64 t]] w fun x w' => x = .returned (.bool true) ∧ Bl w w') := Lib.hid (fun w => by
    have := rmay_any k s m t w (by omega) (by omega)
    unfold RMayP at this
    rwa [hM] at this)
  have hu : IntKind.u64.wrap (s : Int) = s := IntWalk.u64_in _ (by omega)
  have N4 := Lib.hid (fun w => number_any s 4 w (by omega) (by decide) (by decide))
  have N8m := Lib.hid (fun w => number_any m 8 w hm (by decide) (by decide))
  have N8t := Lib.hid (fun w => number_any t 8 w ht (by decide) (by decide))
  have BX : Hid (∀ w1, Bl (w.alloc (.cells #[.int .u8 k, .int .u32 s, .int .u64 m, .int .u64 t] 85)) w1 → w1.heap[w.heap.size]? = some (.cells #[.int .u8 k, .int .u32 s, .int .u64 m, .int .u64 t] 85 (0, 0))) := Lib.hid (fun w1 hb => by
    have hlt : w.heap.size < (w.alloc (.cells #[.int .u8 k, .int .u32 s, .int .u64 m, .int .u64 t] 85)).heap.size := by show _ < (w.heap.push _).size; rw [Array.size_push]; omega
    exact (hb.block _ hlt).trans (heap_alloc_new _ _))
  have z1 : (strL (beB k 1)).size = 1 := by rw [strL_size, beB_length]
  have z4 : (strL (beB s 4)).size = 4 := by rw [strL_size, beB_length]
  have z8 : (strL (beB m 8)).size = 8 := by rw [strL_size, beB_length]
  have y8 : (strL (beB t 8)).size = 8 := by rw [strL_size, beB_length]
  have a5 : strL (beB k 1) ++ strL (beB s 4) = strL (beB k 1 ++ beB s 4) := strL_append _ _
  have z5 : (strL (beB k 1 ++ beB s 4)).size = 5 := by rw [strL_size, List.length_append, beB_length, beB_length]
  have a13 : strL (beB k 1 ++ beB s 4) ++ strL (beB m 8) = strL (beB k 1 ++ beB s 4 ++ beB m 8) := strL_append _ _
  have z13 : (strL (beB k 1 ++ beB s 4 ++ beB m 8)).size = 13 := by rw [strL_size, List.length_append, List.length_append, beB_length, beB_length, beB_length]
  have a21 : strL (beB k 1 ++ beB s 4 ++ beB m 8) ++ strL (beB t 8) = strL (metaL k s m t) := by rw [strL_append]; simp [metaL, List.append_assoc]
  generalize strL (beB k 1 ++ beB s 4 ++ beB m 8) = S13 at a13 z13 a21
  generalize strL (beB k 1 ++ beB s 4) = S5 at a5 z5 a13
  have HK := Lib.hid hk
  have hcv0 := fun W : World => cv1 (Bl.refl (W.alloc (.cells #[.int .u8 k] 5))) hk
  have hcv1 := fun W : World => cv1 ((Bl.refl (W.alloc (.cells #[.int .u8 k] 5))).drew) hk
  clear hk hs hm ht hM
  go_enter Try.func50, Try.ntmps50
  go_wp2_with (go_at_call 77; refine (RM.out _).mono ?_; rintro e w1 ⟨rfl, h⟩; have B1 := Lib.hid h; have bx := BX.out w1 h; have c0 : w1.cell? ⟨w.heap.size, 0, none⟩ = some (.int .u8 k) := by { rw [cell_of_row _ _ _ _ _ _ bx]; rfl }; have c1 : w1.cell? ⟨w.heap.size, 1, none⟩ = some (.int .u32 s) := by { rw [cell_of_row _ _ _ _ _ _ bx]; rfl }; have c2 : w1.cell? ⟨w.heap.size, 2, none⟩ = some (.int .u64 m) := by { rw [cell_of_row _ _ _ _ _ _ bx]; rfl }; have c3 : w1.cell? ⟨w.heap.size, 3, none⟩ = some (.int .u64 t) := by { rw [cell_of_row _ _ _ _ _ _ bx]; rfl }; clear h bx)
  have KS : Hid (∀ w', Bl w1 w' → ((w'.cell? ⟨w.heap.size, 0, none⟩ = some (.int .u8 k) ∧ w'.cell? ⟨w.heap.size, 1, none⟩ = some (.int .u32 s) ∧ w'.cell? ⟨w.heap.size, 2, none⟩ = some (.int .u64 m) ∧ w'.cell? ⟨w.heap.size, 3, none⟩ = some (.int .u64 t)) ∧ Bl w1 w')) := Lib.hid (fun w' hb => by
    have bx := BX.out w' (B1.out.trans hb)
    refine ⟨⟨?_, ?_, ?_, ?_⟩, hb⟩ <;> (rw [cell_of_row _ _ _ _ _ _ bx]; rfl))
  clear c0 c1 c2 c3
  go_region_held_law (fun w' => (w'.cell? ⟨w.heap.size, 0, none⟩ = some (.int .u8 k) ∧ w'.cell? ⟨w.heap.size, 1, none⟩ = some (.int .u32 s) ∧ w'.cell? ⟨w.heap.size, 2, none⟩ = some (.int .u64 m) ∧ w'.cell? ⟨w.heap.size, 3, none⟩ = some (.int .u64 t)) ∧ Bl w1 w')
    (first
      | assumption
      | exact KS.out _ (Bl.refl w1).drew
      | exact KS.out _ (And.right (by assumption))
      | (refine KS.out _ ?_; first | exact Bl.alloc (And.right (by assumption)) _ | (refine Bl.trans ?_ (by assumption); exact And.right (by assumption)) | exact (Bl.alloc (And.right (by assumption)) _).drew | exact ((Bl.refl w1).alloc _).drew | exact (Bl.trans ((Bl.refl w1).alloc _).drew (by assumption))))
    (first
      | (go_at_call_of 73 (Value.int .u64 s); refine (N4.out _).mono ?_; rintro e w' ⟨rfl, hb⟩; (try (have hq := cv1 hb HK.out)); (try (have hq := cv1 (Bl.trans (by assumption) hb) HK.out)); (try (have hq := cv2 hb HK.out)); (try (have hq := cv2 (Bl.trans (by assumption) hb) HK.out)); (try (have hq := cv2 (Bl.trans (Bl.trans (by assumption) (by assumption)) hb) HK.out)))
      | (go_at_call_of 73 (Value.int .u64 m); refine (N8m.out _).mono ?_; rintro e w' ⟨rfl, hb⟩; (try (have hq := cv1 hb HK.out)); (try (have hq := cv1 (Bl.trans (by assumption) hb) HK.out)); (try (have hq := cv2 hb HK.out)); (try (have hq := cv2 (Bl.trans (by assumption) hb) HK.out)); (try (have hq := cv2 (Bl.trans (Bl.trans (by assumption) (by assumption)) hb) HK.out)))
      | (go_at_call_of 73 (Value.int .u64 t); refine (N8t.out _).mono ?_; rintro e w' ⟨rfl, hb⟩; (try (have hq := cv1 hb HK.out)); (try (have hq := cv1 (Bl.trans (by assumption) hb) HK.out)); (try (have hq := cv2 hb HK.out)); (try (have hq := cv2 (Bl.trans (by assumption) hb) HK.out)); (try (have hq := cv2 (Bl.trans (Bl.trans (by assumption) (by assumption)) hb) HK.out))))
  all_goals go_wp2_with fail
  all_goals go_ret2
  all_goals exact ⟨rfl, Bl.trans ((Bl.refl w).alloc _) (Bl.trans B1.out (And.right (by assumption)))⟩
end Go.Proofs.Ytniblmpihnhglaa
