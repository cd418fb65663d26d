/- Walks of layer 7: a slice of one byte as a string. -/
import Derived.Test.YtniblmpihnhglaaE4
namespace Go.Proofs.Ytniblmpihnhglaa
open Go.RowKit
set_option linter.unusedVariables false

set_option maxRecDepth 100000 in
theorem cv1 {k : Nat} {W w' : World} (hb : Bl (W.alloc (.cells #[.int .u8 k] 5)) w') (hk : k < 256) : (convert 26 9 (.slice (some ⟨W.heap.size, 0, none⟩) 1 1)).run Try.prog w' = .ok (.string (strL (beB k 1))) w' := by
  have hlt : W.heap.size < (W.alloc (.cells #[.int .u8 k] 5)).heap.size := by show _ < (W.heap.push _).size; rw [Array.size_push]; omega
  have hblk := (hb.block _ hlt).trans (heap_alloc_new W (.cells #[.int .u8 k] 5))
  have := run_convert_bytes_arg (P := Try.prog) w' 26 5 Try.underlying26 Try.underlying5 W.heap.size 0 1 1 [(k : Int)] rfl (fun i hi => by
    have h0 : i = 0 := by omega
    subst h0
    rw [cell_of_row _ _ _ _ _ _ hblk]; rfl) 9 Try.underlying9
  rw [this]
  congr 2
  have hb1 : beB k 1 = [UInt8.ofNat k] := by simp [beB, byteAt]
  rw [hb1]
  simp [strOfNums, strL]

theorem cv2 {k : Nat} {W w' : World} (hb : Bl ((W.alloc (.cells #[.int .u8 k] 5)).drew) w') (hk : k < 256) : (convert 26 9 (.slice (some ⟨W.heap.size, 0, none⟩) 1 1)).run Try.prog w' = .ok (.string (strL (beB k 1))) w' := cv1 (Bl.trans (Bl.refl _).drew hb) hk

end Go.Proofs.Ytniblmpihnhglaa
