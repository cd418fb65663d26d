/- strings.Repeat, as the print program would have printed it. -/
import Derived.Test.YthafpbidfgmacaaDoorJ0
import Derived.Test.YthafpbidfgmacaaDoorSShelf2
namespace Go.Proofs.YthafpbidfgmacaaDoor.Q
open Go.RowKit Go.Proofs.YthafpbidfgmacaaDoorW.PrintWords Go.Proofs.YthafpbidfgmacaaDoorW.PrintLast Go.Proofs.YthafpbidfgmacaaDoorW.PrintMore
def repeatF (s : ByteArray) (n : Int) : Option ByteArray := if 0 ≤ n ∧ n ≤ 1000 ∧ s.size ≤ 1000 then some ⟨(Lib.repeatL s.data.toList n.toNat).toArray⟩ else none
theorem repeat_calls (a0 : ByteArray) (a1 : Int) (r : ByteArray) (w : World) (h : repeatF a0 a1 = some r) :
    Calls Tryd.prog 35 #[.string a0, .int .i64 a1] w fun e w' => e = .returned (.string r) ∧ Below w.heap.size w w' := by
  unfold repeatF at h
  split at h
  · rename_i hb
    cases h
    obtain ⟨n, rfl⟩ := Int.eq_ofNat_of_zero_le hb.1
    rw [Int.toNat_natCast]
    have hm : a0.size * n ≤ 1000 * 1000 := Nat.mul_le_mul hb.2.2 (by omega)
    exact Tryd.strings_Repeat a0 n w (by omega) (by omega)
  · cases h
end Go.Proofs.YthafpbidfgmacaaDoor.Q
