/- The reader of layer 3 (codec), as functions of lists of bytes. Plain Lean, no program. -/
namespace Go.Proofs.Ytniblmpihnhglaa

/-- The string of a list of bytes. -/
def strL (L : List UInt8) : ByteArray := ⟨L.toArray⟩
theorem strL_list (s : ByteArray) : strL s.data.toList = s := rfl
theorem strL_data (L : List UInt8) : (strL L).data.toList = L := rfl
theorem strL_size (L : List UInt8) : (strL L).size = L.length := by show L.toArray.size = _; simp
theorem strL_inj {L M : List UInt8} (h : strL L = strL M) : L = M := by have := congrArg (fun s => s.data.toList) h; exact this
theorem strL_take (L : List UInt8) (n : Nat) : (strL L).extract 0 n = strL (L.take n) := by
  unfold strL
  apply ByteArray.ext
  simp [ByteArray.data_extract]
theorem strL_drop (L : List UInt8) (n m : Nat) (h : L.length ≤ m) : (strL L).extract n m = strL (L.drop n) := by
  unfold strL
  apply ByteArray.ext
  simp [ByteArray.data_extract]
  rw [List.take_of_length_le]
  simp; omega

/-- Fixed: what is answered, what is left, the error. -/
def fixO (L : List UInt8) (e n : Int) : List UInt8 := if e = 0 ∧ 0 < n ∧ n ≤ L.length then L.take n.toNat else []
def fixL (L : List UInt8) (e n : Int) : List UInt8 := if e = 0 ∧ 0 < n then (if n ≤ L.length then L.drop n.toNat else []) else L
def fixE (L : List UInt8) (e n : Int) : Int := if e = 0 ∧ 0 < n ∧ (L.length : Int) < n then 10 else e

/-- Bytes as a number, the highest first. -/
def beN (l : List UInt8) : Nat := l.foldl (fun n b => n * 256 + b.toNat) 0
theorem beN_snoc (l : List UInt8) (b : UInt8) : beN (l ++ [b]) = beN l * 256 + b.toNat := by unfold beN; rw [List.foldl_append]; rfl
theorem beN_from (l : List UInt8) : ∀ n : Nat, l.foldl (fun n b => n * 256 + b.toNat) n < (n + 1) * 256 ^ l.length := by
  induction l with
  | nil => intro n; simp
  | cons b l ih =>
    intro n
    rw [List.foldl_cons, List.length_cons, Nat.pow_succ, Nat.mul_comm (256 ^ l.length), ← Nat.mul_assoc]
    have h := b.toNat_lt
    exact Nat.lt_of_lt_of_le (ih _) (Nat.mul_le_mul_right _ (by omega))
theorem beN_lt (l : List UInt8) : beN l < 256 ^ l.length := by
  have := beN_from l 0
  rwa [Nat.zero_add, Nat.one_mul] at this
end Go.Proofs.Ytniblmpihnhglaa
