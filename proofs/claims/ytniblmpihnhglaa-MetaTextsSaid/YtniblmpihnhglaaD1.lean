/- Walks of codec.Reader: what each call answers, and what the reader is behind it. -/
import Derived.Test.YtniblmpihnhglaaRows
import Derived.Test.YtniblmpihnhglaaD0
import Derived.Test.YtniblmpihnhglaaK
import Derived.WalkKit
import Derived.WalkSpells
import Derived.WalkLawsBesides
import Derived.Laws.BitsAll
import Derived.Laws.Rows
import Derived.StillTailTactics
import Derived.Deep.QuietTactic
import Derived.BigQuiet
import Derived.Outline
namespace Go.Proofs.Ytniblmpihnhglaa
open Go.RowKit
set_option linter.unusedVariables false

/-- At block p a codec.Reader stands: what is left, and its error. -/
def Rd (p : Nat) (L : List UInt8) (e : Int) (w : World) : Prop := w.heap[p]? = some (.cells #[.string (strL L), .int .i64 e] 106 (0, 0))

theorem Rd.lt {p : Nat} {L : List UInt8} {e : Int} {w : World} (h : Rd p L e w) : p < w.heap.size := (Array.getElem?_eq_some_iff.1 h).1
theorem Rd.c0 {p : Nat} {L : List UInt8} {e : Int} {w : World} (h : Rd p L e w) : w.cell? ⟨p, 0, none⟩ = some (.string (strL L)) := by rw [cell_of_row _ _ _ _ _ _ h]; rfl
theorem Rd.c1 {p : Nat} {L : List UInt8} {e : Int} {w : World} (h : Rd p L e w) : w.cell? ⟨p, 1, none⟩ = some (.int .i64 e) := by rw [cell_of_row _ _ _ _ _ _ h]; rfl
theorem Rd.f {p : Nat} {L : List UInt8} {e : Int} {w : World} (h : Rd p L e w) (j : Nat) : w.frozen? ⟨p, j, none⟩ = false := frozen_of_row _ _ _ _ _ h
theorem Rd.set0 {p : Nat} {L M : List UInt8} {e : Int} {w : World} (h : Rd p L e w) : Rd p M e (w.setCell ⟨p, 0, none⟩ (.string (strL M))) := by
  unfold Rd; rw [heap_setCell_same _ _ _ _ _ _ h]; rfl
theorem Rd.set1 {p : Nat} {L : List UInt8} {e d : Int} {w : World} (h : Rd p L e w) : Rd p L d (w.setCell ⟨p, 1, none⟩ (.int .i64 d)) := by
  unfold Rd; rw [heap_setCell_same _ _ _ _ _ _ h]; rfl

/-- Only block p has turned; and what is new. -/
abbrev Only (p : Nat) (w w' : World) : Prop := w.grownBy w' (some p)
theorem only_refl (p : Nat) (w : World) : Only p w w := ⟨rfl, rfl, rfl, Nat.le_refl _, fun _ _ _ => rfl⟩
theorem only_trans {p : Nat} {a b c : World} (h : Only p a b) (k : Only p b c) : Only p a c :=
  ⟨k.os.trans h.os, k.tape.trans h.tape, k.output.trans h.output, Nat.le_trans h.size k.size, fun i hi hn => (k.block i (Nat.lt_of_lt_of_le hi h.size) hn).trans (h.block i hi hn)⟩
theorem only_set {p : Nat} {a w : World} (h : Only p a w) (j : Nat) (u : Value) : Only p a (w.setCell ⟨p, j, none⟩ u) := only_setCell h (.inl rfl) u

def FixP (p : Nat) (L : List UInt8) (e n : Int) (w : World) (x : Ending) (w' : World) : Prop :=
  x = .returned (.string (strL (fixO L e n))) ∧ Rd p (fixL L e n) (fixE L e n) w' ∧ Only p w w'
theorem ret_str {a b : ByteArray} (h : a = b) : Ending.returned (.string a) = .returned (.string b) := by rw [h]

set_option maxHeartbeats 800000 in
theorem fixed_any (p : Nat) (L : List UInt8) (e n : Int) (w : World) (hl : L.length ≤ 140737488351232) (hr : Rd p L e w) :
    Calls Try.prog 33 #[.pointer (some ⟨p, 0, none⟩), .int .i64 n] w fun x w' => FixP p L e n w x w' := by
  have c0 := hr.c0
  have c1 := hr.c1
  have f0 := hr.f 0
  have f1 := hr.f 1
  have HR := Lib.hid hr
  clear hr
  have hsz := strL_size L
  by_cases he : e = 0
  · subst he
    by_cases hn : 0 < n
    · by_cases hb : n ≤ L.length
      · obtain ⟨k, rfl⟩ := Int.eq_ofNat_of_zero_le (by omega : 0 ≤ n)
        have ht := Lib.hid (strL_take L k)
        have hd := Lib.hid (strL_drop L k L.length (Nat.le_refl _))
        have hO : Hid (fixO L 0 k = L.take k) := Lib.hid (by unfold fixO; rw [if_pos ⟨rfl, hn, hb⟩, Int.toNat_natCast])
        have hL : Hid (fixL L 0 k = L.drop k) := Lib.hid (by unfold fixL; rw [if_pos ⟨rfl, hn⟩, if_pos hb, Int.toNat_natCast])
        have hE : Hid (fixE L 0 k = 0) := Lib.hid (by unfold fixE; rw [if_neg (by omega)])
        go_enter Try.func33, Try.ntmps33
        go_wp2_with fail
        go_ret
        refine ⟨ret_str (by rw [ht.out, hO.out]), ?_, only_set (only_refl p w) 0 _⟩
        rw [hd.out, hL.out, hE.out]
        exact HR.out.set0
      · have hO : Hid (fixO L 0 n = []) := Lib.hid (by unfold fixO; rw [if_neg (by omega)])
        have hL : Hid (fixL L 0 n = []) := Lib.hid (by unfold fixL; rw [if_pos ⟨rfl, hn⟩, if_neg hb])
        have hE : Hid (fixE L 0 n = 10) := Lib.hid (by unfold fixE; rw [if_pos ⟨rfl, hn, by omega⟩])
        have he : Hid ((⟨#[]⟩ : ByteArray) = strL []) := Lib.hid rfl
        go_enter Try.func33, Try.ntmps33
        go_wp2_with fail
        go_ret
        refine ⟨ret_str (by rw [hO.out, he.out]), ?_, only_set (only_set (only_refl p w) 0 _) 1 _⟩
        rw [hL.out, hE.out, he.out]
        exact HR.out.set0.set1
    · have hO : Hid (fixO L 0 n = []) := Lib.hid (by unfold fixO; rw [if_neg (by omega)])
      have hL : Hid (fixL L 0 n = L) := Lib.hid (by unfold fixL; rw [if_neg (by omega)])
      have hE : Hid (fixE L 0 n = 0) := Lib.hid (by unfold fixE; rw [if_neg (by omega)])
      have he : Hid ((⟨#[]⟩ : ByteArray) = strL []) := Lib.hid rfl
      go_enter Try.func33, Try.ntmps33
      go_wp2_with fail
      go_ret
      refine ⟨ret_str (by rw [hO.out, he.out]), ?_, only_refl p w⟩
      rw [hL.out, hE.out]
      exact HR.out
  · have hO : Hid (fixO L e n = []) := Lib.hid (by unfold fixO; rw [if_neg (fun h => he h.1)])
    have hL : Hid (fixL L e n = L) := Lib.hid (by unfold fixL; rw [if_neg (fun h => he h.1)])
    have hE : Hid (fixE L e n = e) := Lib.hid (by unfold fixE; rw [if_neg (fun h => he h.1)])
    have hs : Hid ((⟨#[]⟩ : ByteArray) = strL []) := Lib.hid rfl
    have hne : (e != 0) = true := by rw [bne_iff_ne]; exact he
    clear he
    go_enter Try.func33, Try.ntmps33
    go_wp2_with fail
    go_ret
    refine ⟨ret_str (by rw [hO.out, hs.out]), ?_, only_refl p w⟩
    rw [hL.out, hE.out]
    exact HR.out

theorem fixO_length (L : List UInt8) (e n : Int) (m : Nat) (hn : n ≤ m) : (fixO L e n).length ≤ m := by
  unfold fixO
  split
  · rw [List.length_take]; omega
  · simp
theorem take_snoc (l : List UInt8) (k : Nat) (h : k < l.length) : l.take (k + 1) = l.take k ++ [l[k]] := List.take_succ_eq_append_getElem h
theorem beN_take (l : List UInt8) (k : Nat) (b : UInt8) (h : l[k]? = some b) : beN (l.take (k + 1)) = beN (l.take k) * 256 + b.toNat := by
  obtain ⟨hk, rfl⟩ := List.getElem?_eq_some_iff.1 h
  rw [take_snoc l k hk, beN_snoc]
theorem beN_take_lt (l : List UInt8) (k : Nat) (m : Nat) (hm : k ≤ m) : beN (l.take k) < 256 ^ m := by
  have h := beN_lt (l.take k)
  have : (l.take k).length ≤ m := by rw [List.length_take]; omega
  exact Nat.lt_of_lt_of_le h (Nat.pow_le_pow_right (by omega) this)

theorem or_byte (x b : Nat) (hx : x < 72057594037927936) (hb : b < 256) : bits .or .u64 ((x : Int) * 256) (b : Int) = ((x * 256 + b : Nat) : Int) := by
  have := u64_or_nat (x * 256) b (by omega) (by omega)
  rw [nat_join 8 _ _ (by omega) hb] at this
  rw [Int.natCast_mul] at this
  exact this
theorem strL_get (L : List UInt8) (k : Nat) (b : UInt8) (h : L[k]? = some b) (hk : k < (strL L).size) : (strL L)[k] = b := by
  obtain ⟨h1, rfl⟩ := List.getElem?_eq_some_iff.1 h
  show L.toArray[k] = _
  simp
end Go.Proofs.Ytniblmpihnhglaa
