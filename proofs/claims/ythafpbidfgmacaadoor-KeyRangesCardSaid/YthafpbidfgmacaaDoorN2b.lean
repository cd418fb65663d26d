/- Keys of blocks taken apart, by the program alone. (Taken out of N2k.) -/
import Derived.Test.YthafpbidfgmacaaDoorN3b
import Derived.Test.YthafpbidfgmacaaDoorQkeyTake
namespace Go.Proofs.YthafpbidfgmacaaDoor.Q
open Go.RowKit Go.Proofs.YthafpbidfgmacaaDoorW.PrintWords Go.Proofs.YthafpbidfgmacaaDoorW.PrintLast Go.Proofs.YthafpbidfgmacaaDoorW.PrintMore
set_option linter.unusedVariables false

theorem block_is (l : List ByteArray) (hl : l.length ≤ 1000000) (hj : (joinB l ⟨#[0]⟩).size ≤ 1000000) (k : Nat) (hk : l.length < k) (h0 : ¬ (l.length : Int) = 0) (i : Int) (hi : 0 ≤ i) :
    key_Block.f k l i = some (if rightB l = true ∧ i < 32 then ⟨#[100]⟩ ++ joinB l ⟨#[0]⟩ ++ ⟨#[0, 0]⟩ ++ strOfNums [i / 256 % 256, i % 256] else ⟨#[]⟩) := by
  unfold key_Block.f
  rw [key_right_is l hl k hk]
  simp only [Option.bind_some]
  by_cases hr : rightB l = true
  · rw [if_pos hr, if_neg h0, if_neg (by omega)]
    by_cases h32 : i < 32
    · rw [if_neg (by omega), joint_is l hl hj]
      simp only [Option.bind_some]
      rw [if_pos (show 1 + (joinB l ⟨#[0]⟩).size ≤ 9223372036854775807 by omega), if_pos (by rw [ByteArray.size_append, szl1]; omega), if_pos (by rw [ByteArray.size_append, ByteArray.size_append, szl1, szl2, strOfNums_size]; simp only [List.length_cons, List.length_nil]; omega), if_pos ⟨hr, h32⟩]
    · rw [if_pos (by omega), if_neg (by omega)]
  · rw [if_neg hr, if_neg (fun h => hr h.1)]

theorem prefix_is (a : ByteArray) (c : UInt8) : strings_HasPrefix.f a ⟨#[c]⟩ = some (match a.data.toList with | [] => false | b :: _ => b == c) := by
  unfold strings_HasPrefix.f stringslite_HasPrefix.f
  rw [szl1]
  have hz := size_len a
  cases hd : a.data.toList with
  | nil =>
    rw [hd] at hz
    simp only [List.length_nil] at hz
    rw [if_neg (by omega)]
    rfl
  | cons b t =>
    rw [hd] at hz
    simp only [List.length_cons] at hz
    rw [if_pos (by omega), if_pos (by omega), if_pos (by omega)]
    simp only [Option.bind_some]
    have e : (a.extract 0 (((1 : Nat) : Int) : Int).toNat).toList = [b] := by
      rw [tl, ext_data, hd]
      rfl
    rw [e, tl]
    show some ([b] == [c]) = _
    simp
theorem or_bytes (u v : Int) (h0 : 0 ≤ u) (h1 : u < 256) (h2 : 0 ≤ v) (h3 : v < 256) : Go.bits .or .i64 (u * 256) v = u * 256 + v :=
  bits_join .i64 63 (by decide) (fun x a b => by rw [IntKind.wrap_i64]; omega) 8 (u * 256) v (by omega) (by omega) (by omega) h2 (by omega) (by omega)
theorem u8_back (u : UInt8) : UInt8.ofNat ((u.toNat : Int)).toNat = u := by simp
theorem wN2 (n : Nat) (h : n ≤ 1000) : wrap64 (((n + 4 : Nat) : Int) - 2) = ((n + 2 : Nat) : Int) := by rw [wrap_small (by omega) (by omega)]; omega
theorem wN1 (n : Nat) (h : n ≤ 1000) : wrap64 (((n + 2 : Nat) : Int) + 1) = ((n + 3 : Nat) : Int) := by rw [wrap_small (by omega) (by omega)]; omega
theorem wN4 (n : Nat) (h : n ≤ 1000) : wrap64 (((n + 2 : Nat) : Int) - 2) = (n : Int) := by rw [wrap_small (by omega) (by omega)]; omega
theorem wM1 (n : Nat) (h : n ≤ 1000) : wrap64 (((n + 4 : Nat) : Int) - 1) = ((n + 3 : Nat) : Int) := by rw [wrap_small (by omega) (by omega)]; omega
theorem wM4 (n : Nat) (h : n ≤ 1000) : wrap64 (((n + 4 : Nat) : Int) - 4) = (n : Int) := by rw [wrap_small (by omega) (by omega)]; omega
theorem wM3 (n : Nat) (h : n ≤ 1000) : wrap64 (((n + 4 : Nat) : Int) - 3) = ((n + 1 : Nat) : Int) := by rw [wrap_small (by omega) (by omega)]; omega
theorem wU (u : UInt8) : wrap64 (u.toNat : Int) = (u.toNat : Int) := by have := u.toNat_lt; exact wrap_small (by omega) (by omega)
theorem wU2 (u : UInt8) : wrap64 ((u.toNat : Int) * 256) = (u.toNat : Int) * 256 := by have := u.toNat_lt; exact wrap_small (by omega) (by omega)
theorem wU3 (u : UInt8) : wrap64 (256 * (u.toNat : Int)) = (u.toNat : Int) * 256 := by have := u.toNat_lt; rw [wrap_small (by omega) (by omega)]; omega
theorem wUV (u v : UInt8) : wrap64 ((u.toNat : Int) * 256 + (v.toNat : Int)) = (u.toNat : Int) * 256 + (v.toNat : Int) := by have := u.toNat_lt; have := v.toNat_lt; exact wrap_small (by omega) (by omega)
theorem mxN (n : Nat) (h : 2 ≤ n) : mx 1 (n : Int) = (n : Int) := by unfold mx; rw [if_pos (by omega)]
theorem zz (p : UInt8) : ((p.toNat : Int) = 0) ↔ p = 0 := ⟨fun h => UInt8.toNat_inj.1 (show p.toNat = 0 by omega), fun h => by rw [h]; rfl⟩
theorem orUV (u v : UInt8) : Go.bits .or .i64 ((u.toNat : Int) * 256) (v.toNat : Int) = (u.toNat : Int) * 256 + (v.toNat : Int) := by have := u.toNat_lt; have := v.toNat_lt; exact or_bytes _ _ (by omega) (by omega) (by omega) (by omega)
theorem hiUV (u v : UInt8) : ((u.toNat : Int) * 256 + (v.toNat : Int)) / 256 % 256 = (u.toNat : Int) := by have := u.toNat_lt; have := v.toNat_lt; omega
theorem loUV (u v : UInt8) : ((u.toNat : Int) * 256 + (v.toNat : Int)) % 256 = (v.toNat : Int) := by have := u.toNat_lt; have := v.toNat_lt; omega
theorem geUV (u v : UInt8) : (0 : Int) ≤ (u.toNat : Int) * 256 + (v.toNat : Int) := by omega
def noTake : Int × List ByteArray × Int × Int := (0, [], 0, 4)
def dTake (l : List ByteArray) (p q u v : UInt8) : Int × List ByteArray × Int × Int := if rightB l = true ∧ (u.toNat : Int) * 256 + (v.toNat : Int) < 32 ∧ p = 0 ∧ q = 0 then (100, l, (u.toNat : Int) * 256 + (v.toNat : Int), 0) else noTake
theorem d_all (a : ByteArray) (n : Nat) (b p q u v : UInt8) (t : List UInt8) (hn : a.size = n + 4) (hn2 : 2 ≤ n) (hd : a.data.toList = b :: t) (hp : a.data.toList[n]? = some p) (hq : a.data.toList[n + 1]? = some q) (hu : a.data.toList[n + 2]? = some u) (hv : a.data.toList[n + 3]? = some v) :
    a.data.toList = b :: ((a.extract 1 n).data.toList ++ [p, q, u, v]) := by
  have e1 : a.data.toList.drop n = [p, q, u, v] := by
    obtain ⟨l1, e1⟩ := List.getElem?_eq_some_iff.1 hp
    obtain ⟨l2, e2⟩ := List.getElem?_eq_some_iff.1 hq
    obtain ⟨l3, e3⟩ := List.getElem?_eq_some_iff.1 hu
    obtain ⟨l4, e4⟩ := List.getElem?_eq_some_iff.1 hv
    rw [List.drop_eq_getElem_cons l1, e1, List.drop_eq_getElem_cons l2, e2, List.drop_eq_getElem_cons l3, e3, List.drop_eq_getElem_cons l4, e4, List.drop_of_length_le (by rw [size_len]; omega)]
  have e2 : a.data.toList.take n = b :: (a.extract 1 n).data.toList := by
    rw [ext_data, hd]
    obtain ⟨m, rfl⟩ : ∃ m, n = m + 1 := ⟨n - 1, by omega⟩
    simp
  have := List.take_append_drop n a.data.toList
  rw [e1, e2] at this
  exact this.symm
theorem d_key (a : ByteArray) (n k2 : Nat) (p q u v : UInt8) (l : List ByteArray) (hn : a.size = n + 4) (hn2 : 2 ≤ n) (hn5 : n ≤ 500) (hk : 1500 ≤ k2)
    (bu : bt a ((n + 2 : Nat) : Int) = (u.toNat : Int)) (bv : bt a ((n + 3 : Nat) : Int) = (v.toNat : Int)) (p1 : key_parts.f (a.extract 1 n) = some l) (h0 : ¬ (l.length : Int) = 0) (hl : l.length ≤ 1000) (hxs : (a.extract 1 n).size ≤ 1000)
    (p4 : joinB l ⟨#[0]⟩ = a.extract 1 n) (hall : a.data.toList = 100 :: ((a.extract 1 n).data.toList ++ [p, q, u, v])) : key_Take.j0 (k2 + 2) a true = some (dTake l p q u v) := by
  have BU := Lib.hid bu
  have BV := Lib.hid bv
  clear bu bv
  simp only [key_Take.j0]
  rw [if_pos trivial, hn, wN2 n (by omega), if_pos (by omega), if_pos (by omega), wN1 n (by omega), if_pos (by omega), if_pos (by omega), wN4 n (by omega), mxN n hn2, if_pos (by omega), if_pos (by omega), Int.toNat_natCast, p1]
  simp only [Option.bind_some]
  rw [BU.out, BV.out, wU, wU, wU2, orUV, block_is l (by omega) (by rw [p4]; omega) _ (by omega) h0 _ (geUV u v), p4]
  simp only [Option.bind_some]
  unfold dTake
  by_cases hc : rightB l = true ∧ (u.toNat : Int) * 256 + (v.toNat : Int) < 32
  · rw [if_pos hc, hiUV, loUV]
    have eS : (⟨#[100]⟩ ++ a.extract 1 n ++ ⟨#[0, 0]⟩ ++ strOfNums [(u.toNat : Int), (v.toNat : Int)]).toList = 100 :: ((a.extract 1 n).data.toList ++ [0, 0, u, v]) := by
      rw [tl, app_data, app_data, app_data, strOfNums_data]
      simp only [List.map_cons, List.map_nil, u8_back]
      simp
    rw [eS, tl, hall]
    by_cases hpq : p = 0 ∧ q = 0
    · rw [if_pos (by rw [hpq.1, hpq.2]), if_pos ⟨hc.1, hc.2, hpq.1, hpq.2⟩]
    · rw [if_neg (by
        intro h
        apply hpq
        have h2 := List.append_cancel_left (List.cons.inj h).2
        simp at h2
        exact ⟨h2.1.symm, h2.2.symm⟩), if_neg (fun h => hpq ⟨h.2.2.1, h.2.2.2⟩)]
      rfl
  · rw [if_neg hc, if_neg (by rw [tl, tl, hall]; intro h; cases h), if_neg (fun h => hc ⟨h.1, h.2.1⟩)]
    rfl
end Go.Proofs.YthafpbidfgmacaaDoor.Q
