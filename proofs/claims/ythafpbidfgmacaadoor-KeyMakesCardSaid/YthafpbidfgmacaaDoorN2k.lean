/- What the program takes a key apart into is what the definition says. -/
import Derived.Test.YthafpbidfgmacaaDoorN1k
import Derived.Test.YthafpbidfgmacaaDoorN0k
import Derived.Test.YthafpbidfgmacaaDoorQrillbedlaw06KeyTakes
namespace Go.Proofs.YthafpbidfgmacaaDoor.Q
open Go.RowKit Go.Proofs.YthafpbidfgmacaaDoorW.PrintWords Go.Proofs.YthafpbidfgmacaaDoorW.PrintLast Go.Proofs.YthafpbidfgmacaaDoorW.PrintMore
set_option linter.unusedVariables false

theorem app_data (a b : ByteArray) : (a ++ b).data.toList = a.data.toList ++ b.data.toList := by simp
theorem within_is (a b : ByteArray) (ha : a.size ≤ 1) (l : List ByteArray) (hl : l.length ≤ 1000000) (hj : (joinB l ⟨#[0]⟩).size ≤ 1000000) (k : Nat) (hk : l.length < k) :
    key_sort_within.f k a b l = some (if rightB l = true then (if (l.length : Int) = 0 then (a, b) else (a ++ joinB l ⟨#[0]⟩, (a ++ joinB l ⟨#[0]⟩) ++ ⟨#[1]⟩)) else (⟨#[]⟩, ⟨#[]⟩)) := by
  unfold key_sort_within.f
  rw [key_right_is l hl k hk]
  simp only [Option.bind_some]
  by_cases hr : rightB l = true
  · rw [if_pos hr, if_pos hr]
    by_cases h0 : (l.length : Int) = 0
    · rw [if_pos h0, if_pos h0]
    · rw [if_neg h0, if_neg h0, joint_is l hl hj]
      simp only [Option.bind_some]
      rw [if_pos (by omega), if_pos (by rw [ByteArray.size_append]; omega)]
  · rw [if_neg hr, if_neg hr]
theorem subtree_is (l : List ByteArray) (hl : l.length ≤ 1000000) (hj : (joinB l ⟨#[0]⟩).size ≤ 1000000) (k : Nat) (hk : l.length < k) (h0 : ¬ (l.length : Int) = 0) :
    key_Subtree.f k l = some (if rightB l = true then (⟨#[109]⟩ ++ joinB l ⟨#[0]⟩, (⟨#[109]⟩ ++ joinB l ⟨#[0]⟩) ++ ⟨#[1]⟩, ⟨#[100]⟩ ++ joinB l ⟨#[0]⟩, (⟨#[100]⟩ ++ joinB l ⟨#[0]⟩) ++ ⟨#[1]⟩) else (⟨#[]⟩, ⟨#[]⟩, ⟨#[]⟩, ⟨#[]⟩)) := by
  unfold key_Subtree.f key_sorts.f
  simp only [Option.bind_some]
  rw [within_is _ _ (Nat.le_refl _) l hl hj k hk, within_is _ _ (Nat.le_refl _) l hl hj k hk]
  simp only [Option.bind_some]
  by_cases hr : rightB l = true
  · simp only [if_pos hr, if_neg h0]
  · simp only [if_neg hr]
theorem meta_is (l : List ByteArray) (hl : l.length ≤ 1000000) (hj : (joinB l ⟨#[0]⟩).size ≤ 1000000) (k : Nat) (hk : l.length < k) (h0 : ¬ (l.length : Int) = 0) :
    key_Meta.f k l = some (if rightB l = true then ⟨#[109]⟩ ++ joinB l ⟨#[0]⟩ else ⟨#[]⟩) := by
  unfold key_Meta.f key_whole.f
  rw [subtree_is l hl hj k hk h0]
  simp only [Option.bind_some]
  by_cases hr : rightB l = true
  · simp only [if_pos hr]
  · simp only [if_neg hr]
theorem block_is (l : List ByteArray) (hl : l.length ≤ 1000000) (hj : (joinB l ⟨#[0]⟩).size ≤ 1000000) (k : Nat) (hk : l.length < k) (h0 : ¬ (l.length : Int) = 0) (i : Int) (hi : 0 ≤ i) :
    key_Block.f k l i = some (if rightB l = true ∧ i < 32 then ⟨#[100]⟩ ++ joinB l ⟨#[0]⟩ ++ ⟨#[0, 0]⟩ ++ strOfNums [i / 256 % 256, i % 256] else ⟨#[]⟩) := by
  unfold key_Block.f
  rw [key_right_is l hl k hk]
  simp only [Option.bind_some]
  by_cases hr : rightB l = true
  · rw [if_pos hr, if_neg h0, if_neg (by omega)]
    by_cases h32 : i < 32
    · rw [if_neg (by omega), joint_is l hl hj]
      simp only [Option.bind_some]
      rw [if_pos (show 1 + (joinB l ⟨#[0]⟩).size ≤ 9223372036854775807 by omega), if_pos (by rw [ByteArray.size_append, szl1]; omega), if_pos (by rw [ByteArray.size_append, ByteArray.size_append, szl1, szl2, strOfNums_size]; simp only [List.length_cons, List.length_nil]; omega), if_pos ⟨hr, h32⟩]
    · rw [if_pos (by omega), if_neg (by omega)]
  · rw [if_neg hr, if_neg (fun h => hr h.1)]

theorem prefix_is (a : ByteArray) (c : UInt8) : strings_HasPrefix.f a ⟨#[c]⟩ = some (match a.data.toList with | [] => false | b :: _ => b == c) := by
  unfold strings_HasPrefix.f stringslite_HasPrefix.f
  rw [szl1]
  have hz := size_len a
  cases hd : a.data.toList with
  | nil =>
    rw [hd] at hz
    simp only [List.length_nil] at hz
    rw [if_neg (by omega)]
    rfl
  | cons b t =>
    rw [hd] at hz
    simp only [List.length_cons] at hz
    rw [if_pos (by omega), if_pos (by omega), if_pos (by omega)]
    simp only [Option.bind_some]
    have e : (a.extract 0 (((1 : Nat) : Int) : Int).toNat).toList = [b] := by
      rw [tl, ext_data, hd]
      rfl
    rw [e, tl]
    show some ([b] == [c]) = _
    simp
theorem or_bytes (u v : Int) (h0 : 0 ≤ u) (h1 : u < 256) (h2 : 0 ≤ v) (h3 : v < 256) : Go.bits .or .i64 (u * 256) v = u * 256 + v :=
  bits_join .i64 63 (by decide) (fun x a b => by rw [IntKind.wrap_i64]; omega) 8 (u * 256) v (by omega) (by omega) (by omega) h2 (by omega) (by omega)
theorem u8_back (u : UInt8) : UInt8.ofNat ((u.toNat : Int)).toNat = u := by simp
theorem wN2 (n : Nat) (h : n ≤ 1000) : wrap64 (((n + 4 : Nat) : Int) - 2) = ((n + 2 : Nat) : Int) := by rw [wrap_small (by omega) (by omega)]; omega
theorem wN1 (n : Nat) (h : n ≤ 1000) : wrap64 (((n + 2 : Nat) : Int) + 1) = ((n + 3 : Nat) : Int) := by rw [wrap_small (by omega) (by omega)]; omega
theorem wN4 (n : Nat) (h : n ≤ 1000) : wrap64 (((n + 2 : Nat) : Int) - 2) = (n : Int) := by rw [wrap_small (by omega) (by omega)]; omega
theorem wM1 (n : Nat) (h : n ≤ 1000) : wrap64 (((n + 4 : Nat) : Int) - 1) = ((n + 3 : Nat) : Int) := by rw [wrap_small (by omega) (by omega)]; omega
theorem wM4 (n : Nat) (h : n ≤ 1000) : wrap64 (((n + 4 : Nat) : Int) - 4) = (n : Int) := by rw [wrap_small (by omega) (by omega)]; omega
theorem wM3 (n : Nat) (h : n ≤ 1000) : wrap64 (((n + 4 : Nat) : Int) - 3) = ((n + 1 : Nat) : Int) := by rw [wrap_small (by omega) (by omega)]; omega
theorem wU (u : UInt8) : wrap64 (u.toNat : Int) = (u.toNat : Int) := by have := u.toNat_lt; exact wrap_small (by omega) (by omega)
theorem wU2 (u : UInt8) : wrap64 ((u.toNat : Int) * 256) = (u.toNat : Int) * 256 := by have := u.toNat_lt; exact wrap_small (by omega) (by omega)
theorem wU3 (u : UInt8) : wrap64 (256 * (u.toNat : Int)) = (u.toNat : Int) * 256 := by have := u.toNat_lt; rw [wrap_small (by omega) (by omega)]; omega
theorem wUV (u v : UInt8) : wrap64 ((u.toNat : Int) * 256 + (v.toNat : Int)) = (u.toNat : Int) * 256 + (v.toNat : Int) := by have := u.toNat_lt; have := v.toNat_lt; exact wrap_small (by omega) (by omega)
theorem mxN (n : Nat) (h : 2 ≤ n) : mx 1 (n : Int) = (n : Int) := by unfold mx; rw [if_pos (by omega)]
theorem zz (p : UInt8) : ((p.toNat : Int) = 0) ↔ p = 0 := ⟨fun h => UInt8.toNat_inj.1 (show p.toNat = 0 by omega), fun h => by rw [h]; rfl⟩
theorem orUV (u v : UInt8) : Go.bits .or .i64 ((u.toNat : Int) * 256) (v.toNat : Int) = (u.toNat : Int) * 256 + (v.toNat : Int) := by have := u.toNat_lt; have := v.toNat_lt; exact or_bytes _ _ (by omega) (by omega) (by omega) (by omega)
theorem hiUV (u v : UInt8) : ((u.toNat : Int) * 256 + (v.toNat : Int)) / 256 % 256 = (u.toNat : Int) := by have := u.toNat_lt; have := v.toNat_lt; omega
theorem loUV (u v : UInt8) : ((u.toNat : Int) * 256 + (v.toNat : Int)) % 256 = (v.toNat : Int) := by have := u.toNat_lt; have := v.toNat_lt; omega
theorem geUV (u v : UInt8) : (0 : Int) ≤ (u.toNat : Int) * 256 + (v.toNat : Int) := by omega
def noTake : Int × List ByteArray × Int × Int := (0, [], 0, 4)
def dTake (l : List ByteArray) (p q u v : UInt8) : Int × List ByteArray × Int × Int := if rightB l = true ∧ (u.toNat : Int) * 256 + (v.toNat : Int) < 32 ∧ p = 0 ∧ q = 0 then (100, l, (u.toNat : Int) * 256 + (v.toNat : Int), 0) else noTake
theorem d_all (a : ByteArray) (n : Nat) (b p q u v : UInt8) (t : List UInt8) (hn : a.size = n + 4) (hn2 : 2 ≤ n) (hd : a.data.toList = b :: t) (hp : a.data.toList[n]? = some p) (hq : a.data.toList[n + 1]? = some q) (hu : a.data.toList[n + 2]? = some u) (hv : a.data.toList[n + 3]? = some v) :
    a.data.toList = b :: ((a.extract 1 n).data.toList ++ [p, q, u, v]) := by
  have e1 : a.data.toList.drop n = [p, q, u, v] := by
    obtain ⟨l1, e1⟩ := List.getElem?_eq_some_iff.1 hp
    obtain ⟨l2, e2⟩ := List.getElem?_eq_some_iff.1 hq
    obtain ⟨l3, e3⟩ := List.getElem?_eq_some_iff.1 hu
    obtain ⟨l4, e4⟩ := List.getElem?_eq_some_iff.1 hv
    rw [List.drop_eq_getElem_cons l1, e1, List.drop_eq_getElem_cons l2, e2, List.drop_eq_getElem_cons l3, e3, List.drop_eq_getElem_cons l4, e4, List.drop_of_length_le (by rw [size_len]; omega)]
  have e2 : a.data.toList.take n = b :: (a.extract 1 n).data.toList := by
    rw [ext_data, hd]
    obtain ⟨m, rfl⟩ : ∃ m, n = m + 1 := ⟨n - 1, by omega⟩
    simp
  have := List.take_append_drop n a.data.toList
  rw [e1, e2] at this
  exact this.symm
theorem d_key (a : ByteArray) (n k2 : Nat) (p q u v : UInt8) (l : List ByteArray) (hn : a.size = n + 4) (hn2 : 2 ≤ n) (hn5 : n ≤ 500) (hk : 1500 ≤ k2)
    (bu : bt a ((n + 2 : Nat) : Int) = (u.toNat : Int)) (bv : bt a ((n + 3 : Nat) : Int) = (v.toNat : Int)) (p1 : key_parts.f (a.extract 1 n) = some l) (h0 : ¬ (l.length : Int) = 0) (hl : l.length ≤ 1000) (hxs : (a.extract 1 n).size ≤ 1000)
    (p4 : joinB l ⟨#[0]⟩ = a.extract 1 n) (hall : a.data.toList = 100 :: ((a.extract 1 n).data.toList ++ [p, q, u, v])) : key_Take.j0 (k2 + 2) a true = some (dTake l p q u v) := by
  have BU := Lib.hid bu
  have BV := Lib.hid bv
  clear bu bv
  simp only [key_Take.j0]
  rw [if_pos trivial, hn, wN2 n (by omega), if_pos (by omega), if_pos (by omega), wN1 n (by omega), if_pos (by omega), if_pos (by omega), wN4 n (by omega), mxN n hn2, if_pos (by omega), if_pos (by omega), Int.toNat_natCast, p1]
  simp only [Option.bind_some]
  rw [BU.out, BV.out, wU, wU, wU2, orUV, block_is l (by omega) (by rw [p4]; omega) _ (by omega) h0 _ (geUV u v), p4]
  simp only [Option.bind_some]
  unfold dTake
  by_cases hc : rightB l = true ∧ (u.toNat : Int) * 256 + (v.toNat : Int) < 32
  · rw [if_pos hc, hiUV, loUV]
    have eS : (⟨#[100]⟩ ++ a.extract 1 n ++ ⟨#[0, 0]⟩ ++ strOfNums [(u.toNat : Int), (v.toNat : Int)]).toList = 100 :: ((a.extract 1 n).data.toList ++ [0, 0, u, v]) := by
      rw [tl, app_data, app_data, app_data, strOfNums_data]
      simp only [List.map_cons, List.map_nil, u8_back]
      simp
    rw [eS, tl, hall]
    by_cases hpq : p = 0 ∧ q = 0
    · rw [if_pos (by rw [hpq.1, hpq.2]), if_pos ⟨hc.1, hc.2, hpq.1, hpq.2⟩]
    · rw [if_neg (by
        intro h
        apply hpq
        have h2 := List.append_cancel_left (List.cons.inj h).2
        simp at h2
        exact ⟨h2.1.symm, h2.2.symm⟩), if_neg (fun h => hpq ⟨h.2.2.1, h.2.2.2⟩)]
      rfl
  · rw [if_neg hc, if_neg (by rw [tl, tl, hall]; intro h; cases h), if_neg (fun h => hc ⟨h.1, h.2.1⟩)]
    rfl
theorem j1_none (k : Nat) (a : ByteArray) (x7 : Int) : rillbedref06_Take.j1 (k + 1) a x7 true = some noTake := by
  simp only [rillbedref06_Take.j1]
  rfl
theorem d_ref (a : ByteArray) (n k2 : Nat) (p q u v : UInt8) (l : List ByteArray) (hn : a.size = n + 4) (hn2 : 2 ≤ n) (hn5 : n ≤ 500) (hk : 1500 ≤ k2) (b0 : bt a 0 = 100)
    (bp : bt a (n : Int) = (p.toNat : Int)) (bq : bt a ((n + 1 : Nat) : Int) = (q.toNat : Int)) (bu : bt a ((n + 2 : Nat) : Int) = (u.toNat : Int)) (bv : bt a ((n + 3 : Nat) : Int) = (v.toNat : Int))
    (p2 : rillbedref06_Cut.f k2 (a.extract 1 n) = some l) : rillbedref06_Take.j0 (k2 + 2) a false = some (dTake l p q u v) := by
  have BU := Lib.hid bu
  have BV := Lib.hid bv
  have BP := Lib.hid bp
  have BQ := Lib.hid bq
  have B0 := Lib.hid b0
  clear bu bv bp bq b0
  simp only [rillbedref06_Take.j0]
  rw [if_neg (by decide), hn, if_neg (by omega), if_pos (by omega), if_pos B0.out, wM4 n (by omega), if_pos (by omega), if_pos (by omega), BP.out]
  unfold dTake
  by_cases hp0 : p = 0
  · rw [if_pos ((zz p).2 hp0), wM3 n (by omega), if_pos (by omega), if_pos (by omega), BQ.out]
    by_cases hq0 : q = 0
    · have eq0 : ((q.toNat : Int) != 0) = false := bne_eq_false_iff_eq.2 ((zz q).2 hq0)
      rw [eq0]
      simp only [rillbedref06_Take.j1]
      rw [if_neg (by decide), wM4 n (by omega), if_pos (by omega), hn, if_pos (by omega), Int.toNat_natCast, p2]
      simp only [Option.bind_some]
      rw [wN2 n (by omega), if_pos (by omega), if_pos (by omega), wM1 n (by omega), if_pos (by omega), if_pos (by omega), right_ref l _ (by omega)]
      simp only [Option.bind_some]
      rw [BU.out, BV.out, wU, wU, wU3, wUV]
      by_cases hr : rightB l = true
      · rw [if_pos hr]
        by_cases h32 : (u.toNat : Int) * 256 + (v.toNat : Int) < 32
        · rw [if_neg (by omega), if_pos ⟨hr, h32, hp0, hq0⟩]
        · rw [if_pos (by omega), if_neg (fun h => h32 h.2.1)]
          rfl
      · rw [if_neg hr, if_neg (fun h => hr h.1)]
        rfl
    · have eq0 : ((q.toNat : Int) != 0) = true := bne_iff_ne.2 (mt (zz q).1 hq0)
      rw [eq0, j1_none, if_neg (fun h => hq0 h.2.2.2)]
  · rw [if_neg (mt (zz p).1 hp0), j1_none, if_neg (fun h => hp0 h.2.2.1)]
set_option maxHeartbeats 2000000 in
set_option maxRecDepth 100000 in
theorem take_same (a : ByteArray) (hs : a.size ≤ 500) (k : Nat) (hk : 2000 ≤ k) : ∃ r, key_Take.f k a = some r ∧ rillbedref06_Take.f k a = some r ∧ r.2.1.length ≤ 1000 := by
  obtain ⟨k2, rfl⟩ : ∃ m, k = m + 2 := ⟨k - 2, by omega⟩
  have hz := size_len a
  unfold key_Take.f rillbedref06_Take.f
  by_cases h1 : a.toList = [109]
  · rw [if_pos h1, if_pos h1]
    exact ⟨_, rfl, rfl, by simp⟩
  · rw [if_neg h1, if_neg h1, prefix_is, prefix_is]
    simp only [Option.bind_some]
    cases hd : a.data.toList with
    | nil =>
      rw [hd] at hz
      simp only [List.length_nil] at hz
      refine ⟨noTake, ?_, ?_, by simp [noTake]⟩
      · rw [if_neg (by decide), if_neg (by decide)]
        simp only [key_Take.j0]
        rfl
      · rw [if_neg (by omega)]
        simp only [rillbedref06_Take.j0, rillbedref06_Take.j1]
        rw [if_neg (by decide), if_pos (by omega)]
        rfl
    | cons b t =>
      rw [hd] at hz
      simp only [List.length_cons] at hz
      have hb0 : bt a 0 = (b.toNat : Int) := bt_nat a 0 b (by rw [hd]; rfl)
      simp only
      by_cases hm : b = 109
      · subst hm
        have ht : t ≠ [] := by
          rintro rfl
          apply h1
          rw [tl, hd]
        have htl : 1 ≤ t.length := by cases t with | nil => exact absurd rfl ht | cons _ _ => simp
        have hx : (a.extract 1 a.size).data.toList = t := by rw [Lib.extract_to_end, hd]; rfl
        have hxs : (a.extract 1 a.size).size = t.length := by rw [← size_len, hx]
        obtain ⟨l, p1, p2, p3, p5, p4⟩ := parts_is (a.extract 1 a.size) (by omega) (k2 + 1) (by omega)
        have h0 : ¬ (l.length : Int) = 0 := by
          intro h
          exact p3 (List.length_eq_zero_iff.1 (by omega))
        refine ⟨if rightB l = true then (109, l, 0, 0) else noTake, ?_, ?_, ?_⟩
        · rw [if_pos (by decide), if_pos (by omega), p1]
          simp only [Option.bind_some]
          rw [meta_is l (by omega) (by rw [p4]; omega) _ (by omega) h0, p4]
          simp only [Option.bind_some]
          by_cases hr : rightB l = true
          · rw [if_pos hr, if_pos hr, if_pos (by rw [tl, tl, app_data, hx, hd]; rfl)]
          · rw [if_neg hr, if_neg hr, if_neg (by rw [tl, tl, hd]; intro h; cases h)]
            rfl
        · rw [if_pos (by omega), if_pos (by omega), hb0]
          have e9 : (((109 : UInt8).toNat : Int) == 109) = true := rfl
          rw [e9]
          simp only [rillbedref06_Take.j0]
          rw [if_pos trivial, if_pos (by omega), p2]
          simp only [Option.bind_some]
          rw [right_ref l _ (by omega)]
          simp only [Option.bind_some]
          by_cases hr : rightB l = true
          · rw [if_pos hr, if_pos hr]
          · rw [if_neg hr, if_neg hr]
            rfl
        · split
          · show l.length ≤ 1000
            omega
          · simp [noTake]
      · have em : (b == 109) = false := beq_eq_false_iff_ne.2 hm
        have em2 : ((b.toNat : Int) == 109) = false := beq_eq_false_iff_ne.2 (fun h => hm (by
          have : b.toNat = 109 := by omega
          exact UInt8.toNat_inj.1 this))
        rw [em, if_neg (by decide)]
        have hfirst : ∀ r : Option (Int × List ByteArray × Int × Int), rillbedref06_Take.j0 (k2 + 2) a false = r → (if (a.size : Int) > 1 then (if 0 < (a.size : Int) then rillbedref06_Take.j0 (k2 + 2) a (bt a 0 == 109) else none) else rillbedref06_Take.j0 (k2 + 2) a false) = r := by
          intro r hr
          rw [hb0, em2, hr]
          by_cases h : (a.size : Int) > 1
          · rw [if_pos h, if_pos (by omega)]
          · rw [if_neg h]
        have hnone : ∀ x7, rillbedref06_Take.j1 (k2 + 1) a x7 true = some noTake := by
          intro x7
          simp only [rillbedref06_Take.j1]
          rfl
        by_cases hdd : b = 100
        · subst hdd
          rw [if_pos (by decide)]
          by_cases h5 : (a.size : Int) > 5
          · rw [decide_eq_true h5]
            obtain ⟨n, hn⟩ : ∃ n, a.size = n + 4 := ⟨a.size - 4, by omega⟩
            obtain ⟨p, hp⟩ := byte_at a n (by omega)
            obtain ⟨q, hq⟩ := byte_at a (n + 1) (by omega)
            obtain ⟨u, hu⟩ := byte_at a (n + 2) (by omega)
            obtain ⟨v, hv⟩ := byte_at a (n + 3) (by omega)
            have hxs : (a.extract 1 n).size ≤ 500 := by rw [← size_len, ext_data, List.length_drop, List.length_take]; omega
            obtain ⟨l, p1, p2, p3, p5, p4⟩ := parts_is (a.extract 1 n) (by omega) k2 (by omega)
            have h0 : ¬ (l.length : Int) = 0 := by
              intro h
              exact p3 (List.length_eq_zero_iff.1 (by omega))
            have hall := d_all a n 100 p q u v t hn (by omega) hd hp hq hu hv
            refine ⟨dTake l p q u v, d_key a n k2 p q u v l hn (by omega) (by omega) (by omega) (bt_nat a _ u hu) (bt_nat a _ v hv) p1 h0 (by omega) (by omega) p4 hall, hfirst _ ?_, ?_⟩
            · exact d_ref a n k2 p q u v l hn (by omega) (by omega) (by omega) hb0 (bt_nat a _ p hp) (bt_nat a _ q hq) (bt_nat a _ u hu) (bt_nat a _ v hv) p2
            · unfold dTake
              split
              · show l.length ≤ 1000
                omega
              · simp [noTake]
          · rw [decide_eq_false h5]
            refine ⟨noTake, ?_, hfirst _ ?_, by simp [noTake]⟩
            · simp only [key_Take.j0]
              rfl
            · simp only [rillbedref06_Take.j0]
              rw [if_neg (by decide), if_pos (by omega), hnone]
        · have ed : (b == 100) = false := beq_eq_false_iff_ne.2 hdd
          rw [if_neg (show ¬ (b == 100) = true by rw [ed]; decide)]
          refine ⟨noTake, ?_, hfirst _ ?_, by simp [noTake]⟩
          · simp only [key_Take.j0]
            rfl
          · simp only [rillbedref06_Take.j0]
            rw [if_neg (by decide)]
            by_cases h6 : (a.size : Int) < 6
            · rw [if_pos h6, hnone]
            · rw [if_neg h6, if_pos (by omega), hb0, if_neg (fun h => hdd (by
                have : b.toNat = 100 := by omega
                exact UInt8.toNat_inj.1 this)), hnone]
theorem within_loop (l : List ByteArray) (hs : l.length ≤ 1000) : ∀ (d k i : Nat), i ≤ l.length → l.length - i = d → d < k → rillbedref06_Within.l0 k l l (i : Int) = some true := by
  intro d
  induction d with
  | zero =>
    intro k i h1 hd hk
    obtain ⟨k, rfl⟩ : ∃ m, k = m + 1 := ⟨k - 1, by omega⟩
    simp only [rillbedref06_Within.l0]
    rw [if_neg (by omega)]
  | succ d ih =>
    intro k i h1 hd hk
    obtain ⟨k, rfl⟩ : ∃ m, k = m + 1 := ⟨k - 1, by omega⟩
    simp only [rillbedref06_Within.l0]
    rw [if_pos (by omega), if_pos (by omega), if_pos (by omega), if_pos trivial, wrap_small (by omega) (by omega)]
    have := ih k (i + 1) (by omega) (by omega) (by omega)
    rw [show ((i + 1 : Nat) : Int) = (i : Int) + 1 from by omega] at this
    exact this
theorem same_self (l : List ByteArray) (hs : l.length ≤ 1000) (k : Nat) (hk : 2000 ≤ k) : rillbedref06_Same.f k l l = some true := by
  unfold rillbedref06_Same.f rillbedref06_Within.f
  rw [if_pos rfl, if_neg (by omega)]
  have := within_loop l hs l.length k 0 (by omega) (by omega) (by omega)
  rw [show ((0 : Int)) = ((0 : Nat) : Int) from rfl, this]
  rfl
theorem works_at (k : Nat) (hk : 12 ≤ k) : rillbedlaw06_works.f k = some true := at_rounds (g := rillbedlaw06_works.f) (fun k => rillbedlaw06_works.mono k) hk works_ok
theorem keyTakes_pure : rillbedlaw06_KeyTakes.Pure := by
  intro a _
  refine ⟨2000, ?_⟩
  unfold rillbedlaw06_KeyTakes.f
  by_cases h : (a.size : Int) > 500
  · rw [if_pos h, works_at _ (by omega)]
    rfl
  · rw [if_neg h]
    obtain ⟨r, e1, e2, e3⟩ := take_same a (by omega) 2000 (by omega)
    rw [e1]
    simp only [Option.bind_some]
    rw [e2]
    simp only [Option.bind_some]
    simp only [if_true, same_self r.2.1 e3 2000 (by omega), Option.bind_some, works_at 2000 (by omega)]
end Go.Proofs.YthafpbidfgmacaaDoor.Q
