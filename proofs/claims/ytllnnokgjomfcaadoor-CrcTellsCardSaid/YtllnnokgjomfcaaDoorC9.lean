/- The walk of CrcTells. -/
import Derived.Test.YtllnnokgjomfcaaDoorC6
import Derived.Test.YtllnnokgjomfcaaDoorC8
import Derived.Lib.ConvBytes
import Derived.StillTailTactics
import Derived.IntWalk
import Derived.Laws.ShiftsVar
namespace Go.Proofs.YtllnnokgjomfcaaDoor
open Go.RowKit
set_option linter.unusedVariables false

/-- From block g's head on stand these bytes, none frozen. -/
def BytesAt (g : Nat) (L : List UInt8) (w : World) : Prop := g < w.heap.size ∧ ∀ (i : Nat) (b : UInt8), L[i]? = some b → w.cell? ⟨g, i, none⟩ = some (.int .u8 b.toNat) ∧ w.frozen? ⟨g, i, none⟩ = false

theorem bytes_made (w : World) (s : ByteArray) : ∃ (cap : Nat) (w1 : World), (convert 9 30 (.string s)).run Tryd.prog w = .ok (.slice (some ⟨w.heap.size, 0, none⟩) s.size cap) w1 ∧ Bl w w1 ∧ BytesAt w.heap.size s.data.toList w1 := by
  refine ⟨_, _, Lib.run_convert_string_bytes w 9 30 5 s Tryd.underlying9 Tryd.underlying30 Tryd.underlying5, ⟨rfl, rfl, rfl, by rw [Lib.bytesWorld_size]; omega, fun k hk => Lib.bytesWorld_at_old w 5 s k hk⟩, by rw [Lib.bytesWorld_size]; omega, fun i b hb => ?_⟩
  have hi : i < s.size := by have := (List.getElem?_eq_some_iff.1 hb).1; rwa [list_length] at this
  refine ⟨?_, ?_⟩
  · rw [Lib.bytesWorld_cell w 5 s i hi, List.getD_eq_getElem?_getD, hb]; rfl
  · have hsz : s.size ≤ (Lib.bytesCells w 5 s).size := by
      unfold Lib.bytesCells
      rw [Array.size_append, Array.size_map]
      exact Nat.le_add_right _ _
    simp [World.frozen?, Lib.bytesWorld_at_new]
    omega

theorem BytesAt.set {g i : Nat} {L : List UInt8} {w : World} (h : BytesAt g L w) (hi : i < L.length) (d : UInt8) : BytesAt g (L.set i d) (w.setCell ⟨g, i, none⟩ (.int .u8 d.toNat)) := by
  refine ⟨by simpa [World.setCell] using h.1, fun j b hb => ?_⟩
  rw [World.frozen?_setCell]
  by_cases e : j = i
  · subst e
    rw [List.getElem?_set_self hi] at hb
    obtain rfl := Option.some.inj hb
    obtain ⟨c, hc⟩ : ∃ c, L[j]? = some c := ⟨_, List.getElem?_eq_getElem hi⟩
    exact ⟨World.cell?_setCell_same _ _ _ (h.2 j c hc).1, (h.2 j c hc).2⟩
  · rw [List.getElem?_set_ne (fun x => e x.symm)] at hb
    exact ⟨by rw [World.cell?_setCell_other _ _ _ _ (by intro x; injection x with _ x2 _; exact e x2.symm)]; exact (h.2 j b hb).1, (h.2 j b hb).2⟩

/-- The string of a list of bytes. -/
def strL (L : List UInt8) : ByteArray := ⟨L.toArray⟩
theorem run_str (g : Nat) (L : List UInt8) (n cap : Nat) (w : World) (hn : L.length = n) (h : BytesAt g L w) : (convert 30 9 (.slice (some ⟨g, 0, none⟩) n cap)).run Tryd.prog w = .ok (.string (strL L)) w := by
  have := run_convert_bytes_arg (P := Tryd.prog) w 30 5 Tryd.underlying30 Tryd.underlying5 g 0 n cap (L.map fun b => (b.toNat : Int)) (by simpa using hn) (fun i hi => by
    obtain ⟨c, hc⟩ : ∃ c, L[i]? = some c := ⟨_, List.getElem?_eq_getElem (by omega)⟩
    rw [Nat.zero_add, (h.2 i c hc).1, List.getD_eq_getElem?_getD, List.getElem?_map, hc]; rfl) 9 Tryd.underlying9
  rw [this]
  congr 2
  unfold strOfNums strL
  rw [List.map_map]
  congr 2
  conv => rhs; rw [← List.map_id L]
  refine List.map_congr_left (fun b _ => ?_)
  simp

def TInv (g F : Nat) (l : List UInt8) (k : Nat) (w wr : World) : Prop :=
  ∃ (L : List UInt8) (x : Nat), Bl w wr ∧ BytesAt g L wr ∧ L.length = l.length ∧ val L = val l ^^^ 2 ^ F * x ∧ x < 2 ^ k

set_option maxRecDepth 100000 in
set_option maxHeartbeats 800000 in
theorem crcTells_big (s : ByteArray) (n : Nat) (hn : s.size = n) (n0 : 0 < n) (n1 : n ≤ 10000) (p q : Nat) (hp : p < 4294967296) (hq : q < 4294967296) (w : World) (hw : Fo w) :
    Calls Tryd.prog 6 #[.string s, .int .u32 p, .int .u32 q] w fun e w' => e = .returned (.bool true) ∧ Bl w w' := by
  have H := Lib.hid hw
  clear hw
  obtain ⟨cap, w1, hrun, hb1, hby⟩ := bytes_made w s
  rw [hn] at hrun
  have B1 := Lib.hid hb1
  have Y1 := Lib.hid hby
  clear hb1 hby
  have Hn := Lib.hid hn
  have hz : ((n : Int) == 0) = false := by rw [beq_eq_false_iff_ne]; omega
  have hF : ∃ F : Nat, (p : Int) % (8 * (n : Int)) = F ∧ F < 8 * n := ⟨p % (8 * n), by rw [Int.natCast_emod, Int.natCast_mul]; rfl, Nat.mod_lt _ (by omega)⟩
  obtain ⟨F, hF, hF1⟩ := hF
  go_enter Tryd.func6, Tryd.ntmps6
  go_wp2_with fail
  clear hF hrun
  have T0 : Hid (TInv w.heap.size F s.data.toList 0 w w1) := ⟨s.data.toList, 0, B1.out, Y1.out, rfl, by rw [Nat.mul_zero, Nat.xor_zero], by omega⟩
  generalize hg : w.heap.size = g at *
  go_loopw [9] (fun v wr => ∃ k : Nat, k ≤ 32 ∧ v = .int .i64 k ∧ Hid (TInv g F s.data.toList k w wr)) (fun v _ => 32 - (intOf v).toNat)
  case atStart => exact ⟨0, by omega, rfl, T0⟩
  case round =>
    clear T0
    obtain ⟨k, hk, rfl, ht⟩ := hrel
    by_cases hgo : k < 32 ∧ F + k < 8 * n
    · obtain ⟨g1, g2⟩ := hgo
      cases hbit : ((q : Int) / 2 ^ k).tmod 2 == 1
      · have ht' : Hid (TInv g F s.data.toList (k + 1) w wr) := Lib.hid (by
          obtain ⟨L, x, h1, h2, h3, h4, h5⟩ := ht.out
          exact ⟨L, x, h1, h2, h3, h4, by rw [Nat.pow_succ]; omega⟩)
        go_wp2_with fail
        go_roundw
        case rel => exact ⟨k + 1, by omega, by go_num, ht'⟩
        case measure => simp [intOf]; omega
      · obtain ⟨L, x, h1, h2, h3, h4, h5⟩ := ht.out
        clear ht
        have hl : L.length = n := by rw [h3, list_length]; exact Hn.out
        obtain ⟨b, hb⟩ : ∃ b, L[(F + k) / 8]? = some b := ⟨_, List.getElem?_eq_getElem (by omega)⟩
        obtain ⟨gc, gf⟩ := h2.2 _ _ hb
        have M1 := Lib.hid (flip_more s.data.toList L F k x b h4 h5 hb)
        have M2 : Hid (Bl w wr ∧ BytesAt g L wr ∧ L.length = s.data.toList.length) := ⟨h1, h2, h3⟩
        have HB := Lib.hid hb
        have hbl := b.toNat_lt
        obtain ⟨m, hm⟩ : ∃ m, m = F + k := ⟨_, rfl⟩
        obtain ⟨i, hi⟩ : ∃ i, i = m / 8 := ⟨_, rfl⟩
        obtain ⟨r, hr⟩ : ∃ r, r = m % 8 := ⟨_, rfl⟩
        have i1 : i < n := by omega
        have r1 : r < 8 := by omega
        rw [← hm, ← hi] at gc gf HB
        rw [← hm, ← hi, ← hr] at M1
        have E1 : Hid (IntKind.i64.wrap ((F : Int) + (k : Int)) = (m : Int)) := Lib.hid (by rw [IntWalk.i64_in _ (by omega)]; omega)
        have E2 : Hid (IntKind.i64.wrap ((m : Int) / 8) = (i : Int)) := Lib.hid (by rw [IntWalk.i64_in _ (by omega)]; omega)
        have E3 : Hid ((m : Int).tmod 8 = (r : Int)) := Lib.hid (by rw [Int.tmod_eq_emod_of_nonneg (by omega)]; omega)
        have hc : ∃ c : UInt8, c = UInt8.ofNat (2 ^ r) ∧ IntKind.u8.wrap ((2 : Int) ^ r) = (c.toNat : Int) := ⟨_, rfl, by
          have hr2 : 2 ^ r < 256 := Nat.pow_lt_pow_right (n := 8) (by omega) r1
          have e : ((2 ^ r : Nat) : Int) = (2 : Int) ^ r := by rw [Int.natCast_pow]; rfl
          rw [IntKind.wrap_u8', ← e, UInt8.toNat_ofNat', Nat.mod_eq_of_lt hr2]
          exact Int.emod_eq_of_lt (Int.natCast_nonneg _) (Int.ofNat_lt.2 hr2)⟩
        obtain ⟨c, hc1, e4⟩ := hc
        rw [← hc1] at M1
        obtain ⟨d, hd⟩ : ∃ d, d = b ^^^ c := ⟨_, rfl⟩
        rw [← hd] at M1
        have E4 := Lib.hid e4
        have E5 : Hid (bits .xor .u8 (b.toNat : Int) (c.toNat : Int) = (d.toNat : Int)) := Lib.hid (by rw [u8_xor_nat _ _ b.toNat_lt c.toNat_lt, hd, UInt8.toNat_xor])
        clear h1 h2 h3 h4 h5 hl hb hm hi hr hc1 e4 hd
        go_wp2_with fail
        have e1 := E1.out
        have e2 := E2.out
        have e3 := E3.out
        have e4 := E4.out
        have e5 := E5.out
        go_still_tail 19, (by kernel_rfl)
        clear e1 e2 e3 e4 e5
        go_wp2_with fail
        obtain ⟨m1, m2, m3⟩ := M2.out
        have hgL : w.heap.size ≤ g := by omega
        have hil : i < L.length := (List.getElem?_eq_some_iff.1 HB.out).1
        exact ⟨⟨k + 1, by omega, by go_num, L.set i d, x + 2 ^ k, (m1.setCell hgL _).drew, m2.set hil d, by rw [List.length_set]; exact m3, M1.out.1, M1.out.2⟩, by simp [intOf]; omega⟩
    · obtain ⟨L, x, h1, h2, h3, h4, h5⟩ := ht.out
      clear ht
      have hl : L.length = n := by rw [h3, list_length]; exact Hn.out
      have hcv := run_str g L n cap wr hl h2
      have hx32 : x < 4294967296 := Nat.lt_of_lt_of_le h5 (Nat.pow_le_pow_right (n := 2) (by omega) hk)
      have htell := upd_tells s.data.toList L F x h3 (by rw [list_length]; have := Hn.out; omega) hx32 h4
      have S1 : Hid (∀ w, Fo w → Calls Tryd.prog 10 #[.string (strL L)] w fun e w' => e = .returned (.int .u32 (upd 0 L : Nat)) ∧ w = w') := Lib.hid (fun w hw => sum_any (strL L) w (by show L.toArray.size ≤ _; simp; omega) hw)
      have S2 := Lib.hid (fun w hw => sum_any s w (by have := Hn.out; omega) hw)
      have he : ((((upd 0 L : Nat) : Int) == ((upd 0 s.data.toList : Nat) : Int)) == ((strL L).toList == s.toList)) = true := by
        rw [beq_iff_eq, Bool.eq_iff_iff, beq_iff_eq, beq_iff_eq, ByteArray.toList_eq, ByteArray.toList_eq]
        constructor
        · intro h
          exact htell.1 (by omega)
        · intro h
          rw [htell.2 h]
      have H1 := Lib.hid (H.out.bl h1)
      have B2 := Lib.hid h1
      clear h1 h2 h3 h4 h5 hl hx32 htell
      generalize upd 0 L = u1 at *
      generalize upd 0 s.data.toList = u2 at *
      have c1 : ¬ ((k : Int) < 32 ∧ (F : Int) + k < 8 * n) := by omega
      by_cases hk2 : k < 32
      · have hf : ¬ ((F : Int) + k < 8 * n) := by omega
        go_wp2_with (first | (go_at_call_of 10 (Value.string (strL L)); refine (S1.out _ H1.out).mono ?_; rintro e w' ⟨rfl, rfl⟩) | (go_at_call_of 10 (Value.string s); refine (S2.out _ H1.out).mono ?_; rintro e w' ⟨rfl, rfl⟩) | (go_at_call 9; refine (works_any _ H1.out).mono ?_; rintro e w' ⟨rfl, hb⟩))
        go_ret
        exact ⟨rfl, B2.out.trans hb⟩
      · go_wp2_with (first | (go_at_call_of 10 (Value.string (strL L)); refine (S1.out _ H1.out).mono ?_; rintro e w' ⟨rfl, rfl⟩) | (go_at_call_of 10 (Value.string s); refine (S2.out _ H1.out).mono ?_; rintro e w' ⟨rfl, rfl⟩) | (go_at_call 9; refine (works_any _ H1.out).mono ?_; rintro e w' ⟨rfl, hb⟩))
        go_ret
        exact ⟨rfl, B2.out.trans hb⟩

set_option maxHeartbeats 400000 in
theorem crcTells_walk (s : ByteArray) (hs : s.size ≤ 9223372036854775807) (a1 : Int) (w1 : (Lit.int .u32 a1).wf = true) (a2 : Int) (w2 : (Lit.int .u32 a2).wf = true) (w : World) (hw : Fo w) :
    Calls Tryd.prog 6 #[.string s, .int .u32 a1, .int .u32 a2] w fun e w' => e = .returned (.bool true) ∧ Bl w w' := by
  obtain ⟨p, rfl, hp⟩ := wf_u32 w1
  obtain ⟨q, rfl, hq⟩ := wf_u32 w2
  clear w1 w2
  by_cases h0 : s.size = 0
  · have H := Lib.hid hw
    clear hw
    have hz : ((s.size : Int) == 0) = true := by rw [beq_iff_eq]; omega
    clear h0
    go_enter Tryd.func6, Tryd.ntmps6
    go_wp2_with (go_at_call 9; refine (works_any _ H.out).mono ?_; rintro e w' ⟨rfl, hb⟩)
    go_ret
    exact ⟨rfl, hb⟩
  · by_cases hl : 10000 < s.size
    · have H := Lib.hid hw
      clear hw
      have hz : ((s.size : Int) == 0) = false := by rw [beq_eq_false_iff_ne]; omega
      clear h0
      go_enter Tryd.func6, Tryd.ntmps6
      go_wp2_with (go_at_call 9; refine (works_any _ H.out).mono ?_; rintro e w' ⟨rfl, hb⟩)
      go_ret
      exact ⟨rfl, hb⟩
    · exact crcTells_big s s.size rfl (by omega) (by omega) p q hp hq w hw
end Go.Proofs.YtllnnokgjomfcaaDoor
