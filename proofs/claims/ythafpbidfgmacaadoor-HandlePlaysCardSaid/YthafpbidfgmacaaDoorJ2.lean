/- strings.IndexAny and strings.ContainsAny at the two bytes 0 and '/', of any string. -/
import Derived.Test.YthafpbidfgmacaaDoorJ1
import Derived.Lib.OthersKept
namespace Go.Proofs.YthafpbidfgmacaaDoor
open Go.RowKit Go.Proofs.YthafpbidfgmacaaDoorW.PrintWords Go.Proofs.YthafpbidfgmacaaDoorW.PrintLast Go.Proofs.YthafpbidfgmacaaDoorW.PrintMore
set_option linter.unusedVariables false

theorem decode_cont (s : ByteArray) (pos k : Nat) (h1 : 1 ≤ k) (h2 : k < (Utf8.decode s pos).2) : pos + k < s.size ∧ 128 ≤ (s.get! (pos + k)).toNat := by
  have h4 : (Utf8.decode s pos).2 ≤ 4 := by
    simp only [Utf8.decode]
    repeat' split
    all_goals simp
  rcases (by omega : k = 1 ∨ k = 2 ∨ k = 3) with rfl | rfl | rfl
  all_goals
    simp only [Utf8.decode] at h2
    repeat' split at h2
    all_goals simp_all
    all_goals omega
theorem decode_two (s : ByteArray) (pos : Nat) (h : pos < s.size) : pos + (Utf8.decode s pos).2 ≤ s.size := by
  have h1 : (Utf8.decode s pos).2 ≤ 1 ∨ 1 ≤ (Utf8.decode s pos).2 - 1 := by omega
  rcases h1 with h1 | h1
  · omega
  · have := (decode_cont s pos ((Utf8.decode s pos).2 - 1) h1 (by omega)).1
    omega

/-- Is there a byte 0 or '/'? -/
def cutB (b : UInt8) : Bool := b == 0 || b == 47
def hasB (s : ByteArray) : Bool := s.data.toList.any cutB

/-- What IndexRune("\x00/", r) answers. -/
def IRP (hit : Bool) (w : World) (e : Ending) (w' : World) : Prop := ∃ i : Int, e = .returned (.int .i64 i) ∧ decide (0 ≤ i) = hit ∧ Below w.heap.size w w'
theorem rune_low (b : UInt8) (w : World) (hb : b.toNat < 128) : Calls Tryd.prog 115 #[.string ⟨#[0, 47]⟩, .int .i32 (b.toNat : Int)] w (IRP (cutB b) w) := by
  refine (Tryd.strings_IndexRune_ascii ⟨#[0, 47]⟩ b.toNat w (by omega) (by omega)).mono fun e w' ⟨he, hw⟩ => ⟨_, he, ?_, by rw [hw]; exact Below.refl _ _⟩
  have hback : ((b.toNat : Int)).toNat.toUInt8 = b := by simp
  rw [hback, ← Lib.contains_iff_indexByte]
  simp [cutB]
  rfl
theorem rune_up (r : Nat) (w : World) (h : 128 ≤ r) : Calls Tryd.prog 115 #[.string ⟨#[0, 47]⟩, .int .i32 (r : Int)] w (IRP false w) :=
  (rune_high (r : Int) w (by omega)).mono fun e w' ⟨he, hb⟩ => ⟨-1, he, rfl, hb⟩

def IAP (s : ByteArray) (w : World) (e : Ending) (w' : World) : Prop := ∃ i : Int, e = .returned (.int .i64 i) ∧ decide (0 ≤ i) = hasB s ∧ Below w.heap.size w w'
theorem any_take_all (l : List UInt8) (n : Nat) (h : l.length ≤ n) : (l.take n).any cutB = l.any cutB := by rw [List.take_of_length_le h]
theorem any_take_more (l : List UInt8) (a b : Nat) (h : ∀ j, a ≤ j → j < b → ∀ x, l[j]? = some x → cutB x = false) (h0 : (l.take a).any cutB = false) (hab : a ≤ b) : (l.take b).any cutB = false := by
  rw [List.any_eq_false] at h0 ⊢
  intro x hx
  obtain ⟨j, hj, rfl⟩ := List.getElem_of_mem hx
  rw [List.length_take] at hj
  rw [List.getElem_take]
  by_cases hja : j < a
  · refine h0 _ ?_
    rw [List.mem_take_iff_getElem]
    exact ⟨j, by omega, rfl⟩
  · have := h j (by omega) (by omega) _ (List.getElem?_eq_getElem (by omega))
    simp [this]
theorem any_of_get (l : List UInt8) (j : Nat) (x : UInt8) (h : l[j]? = some x) (hc : cutB x = true) : l.any cutB = true := by
  rw [List.any_eq_true]
  exact ⟨x, List.mem_of_getElem? h, hc⟩
theorem get_data (s : ByteArray) (i : Nat) (h : i < s.size) : s.data.toList[i]? = some (s.get! i) := by
  have h2 : i < s.data.size := h
  rw [List.getElem?_eq_getElem (by simpa using h2)]
  simp only [ByteArray.get!, Array.getElem_toList]
  rw [getElem!_pos s.data i h2]
theorem cut_high (b : UInt8) (h : 128 ≤ b.toNat) : cutB b = false := by
  unfold cutB
  simp only [Bool.or_eq_false_iff, beq_eq_false_iff_ne, ne_eq]
  constructor <;> (rintro rfl; revert h; decide)

set_option maxRecDepth 100000 in
set_option maxHeartbeats 1600000 in
theorem iany_short (s : ByteArray) (w : World) (h8 : s.size ≤ 8) : Calls Tryd.prog 111 #[.string s, .string ⟨#[0, 47]⟩] w (IAP s w) := by
  have h8z : decide ((8 : Int) < (s.size : Int)) = false := decide_eq_false (by omega)
  have SA : Hid (∀ w, Calls Tryd.prog 116 #[.int .i64 (s.size : Int)] w fun e w' => e = .returned (.bool false) ∧ w = w') := Lib.hid (fun w => by
    have := Tryd.strings_shouldUseASCIISet (s.size : Int) w
    rw [h8z] at this
    exact this.mono fun _ _ h => ⟨h.1, h.2.symm⟩)
  clear h8z
  go_enter Tryd.func111, Tryd.ntmps111
  go_wp2_with (go_at_call 116; refine (SA.out _).mono ?_; rintro e w' ⟨rfl, rfl⟩)
  go_loopg [9, 10] s.size (fun gf _ _ wx => ∃ pos : Nat, wx.heap[w.heap.size]? = some (.stringIter s pos) ∧ Below w.heap.size w wx ∧ (s.data.toList.take pos).any cutB = false ∧ s.size ≤ pos + gf)
  case atStart => exact ⟨0, World.iter_heap w s 0, (Below.refl _ w).alloc (Nat.le_refl _) _, rfl, by omega⟩
  case round =>
    obtain ⟨pos, hit, hbw, hno, hfu⟩ := hrel
    have HNO := Lib.hid hno
    have HBW := Lib.hid hbw
    clear hno
    by_cases hps : pos < s.size
    · obtain ⟨g', rfl⟩ : ∃ g', gk = g' + 1 := ⟨gk - 1, by omega⟩
      have hnx : ∀ ty, (Instr.next (.pointer (some ⟨w.heap.size, 0, none⟩)) true ty).run Tryd.prog wr = _ := fun ty => Lib.run_next_any_at wr w.heap.size s pos ty hit hps
      have hget := Lib.hid (get_data s pos hps)
      have hcont := Lib.hid (decode_cont s pos)
      have htwo := decode_two s pos hps
      have hlowd := Lib.hid (fun h => decode_ascii s pos hps h)
      have hhighd := Lib.hid (fun h => decode_high s pos hps h)
      obtain ⟨R, hR⟩ : ∃ R, (Utf8.decode s pos).1 = R := ⟨_, rfl⟩
      obtain ⟨K, hK⟩ : ∃ K, (Utf8.decode s pos).2 = K := ⟨_, rfl⟩
      rw [hR, hK] at hnx
      rw [hK] at htwo
      have hgb : s[pos]'hps = s.get! pos := by simp [ByteArray.get!, getElem!_pos, hps]; rfl
      have hit2 := Lib.iterAt_heap wr w.heap.size s pos (pos + K) hit
      have hbw2 := Lib.below_iterAt hbw (k := w.heap.size) (Nat.le_refl _) s (pos + K)
      obtain ⟨W, hWd⟩ : ∃ W, wr.iterAt w.heap.size s (pos + K) = W := ⟨_, rfl⟩
      rw [hWd] at hnx hit2 hbw2
      have HIT := Lib.hid hit2
      have HB2 := Lib.hid hbw2
      clear hit hbw hWd hit2 hbw2
      by_cases hb : (s.get! pos).toNat < 128
      · have hd := hlowd.out (by rw [hgb]; exact hb)
        rw [hgb] at hd
        have hR2 : R = (s.get! pos).toNat := by rw [← hR, hd]
        have hK2 : K = 1 := by rw [← hK, hd]
        subst hR2 hK2
        have RL := Lib.hid (fun w => rune_low (s.get! pos) w hb)
        have HN : Hid (cutB (s.get! pos) = false → (s.data.toList.take (pos + 1)).any cutB = false) := Lib.hid (fun hc => any_take_more _ pos (pos + 1) (fun j h1 h2 x hx => by
          obtain rfl : j = pos := by omega
          rw [hget.out] at hx
          cases hx
          exact hc) HNO.out (by omega))
        clear hR hK hd hgb hcont hhighd hlowd hb
        generalize s.get! pos = b at *
        cases hc : cutB b with
        | true =>
          rw [hc] at RL
          have HA := Lib.hid (any_of_get _ _ _ hget.out hc)
          clear hc
          go_wp2_with (go_at_call 115; refine (RL.out _).mono ?_; rintro e W' ⟨i, rfl, hi, hb3⟩; have H3 := Lib.hid hb3; have hi0 : 0 ≤ i := of_decide_eq_true hi; clear hb3 hi)
          go_ret
          exact ⟨_, rfl, by rw [show hasB s = true from HA.out]; exact decide_eq_true (by omega), HB2.out.trans (H3.out.mono (by have := HB2.out.size; omega))⟩
        | false =>
          rw [hc] at RL
          have HN2 := Lib.hid (HN.out hc)
          clear hc HN
          go_wp2_with (go_at_call 115; refine (RL.out _).mono ?_; rintro e W' ⟨i, rfl, hi, hb3⟩; have H3 := Lib.hid hb3; have hi0 : i < 0 := by { have := of_decide_eq_false hi; omega }; clear hb3 hi)
          go_roundg g'
          case measure => omega
          case rel => exact ⟨pos + 1, (H3.out.block _ (Array.getElem?_eq_some_iff.1 HIT.out).1).trans HIT.out, HB2.out.trans (H3.out.mono (by have := HB2.out.size; omega)), HN2.out, by omega⟩
      · have hd := hhighd.out (by rw [hgb]; omega)
        rw [hR, hK] at hd
        obtain ⟨hd1, hd2⟩ := hd
        have RL := Lib.hid (fun w => rune_up R w hd1)
        have HN : Hid ((s.data.toList.take (pos + K)).any cutB = false) := Lib.hid (any_take_more _ pos (pos + K) (fun j h1 h2 x hx => by
          by_cases hj : j = pos
          · subst hj
            rw [hget.out] at hx
            cases hx
            exact cut_high _ (by omega)
          · have := hcont.out (j - pos) (by omega) (by rw [hK]; omega)
            rw [show pos + (j - pos) = j by omega] at this
            rw [get_data s j this.1] at hx
            cases hx
            exact cut_high _ this.2) HNO.out (by omega))
        clear hR hK hgb hcont hhighd hlowd hb hget
        go_wp2_with (go_at_call 115; refine (RL.out _).mono ?_; rintro e W' ⟨i, rfl, hi, hb3⟩; have H3 := Lib.hid hb3; have hi0 : i < 0 := by { have := of_decide_eq_false hi; omega }; clear hb3 hi)
        go_roundg g'
        case measure => omega
        case rel => exact ⟨pos + K, (H3.out.block _ (Array.getElem?_eq_some_iff.1 HIT.out).1).trans HIT.out, HB2.out.trans (H3.out.mono (by have := HB2.out.size; omega)), HN.out, by omega⟩
    · have hnx : ∀ ty, (Instr.next (.pointer (some ⟨w.heap.size, 0, none⟩)) true ty).run Tryd.prog wr = _ := fun ty => Lib.run_next_end_at wr w.heap.size s pos ty hit hps
      have HA : Hid (hasB s = false) := Lib.hid (by
        unfold hasB
        rw [← any_take_all _ pos (by rw [Array.length_toList]; exact Nat.le_of_not_lt hps)]
        exact HNO.out)
      clear hbw hit hps
      go_wp2_with fail
      go_ret
      exact ⟨_, rfl, by rw [HA.out]; rfl, HBW.out⟩

theorem iany_has : ∀ l : List UInt8, decide (0 ≤ Lib.indexAny l [0, 47]) = l.any cutB
  | [] => rfl
  | b :: l => by
    have ih := iany_has l
    have hge := Lib.indexAny_ge [0, 47] l
    have hc : ([0, 47] : List UInt8).contains b = cutB b := by simp [cutB]; rfl
    rw [List.any_cons, Lib.indexAny, hc]
    cases cutB b
    · simp only [Bool.false_or, Bool.false_eq_true, if_false]
      rw [← ih]
      split
      · rename_i h
        have h1 : Lib.indexAny l [0, 47] = -1 := by simpa using h
        rw [h1]
      · rename_i h
        have h1 : Lib.indexAny l [0, 47] ≠ -1 := by simpa using h
        rw [decide_eq_decide]
        omega
    · simp
theorem zero141 : ∀ w, (zeroValue 141).run Tryd.prog w = .ok (.agg (Array.replicate 256 (.bool false))) w := fun w => by kernel_rfl
theorem iany_long (s : ByteArray) (w : World) (h8 : 8 < s.size) (hs : s.size < 4294967281) : Calls Tryd.prog 111 #[.string s, .string ⟨#[0, 47]⟩] w (IAP s w) := by
  refine (Tryd.strings_IndexAny_long zero141 s ⟨#[0, 47]⟩ w (by decide) h8 hs (by decide) (fun j b h => ?_)).mono fun e w' ⟨he, hw⟩ => ⟨_, he, ?_, by rw [hw]; exact below_alloc (below_alloc (Below.refl _ _) _) _⟩
  · have : j = 0 ∨ j = 1 := by
      have := (List.getElem?_eq_some_iff.1 h).1
      simp at this
      omega
    rcases this with rfl | rfl
    · simp at h; subst h; decide
    · simp at h; subst h; decide
  · rw [iany_has]; rfl
theorem iany (s : ByteArray) (w : World) (hs : s.size < 4294967281) : Calls Tryd.prog 111 #[.string s, .string ⟨#[0, 47]⟩] w (IAP s w) := by
  by_cases h8 : s.size ≤ 8
  · exact iany_short s w h8
  · exact iany_long s w (by omega) hs
def anyF (s chars : ByteArray) : Option Bool := if chars = ⟨#[0, 47]⟩ ∧ s.size < 4294967281 then some (hasB s) else none
theorem any_calls (a0 a1 : ByteArray) (r : Bool) (w : World) (h : anyF a0 a1 = some r) :
    Calls Tryd.prog 98 #[.string a0, .string a1] w fun e w' => e = .returned (.bool r) ∧ Below w.heap.size w w' := by
  unfold anyF at h
  split at h
  · rename_i hb
    obtain ⟨rfl, hs⟩ := hb
    cases h
    have IA := Lib.hid (fun w => iany a0 w hs)
    clear hs
    go_enter Tryd.func98, Tryd.ntmps98
    go_wp2_with (go_at_call 111; refine (IA.out _).mono ?_; rintro e w1 ⟨i, rfl, hi, hb⟩; have HB := Lib.hid hb; have HI := Lib.hid hi; clear hb hi)
    all_goals
      go_ret
      refine ⟨by rw [← HI.out]; rfl, HB.out⟩
  · cases h
end Go.Proofs.YthafpbidfgmacaaDoor
