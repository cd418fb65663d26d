/- Plain: what is read back of what was written; and of a beginning of it. -/
import Derived.Test.YtniblmpihnhglaaD20
namespace Go.Proofs.Ytniblmpihnhglaa
open Go.RowKit
set_option linter.unusedVariables false

def nxtL (k : Nat) (S L : List UInt8) (e : Int) : List UInt8 :=
  if k % 6 = 0 then fixL L e 1 else if k % 6 = 1 then fixL L e 2 else if k % 6 = 2 then fixL L e 4 else if k % 6 = 3 then fixL L e 8 else if k % 6 = 4 then fixL L e S.length else txtL L e
def nxtE (k : Nat) (S L : List UInt8) (e : Int) : Int :=
  if k % 6 = 0 then fixE L e 1 else if k % 6 = 1 then fixE L e 2 else if k % 6 = 2 then fixE L e 4 else if k % 6 = 3 then fixE L e 8 else if k % 6 = 4 then fixE L e S.length else txtE L e
def valOK (k n : Nat) (S L : List UInt8) (e : Int) : Bool :=
  if k % 6 = 0 then ((beN (fixO L e 1) : Nat) : Int) == ((n % 256 : Nat) : Int) else if k % 6 = 1 then ((beN (fixO L e 2) : Nat) : Int) == ((n % 65536 : Nat) : Int) else if k % 6 = 2 then ((beN (fixO L e 4) : Nat) : Int) == ((n % 4294967296 : Nat) : Int)
  else if k % 6 = 3 then ((beN (fixO L e 8) : Nat) : Int) == (n : Int) else if k % 6 = 4 then (strL (fixO L e S.length)).toList == (strL S).toList else (strL (txtO L e)).toList == (strL S).toList

theorem rd37_any (p k n : Nat) (S L : List UInt8) (e : Int) (w : World) (hn : n < 18446744073709551616) (hl : L.length ≤ 10000000) (hS : S.length ≤ 1000000) (h : Rd p L e w) :
    Calls Try.prog 37 #[.pointer (some ⟨p, 0, none⟩), .agg #[.int .u8 k, .int .u64 n, .string (strL S)]] w (ReadP p (nxtL k S L e) (nxtE k S L e) (valOK k n S L e) w) := by
  rcases (by omega : k % 6 = 0 ∨ k % 6 = 1 ∨ k % 6 = 2 ∨ k % 6 = 3 ∨ k % 6 = 4 ∨ k % 6 = 5) with h6 | h6 | h6 | h6 | h6 | h6
  · have := rd37_0 p k n S L e w h6 hn hl hS h; simpa [nxtL, nxtE, valOK, h6] using this
  · have := rd37_1 p k n S L e w h6 hn hl hS h; simpa [nxtL, nxtE, valOK, h6] using this
  · have := rd37_2 p k n S L e w h6 hn hl hS h; simpa [nxtL, nxtE, valOK, h6] using this
  · have := rd37_3 p k n S L e w h6 hn hl hS h; simpa [nxtL, nxtE, valOK, h6] using this
  · have := rd37_4 p k n S L e w h6 hn hl hS h; simpa [nxtL, nxtE, valOK, h6] using this
  · have := rd37_5 p k n S L e w h6 hn hl hS h; simpa [nxtL, nxtE, valOK, h6] using this

theorem fix_app (D R : List UInt8) (W : Int) (hW : W = D.length) : fixO (D ++ R) 0 W = D ∧ fixL (D ++ R) 0 W = R ∧ fixE (D ++ R) 0 W = 0 := by
  subst hW
  unfold fixO fixL fixE
  have hle : (D.length : Int) ≤ (D ++ R).length := by rw [List.length_append]; omega
  rcases Nat.eq_zero_or_pos D.length with h0 | h0
  · have hD := List.length_eq_zero_iff.1 h0
    subst hD
    rw [if_neg (fun h => by have := h.2.1; simp at this), if_neg (fun h => by have := h.2; simp at this), if_neg (fun h => by have := h.2.1; simp at this)]
    exact ⟨rfl, rfl, rfl⟩
  · rw [if_pos ⟨rfl, by omega, hle⟩, if_pos ⟨rfl, by omega⟩, if_pos hle, if_neg (fun h => by have := h.2.2; omega), Int.toNat_natCast, List.take_left, List.drop_left]
    exact ⟨rfl, rfl, rfl⟩
theorem fix_short (L : List UInt8) (W : Int) (h0 : 0 < W) (h : (L.length : Int) < W) : fixL L 0 W = [] ∧ fixE L 0 W = 10 := by
  unfold fixL fixE
  rw [if_pos ⟨rfl, h0⟩, if_neg (by omega), if_pos ⟨rfl, h0, h⟩]
  exact ⟨rfl, rfl⟩
theorem fix_ten (W : Int) : fixL [] 10 W = [] ∧ fixE [] 10 W = 10 := by
  unfold fixL fixE
  rw [if_neg (fun h => absurd h.1 (by omega)), if_neg (fun h => absurd h.1 (by omega))]
  exact ⟨rfl, rfl⟩
theorem beN_beB (W : Nat) : ∀ n, n < 256 ^ W → beN (beB n W) = n := by
  induction W with
  | zero => intro n h; have : n = 0 := by simpa using h
            subst this; rfl
  | succ W ih =>
    intro n h
    have hb : (UInt8.ofNat (n % 256)).toNat = n % 256 := by rw [UInt8.toNat_ofNat']; exact Nat.mod_eq_of_lt (Nat.mod_lt _ (by decide))
    have e : n = (n / 256) * 256 + (UInt8.ofNat (n % 256)).toNat := by rw [hb]; omega
    have hlt : n / 256 < 256 ^ W := by rw [Nat.pow_succ] at h; exact Nat.div_lt_of_lt_mul (by rw [Nat.mul_comm]; exact h)
    have h1 : beB n (W + 1) = beB (n / 256) W ++ [UInt8.ofNat (n % 256)] := by
      have := beB_snoc (n / 256) W (UInt8.ofNat (n % 256))
      rwa [← e] at this
    rw [h1, beN_append1, ih _ hlt]
    exact e.symm

theorem txt_app (S R : List UInt8) (hS : S.length ≤ 65535) : txtO (beB S.length 2 ++ S ++ R) 0 = S ∧ txtL (beB S.length 2 ++ S ++ R) 0 = R ∧ txtE (beB S.length 2 ++ S ++ R) 0 = 0 := by
  obtain ⟨a1, a2, a3⟩ := fix_app (beB S.length 2) (S ++ R) 2 (by rw [beB_length]; rfl)
  have hn : txtN (beB S.length 2 ++ S ++ R) 0 = S.length := by
    unfold txtN
    rw [List.append_assoc, a1, beN_beB 2 _ (by omega)]
  obtain ⟨b1, b2, b3⟩ := fix_app S R (S.length : Nat) rfl
  unfold txtO txtL txtE
  rw [hn, List.append_assoc, a2, a3]
  exact ⟨b1, b2, b3⟩

/-- What was written is read as it was. -/
theorem back_law (k n : Nat) (S R : List UInt8) (hn : n < 18446744073709551616) (hS : S.length ≤ 300) : nxtL k S (putL k n S ++ R) 0 = R ∧ nxtE k S (putL k n S ++ R) 0 = 0 ∧ valOK k n S (putL k n S ++ R) 0 = true := by
  rcases (by omega : k % 6 = 0 ∨ k % 6 = 1 ∨ k % 6 = 2 ∨ k % 6 = 3 ∨ k % 6 = 4 ∨ k % 6 = 5) with h6 | h6 | h6 | h6 | h6 | h6
  · obtain ⟨a1, a2, a3⟩ := fix_app (beB (n % 256) 1) R 1 (by rw [beB_length]; rfl)
    have hb := beN_beB 1 (n % 256) (Nat.mod_lt _ (by decide))
    simp [nxtL, nxtE, valOK, putL, h6, a1, a2, a3, hb]
  · obtain ⟨a1, a2, a3⟩ := fix_app (beB (n % 65536) 2) R 2 (by rw [beB_length]; rfl)
    have hb := beN_beB 2 (n % 65536) (Nat.mod_lt _ (by decide))
    simp [nxtL, nxtE, valOK, putL, h6, a1, a2, a3, hb]
  · obtain ⟨a1, a2, a3⟩ := fix_app (beB (n % 4294967296) 4) R 4 (by rw [beB_length]; rfl)
    have hb := beN_beB 4 (n % 4294967296) (Nat.mod_lt _ (by decide))
    simp [nxtL, nxtE, valOK, putL, h6, a1, a2, a3, hb]
  · obtain ⟨a1, a2, a3⟩ := fix_app (beB n 8) R 8 (by rw [beB_length]; rfl)
    have hb := beN_beB 8 n hn
    simp [nxtL, nxtE, valOK, putL, h6, a1, a2, a3, hb]
  · obtain ⟨a1, a2, a3⟩ := fix_app S R (S.length : Nat) rfl
    simp [nxtL, nxtE, valOK, putL, h6, a1, a2, a3]
  · obtain ⟨a1, a2, a3⟩ := txt_app S R (by omega)
    rw [List.append_assoc] at a1 a2 a3
    simp [nxtL, nxtE, valOK, putL, h6, a1, a2, a3]

/-- On the way through a beginning: still a beginning, or torn. -/
def Torn (L T R : List UInt8) (e : Int) : Prop := (e = 0 ∧ L ++ T = R) ∨ (e = 10 ∧ L = [])
theorem nxt_ten (k : Nat) (S : List UInt8) : nxtL k S [] 10 = [] ∧ nxtE k S [] 10 = 10 := by
  have t : txtL [] 10 = [] ∧ txtE [] 10 = 10 := by
    unfold txtL txtE
    rw [(fix_ten 2).1, (fix_ten 2).2]
    exact fix_ten _
  rcases (by omega : k % 6 = 0 ∨ k % 6 = 1 ∨ k % 6 = 2 ∨ k % 6 = 3 ∨ k % 6 = 4 ∨ k % 6 = 5) with h6 | h6 | h6 | h6 | h6 | h6
  · simp [nxtL, nxtE, h6, fix_ten]
  · simp [nxtL, nxtE, h6, fix_ten]
  · simp [nxtL, nxtE, h6, fix_ten]
  · simp [nxtL, nxtE, h6, fix_ten]
  · simp [nxtL, nxtE, h6, fix_ten]
  · simp [nxtL, nxtE, h6, t]
theorem nxt_short (k n : Nat) (S L T R : List UInt8) (hS : S.length ≤ 300) (h : L ++ T = putL k n S ++ R) (hlt : L.length < (putL k n S).length) : nxtL k S L 0 = [] ∧ nxtE k S L 0 = 10 := by
  rcases (by omega : k % 6 = 0 ∨ k % 6 = 1 ∨ k % 6 = 2 ∨ k % 6 = 3 ∨ k % 6 = 4 ∨ k % 6 = 5) with h6 | h6 | h6 | h6 | h6 | h6
  · have hl : L.length < 1 := by simpa [putL, h6, beB_length] using hlt
    have := fix_short L 1 (by omega) (by omega)
    simp [nxtL, nxtE, h6, this]
  · have hl : L.length < 2 := by simpa [putL, h6, beB_length] using hlt
    have := fix_short L 2 (by omega) (by omega)
    simp [nxtL, nxtE, h6, this]
  · have hl : L.length < 4 := by simpa [putL, h6, beB_length] using hlt
    have := fix_short L 4 (by omega) (by omega)
    simp [nxtL, nxtE, h6, this]
  · have hl : L.length < 8 := by simpa [putL, h6, beB_length] using hlt
    have := fix_short L 8 (by omega) (by omega)
    simp [nxtL, nxtE, h6, this]
  · have hl : L.length < S.length := by simpa [putL, h6] using hlt
    have := fix_short L S.length (by omega) (by omega)
    simp [nxtL, nxtE, h6, this]
  · have hp : putL k n S = beB S.length 2 ++ S := by simp [putL, h6]
    rw [hp] at h hlt
    rw [List.length_append, beB_length] at hlt
    have key : txtL L 0 = [] ∧ txtE L 0 = 10 := by
      rcases Nat.lt_or_ge L.length 2 with h2 | h2
      · obtain ⟨a1, a2⟩ := fix_short L 2 (by omega) (by omega)
        unfold txtL txtE
        rw [a1, a2]
        exact fix_ten _
      · have ht : L.take 2 = beB S.length 2 := by
          have := congrArg (List.take 2) h
          rw [List.take_append_of_le_length h2, List.append_assoc, List.take_append_of_le_length (by rw [beB_length]; omega)] at this
          rw [this]
          exact List.take_of_length_le (by rw [beB_length]; omega)
        have hL : L = beB S.length 2 ++ L.drop 2 := by rw [← ht, List.take_append_drop]
        obtain ⟨a1, a2, a3⟩ := fix_app (beB S.length 2) (L.drop 2) 2 (by rw [beB_length]; rfl)
        rw [← hL] at a1 a2 a3
        have hn : txtN L 0 = S.length := by unfold txtN; rw [a1, beN_beB 2 _ (by omega)]
        have hs := fix_short (L.drop 2) (S.length : Nat) (by omega) (by rw [List.length_drop]; omega)
        unfold txtL txtE
        rw [hn, a2, a3]
        exact hs
    simp [nxtL, nxtE, h6, key]
theorem torn_law (k n : Nat) (S L T R : List UInt8) (e : Int) (hn : n < 18446744073709551616) (hS : S.length ≤ 300) (h : Torn L T (putL k n S ++ R) e) : Torn (nxtL k S L e) T R (nxtE k S L e) := by
  rcases h with ⟨rfl, h⟩ | ⟨rfl, rfl⟩
  · rcases Nat.lt_or_ge L.length (putL k n S).length with hlt | hge
    · obtain ⟨a, b⟩ := nxt_short k n S L T R hS h hlt
      exact .inr ⟨b, a⟩
    · have hL : L = putL k n S ++ L.drop (putL k n S).length := by
        have := congrArg (List.take (putL k n S).length) h
        rw [List.take_append_of_le_length hge, List.take_left] at this
        rw [← this, List.length_take, Nat.min_eq_left hge, List.take_append_drop]
      obtain ⟨a, b, _⟩ := back_law k n S (L.drop (putL k n S).length) hn hS
      rw [← hL] at a b
      refine .inl ⟨b, ?_⟩
      rw [a]
      rw [hL, List.append_assoc] at h
      exact List.append_cancel_left h
  · exact .inr ⟨(nxt_ten k S).2, (nxt_ten k S).1⟩
end Go.Proofs.Ytniblmpihnhglaa
