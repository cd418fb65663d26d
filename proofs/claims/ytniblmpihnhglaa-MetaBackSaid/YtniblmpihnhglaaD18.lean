import Derived.Test.YtniblmpihnhglaaD17
import Derived.Test.YtniblmpihnhglaaD11
namespace Go.Proofs.Ytniblmpihnhglaa
open Go.RowKit
set_option linter.unusedVariables false

/-- A slice of kinds, as the walk meets it. -/
def Kinds (w : World) (v : Value) (n : Nat) : Prop :=
  (v = .slice none 0 0 ∧ n = 0) ∨ ∃ a cap, v = .slice (some a) n cap ∧ ∀ i, i < n → ∃ k : Nat, k < 256 ∧ w.cell? (a.add i) = some (.int .u8 k)
theorem kinds_form {w : World} {v : Value} {n : Nat} (h : Kinds w v n) : ∃ a c, v = .slice a n c := by
  rcases h with ⟨rfl, rfl⟩ | ⟨a, cap, rfl, _⟩
  · exact ⟨_, _, rfl⟩
  · exact ⟨_, _, rfl⟩
/-- A writer whose row lies below block H. -/
def WrH (H B p : Nat) (L : List UInt8) (e : Int) (w : World) : Prop :=
  ∃ v, w.heap[p]? = some (.cells #[v, .int .i64 e] 29 (0, 0)) ∧ w.ownsRow B 5 1 v L.length (byteV L) ∧ p < B ∧ B ≤ w.heap.size ∧ B ≤ H ∧ ∀ g, v.ownBlock = some g → g < H
theorem wrh_of {B p : Nat} {L : List UInt8} {e : Int} {w : World} (h : Wr B p L e w) : WrH w.heap.size B p L e w := by
  obtain ⟨v, h1, h2, h3, h4⟩ := h
  exact ⟨v, h1, h2, h3, h4, h4, fun g hg => (h2.lt g hg).2⟩
theorem WrH.wr {H B p : Nat} {L : List UInt8} {e : Int} {w : World} (h : WrH H B p L e w) : Wr B p L e w := by
  obtain ⟨v, h1, h2, h3, h4, _⟩ := h
  exact ⟨v, h1, h2, h3, h4⟩
theorem WrH.bl {H B p : Nat} {L : List UInt8} {e : Int} {a b : World} (h : WrH H B p L e a) (hb : Bl a b) : WrH H B p L e b := by
  obtain ⟨v, h1, h2, h3, h4, h5, h6⟩ := h
  exact ⟨v, (hb.block p (by omega)).trans h1, h2.kept (row := none) ⟨hb.os, hb.tape, hb.output, hb.size, fun k hk _ => hb.block k hk⟩ (by cases h : v.ownBlock <;> simp), h3, Nat.le_trans h4 hb.size, h5, h6⟩
theorem WrH.set {H B p : Nat} {L : List UInt8} {e : Int} {w : World} (h : WrH H B p L e w) (j : Nat) (u : Value) : WrH H B p L e (w.setCell ⟨H, j, none⟩ u) := by
  obtain ⟨v, h1, h2, h3, h4, h5, h6⟩ := h
  refine ⟨v, (heap_setCell_other w _ p u (by show p ≠ H; omega)).trans h1, ownsRow_setCell_other h2 (a := ⟨H, j, none⟩) (fun hx => by have := h6 H hx; omega) u, h3, by simpa using h4, h5, h6⟩
theorem WrH.only {H B p q : Nat} {L : List UInt8} {e : Int} {a b : World} (h : WrH H B p L e a) (ho : Only q a b) (hq : q < B) (hne : q ≠ p) : WrH H B p L e b := by
  obtain ⟨v, h1, h2, h3, h4, h5, h6⟩ := h
  refine ⟨v, (ho.block p (by omega) (fun x => hne (by cases x; rfl))).trans h1, h2.kept ho ?_, h3, Nat.le_trans h4 ho.size, h5, h6⟩
  cases hv : v.ownBlock with
  | none => exact .inl rfl
  | some g => exact .inr (fun x => by cases x; have := (h2.lt _ hv).1; omega)

theorem rd_to2 {p : Nat} {L L' : List UInt8} {e e' : Int} {w : World} (h : Rd p L e w) (h1 : L = L') (h2 : e = e') : Rd p L' e' w := by subst h1 h2; exact h
theorem rd_bl2 {q : Nat} {L : List UInt8} {e : Int} {a b : World} (h : Rd q L e a) (hb : Bl a b) : Rd q L e b := (hb.block q h.lt).trans h
theorem after_read {B p pr : Nat} {M L : List UInt8} {e : Int} {x y z : Value} {wr w1 : World} (hW : Wr B p M 0 wr) (hR : Rd pr L e w1) (ho : Only pr (wr.alloc (.cells #[x, y, z] 36)) w1) (hpr : pr < B) (hne : pr ≠ p) :
    WrH wr.heap.size B p M 0 w1 ∧ w1.heap[wr.heap.size]? = some (.cells #[x, y, z] 36 (0, 0)) ∧ pr ≠ wr.heap.size := by
  have hB : B ≤ wr.heap.size := by obtain ⟨v, _, _, _, h⟩ := hW; exact h
  refine ⟨((wrh_of hW).bl ((Bl.refl wr).alloc _)).only ho hpr hne, ?_, by omega⟩
  exact (ho.block wr.heap.size (by show _ < (wr.heap.push _).size; rw [Array.size_push]; omega) (fun h => by cases h; omega)).trans (heap_alloc_new _ _)
theorem fixE_or (L : List UInt8) (n : Int) : fixE L 0 n = 0 ∨ fixE L 0 n = 10 := by
  unfold fixE; split <;> simp
theorem fixE_ten (L : List UInt8) (n : Int) : fixE L 10 n = 10 := by
  unfold fixE; rw [if_neg (fun h => absurd h.1 (by omega))]
theorem num_back (L : List UInt8) (W : Nat) (hW : 0 < W) (h : fixE L 0 W = 0) : beB (beN (fixO L 0 W)) W = fixO L 0 W := by
  have h2 := (fix_split L W h).2 (by omega)
  rw [Int.toNat_natCast] at h2
  have := beB_beN (fixO L 0 W)
  rwa [h2] at this
theorem key_num (k W m lim : Nat) (L : List UInt8) (hW : 0 < W) (h8 : W ≤ 8) (hl : lim = 256 ^ W) (he : fixE L 0 W = 0) (hm : beN (fixO L 0 W) = m) (hp : putL k m [] = beB (m % lim) W) : putL k m [] ++ fixL L 0 W = L := by
  have h := fix_split L W he
  have hlen : (fixO L 0 W).length = W := by have := h.2 (by omega); rwa [Int.toNat_natCast] at this
  have hlt : m < lim := by
    rw [← hm, hl]
    have := beN_take_lt (fixO L 0 W) W W (Nat.le_refl _)
    rwa [List.take_of_length_le (by omega)] at this
  rw [hp, Nat.mod_eq_of_lt hlt, ← hm, num_back L W hW he]
  exact h.1
theorem key_u64 (k m : Nat) (L : List UInt8) (he : fixE L 0 8 = 0) (hm : beN (fixO L 0 8) = m) (hp : putL k m [] = beB m 8) : putL k m [] ++ fixL L 0 8 = L := by
  have h := fix_split L 8 he
  have hb : beB (beN (fixO L 0 8)) 8 = fixO L 0 8 := num_back L 8 (by decide) he
  rw [hp, ← hm, hb]
  exact h.1
theorem one_keep0 {w wr w1 : World} {O : Obj} {j : Nat} {u : Value} (hk : Bl w wr) (ho : Only w.heap.size (wr.alloc O) w1) : Bl w (w1.setCell ⟨wr.heap.size, j, none⟩ u) := by
  have a : Bl w (wr.alloc O) := hk.alloc O
  exact Bl.setCell (Below.trans a (only_below ho (Nat.le_refl _) a.size)) hk.size u
theorem one_keep {w wr w1 w3 : World} {O : Obj} {j : Nat} {u : Value} {L : List UInt8} {e : Int} (hk : Bl w wr) (ho : Only w.heap.size (wr.alloc O) w1) (hr : Rd w.heap.size L e w1) (hne : w.heap.size ≠ wr.heap.size)
    (hb : OnlyB (w.heap.size + 1 + 1) (w.heap.size + 1) (w1.setCell ⟨wr.heap.size, j, none⟩ u) w3) : Bl w w3 ∧ Rd w.heap.size L e w3 :=
  ⟨Below.trans (one_keep0 hk ho) (onlyB_below hb (by omega) (by omega)), rd_block hr ((hb.block w.heap.size (by omega) (by omega)).trans (heap_setCell_other w1 _ _ u hne))⟩
theorem txtE_or (L : List UInt8) : txtE L 0 = 0 ∨ txtE L 0 = 10 := by
  unfold txtE
  rcases fixE_or L 2 with h | h <;> rw [h]
  · exact fixE_or _ _
  · right; exact fixE_ten _ _
theorem txt_back (L : List UInt8) (h : txtE L 0 = 0) : (beB (txtO L 0).length 2 ++ txtO L 0) ++ txtL L 0 = L := by
  unfold txtE at h
  rcases fixE_or L 2 with h2 | h2
  · rw [h2] at h
    have a1 := fix_split L 2 h2
    have a2 := fix_split _ _ h
    have hlen : (txtO L 0).length = txtN L 0 := by
      unfold txtO; rw [h2]
      rcases Nat.eq_zero_or_pos (txtN L 0) with h0 | h0
      · rw [h0]; unfold fixO; rw [if_neg (fun h => absurd h.2.1 (by omega))]; rfl
      · have := a2.2 (by omega); rwa [Int.toNat_natCast] at this
    have hn : beB (txtN L 0) 2 = fixO L 0 2 := num_back L 2 (by decide) h2
    rw [hlen, hn, List.append_assoc]
    have e : txtO L 0 ++ txtL L 0 = fixL L 0 2 := by unfold txtO txtL; rw [h2]; exact a2.1
    rw [e]; exact a1.1
  · rw [h2, fixE_ten] at h; omega

set_option maxRecDepth 100000 in
set_option maxHeartbeats 1600000 in
theorem codecOne_on (S : List UInt8) (v : Value) (n : Nat) (w : World) (hv : Kinds w v n) :
    Calls Try.prog 7 #[.string (strL S), v] w fun x w' => x = .returned (.bool true) ∧ Bl w w' := by
  have AW : Hid (∀ w, Calls Try.prog 15 #[] w fun x w' => x = .returned (.bool true) ∧ Bl w w') := Lib.hid awake_any
  obtain ⟨va, vc, rfl⟩ := kinds_form hv
  have HV := Lib.hid hv
  have hz := strL_size S
  clear hv
  by_cases hS : 3000 < S.length
  · have hd : decide ((3000 : Int) < (S.length : Int)) = true := decide_eq_true (by omega)
    generalize hs : strL S = s at *
    clear hs
    go_enter Try.func7, Try.ntmps7
    go_wp2_with (go_at_call 15; refine (AW.out _).mono ?_; rintro e w1 ⟨rfl, h1⟩; have H1 := Lib.hid h1; clear h1)
    go_ret
    exact ⟨rfl, H1.out⟩
  by_cases hN : 100 < n
  · have hd : decide ((3000 : Int) < (S.length : Int)) = false := decide_eq_false (by omega)
    generalize hs : strL S = s at *
    clear hs
    go_enter Try.func7, Try.ntmps7
    go_wp2_with (go_at_call 15; refine (AW.out _).mono ?_; rintro e w1 ⟨rfl, h1⟩; have H1 := Lib.hid h1; clear h1)
    go_ret
    exact ⟨rfl, H1.out⟩
  have hd : decide ((3000 : Int) < (S.length : Int)) = false := decide_eq_false (by omega)
  have hd2 : decide ((100 : Int) < (n : Int)) = false := decide_eq_false (by omega)
  have HS := Lib.hid (by omega : S.length ≤ 3000)
  have RN := Lib.hid (fun w => r_new (strL S) w)
  unfold NewP at RN
  have R0 := Lib.hid (rd_new S w)
  have W0 := Lib.hid (wr_new (w.alloc (.cells #[.string (strL S), .int .i64 0] 106)))
  generalize hs : strL S = s at hz RN R0 W0
  have HSS := Lib.hid hs
  clear hs hS
  have hsz : (w.alloc (.cells #[.string s, .int .i64 0] 106)).heap.size = w.heap.size + 1 := Array.size_push _
  rw [hsz] at W0
  have R1 := Lib.hid (rd_block R0.out (Below.heap_alloc (w.alloc (.cells #[.string s, .int .i64 0] 106)) (.cells #[.slice none 0 0, .int .i64 0] 29) w.heap.size (by rw [hsz]; omega)))
  have K0 : Hid (Bl w ((w.alloc (.cells #[.string s, .int .i64 0] 106)).alloc (.cells #[.slice none 0 0, .int .i64 0] 29))) := Lib.hid (((Bl.refl w).alloc _).alloc _)
  clear hsz R0
  go_enter Try.func7, Try.ntmps7
  go_wp2_with (go_at_call 19; refine (RN.out _).mono ?_; rintro e w1 ⟨rfl, rfl⟩)
  go_loopw [7] (fun v7 wr => ∃ i : Nat, i ≤ n ∧ v7 = .int .i64 i ∧ Hid (∃ M L, M ++ L = S ∧ Wr (w.heap.size + 1 + 1) (w.heap.size + 1) M 0 wr ∧ Rd w.heap.size L 0 wr) ∧ Hid (Bl w wr)) (fun v _ => n - (intOf v).toNat)
  case atStart => exact ⟨0, by omega, rfl, ⟨[], S, rfl, W0.out, R1.out⟩, K0⟩
  case round =>
    clear W0 R1 K0
    obtain ⟨i, hi, rfl, hb, hk⟩ := hrel
    by_cases hlt : i < n
    · rcases HV.out with ⟨h1, h2⟩ | ⟨a, cap, h1, h3⟩
      · omega
      · obtain ⟨k, hk256, c0⟩ := h3 i hlt
        have h2 : a.block < w.heap.size := by have := World.block_lt_of_cell? w _ c0; rwa [add_blk] at this
        injection h1 with h1a h1b h1c
        subst h1a h1c
        obtain ⟨M, L, hML, hW, hR⟩ := hb.out
        have HW := Lib.hid hW
        have HR := Lib.hid hR
        have HML := Lib.hid hML
        rw [← hk.out.cell (by rwa [add_blk])] at c0
        clear hb hW hR hML h3
        have HLl : Hid (L.length ≤ 3000) := Lib.hid (by have := HS.out; rw [← HML.out, List.length_append] at this; omega)
        have HMl : Hid (M.length ≤ 3000) := Lib.hid (by have := HS.out; rw [← HML.out, List.length_append] at this; omega)
        have WT : Hid (∀ (M : List UInt8) (k n : Nat) (X : List UInt8) (w' : World), M.length ≤ 3000 → WrH wr.heap.size (w.heap.size + 1 + 1) (w.heap.size + 1) M 0 w' → n < 18446744073709551616 → X.length ≤ 65535 →
          Calls Try.prog 36 #[.pointer (some ⟨w.heap.size + 1, 0, none⟩), .agg #[.int .u8 k, .int .u64 n, .string (strL X)]] w' (WriteP (w.heap.size + 1 + 1) (w.heap.size + 1) M (putL k n X) w')) := Lib.hid (fun M k n X w' hM h hn hX => w36_any _ _ k n X M w' hn hX (by omega) h.wr)
        rcases (by omega : k % 6 = 0 ∨ k % 6 = 1 ∨ k % 6 = 2 ∨ k % 6 = 3 ∨ k % 6 = 4 ∨ k % 6 = 5) with h6 | h6 | h6 | h6 | h6 | h6
        · have hr : (k : Int).tmod 6 = 0 := by rw [Int.tmod_eq_emod_of_nonneg (by omega)]; omega
          have F := Lib.hid (r_u8 w.heap.size L 0 _ (by have := HLl.out; omega) (rd_bl2 HR.out ((Bl.refl wr).alloc (.cells #[.int .u8 k, .int .u64 0, .string ⟨#[]⟩] 36))))
          have hu : IntKind.u64.wrap ((beN (fixO L 0 1) : Nat) : Int) = (beN (fixO L 0 1) : Nat) := IntWalk.u64_in _ (by have := beN_lt8 (fixO L 0 1) (fixO_length L 0 1 8 (by decide)); omega)
          unfold GetP at F
          have e0 : ((1 : Nat) : Int) = 1 := rfl
          rw [e0] at F
          generalize hm : beN (fixO L 0 1) = m at F hu
          have HM := Lib.hid hm
          clear hm
          have H6 := Lib.hid h6
          clear h6
          rcases fixE_or L (1) with he | he
          all_goals
            have HE := Lib.hid he
            clear he
            go_wp2_with (first
              | (go_at_call 15; have := T1; refine (AW.out _).mono ?_; rintro e w1 ⟨rfl, h1⟩; have H1 := Lib.hid h1; clear h1)
              | (go_at_call 36; have := T1; refine (WT.out M k m [] _ HMl.out WH3.out (by have := HM.out; have := beN_lt8 (fixO L 0 1) (fixO_length L 0 1 8 (by decide)); omega) (by decide)).mono ?_; rintro x w3 ⟨rfl, ha, hb⟩; have P3 := Lib.hid (And.intro ha hb); clear ha hb)
              | (go_at_call 21; have := WH1; refine (r_err _ _ _ _ (rd_block RD1.out (heap_setCell_other _ _ _ _ NE1.out))).mono ?_; rw [HE.out]; rintro x w2 ⟨rfl, rfl⟩; have T1 := Lib.hid trivial)
              | (go_at_call 31; refine F.out.mono ?_; rintro x w1 ⟨rfl, h1, h2⟩; have ar := after_read HW.out h1 h2 (by omega) (by omega); have RD1 := Lib.hid h1; have O1 := Lib.hid h2; have WH1 := Lib.hid ar.1; have bx := ar.2.1; have NE1 := Lib.hid ar.2.2; have b0 : w1.cell? ⟨wr.heap.size, 0, none⟩ = some (.int .u8 k) := by { rw [cell_of_row _ _ _ _ _ _ bx]; rfl }; have b1 : w1.cell? ⟨wr.heap.size, 1, none⟩ = some (.int .u64 0) := by { rw [cell_of_row _ _ _ _ _ _ bx]; rfl }; have b2 : w1.cell? ⟨wr.heap.size, 2, none⟩ = some (.string ⟨#[]⟩) := by { rw [cell_of_row _ _ _ _ _ _ bx]; rfl }; have fz : w1.frozen? ⟨wr.heap.size, 1, none⟩ = false := frozen_of_row _ _ _ _ _ bx; have WH3 := Lib.hid (ar.1.set 1 (.int .u64 (m : Nat))); clear h1 h2 ar bx))
          · have K := one_keep hk.out O1.out RD1.out NE1.out P3.out.2
            have HEE := HE.out
            have H66 := H6.out
            refine ⟨⟨i + 1, by omega, by go_num, ⟨_, _, ?_, P3.out.1, rd_to2 K.2 rfl HE.out⟩, K.1⟩, by simp only [intOf]; omega⟩
            rw [List.append_assoc, show putL k m [] ++ fixL L 0 1 = L from key_num k 1 m 256 L (by decide) (by decide) (by decide) HEE HM.out (by unfold putL; simp [H66])]
            exact HML.out
          · go_ret
            exact ⟨rfl, (one_keep0 hk.out O1.out).trans H1.out⟩
        · have hr : (k : Int).tmod 6 = 1 := by rw [Int.tmod_eq_emod_of_nonneg (by omega)]; omega
          have F := Lib.hid (r_u16 w.heap.size L 0 _ (by have := HLl.out; omega) (rd_bl2 HR.out ((Bl.refl wr).alloc (.cells #[.int .u8 k, .int .u64 0, .string ⟨#[]⟩] 36))))
          have hu : IntKind.u64.wrap ((beN (fixO L 0 2) : Nat) : Int) = (beN (fixO L 0 2) : Nat) := IntWalk.u64_in _ (by have := beN_lt8 (fixO L 0 2) (fixO_length L 0 2 8 (by decide)); omega)
          unfold GetP at F
          have e0 : ((2 : Nat) : Int) = 2 := rfl
          rw [e0] at F
          generalize hm : beN (fixO L 0 2) = m at F hu
          have HM := Lib.hid hm
          clear hm
          have H6 := Lib.hid h6
          clear h6
          rcases fixE_or L (2) with he | he
          all_goals
            have HE := Lib.hid he
            clear he
            go_wp2_with (first
              | (go_at_call 15; have := T1; refine (AW.out _).mono ?_; rintro e w1 ⟨rfl, h1⟩; have H1 := Lib.hid h1; clear h1)
              | (go_at_call 36; have := T1; refine (WT.out M k m [] _ HMl.out WH3.out (by have := HM.out; have := beN_lt8 (fixO L 0 2) (fixO_length L 0 2 8 (by decide)); omega) (by decide)).mono ?_; rintro x w3 ⟨rfl, ha, hb⟩; have P3 := Lib.hid (And.intro ha hb); clear ha hb)
              | (go_at_call 21; have := WH1; refine (r_err _ _ _ _ (rd_block RD1.out (heap_setCell_other _ _ _ _ NE1.out))).mono ?_; rw [HE.out]; rintro x w2 ⟨rfl, rfl⟩; have T1 := Lib.hid trivial)
              | (go_at_call 30; refine F.out.mono ?_; rintro x w1 ⟨rfl, h1, h2⟩; have ar := after_read HW.out h1 h2 (by omega) (by omega); have RD1 := Lib.hid h1; have O1 := Lib.hid h2; have WH1 := Lib.hid ar.1; have bx := ar.2.1; have NE1 := Lib.hid ar.2.2; have b0 : w1.cell? ⟨wr.heap.size, 0, none⟩ = some (.int .u8 k) := by { rw [cell_of_row _ _ _ _ _ _ bx]; rfl }; have b1 : w1.cell? ⟨wr.heap.size, 1, none⟩ = some (.int .u64 0) := by { rw [cell_of_row _ _ _ _ _ _ bx]; rfl }; have b2 : w1.cell? ⟨wr.heap.size, 2, none⟩ = some (.string ⟨#[]⟩) := by { rw [cell_of_row _ _ _ _ _ _ bx]; rfl }; have fz : w1.frozen? ⟨wr.heap.size, 1, none⟩ = false := frozen_of_row _ _ _ _ _ bx; have WH3 := Lib.hid (ar.1.set 1 (.int .u64 (m : Nat))); clear h1 h2 ar bx))
          · have K := one_keep hk.out O1.out RD1.out NE1.out P3.out.2
            have HEE := HE.out
            have H66 := H6.out
            refine ⟨⟨i + 1, by omega, by go_num, ⟨_, _, ?_, P3.out.1, rd_to2 K.2 rfl HE.out⟩, K.1⟩, by simp only [intOf]; omega⟩
            rw [List.append_assoc, show putL k m [] ++ fixL L 0 2 = L from key_num k 2 m 65536 L (by decide) (by decide) (by decide) HEE HM.out (by unfold putL; simp [H66])]
            exact HML.out
          · go_ret
            exact ⟨rfl, (one_keep0 hk.out O1.out).trans H1.out⟩
        · have hr : (k : Int).tmod 6 = 2 := by rw [Int.tmod_eq_emod_of_nonneg (by omega)]; omega
          have F := Lib.hid (r_u32 w.heap.size L 0 _ (by have := HLl.out; omega) (rd_bl2 HR.out ((Bl.refl wr).alloc (.cells #[.int .u8 k, .int .u64 0, .string ⟨#[]⟩] 36))))
          have hu : IntKind.u64.wrap ((beN (fixO L 0 4) : Nat) : Int) = (beN (fixO L 0 4) : Nat) := IntWalk.u64_in _ (by have := beN_lt8 (fixO L 0 4) (fixO_length L 0 4 8 (by decide)); omega)
          unfold GetP at F
          have e0 : ((4 : Nat) : Int) = 4 := rfl
          rw [e0] at F
          generalize hm : beN (fixO L 0 4) = m at F hu
          have HM := Lib.hid hm
          clear hm
          have H6 := Lib.hid h6
          clear h6
          rcases fixE_or L (4) with he | he
          all_goals
            have HE := Lib.hid he
            clear he
            go_wp2_with (first
              | (go_at_call 15; have := T1; refine (AW.out _).mono ?_; rintro e w1 ⟨rfl, h1⟩; have H1 := Lib.hid h1; clear h1)
              | (go_at_call 36; have := T1; refine (WT.out M k m [] _ HMl.out WH3.out (by have := HM.out; have := beN_lt8 (fixO L 0 4) (fixO_length L 0 4 8 (by decide)); omega) (by decide)).mono ?_; rintro x w3 ⟨rfl, ha, hb⟩; have P3 := Lib.hid (And.intro ha hb); clear ha hb)
              | (go_at_call 21; have := WH1; refine (r_err _ _ _ _ (rd_block RD1.out (heap_setCell_other _ _ _ _ NE1.out))).mono ?_; rw [HE.out]; rintro x w2 ⟨rfl, rfl⟩; have T1 := Lib.hid trivial)
              | (go_at_call 38; refine F.out.mono ?_; rintro x w1 ⟨rfl, h1, h2⟩; have ar := after_read HW.out h1 h2 (by omega) (by omega); have RD1 := Lib.hid h1; have O1 := Lib.hid h2; have WH1 := Lib.hid ar.1; have bx := ar.2.1; have NE1 := Lib.hid ar.2.2; have b0 : w1.cell? ⟨wr.heap.size, 0, none⟩ = some (.int .u8 k) := by { rw [cell_of_row _ _ _ _ _ _ bx]; rfl }; have b1 : w1.cell? ⟨wr.heap.size, 1, none⟩ = some (.int .u64 0) := by { rw [cell_of_row _ _ _ _ _ _ bx]; rfl }; have b2 : w1.cell? ⟨wr.heap.size, 2, none⟩ = some (.string ⟨#[]⟩) := by { rw [cell_of_row _ _ _ _ _ _ bx]; rfl }; have fz : w1.frozen? ⟨wr.heap.size, 1, none⟩ = false := frozen_of_row _ _ _ _ _ bx; have WH3 := Lib.hid (ar.1.set 1 (.int .u64 (m : Nat))); clear h1 h2 ar bx))
          · have K := one_keep hk.out O1.out RD1.out NE1.out P3.out.2
            have HEE := HE.out
            have H66 := H6.out
            refine ⟨⟨i + 1, by omega, by go_num, ⟨_, _, ?_, P3.out.1, rd_to2 K.2 rfl HE.out⟩, K.1⟩, by simp only [intOf]; omega⟩
            rw [List.append_assoc, show putL k m [] ++ fixL L 0 4 = L from key_num k 4 m 4294967296 L (by decide) (by decide) (by decide) HEE HM.out (by unfold putL; simp [H66])]
            exact HML.out
          · go_ret
            exact ⟨rfl, (one_keep0 hk.out O1.out).trans H1.out⟩
        · have hr : (k : Int).tmod 6 = 3 := by rw [Int.tmod_eq_emod_of_nonneg (by omega)]; omega
          have F := Lib.hid (r_u64 w.heap.size L 0 _ (by have := HLl.out; omega) (rd_bl2 HR.out ((Bl.refl wr).alloc (.cells #[.int .u8 k, .int .u64 0, .string ⟨#[]⟩] 36))))
          unfold GetP at F
          have e0 : ((8 : Nat) : Int) = 8 := rfl
          rw [e0] at F
          generalize hm : beN (fixO L 0 8) = m at F
          have HM := Lib.hid hm
          clear hm
          have H6 := Lib.hid h6
          clear h6
          rcases fixE_or L (8) with he | he
          all_goals
            have HE := Lib.hid he
            clear he
            go_wp2_with (first
              | (go_at_call 15; have := T1; refine (AW.out _).mono ?_; rintro e w1 ⟨rfl, h1⟩; have H1 := Lib.hid h1; clear h1)
              | (go_at_call 36; have := T1; refine (WT.out M k m [] _ HMl.out WH3.out (by have := HM.out; have := beN_lt8 (fixO L 0 8) (fixO_length L 0 8 8 (by decide)); omega) (by decide)).mono ?_; rintro x w3 ⟨rfl, ha, hb⟩; have P3 := Lib.hid (And.intro ha hb); clear ha hb)
              | (go_at_call 21; have := WH1; refine (r_err _ _ _ _ (rd_block RD1.out (heap_setCell_other _ _ _ _ NE1.out))).mono ?_; rw [HE.out]; rintro x w2 ⟨rfl, rfl⟩; have T1 := Lib.hid trivial)
              | (go_at_call 35; refine F.out.mono ?_; rintro x w1 ⟨rfl, h1, h2⟩; have ar := after_read HW.out h1 h2 (by omega) (by omega); have RD1 := Lib.hid h1; have O1 := Lib.hid h2; have WH1 := Lib.hid ar.1; have bx := ar.2.1; have NE1 := Lib.hid ar.2.2; have b0 : w1.cell? ⟨wr.heap.size, 0, none⟩ = some (.int .u8 k) := by { rw [cell_of_row _ _ _ _ _ _ bx]; rfl }; have b1 : w1.cell? ⟨wr.heap.size, 1, none⟩ = some (.int .u64 0) := by { rw [cell_of_row _ _ _ _ _ _ bx]; rfl }; have b2 : w1.cell? ⟨wr.heap.size, 2, none⟩ = some (.string ⟨#[]⟩) := by { rw [cell_of_row _ _ _ _ _ _ bx]; rfl }; have fz : w1.frozen? ⟨wr.heap.size, 1, none⟩ = false := frozen_of_row _ _ _ _ _ bx; have WH3 := Lib.hid (ar.1.set 1 (.int .u64 (m : Nat))); clear h1 h2 ar bx))
          · have K := one_keep hk.out O1.out RD1.out NE1.out P3.out.2
            have HEE := HE.out
            have H66 := H6.out
            refine ⟨⟨i + 1, by omega, by go_num, ⟨_, _, ?_, P3.out.1, rd_to2 K.2 rfl HE.out⟩, K.1⟩, by simp only [intOf]; omega⟩
            rw [List.append_assoc, key_u64 k m L HEE HM.out (by unfold putL; simp [H66])]
            exact HML.out
          · go_ret
            exact ⟨rfl, (one_keep0 hk.out O1.out).trans H1.out⟩
        · have hr : (k : Int).tmod 6 = 4 := by rw [Int.tmod_eq_emod_of_nonneg (by omega)]; omega
          have F := Lib.hid (fixed_any w.heap.size L 0 k _ (by have := HLl.out; omega) (rd_bl2 HR.out ((Bl.refl wr).alloc (.cells #[.int .u8 k, .int .u64 0, .string ⟨#[]⟩] 36))))
          have hu : IntKind.i64.wrap (k : Int) = k := IntWalk.i64_in _ (by omega)
          have cX : (wr.alloc (.cells #[.int .u8 k, .int .u64 0, .string ⟨#[]⟩] 36)).cell? (a.add i) = some (.int .u8 k) := (Bl.cell ((Bl.refl wr).alloc _) (World.block_lt_of_cell? wr _ c0)).trans c0
          unfold FixP at F
          have H6 := Lib.hid h6
          clear h6
          rcases fixE_or L ((k : Int)) with he | he
          all_goals
            have HE := Lib.hid he
            clear he
            go_wp2_with (first
              | (go_at_call 15; have := T1; refine (AW.out _).mono ?_; rintro e w1 ⟨rfl, h1⟩; have H1 := Lib.hid h1; clear h1)
              | (go_at_call 36; have := T1; refine (WT.out M k 0 (fixO L 0 k) _ HMl.out WH3.out (by decide) (Nat.le_trans (fixO_length L 0 k 256 (by omega)) (by decide))).mono ?_; rintro x w3 ⟨rfl, ha, hb⟩; have P3 := Lib.hid (And.intro ha hb); clear ha hb)
              | (go_at_call 21; have := WH1; refine (r_err _ _ _ _ (rd_block RD1.out (heap_setCell_other _ _ _ _ NE1.out))).mono ?_; rw [HE.out]; rintro x w2 ⟨rfl, rfl⟩; have T1 := Lib.hid trivial)
              | (go_at_call 33; refine F.out.mono ?_; rintro x w1 ⟨rfl, h1, h2⟩; have ar := after_read HW.out h1 h2 (by omega) (by omega); have RD1 := Lib.hid h1; have O1 := Lib.hid h2; have WH1 := Lib.hid ar.1; have bx := ar.2.1; have NE1 := Lib.hid ar.2.2; have b0 : w1.cell? ⟨wr.heap.size, 0, none⟩ = some (.int .u8 k) := by { rw [cell_of_row _ _ _ _ _ _ bx]; rfl }; have b1 : w1.cell? ⟨wr.heap.size, 1, none⟩ = some (.int .u64 0) := by { rw [cell_of_row _ _ _ _ _ _ bx]; rfl }; have b2 : w1.cell? ⟨wr.heap.size, 2, none⟩ = some (.string ⟨#[]⟩) := by { rw [cell_of_row _ _ _ _ _ _ bx]; rfl }; have fz : w1.frozen? ⟨wr.heap.size, 2, none⟩ = false := frozen_of_row _ _ _ _ _ bx; have WH3 := Lib.hid (ar.1.set 2 (.string (strL (fixO L 0 k)))); clear h1 h2 ar bx))
          · have K := one_keep hk.out O1.out RD1.out NE1.out P3.out.2
            have HEE := HE.out
            have H66 := H6.out
            refine ⟨⟨i + 1, by omega, by go_num, ⟨_, _, ?_, P3.out.1, rd_to2 K.2 rfl HE.out⟩, K.1⟩, by simp only [intOf]; omega⟩
            rw [List.append_assoc, show putL k 0 (fixO L 0 k) ++ fixL L 0 k = L from by { have e : putL k 0 (fixO L 0 k) = fixO L 0 k := by { unfold putL; simp [H66] }; rw [e]; exact (fix_split L k HEE).1 }]
            exact HML.out
          · go_ret
            exact ⟨rfl, (one_keep0 hk.out O1.out).trans H1.out⟩
        · have hr : (k : Int).tmod 6 = 5 := by rw [Int.tmod_eq_emod_of_nonneg (by omega)]; omega
          have F := Lib.hid (r_text w.heap.size L 0 _ (by have := HLl.out; omega) (rd_bl2 HR.out ((Bl.refl wr).alloc (.cells #[.int .u8 k, .int .u64 0, .string ⟨#[]⟩] 36))))
          unfold TxtP at F
          have H6 := Lib.hid h6
          clear h6
          rcases txtE_or L with he | he
          all_goals
            have HE := Lib.hid he
            clear he
            go_wp2_with (first
              | (go_at_call 15; have := T1; refine (AW.out _).mono ?_; rintro e w1 ⟨rfl, h1⟩; have H1 := Lib.hid h1; clear h1)
              | (go_at_call 36; have := T1; refine (WT.out M k 0 (txtO L 0) _ HMl.out WH3.out (by decide) (Nat.le_trans (fixO_length _ _ _ 65535 (by have := txtN_lt L 0; omega)) (Nat.le_refl _))).mono ?_; rintro x w3 ⟨rfl, ha, hb⟩; have P3 := Lib.hid (And.intro ha hb); clear ha hb)
              | (go_at_call 21; have := WH1; refine (r_err _ _ _ _ (rd_block RD1.out (heap_setCell_other _ _ _ _ NE1.out))).mono ?_; rw [HE.out]; rintro x w2 ⟨rfl, rfl⟩; have T1 := Lib.hid trivial)
              | (go_at_call 32; refine F.out.mono ?_; rintro x w1 ⟨rfl, h1, h2⟩; have ar := after_read HW.out h1 h2 (by omega) (by omega); have RD1 := Lib.hid h1; have O1 := Lib.hid h2; have WH1 := Lib.hid ar.1; have bx := ar.2.1; have NE1 := Lib.hid ar.2.2; have b0 : w1.cell? ⟨wr.heap.size, 0, none⟩ = some (.int .u8 k) := by { rw [cell_of_row _ _ _ _ _ _ bx]; rfl }; have b1 : w1.cell? ⟨wr.heap.size, 1, none⟩ = some (.int .u64 0) := by { rw [cell_of_row _ _ _ _ _ _ bx]; rfl }; have b2 : w1.cell? ⟨wr.heap.size, 2, none⟩ = some (.string ⟨#[]⟩) := by { rw [cell_of_row _ _ _ _ _ _ bx]; rfl }; have fz : w1.frozen? ⟨wr.heap.size, 2, none⟩ = false := frozen_of_row _ _ _ _ _ bx; have WH3 := Lib.hid (ar.1.set 2 (.string (strL (txtO L 0)))); clear h1 h2 ar bx))
          · have K := one_keep hk.out O1.out RD1.out NE1.out P3.out.2
            have HEE := HE.out
            have H66 := H6.out
            refine ⟨⟨i + 1, by omega, by go_num, ⟨_, _, ?_, P3.out.1, rd_to2 K.2 rfl HE.out⟩, K.1⟩, by simp only [intOf]; omega⟩
            rw [List.append_assoc, show putL k 0 (txtO L 0) ++ txtL L 0 = L from by { have e : putL k 0 (txtO L 0) = beB (txtO L 0).length 2 ++ txtO L 0 := by { unfold putL; simp [H66] }; rw [e]; exact txt_back L HEE }]
            exact HML.out
          · go_ret
            exact ⟨rfl, (one_keep0 hk.out O1.out).trans H1.out⟩
    · have hin : i = n := by omega
      subst hin
      obtain ⟨M, L, hML, hW, hR⟩ := hb.out
      have HW := Lib.hid hW
      have HR := Lib.hid hR
      have hsum : strL M ++ strL L = s := by rw [strL_append, hML]; exact HSS.out
      have hbd : (strL M).size + (strL L).size ≤ 3000 := by
        have := HS.out
        rw [← hML, List.length_append] at this
        rw [strL_size, strL_size]; exact this
      clear hb hW hR hML
      go_wp2_with (first
        | (go_at_call 15; refine (AW.out _).mono ?_; rintro e w1 ⟨rfl, h1⟩; have H1 := Lib.hid h1; clear h1)
        | (go_at_call 23; refine (r_rest _ _ _ _ HR.out).mono ?_; rintro x w2 ⟨rfl, rfl⟩)
        | (go_at_call 17; refine (w_bytes _ _ _ _ HW.out).mono ?_; rintro x w2 ⟨rfl, rfl⟩))
      go_ret
      exact ⟨rfl, hk.out.trans H1.out⟩
end Go.Proofs.Ytniblmpihnhglaa
