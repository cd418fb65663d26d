/- Texts put together by pack.py: E17 E7 E11 E12 E13 E14 E18 E19 E27 E28. -/
import Derived.Test.YtniblmpihnhglaaEA
import Derived.Deep.RegionWith
import Derived.Laws.StructEq
/- What Apply makes of a meta, of both; what a step makes of a mark. -/
namespace Go.Proofs.Ytniblmpihnhglaa
open Go.RowKit
set_option linter.unusedVariables false

theorem quiet_quiet (x : Int) : quietI (quietI x) = quietI x := by
  unfold quietI
  cases h : nanI x
  · simp [h]
  · simp
theorem arith_form (op : BinOp) (ho : op = .add ∨ op = .mul) (x y : Nat) : 0 ≤ arithN op x y ∧ arithN op x y < 18446744073709551616 ∧ quietI (arithN op x y) = arithN op x y := by
  obtain ⟨r, n, h1, h2, _⟩ := run_arith op ho x y default
  rw [← h2]
  exact ⟨q_lo _ (by omega), q_hi _ (by omega), quiet_quiet _⟩
theorem step_form (x op y : Int) (a0 : 0 ≤ x) (a1 : x < 18446744073709551616) (b0 : 0 ≤ y) (b1 : y < 18446744073709551616) (h1 : 1 ≤ op) (h2 : op ≤ 5) :
    0 ≤ stepI x op y ∧ stepI x op y < 18446744073709551616 ∧ quietI (stepI x op y) = stepI x op y := by
  have qf : ∀ z : Int, 0 ≤ z → z < 18446744073709551616 → 0 ≤ quietI z ∧ quietI z < 18446744073709551616 ∧ quietI (quietI z) = quietI z := fun z h k => ⟨q_lo z h, q_hi z k, quiet_quiet z⟩
  unfold stepI
  split
  · exact qf y b0 b1
  split
  · exact arith_form .add (.inl rfl) _ _
  split
  · unfold greatI; split
    · exact qf y b0 b1
    · exact qf x a0 a1
  split
  · unfold leastI; split
    · exact qf y b0 b1
    · exact qf x a0 a1
  split
  · exact arith_form .mul (.inr rfl) _ _
  · omega

def meV (x : Me) : Value := .agg #[.int .u8 x.k, .int .u32 x.s, .int .u64 x.m, .int .u64 x.t]
def chW (c : Ch) : Value := .agg #[.int .u8 c.k, .int .u64 c.n, .int .u8 c.op, .int .u64 c.y]
def mayX (x : Me) : Bool := mayM x.k x.s x.m
def mayY (c : Ch) : Bool := mayC c.k c.n c.op c.y
/-- What a change that may be makes of a meta that may be. -/
def apW (x : Me) (c : Ch) : Me :=
  if c.k = 1 then (if x.k = 1 ∧ x.s < c.n then ⟨x.k, c.n, x.m, x.t⟩ else x)
  else if c.k = 2 then (if x.k = 1 then ⟨x.k, c.n, x.m, x.t⟩ else x)
  else if c.k = 3 then ⟨x.k, x.s, (stepI x.m c.op c.y).toNat, x.t⟩
  else ⟨x.k, x.s, x.m, c.n⟩
def apM (x : Me) (c : Ch) : Me := if mayX x = true ∧ mayY c = true then apW x c else x
theorem mayY_form {c : Ch} (h : mayY c = true) : ((c.k = 1 ∨ c.k = 2) ∧ c.n ≤ 2048 ∧ c.op = 0 ∧ c.y = 0) ∨ (c.k = 4 ∧ c.op = 0 ∧ c.y = 0) ∨ (c.k = 3 ∧ c.n = 0 ∧ 1 ≤ c.op ∧ c.op ≤ 5) := by
  unfold mayY mayC at h
  rw [decide_eq_true_eq] at h
  omega
theorem mayX_form {x : Me} (h : mayX x = true) : (x.k = 1 ∨ (x.k = 2 ∧ x.s = 0)) ∧ x.s ≤ 2048 ∧ quietI x.m = x.m := by
  unfold mayX mayM at h
  rwa [decide_eq_true_eq] at h
theorem mayX_of {x : Me} (h : (x.k = 1 ∨ (x.k = 2 ∧ x.s = 0)) ∧ x.s ≤ 2048 ∧ quietI x.m = x.m) : mayX x = true := by
  unfold mayX mayM
  rwa [decide_eq_true_eq]
theorem step_nat {x op y : Nat} (hx : x < 18446744073709551616) (hy : y < 18446744073709551616) (h1 : 1 ≤ op) (h2 : op ≤ 5) : (((stepI x op y).toNat : Nat) : Int) = stepI x op y := by
  have := (step_form x op y (by omega) (by omega) (by omega) (by omega) (by omega) (by omega)).1
  omega
theorem apM_ok {x : Me} {c : Ch} (hx : x.ok) (hc : c.ok) : (apM x c).ok := by
  unfold apM
  split
  · rename_i h
    have hf := mayY_form h.2
    have hz := step_form x.m c.op c.y (by omega) (by have := hx.2.2.1; omega) (by omega) (by have := hc.2.2.2; omega)
    unfold apW
    unfold Me.ok at hx ⊢
    unfold Ch.ok at hc
    split
    · split
      · exact ⟨hx.1, by show c.n < _; omega, hx.2.2.1, hx.2.2.2⟩
      · exact hx
    split
    · split
      · exact ⟨hx.1, by show c.n < _; omega, hx.2.2.1, hx.2.2.2⟩
      · exact hx
    split
    · have := hz (by omega) (by omega)
      exact ⟨hx.1, hx.2.1, by show (stepI x.m c.op c.y).toNat < _; omega, hx.2.2.2⟩
    · exact ⟨hx.1, hx.2.1, hx.2.2.1, hc.2.1⟩
  · exact hx

def ApP (x : Me) (c : Ch) (w : World) (e : Ending) (w' : World) : Prop := e = .returned (meV (apM x c)) ∧ Bl w w'
theorem apply_on (x : Me) (c : Ch) (w : World) (hx : x.ok) (hc : c.ok) : Calls Try.prog 45 #[meV x, chW c] w (ApP x c w) := by
  unfold ApP
  have m1 : x.m < 18446744073709551616 := hx.2.2.1
  have m2 : c.y < 18446744073709551616 := hc.2.2.2
  unfold apM
  cases hm : mayX x with
  | false =>
    rw [if_neg (by simp)]
    exact apply_bad0 x.k x.s x.m x.t c.k c.n c.op c.y w m1 m2 hm
  | true =>
    cases hcm : mayY c with
    | false =>
      rw [if_neg (by simp)]
      exact apply_off x.k x.s x.m x.t c.k c.n c.op c.y w m1 m2 hm hcm
    | true =>
      rw [if_pos ⟨rfl, rfl⟩]
      unfold apW
      have hf := mayY_form hcm
      by_cases h1 : c.k = 1
      · rw [if_pos h1]
        by_cases hk : x.k = 1
        · by_cases hs : x.s < c.n
          · rw [if_pos ⟨hk, hs⟩]
            exact apply_growY x.k x.s x.m x.t c.k c.n c.op c.y w m1 m2 hm hcm hk h1 (by omega) hs
          · rw [if_neg (fun h => hs h.2)]
            exact apply_growN x.k x.s x.m x.t c.k c.n c.op c.y w m1 m2 hm hcm hk h1 (by omega) hs
        · rw [if_neg (fun h => hk h.1)]
          exact apply_growD x.k x.s x.m x.t c.k c.n c.op c.y w m1 m2 hm hcm hk h1 (by omega)
      rw [if_neg h1]
      by_cases h2 : c.k = 2
      · rw [if_pos h2]
        by_cases hk : x.k = 1
        · rw [if_pos hk]
          exact apply_cutF x.k x.s x.m x.t c.k c.n c.op c.y w m1 m2 hm hcm hk h2 (by omega)
        · rw [if_neg hk]
          exact apply_cutD x.k x.s x.m x.t c.k c.n c.op c.y w m1 m2 hm hcm hk h2 (by omega)
      rw [if_neg h2]
      by_cases h3 : c.k = 3
      · rw [if_pos h3]
        unfold meV
        simp only [step_nat m1 m2 (by omega : 1 ≤ c.op) (by omega : c.op ≤ 5)]
        by_cases hk : x.k = 1
        · exact apply_markF x.k x.s x.m x.t c.k c.n c.op c.y w m1 m2 hm hcm hk h3
        · exact apply_markD x.k x.s x.m x.t c.k c.n c.op c.y w m1 m2 hm hcm hk h3
      rw [if_neg h3]
      by_cases hk : x.k = 1
      · exact apply_stampF x.k x.s x.m x.t c.k c.n c.op c.y w m1 m2 hm hcm hk (by omega)
      · exact apply_stampD x.k x.s x.m x.t c.k c.n c.op c.y w m1 m2 hm hcm hk (by omega)
theorem rapply_on (x : Me) (c : Ch) (w : World) (hx : x.ok) (hc : c.ok) : Calls Try.prog 46 #[meV x, chW c] w (ApP x c w) := by
  unfold ApP
  have m1 : x.m < 18446744073709551616 := hx.2.2.1
  have m2 : c.y < 18446744073709551616 := hc.2.2.2
  unfold apM
  cases hm : mayX x with
  | false =>
    rw [if_neg (by simp)]
    exact rapply_bad0 x.k x.s x.m x.t c.k c.n c.op c.y w m1 m2 hm
  | true =>
    have hxf := mayX_form hm
    cases hcm : mayY c with
    | false =>
      rw [if_neg (by simp)]
      exact rapply_off x.k x.s x.m x.t c.k c.n c.op c.y w m1 m2 hm hcm
    | true =>
      rw [if_pos ⟨rfl, rfl⟩]
      unfold apW
      have hf := mayY_form hcm
      by_cases h1 : c.k = 1
      · rw [if_pos h1]
        by_cases hk : x.k = 1
        · by_cases hs : x.s < c.n
          · rw [if_pos ⟨hk, hs⟩]
            exact rapply_growY x.k x.s x.m x.t c.k c.n c.op c.y w m1 m2 hm hcm hk h1 (by omega) hs
          · rw [if_neg (fun h => hs h.2)]
            exact rapply_growN x.k x.s x.m x.t c.k c.n c.op c.y w m1 m2 hm hcm hk h1 (by omega) hs
        · rw [if_neg (fun h => hk h.1)]
          exact rapply_growD x.k x.s x.m x.t c.k c.n c.op c.y w m1 m2 hm hcm hk h1 (by omega)
      rw [if_neg h1]
      by_cases h2 : c.k = 2
      · rw [if_pos h2]
        by_cases hk : x.k = 1
        · rw [if_pos hk]
          exact rapply_cutF x.k x.s x.m x.t c.k c.n c.op c.y w m1 m2 hm hcm hk h2 (by omega)
        · rw [if_neg hk]
          exact rapply_cutD x.k x.s x.m x.t c.k c.n c.op c.y w m1 m2 hm hcm hk h2 (by omega)
      rw [if_neg h2]
      by_cases h3 : c.k = 3
      · rw [if_pos h3]
        unfold meV
        simp only [step_nat m1 m2 (by omega : 1 ≤ c.op) (by omega : c.op ≤ 5)]
        exact rapply_mark x.k x.s x.m x.t c.k c.n c.op c.y w m1 m2 hm hcm h3
      rw [if_neg h3]
      exact rapply_stamp x.k x.s x.m x.t c.k c.n c.op c.y w m1 m2 hm hcm (by omega)
end Go.Proofs.Ytniblmpihnhglaa

/- Walks of layer 7: Take of the reference. -/
namespace Go.Proofs.Ytniblmpihnhglaa
open Go.RowKit
set_option linter.unusedVariables false

set_option maxHeartbeats 800000 in
theorem rnum_any (L O : List UInt8) (a b : Nat) (w : World) (hO : O = (L.drop a).take (b - a)) (hab : a ≤ b) (h8 : b - a ≤ 8) (hb : b ≤ L.length) (hl : L.length ≤ 10000) :
    Calls Try.prog 75 #[.string (strL L), .int .i64 a, .int .i64 b] w fun x w' => x = .returned (.int .u64 (beN O : Nat)) ∧ w = w' := by
  have hsz := strL_size L
  have hOl : O.length = b - a := by rw [hO, List.length_take, List.length_drop]; omega
  have HO := Lib.hid hO
  clear hO
  go_enter Try.func75, Try.ntmps75
  go_wp2_with fail
  go_loop [7, 8] (fun v7 v8 => ∃ k : Nat, k ≤ b - a ∧ v8 = .int .i64 ((a + k : Nat) : Int) ∧ v7 = .int .u64 (beN (O.take k) : Nat)) (fun _ v => b - (intOf v).toNat)
  case atStart => exact ⟨0, by omega, rfl, rfl⟩
  case round =>
    obtain ⟨k, hk, rfl, rfl⟩ := hrel
    by_cases hlt : k < b - a
    · obtain ⟨y, hy⟩ : ∃ y, O[k]? = some y := ⟨_, List.getElem?_eq_getElem (by omega)⟩
      have hx : beN (O.take k) < 72057594037927936 := beN_take_lt O k 7 (by omega)
      have hbl := y.toNat_lt
      have HS := Lib.hid (beN_take O k y hy)
      have hLy : L[a + k]? = some y := by
        rw [HO.out, List.getElem?_take, if_pos hlt, List.getElem?_drop] at hy; exact hy
      have hget : ∀ h, (strL L)[a + k]'h = y := fun h => strL_get L (a + k) y hLy h
      clear hy hLy
      generalize beN (O.take k) = x at *
      generalize hj : a + k = j at *
      have HJ := Lib.hid hj
      have hjb : j < b := by omega
      clear hj
      go_wp2_with fail
      go_round
      case rel => exact ⟨k + 1, by omega, by have := HJ.out; go_num, by rw [HS.out]; go_num⟩
      case measure => simp [intOf]; omega
    · have hkk : k = b - a := by omega
      have hall : O.take k = O := List.take_of_length_le (by omega)
      rw [hall]
      have HJ := Lib.hid (by omega : a + k = b)
      clear hall
      generalize a + k = j at *
      obtain rfl := HJ.out
      go_wp2_with fail
      go_ret
      exact ⟨rfl, rfl⟩

def RTakeP (L : List UInt8) (w : World) (x : Ending) (w' : World) : Prop := x = .returned (.tuple #[tV L, .int .i64 (tE L)]) ∧ Bl w w'
set_option maxRecDepth 100000 in
set_option maxHeartbeats 1600000 in
theorem rtake_short (L : List UInt8) (w : World) (h : L.length < 21) :
    Calls Try.prog 52 #[.string (strL L)] w fun x w' => x = .returned (.tuple #[metaV 0 0 0 0, .int .i64 10]) ∧ Bl w w' := by
  have hsz := strL_size L
  go_enter Try.func52, Try.ntmps52
  go_wp2_with fail
  exact bodyPost_ret (v := .tuple #[.agg #[.int .u8 0, .int .u32 0, .int .u64 0, .int .u64 0], .int .i64 10]) (by simp [results, Try.results52, go_sem]) rfl ⟨rfl, (Bl.refl w).alloc _⟩

end Go.Proofs.Ytniblmpihnhglaa

/- Walks of layer 7: TakeChange. -/
namespace Go.Proofs.Ytniblmpihnhglaa
open Go.RowKit
set_option linter.unusedVariables false

/-- A change as a value. -/
def chV (k n op y : Nat) : Value := .agg #[.int .u8 k, .int .u64 n, .int .u8 op, .int .u64 y]
/-- What TakeChange makes of a text: how long such a text is, its fields. -/
def cK (L : List UInt8) : Nat := beN (L.take 1)
def cLen (k : Nat) : Nat := if k = 3 then 10 else if k = 4 then 9 else 5
def cN (L : List UInt8) : Nat := if cK L = 3 then 0 else if cK L = 4 then beN ((L.drop 1).take 8) else beN ((L.drop 1).take 4)
def cO (L : List UInt8) : Nat := if cK L = 3 then beN ((L.drop 1).take 1) else 0
def cY (L : List UInt8) : Nat := if cK L = 3 then beN ((L.drop 2).take 8) else 0
def cKind (L : List UInt8) : Bool := decide (1 ≤ cK L ∧ cK L ≤ 4)
def cOK (L : List UInt8) : Bool := !L.isEmpty && cKind L && decide (L.length = cLen (cK L)) && mayC (cK L) (cN L) (cO L) (cY L)
def cTE (L : List UInt8) : Int := if L = [] then 10 else if cKind L = true then (if L.length < cLen (cK L) then 10 else if cOK L then 0 else 4) else 4
def cTV (L : List UInt8) : Value := if cOK L then chV (cK L) (cN L) (cO L) (cY L) else chV 0 0 0 0
def CTakeP (L : List UInt8) (w : World) (x : Ending) (w' : World) : Prop := x = .returned (.tuple #[cTV L, .int .i64 (cTE L)]) ∧ Bl w w'

abbrev Z73 : Obj := .cells #[.int .u8 0, .int .u64 0, .int .u8 0, .int .u64 0] 73
abbrev K73 (k : Nat) : Obj := .cells #[.int .u8 k, .int .u64 0, .int .u8 0, .int .u64 0] 73
abbrev tcW (L : List UInt8) (w : World) : World := (w.alloc Z73).alloc (.cells #[.string (strL L), .int .i64 0] 106)
theorem tcW_size (L : List UInt8) (w : World) : (tcW L w).heap.size = w.heap.size + 2 := by
  show ((w.heap.push _).push _).size = _
  rw [Array.size_push, Array.size_push]
theorem tc_rd (L : List UInt8) (w : World) : Rd (w.heap.size + 1) L 0 (tcW L w) := by
  have := rd_new L (w.alloc Z73)
  rwa [show (w.alloc Z73).heap.size = w.heap.size + 1 from Array.size_push ..] at this
/-- The result's block, as it was made. -/
theorem tc_zero {L : List UInt8} {w w2 : World} (h : Only (w.heap.size + 1) (tcW L w) w2) : w2.heap[w.heap.size]? = some (.cells #[.int .u8 0, .int .u64 0, .int .u8 0, .int .u64 0] 73 (0, 0)) := by
  have hz := tcW_size L w
  rw [h.block _ (by omega) (by intro e; have := Option.some.inj e; omega)]
  rw [Below.heap_alloc _ _ _ (by show _ < (w.heap.push _).size; rw [Array.size_push]; omega)]
  exact heap_alloc_new _ _
theorem tc_below {L : List UInt8} {w w2 : World} (h : Only (w.heap.size + 1) (tcW L w) w2) : Bl w w2 :=
  Below.trans (((Bl.refl w).alloc _).alloc _) (only_below h (by omega) (by rw [tcW_size]; omega))

set_option maxRecDepth 100000 in
set_option maxHeartbeats 1600000 in
theorem ctake_none (w : World) : Calls Try.prog 43 #[.string (strL [])] w fun x w' => x = .returned (.tuple #[chV 0 0 0 0, .int .i64 10]) ∧ Bl w w' := by
  have hnil : (strL []).toList = [] := by kernel_rfl
  go_enter Try.func43, Try.ntmps43
  go_wp2_with fail
  refine bodyPost_ret (v := .tuple #[.agg #[.int .u8 0, .int .u64 0, .int .u8 0, .int .u64 0], .int .i64 10]) (by simp [results, Try.results43, go_sem, *]) rfl ⟨rfl, ?_⟩
  exact (Bl.refl w).alloc _

theorem strL_ne {L : List UInt8} (h : L ≠ []) : (strL L).toList.isEmpty = false := by
  rw [ByteArray.toList_eq]
  show L.isEmpty = false
  cases L with
  | nil => exact absurd rfl h
  | cons a t => rfl

set_option maxRecDepth 100000 in
set_option maxHeartbeats 1600000 in
theorem ctake_kind (L L1 : List UInt8) (k : Nat) (e1 : Int) (w : World) (hL : L ≠ []) (hl : L.length ≤ 10000) (hk : beN (fixO L 0 (1 : Nat)) = k) (h1 : fixL L 0 (1 : Nat) = L1) (f1 : fixE L 0 (1 : Nat) = e1) (hne : k ≠ 1 ∧ k ≠ 2 ∧ k ≠ 3 ∧ k ≠ 4) :
    Calls Try.prog 43 #[.string (strL L)] w fun x w' => x = .returned (.tuple #[chV 0 0 0 0, .int .i64 4]) ∧ Bl w w' := by
  have hnil := strL_ne hL
  have R1 := Lib.hid (fun w' h => r_u8 (w.heap.size + 1) L 0 w' (by omega) h)
  unfold GetP at R1
  rw [hk, h1, f1] at R1
  have RD0 := Lib.hid (tc_rd L w)
  have g1 : ((k : Int) == 1) = false := by rw [beq_eq_false_iff_ne]; omega
  have g2 : ((k : Int) == 2) = false := by rw [beq_eq_false_iff_ne]; omega
  have g3 : ((k : Int) == 3) = false := by rw [beq_eq_false_iff_ne]; omega
  have g4 : ((k : Int) == 4) = false := by rw [beq_eq_false_iff_ne]; omega
  clear hL hl hk h1 f1 hne
  go_enter Try.func43, Try.ntmps43
  go_wp2_with (first
    | (go_at_call 31; refine (R1.out _ RD0.out).mono ?_; rintro e w2 ⟨rfl, h⟩; have W1 := Lib.hid h; have X1 := Lib.hid ((Below.heap_alloc w2 (K73 k) _ (by have := (Array.getElem?_eq_some_iff.1 (tc_zero h.2)).1; exact this)).trans (tc_zero h.2)); obtain ⟨c0, c1, c2, c3, f0, f1, f2, f3⟩ := four_cells X1.out; clear h)
    | (go_at_call 19; refine (r_new _ _).mono ?_; rintro e w1 ⟨rfl, rfl⟩))
  refine bodyPost_ret (v := .tuple #[.agg #[.int .u8 0, .int .u64 0, .int .u8 0, .int .u64 0], .int .i64 4]) (by simp [results, Try.results43, go_sem, *]) rfl ⟨rfl, ?_⟩
  have B1 := (tc_below W1.out.2).alloc (K73 k)
  first | exact B1 | exact (((B1.setCell (Nat.le_refl _) _).setCell (Nat.le_refl _) _).setCell (Nat.le_refl _) _).setCell (Nat.le_refl _) _
end Go.Proofs.Ytniblmpihnhglaa

/- Walks of layer 7: TakeChange, kind by kind. Printed by gen_e12.py. -/
namespace Go.Proofs.Ytniblmpihnhglaa
open Go.RowKit
set_option linter.unusedVariables false

theorem rd_set {p : Nat} {L : List UInt8} {e : Int} {w : World} (h : Rd p L e w) {q : Nat} (hq : p ≠ q) (j : Nat) (u : Value) : Rd p L e (w.setCell ⟨q, j, none⟩ u) := (Below.heap_setCell w ⟨q, j, none⟩ u p hq).trans h
/-- The result's block and the change's, and what was there before. -/
structure TC (w S : World) (q k n op y : Nat) : Prop where
  z : S.heap[w.heap.size]? = some (.cells #[.int .u8 0, .int .u64 0, .int .u8 0, .int .u64 0] 73 (0, 0))
  c : S.heap[q]? = some (.cells #[.int .u8 k, .int .u64 n, .int .u8 op, .int .u64 y] 73 (0, 0))
  b : Bl w S
  ne : w.heap.size + 1 < q
theorem TC.bl {w S S' : World} {q k n op y : Nat} (h : TC w S q k n op y) (hb : Bl S S') : TC w S' q k n op y :=
  ⟨(hb.block _ (Array.getElem?_eq_some_iff.1 h.z).1).trans h.z, (hb.block _ (Array.getElem?_eq_some_iff.1 h.c).1).trans h.c, h.b.trans hb, h.ne⟩
theorem TC.only {w S S' : World} {q k n op y : Nat} (h : TC w S q k n op y) (hb : Only (w.heap.size + 1) S S') : TC w S' q k n op y := by
  have h1 := (Array.getElem?_eq_some_iff.1 h.z).1
  have h2 := (Array.getElem?_eq_some_iff.1 h.c).1
  have h3 := h.ne
  exact ⟨(hb.block _ h1 (by intro e; have := Option.some.inj e; omega)).trans h.z, (hb.block _ h2 (by intro e; have := Option.some.inj e; omega)).trans h.c, Below.trans h.b (only_below hb (by omega) (by omega)), h3⟩
theorem TC.new {L : List UInt8} {w w2 : World} {k : Nat} (h : Only (w.heap.size + 1) (tcW L w) w2) : TC w (w2.alloc (K73 k)) w2.heap.size k 0 0 0 := by
  have hz := tc_zero h
  have hs := h.size
  rw [tcW_size] at hs
  exact ⟨(Below.heap_alloc w2 _ _ (by omega)).trans hz, heap_alloc_new _ _, (tc_below h).alloc _, by omega⟩
theorem TC.setN {w S : World} {q k n op y m : Nat} (h : TC w S q k n op y) : TC w (S.setCell ⟨q, 1, none⟩ (.int .u64 m)) q k m op y := by
  have h3 := h.ne
  refine ⟨(Below.heap_setCell _ _ _ _ (by show w.heap.size ≠ q; omega)).trans h.z, ?_, h.b.setCell (by show w.heap.size ≤ q; omega) _, h3⟩
  rw [heap_setCell_same _ _ _ _ _ _ h.c]; rfl
theorem TC.setO {w S : World} {q k n op y m : Nat} (h : TC w S q k n op y) : TC w (S.setCell ⟨q, 2, none⟩ (.int .u8 m)) q k n m y := by
  have h3 := h.ne
  refine ⟨(Below.heap_setCell _ _ _ _ (by show w.heap.size ≠ q; omega)).trans h.z, ?_, h.b.setCell (by show w.heap.size ≤ q; omega) _, h3⟩
  rw [heap_setCell_same _ _ _ _ _ _ h.c]; rfl
theorem TC.setY {w S : World} {q k n op y m : Nat} (h : TC w S q k n op y) : TC w (S.setCell ⟨q, 3, none⟩ (.int .u64 m)) q k n op m := by
  have h3 := h.ne
  refine ⟨(Below.heap_setCell _ _ _ _ (by show w.heap.size ≠ q; omega)).trans h.z, ?_, h.b.setCell (by show w.heap.size ≤ q; omega) _, h3⟩
  rw [heap_setCell_same _ _ _ _ _ _ h.c]; rfl

set_option maxRecDepth 100000 in
set_option maxHeartbeats 1600000 in
theorem ctake_size_torn (L L1 L2 : List UInt8) (k N : Nat) (e1 e2 c : Int) (w : World) (hL : L ≠ []) (hl : L.length ≤ 10000) (hk : beN (fixO L 0 (1 : Nat)) = k) (h1 : fixL L 0 (1 : Nat) = L1) (f1 : fixE L 0 (1 : Nat) = e1) (hkk : k = 1 ∨ k = 2) (h2 : fixL L1 e1 (4 : Nat) = L2) (f2 : fixE L1 e1 (4 : Nat) = e2) (hN : beN (fixO L1 e1 (4 : Nat)) = N) (hw : wholeE L2 e2 = c) (hc : c ≠ 0) :
    Calls Try.prog 43 #[.string (strL L)] w fun x w' => x = .returned (.tuple #[chV 0 0 0 0, .int .i64 c]) ∧ Bl w w' := by
  have hnil := strL_ne hL
  have len1 : L1.length ≤ 10000 := by rw [← h1]; have := fixL_length L 0 (1 : Nat); omega
  have R1 := Lib.hid (fun w' h => r_u8 (w.heap.size + 1) L 0 w' (by omega) h)
  have R2 := Lib.hid (fun w' h => r_u32 (w.heap.size + 1) L1 e1 w' (by omega) h)
  unfold GetP at R1 R2
  rw [hk, h1, f1] at R1
  rw [hN, h2, f2] at R2
  have hNlt : N < 4294967296 := by rw [← hN]; exact Nat.lt_of_lt_of_le (beN_lt _) (by have := fixO_length L1 e1 (4 : Nat) 4 (by omega); exact Nat.pow_le_pow_right (by omega) this (n := 256))
  have hu : IntKind.u64.wrap (N : Int) = N := IntWalk.u64_in _ (by omega)
  have WH := Lib.hid (fun w' h => whole_any (w.heap.size + 1) L2 e2 w' h)
  rw [hw] at WH
  have RD0 := Lib.hid (tc_rd L w)
  have hne : w.heap.size + 1 ≠ w.heap.size := by omega
  have hcb : (c != 0) = true := by simpa using hc
  have hcb' : (c == 0) = false := by simpa using hc
  clear hc
  have g3 : ((k : Int) == 3) = false := by rw [beq_eq_false_iff_ne]; omega
  have g4 : ((k : Int) == 4) = false := by rw [beq_eq_false_iff_ne]; omega
  clear hL hl hk h1 f1 h2 f2 hN hw len1 hNlt
  rcases hkk with hkk | hkk
  · have g1 : ((k : Int) == 1) = true := by rw [beq_iff_eq]; omega
    clear hkk
    go_enter Try.func43, Try.ntmps43
    go_wp2_with (first
      | (go_at_call 74; refine (WH.out _ (rd_set W2.out.1 (by have := T3.out.ne; omega) _ _)).mono ?_; rintro e w6 ⟨rfl, rfl⟩; have T5 := Lib.hid (T3.out.setN (m := N)); clear x0 x1 x2 x3 g0 g1 g2 g3; obtain ⟨z0, z1, z2, z3, zf0, zf1, zf2, zf3⟩ := four_cells T5.out.z; obtain ⟨y0, y1, y2, y3, _, _, _, _⟩ := four_cells T5.out.c)
      | (go_at_call 38; have := W1; refine (R2.out _ (rd_alloc W1.out.1 _)).mono ?_; rintro e w3 ⟨rfl, h⟩; have W2 := Lib.hid h; have T3 := Lib.hid (TC.only (TC.new (k := k) W1.out.2) h.2); obtain ⟨x0, x1, x2, x3, g0, g1, g2, g3⟩ := four_cells T3.out.c; clear h)
      | (go_at_call 31; refine (R1.out _ RD0.out).mono ?_; rintro e w2 ⟨rfl, h⟩; have W1 := Lib.hid h; clear h)
      | (go_at_call 19; refine (r_new _ _).mono ?_; rintro e w1 ⟨rfl, rfl⟩))
    refine bodyPost_ret (v := .tuple #[.agg #[.int .u8 0, .int .u64 0, .int .u8 0, .int .u64 0], .int .i64 c]) (by simp [results, Try.results43, go_sem, *]) rfl ⟨rfl, ?_⟩
    have B1 := T5.out.b
    exact (((B1.setCell (Nat.le_refl _) _).setCell (Nat.le_refl _) _).setCell (Nat.le_refl _) _).setCell (Nat.le_refl _) _
  · have g1 : ((k : Int) == 1) = false := by rw [beq_eq_false_iff_ne]; omega
    have g2 : ((k : Int) == 2) = true := by rw [beq_iff_eq]; omega
    clear hkk
    go_enter Try.func43, Try.ntmps43
    go_wp2_with (first
      | (go_at_call 74; refine (WH.out _ (rd_set W2.out.1 (by have := T3.out.ne; omega) _ _)).mono ?_; rintro e w6 ⟨rfl, rfl⟩; have T5 := Lib.hid (T3.out.setN (m := N)); clear x0 x1 x2 x3 g0 g1 g2 g3; obtain ⟨z0, z1, z2, z3, zf0, zf1, zf2, zf3⟩ := four_cells T5.out.z; obtain ⟨y0, y1, y2, y3, _, _, _, _⟩ := four_cells T5.out.c)
      | (go_at_call 38; have := W1; refine (R2.out _ (rd_alloc W1.out.1 _)).mono ?_; rintro e w3 ⟨rfl, h⟩; have W2 := Lib.hid h; have T3 := Lib.hid (TC.only (TC.new (k := k) W1.out.2) h.2); obtain ⟨x0, x1, x2, x3, g0, g1, g2, g3⟩ := four_cells T3.out.c; clear h)
      | (go_at_call 31; refine (R1.out _ RD0.out).mono ?_; rintro e w2 ⟨rfl, h⟩; have W1 := Lib.hid h; clear h)
      | (go_at_call 19; refine (r_new _ _).mono ?_; rintro e w1 ⟨rfl, rfl⟩))
    refine bodyPost_ret (v := .tuple #[.agg #[.int .u8 0, .int .u64 0, .int .u8 0, .int .u64 0], .int .i64 c]) (by simp [results, Try.results43, go_sem, *]) rfl ⟨rfl, ?_⟩
    have B1 := T5.out.b
    exact (((B1.setCell (Nat.le_refl _) _).setCell (Nat.le_refl _) _).setCell (Nat.le_refl _) _).setCell (Nat.le_refl _) _

set_option maxRecDepth 100000 in
set_option maxHeartbeats 1600000 in
theorem ctake_size_bad (L L1 L2 : List UInt8) (k N : Nat) (e1 e2 c : Int) (w : World) (hL : L ≠ []) (hl : L.length ≤ 10000) (hk : beN (fixO L 0 (1 : Nat)) = k) (h1 : fixL L 0 (1 : Nat) = L1) (f1 : fixE L 0 (1 : Nat) = e1) (hkk : k = 1 ∨ k = 2) (h2 : fixL L1 e1 (4 : Nat) = L2) (f2 : fixE L1 e1 (4 : Nat) = e2) (hN : beN (fixO L1 e1 (4 : Nat)) = N) (hw : wholeE L2 e2 = 0) (hm : mayC k N 0 0 = false) (hc : c = 4) :
    Calls Try.prog 43 #[.string (strL L)] w fun x w' => x = .returned (.tuple #[chV 0 0 0 0, .int .i64 c]) ∧ Bl w w' := by
  have hnil := strL_ne hL
  have len1 : L1.length ≤ 10000 := by rw [← h1]; have := fixL_length L 0 (1 : Nat); omega
  have R1 := Lib.hid (fun w' h => r_u8 (w.heap.size + 1) L 0 w' (by omega) h)
  have R2 := Lib.hid (fun w' h => r_u32 (w.heap.size + 1) L1 e1 w' (by omega) h)
  unfold GetP at R1 R2
  rw [hk, h1, f1] at R1
  rw [hN, h2, f2] at R2
  have hNlt : N < 4294967296 := by rw [← hN]; exact Nat.lt_of_lt_of_le (beN_lt _) (by have := fixO_length L1 e1 (4 : Nat) 4 (by omega); exact Nat.pow_le_pow_right (by omega) this (n := 256))
  have hu : IntKind.u64.wrap (N : Int) = N := IntWalk.u64_in _ (by omega)
  have WH := Lib.hid (fun w' h => whole_any (w.heap.size + 1) L2 e2 w' h)
  rw [hw] at WH
  have RD0 := Lib.hid (tc_rd L w)
  have hne : w.heap.size + 1 ≠ w.heap.size := by omega
  have CH := Lib.hid (fun w' => may_any k N 0 0 w')
  unfold MayP at CH
  rw [hm] at CH
  clear hm
  subst hc
  have g3 : ((k : Int) == 3) = false := by rw [beq_eq_false_iff_ne]; omega
  have g4 : ((k : Int) == 4) = false := by rw [beq_eq_false_iff_ne]; omega
  clear hL hl hk h1 f1 h2 f2 hN hw len1 hNlt
  rcases hkk with hkk | hkk
  · have g1 : ((k : Int) == 1) = true := by rw [beq_iff_eq]; omega
    clear hkk
    go_enter Try.func43, Try.ntmps43
    go_wp2_with (first
      | (go_at_call 71; refine (CH.out _).mono ?_; rintro e w7 ⟨rfl, h7⟩; have T7 := Lib.hid (T5.out.bl h7); clear h7; clear z0 z1 z2 z3 zf0 zf1 zf2 zf3 y0 y1 y2 y3; obtain ⟨z0, z1, z2, z3, zf0, zf1, zf2, zf3⟩ := four_cells T7.out.z; obtain ⟨y0, y1, y2, y3, _, _, _, _⟩ := four_cells T7.out.c)
      | (go_at_call 74; refine (WH.out _ (rd_set W2.out.1 (by have := T3.out.ne; omega) _ _)).mono ?_; rintro e w6 ⟨rfl, rfl⟩; have T5 := Lib.hid (T3.out.setN (m := N)); clear x0 x1 x2 x3 g0 g1 g2 g3; obtain ⟨z0, z1, z2, z3, zf0, zf1, zf2, zf3⟩ := four_cells T5.out.z; obtain ⟨y0, y1, y2, y3, _, _, _, _⟩ := four_cells T5.out.c)
      | (go_at_call 38; have := W1; refine (R2.out _ (rd_alloc W1.out.1 _)).mono ?_; rintro e w3 ⟨rfl, h⟩; have W2 := Lib.hid h; have T3 := Lib.hid (TC.only (TC.new (k := k) W1.out.2) h.2); obtain ⟨x0, x1, x2, x3, g0, g1, g2, g3⟩ := four_cells T3.out.c; clear h)
      | (go_at_call 31; refine (R1.out _ RD0.out).mono ?_; rintro e w2 ⟨rfl, h⟩; have W1 := Lib.hid h; clear h)
      | (go_at_call 19; refine (r_new _ _).mono ?_; rintro e w1 ⟨rfl, rfl⟩))
    refine bodyPost_ret (v := .tuple #[.agg #[.int .u8 0, .int .u64 0, .int .u8 0, .int .u64 0], .int .i64 4]) (by simp [results, Try.results43, go_sem, *]) rfl ⟨rfl, ?_⟩
    have B1 := T7.out.b
    exact (((B1.setCell (Nat.le_refl _) _).setCell (Nat.le_refl _) _).setCell (Nat.le_refl _) _).setCell (Nat.le_refl _) _
  · have g1 : ((k : Int) == 1) = false := by rw [beq_eq_false_iff_ne]; omega
    have g2 : ((k : Int) == 2) = true := by rw [beq_iff_eq]; omega
    clear hkk
    go_enter Try.func43, Try.ntmps43
    go_wp2_with (first
      | (go_at_call 71; refine (CH.out _).mono ?_; rintro e w7 ⟨rfl, h7⟩; have T7 := Lib.hid (T5.out.bl h7); clear h7; clear z0 z1 z2 z3 zf0 zf1 zf2 zf3 y0 y1 y2 y3; obtain ⟨z0, z1, z2, z3, zf0, zf1, zf2, zf3⟩ := four_cells T7.out.z; obtain ⟨y0, y1, y2, y3, _, _, _, _⟩ := four_cells T7.out.c)
      | (go_at_call 74; refine (WH.out _ (rd_set W2.out.1 (by have := T3.out.ne; omega) _ _)).mono ?_; rintro e w6 ⟨rfl, rfl⟩; have T5 := Lib.hid (T3.out.setN (m := N)); clear x0 x1 x2 x3 g0 g1 g2 g3; obtain ⟨z0, z1, z2, z3, zf0, zf1, zf2, zf3⟩ := four_cells T5.out.z; obtain ⟨y0, y1, y2, y3, _, _, _, _⟩ := four_cells T5.out.c)
      | (go_at_call 38; have := W1; refine (R2.out _ (rd_alloc W1.out.1 _)).mono ?_; rintro e w3 ⟨rfl, h⟩; have W2 := Lib.hid h; have T3 := Lib.hid (TC.only (TC.new (k := k) W1.out.2) h.2); obtain ⟨x0, x1, x2, x3, g0, g1, g2, g3⟩ := four_cells T3.out.c; clear h)
      | (go_at_call 31; refine (R1.out _ RD0.out).mono ?_; rintro e w2 ⟨rfl, h⟩; have W1 := Lib.hid h; clear h)
      | (go_at_call 19; refine (r_new _ _).mono ?_; rintro e w1 ⟨rfl, rfl⟩))
    refine bodyPost_ret (v := .tuple #[.agg #[.int .u8 0, .int .u64 0, .int .u8 0, .int .u64 0], .int .i64 4]) (by simp [results, Try.results43, go_sem, *]) rfl ⟨rfl, ?_⟩
    have B1 := T7.out.b
    exact (((B1.setCell (Nat.le_refl _) _).setCell (Nat.le_refl _) _).setCell (Nat.le_refl _) _).setCell (Nat.le_refl _) _

set_option maxRecDepth 100000 in
set_option maxHeartbeats 1600000 in
theorem ctake_size_good (L L1 L2 : List UInt8) (k N : Nat) (e1 e2 c : Int) (w : World) (hL : L ≠ []) (hl : L.length ≤ 10000) (hk : beN (fixO L 0 (1 : Nat)) = k) (h1 : fixL L 0 (1 : Nat) = L1) (f1 : fixE L 0 (1 : Nat) = e1) (hkk : k = 1 ∨ k = 2) (h2 : fixL L1 e1 (4 : Nat) = L2) (f2 : fixE L1 e1 (4 : Nat) = e2) (hN : beN (fixO L1 e1 (4 : Nat)) = N) (hw : wholeE L2 e2 = 0) (hm : mayC k N 0 0 = true) (hc : c = 0) :
    Calls Try.prog 43 #[.string (strL L)] w fun x w' => x = .returned (.tuple #[chV k N 0 0, .int .i64 c]) ∧ Bl w w' := by
  have hnil := strL_ne hL
  have len1 : L1.length ≤ 10000 := by rw [← h1]; have := fixL_length L 0 (1 : Nat); omega
  have R1 := Lib.hid (fun w' h => r_u8 (w.heap.size + 1) L 0 w' (by omega) h)
  have R2 := Lib.hid (fun w' h => r_u32 (w.heap.size + 1) L1 e1 w' (by omega) h)
  unfold GetP at R1 R2
  rw [hk, h1, f1] at R1
  rw [hN, h2, f2] at R2
  have hNlt : N < 4294967296 := by rw [← hN]; exact Nat.lt_of_lt_of_le (beN_lt _) (by have := fixO_length L1 e1 (4 : Nat) 4 (by omega); exact Nat.pow_le_pow_right (by omega) this (n := 256))
  have hu : IntKind.u64.wrap (N : Int) = N := IntWalk.u64_in _ (by omega)
  have WH := Lib.hid (fun w' h => whole_any (w.heap.size + 1) L2 e2 w' h)
  rw [hw] at WH
  have RD0 := Lib.hid (tc_rd L w)
  have hne : w.heap.size + 1 ≠ w.heap.size := by omega
  have CH := Lib.hid (fun w' => may_any k N 0 0 w')
  unfold MayP at CH
  rw [hm] at CH
  clear hm
  subst hc
  have g3 : ((k : Int) == 3) = false := by rw [beq_eq_false_iff_ne]; omega
  have g4 : ((k : Int) == 4) = false := by rw [beq_eq_false_iff_ne]; omega
  clear hL hl hk h1 f1 h2 f2 hN hw len1 hNlt
  rcases hkk with hkk | hkk
  · have g1 : ((k : Int) == 1) = true := by rw [beq_iff_eq]; omega
    clear hkk
    go_enter Try.func43, Try.ntmps43
    go_wp2_with (first
      | (go_at_call 71; refine (CH.out _).mono ?_; rintro e w7 ⟨rfl, h7⟩; have T7 := Lib.hid (T5.out.bl h7); clear h7; clear z0 z1 z2 z3 zf0 zf1 zf2 zf3 y0 y1 y2 y3; obtain ⟨z0, z1, z2, z3, zf0, zf1, zf2, zf3⟩ := four_cells T7.out.z; obtain ⟨y0, y1, y2, y3, _, _, _, _⟩ := four_cells T7.out.c)
      | (go_at_call 74; refine (WH.out _ (rd_set W2.out.1 (by have := T3.out.ne; omega) _ _)).mono ?_; rintro e w6 ⟨rfl, rfl⟩; have T5 := Lib.hid (T3.out.setN (m := N)); clear x0 x1 x2 x3 g0 g1 g2 g3; obtain ⟨z0, z1, z2, z3, zf0, zf1, zf2, zf3⟩ := four_cells T5.out.z; obtain ⟨y0, y1, y2, y3, _, _, _, _⟩ := four_cells T5.out.c)
      | (go_at_call 38; have := W1; refine (R2.out _ (rd_alloc W1.out.1 _)).mono ?_; rintro e w3 ⟨rfl, h⟩; have W2 := Lib.hid h; have T3 := Lib.hid (TC.only (TC.new (k := k) W1.out.2) h.2); obtain ⟨x0, x1, x2, x3, g0, g1, g2, g3⟩ := four_cells T3.out.c; clear h)
      | (go_at_call 31; refine (R1.out _ RD0.out).mono ?_; rintro e w2 ⟨rfl, h⟩; have W1 := Lib.hid h; clear h)
      | (go_at_call 19; refine (r_new _ _).mono ?_; rintro e w1 ⟨rfl, rfl⟩))
    refine bodyPost_ret (v := .tuple #[.agg #[.int .u8 k, .int .u64 N, .int .u8 0, .int .u64 0], .int .i64 0]) (by simp [results, Try.results43, go_sem, *]) rfl ⟨rfl, ?_⟩
    have B1 := T7.out.b
    exact (((B1.setCell (Nat.le_refl _) _).setCell (Nat.le_refl _) _).setCell (Nat.le_refl _) _).setCell (Nat.le_refl _) _
  · have g1 : ((k : Int) == 1) = false := by rw [beq_eq_false_iff_ne]; omega
    have g2 : ((k : Int) == 2) = true := by rw [beq_iff_eq]; omega
    clear hkk
    go_enter Try.func43, Try.ntmps43
    go_wp2_with (first
      | (go_at_call 71; refine (CH.out _).mono ?_; rintro e w7 ⟨rfl, h7⟩; have T7 := Lib.hid (T5.out.bl h7); clear h7; clear z0 z1 z2 z3 zf0 zf1 zf2 zf3 y0 y1 y2 y3; obtain ⟨z0, z1, z2, z3, zf0, zf1, zf2, zf3⟩ := four_cells T7.out.z; obtain ⟨y0, y1, y2, y3, _, _, _, _⟩ := four_cells T7.out.c)
      | (go_at_call 74; refine (WH.out _ (rd_set W2.out.1 (by have := T3.out.ne; omega) _ _)).mono ?_; rintro e w6 ⟨rfl, rfl⟩; have T5 := Lib.hid (T3.out.setN (m := N)); clear x0 x1 x2 x3 g0 g1 g2 g3; obtain ⟨z0, z1, z2, z3, zf0, zf1, zf2, zf3⟩ := four_cells T5.out.z; obtain ⟨y0, y1, y2, y3, _, _, _, _⟩ := four_cells T5.out.c)
      | (go_at_call 38; have := W1; refine (R2.out _ (rd_alloc W1.out.1 _)).mono ?_; rintro e w3 ⟨rfl, h⟩; have W2 := Lib.hid h; have T3 := Lib.hid (TC.only (TC.new (k := k) W1.out.2) h.2); obtain ⟨x0, x1, x2, x3, g0, g1, g2, g3⟩ := four_cells T3.out.c; clear h)
      | (go_at_call 31; refine (R1.out _ RD0.out).mono ?_; rintro e w2 ⟨rfl, h⟩; have W1 := Lib.hid h; clear h)
      | (go_at_call 19; refine (r_new _ _).mono ?_; rintro e w1 ⟨rfl, rfl⟩))
    refine bodyPost_ret (v := .tuple #[.agg #[.int .u8 k, .int .u64 N, .int .u8 0, .int .u64 0], .int .i64 0]) (by simp [results, Try.results43, go_sem, *]) rfl ⟨rfl, ?_⟩
    have B1 := T7.out.b
    exact (((B1.setCell (Nat.le_refl _) _).setCell (Nat.le_refl _) _).setCell (Nat.le_refl _) _).setCell (Nat.le_refl _) _

set_option maxRecDepth 100000 in
set_option maxHeartbeats 1600000 in
theorem ctake_stamp_torn (L L1 L2 : List UInt8) (k N : Nat) (e1 e2 c : Int) (w : World) (hL : L ≠ []) (hl : L.length ≤ 10000) (hk : beN (fixO L 0 (1 : Nat)) = k) (h1 : fixL L 0 (1 : Nat) = L1) (f1 : fixE L 0 (1 : Nat) = e1) (hkk : k = 4) (h2 : fixL L1 e1 (8 : Nat) = L2) (f2 : fixE L1 e1 (8 : Nat) = e2) (hN : beN (fixO L1 e1 (8 : Nat)) = N) (hw : wholeE L2 e2 = c) (hc : c ≠ 0) :
    Calls Try.prog 43 #[.string (strL L)] w fun x w' => x = .returned (.tuple #[chV 0 0 0 0, .int .i64 c]) ∧ Bl w w' := by
  have hnil := strL_ne hL
  have len1 : L1.length ≤ 10000 := by rw [← h1]; have := fixL_length L 0 (1 : Nat); omega
  have R1 := Lib.hid (fun w' h => r_u8 (w.heap.size + 1) L 0 w' (by omega) h)
  have R2 := Lib.hid (fun w' h => r_u64 (w.heap.size + 1) L1 e1 w' (by omega) h)
  unfold GetP at R1 R2
  rw [hk, h1, f1] at R1
  rw [hN, h2, f2] at R2
  have WH := Lib.hid (fun w' h => whole_any (w.heap.size + 1) L2 e2 w' h)
  rw [hw] at WH
  have RD0 := Lib.hid (tc_rd L w)
  have hne : w.heap.size + 1 ≠ w.heap.size := by omega
  have hcb : (c != 0) = true := by simpa using hc
  have hcb' : (c == 0) = false := by simpa using hc
  clear hc
  have g1 : ((k : Int) == 1) = false := by rw [beq_eq_false_iff_ne]; omega
  have g2 : ((k : Int) == 2) = false := by rw [beq_eq_false_iff_ne]; omega
  have g3 : ((k : Int) == 3) = false := by rw [beq_eq_false_iff_ne]; omega
  have g4 : ((k : Int) == 4) = true := by rw [beq_iff_eq]; omega
  clear hL hl hk h1 f1 h2 f2 hN hw len1 hkk
  go_enter Try.func43, Try.ntmps43
  go_wp2_with (first
    | (go_at_call 74; refine (WH.out _ (rd_set W2.out.1 (by have := T3.out.ne; omega) _ _)).mono ?_; rintro e w6 ⟨rfl, rfl⟩; have T5 := Lib.hid (T3.out.setN (m := N)); clear x0 x1 x2 x3 g0 g1 g2 g3; obtain ⟨z0, z1, z2, z3, zf0, zf1, zf2, zf3⟩ := four_cells T5.out.z; obtain ⟨y0, y1, y2, y3, _, _, _, _⟩ := four_cells T5.out.c)
    | (go_at_call 35; have := W1; refine (R2.out _ (rd_alloc W1.out.1 _)).mono ?_; rintro e w3 ⟨rfl, h⟩; have W2 := Lib.hid h; have T3 := Lib.hid (TC.only (TC.new (k := k) W1.out.2) h.2); obtain ⟨x0, x1, x2, x3, g0, g1, g2, g3⟩ := four_cells T3.out.c; clear h)
    | (go_at_call 31; refine (R1.out _ RD0.out).mono ?_; rintro e w2 ⟨rfl, h⟩; have W1 := Lib.hid h; clear h)
    | (go_at_call 19; refine (r_new _ _).mono ?_; rintro e w1 ⟨rfl, rfl⟩))
  refine bodyPost_ret (v := .tuple #[.agg #[.int .u8 0, .int .u64 0, .int .u8 0, .int .u64 0], .int .i64 c]) (by simp [results, Try.results43, go_sem, *]) rfl ⟨rfl, ?_⟩
  have B1 := T5.out.b
  exact (((B1.setCell (Nat.le_refl _) _).setCell (Nat.le_refl _) _).setCell (Nat.le_refl _) _).setCell (Nat.le_refl _) _

set_option maxRecDepth 100000 in
set_option maxHeartbeats 1600000 in
theorem ctake_stamp_bad (L L1 L2 : List UInt8) (k N : Nat) (e1 e2 c : Int) (w : World) (hL : L ≠ []) (hl : L.length ≤ 10000) (hk : beN (fixO L 0 (1 : Nat)) = k) (h1 : fixL L 0 (1 : Nat) = L1) (f1 : fixE L 0 (1 : Nat) = e1) (hkk : k = 4) (h2 : fixL L1 e1 (8 : Nat) = L2) (f2 : fixE L1 e1 (8 : Nat) = e2) (hN : beN (fixO L1 e1 (8 : Nat)) = N) (hw : wholeE L2 e2 = 0) (hm : mayC k N 0 0 = false) (hc : c = 4) :
    Calls Try.prog 43 #[.string (strL L)] w fun x w' => x = .returned (.tuple #[chV 0 0 0 0, .int .i64 c]) ∧ Bl w w' := by
  have hnil := strL_ne hL
  have len1 : L1.length ≤ 10000 := by rw [← h1]; have := fixL_length L 0 (1 : Nat); omega
  have R1 := Lib.hid (fun w' h => r_u8 (w.heap.size + 1) L 0 w' (by omega) h)
  have R2 := Lib.hid (fun w' h => r_u64 (w.heap.size + 1) L1 e1 w' (by omega) h)
  unfold GetP at R1 R2
  rw [hk, h1, f1] at R1
  rw [hN, h2, f2] at R2
  have WH := Lib.hid (fun w' h => whole_any (w.heap.size + 1) L2 e2 w' h)
  rw [hw] at WH
  have RD0 := Lib.hid (tc_rd L w)
  have hne : w.heap.size + 1 ≠ w.heap.size := by omega
  have CH := Lib.hid (fun w' => may_any k N 0 0 w')
  unfold MayP at CH
  rw [hm] at CH
  clear hm
  subst hc
  have g1 : ((k : Int) == 1) = false := by rw [beq_eq_false_iff_ne]; omega
  have g2 : ((k : Int) == 2) = false := by rw [beq_eq_false_iff_ne]; omega
  have g3 : ((k : Int) == 3) = false := by rw [beq_eq_false_iff_ne]; omega
  have g4 : ((k : Int) == 4) = true := by rw [beq_iff_eq]; omega
  clear hL hl hk h1 f1 h2 f2 hN hw len1 hkk
  go_enter Try.func43, Try.ntmps43
  go_wp2_with (first
    | (go_at_call 71; refine (CH.out _).mono ?_; rintro e w7 ⟨rfl, h7⟩; have T7 := Lib.hid (T5.out.bl h7); clear h7; clear z0 z1 z2 z3 zf0 zf1 zf2 zf3 y0 y1 y2 y3; obtain ⟨z0, z1, z2, z3, zf0, zf1, zf2, zf3⟩ := four_cells T7.out.z; obtain ⟨y0, y1, y2, y3, _, _, _, _⟩ := four_cells T7.out.c)
    | (go_at_call 74; refine (WH.out _ (rd_set W2.out.1 (by have := T3.out.ne; omega) _ _)).mono ?_; rintro e w6 ⟨rfl, rfl⟩; have T5 := Lib.hid (T3.out.setN (m := N)); clear x0 x1 x2 x3 g0 g1 g2 g3; obtain ⟨z0, z1, z2, z3, zf0, zf1, zf2, zf3⟩ := four_cells T5.out.z; obtain ⟨y0, y1, y2, y3, _, _, _, _⟩ := four_cells T5.out.c)
    | (go_at_call 35; have := W1; refine (R2.out _ (rd_alloc W1.out.1 _)).mono ?_; rintro e w3 ⟨rfl, h⟩; have W2 := Lib.hid h; have T3 := Lib.hid (TC.only (TC.new (k := k) W1.out.2) h.2); obtain ⟨x0, x1, x2, x3, g0, g1, g2, g3⟩ := four_cells T3.out.c; clear h)
    | (go_at_call 31; refine (R1.out _ RD0.out).mono ?_; rintro e w2 ⟨rfl, h⟩; have W1 := Lib.hid h; clear h)
    | (go_at_call 19; refine (r_new _ _).mono ?_; rintro e w1 ⟨rfl, rfl⟩))
  refine bodyPost_ret (v := .tuple #[.agg #[.int .u8 0, .int .u64 0, .int .u8 0, .int .u64 0], .int .i64 4]) (by simp [results, Try.results43, go_sem, *]) rfl ⟨rfl, ?_⟩
  have B1 := T7.out.b
  exact (((B1.setCell (Nat.le_refl _) _).setCell (Nat.le_refl _) _).setCell (Nat.le_refl _) _).setCell (Nat.le_refl _) _

set_option maxRecDepth 100000 in
set_option maxHeartbeats 1600000 in
theorem ctake_stamp_good (L L1 L2 : List UInt8) (k N : Nat) (e1 e2 c : Int) (w : World) (hL : L ≠ []) (hl : L.length ≤ 10000) (hk : beN (fixO L 0 (1 : Nat)) = k) (h1 : fixL L 0 (1 : Nat) = L1) (f1 : fixE L 0 (1 : Nat) = e1) (hkk : k = 4) (h2 : fixL L1 e1 (8 : Nat) = L2) (f2 : fixE L1 e1 (8 : Nat) = e2) (hN : beN (fixO L1 e1 (8 : Nat)) = N) (hw : wholeE L2 e2 = 0) (hm : mayC k N 0 0 = true) (hc : c = 0) :
    Calls Try.prog 43 #[.string (strL L)] w fun x w' => x = .returned (.tuple #[chV k N 0 0, .int .i64 c]) ∧ Bl w w' := by
  have hnil := strL_ne hL
  have len1 : L1.length ≤ 10000 := by rw [← h1]; have := fixL_length L 0 (1 : Nat); omega
  have R1 := Lib.hid (fun w' h => r_u8 (w.heap.size + 1) L 0 w' (by omega) h)
  have R2 := Lib.hid (fun w' h => r_u64 (w.heap.size + 1) L1 e1 w' (by omega) h)
  unfold GetP at R1 R2
  rw [hk, h1, f1] at R1
  rw [hN, h2, f2] at R2
  have WH := Lib.hid (fun w' h => whole_any (w.heap.size + 1) L2 e2 w' h)
  rw [hw] at WH
  have RD0 := Lib.hid (tc_rd L w)
  have hne : w.heap.size + 1 ≠ w.heap.size := by omega
  have CH := Lib.hid (fun w' => may_any k N 0 0 w')
  unfold MayP at CH
  rw [hm] at CH
  clear hm
  subst hc
  have g1 : ((k : Int) == 1) = false := by rw [beq_eq_false_iff_ne]; omega
  have g2 : ((k : Int) == 2) = false := by rw [beq_eq_false_iff_ne]; omega
  have g3 : ((k : Int) == 3) = false := by rw [beq_eq_false_iff_ne]; omega
  have g4 : ((k : Int) == 4) = true := by rw [beq_iff_eq]; omega
  clear hL hl hk h1 f1 h2 f2 hN hw len1 hkk
  go_enter Try.func43, Try.ntmps43
  go_wp2_with (first
    | (go_at_call 71; refine (CH.out _).mono ?_; rintro e w7 ⟨rfl, h7⟩; have T7 := Lib.hid (T5.out.bl h7); clear h7; clear z0 z1 z2 z3 zf0 zf1 zf2 zf3 y0 y1 y2 y3; obtain ⟨z0, z1, z2, z3, zf0, zf1, zf2, zf3⟩ := four_cells T7.out.z; obtain ⟨y0, y1, y2, y3, _, _, _, _⟩ := four_cells T7.out.c)
    | (go_at_call 74; refine (WH.out _ (rd_set W2.out.1 (by have := T3.out.ne; omega) _ _)).mono ?_; rintro e w6 ⟨rfl, rfl⟩; have T5 := Lib.hid (T3.out.setN (m := N)); clear x0 x1 x2 x3 g0 g1 g2 g3; obtain ⟨z0, z1, z2, z3, zf0, zf1, zf2, zf3⟩ := four_cells T5.out.z; obtain ⟨y0, y1, y2, y3, _, _, _, _⟩ := four_cells T5.out.c)
    | (go_at_call 35; have := W1; refine (R2.out _ (rd_alloc W1.out.1 _)).mono ?_; rintro e w3 ⟨rfl, h⟩; have W2 := Lib.hid h; have T3 := Lib.hid (TC.only (TC.new (k := k) W1.out.2) h.2); obtain ⟨x0, x1, x2, x3, g0, g1, g2, g3⟩ := four_cells T3.out.c; clear h)
    | (go_at_call 31; refine (R1.out _ RD0.out).mono ?_; rintro e w2 ⟨rfl, h⟩; have W1 := Lib.hid h; clear h)
    | (go_at_call 19; refine (r_new _ _).mono ?_; rintro e w1 ⟨rfl, rfl⟩))
  refine bodyPost_ret (v := .tuple #[.agg #[.int .u8 k, .int .u64 N, .int .u8 0, .int .u64 0], .int .i64 0]) (by simp [results, Try.results43, go_sem, *]) rfl ⟨rfl, ?_⟩
  have B1 := T7.out.b
  exact (((B1.setCell (Nat.le_refl _) _).setCell (Nat.le_refl _) _).setCell (Nat.le_refl _) _).setCell (Nat.le_refl _) _

set_option maxRecDepth 100000 in
set_option maxHeartbeats 1600000 in
theorem ctake_mark_torn (L L1 L2 L3 : List UInt8) (k N M : Nat) (e1 e2 e3 c : Int) (w : World) (hL : L ≠ []) (hl : L.length ≤ 10000) (hk : beN (fixO L 0 (1 : Nat)) = k) (h1 : fixL L 0 (1 : Nat) = L1) (f1 : fixE L 0 (1 : Nat) = e1) (hkk : k = 3) (h2 : fixL L1 e1 (1 : Nat) = L2) (f2 : fixE L1 e1 (1 : Nat) = e2) (hN : beN (fixO L1 e1 (1 : Nat)) = N) (h3 : fixL L2 e2 (8 : Nat) = L3) (f3 : fixE L2 e2 (8 : Nat) = e3) (hM : beN (fixO L2 e2 (8 : Nat)) = M) (hw : wholeE L3 e3 = c) (hc : c ≠ 0) :
    Calls Try.prog 43 #[.string (strL L)] w fun x w' => x = .returned (.tuple #[chV 0 0 0 0, .int .i64 c]) ∧ Bl w w' := by
  have hnil := strL_ne hL
  have len1 : L1.length ≤ 10000 := by rw [← h1]; have := fixL_length L 0 (1 : Nat); omega
  have R1 := Lib.hid (fun w' h => r_u8 (w.heap.size + 1) L 0 w' (by omega) h)
  have len2 : L2.length ≤ 10000 := by rw [← h2]; have := fixL_length L1 e1 (1 : Nat); omega
  have R2 := Lib.hid (fun w' h => r_u8 (w.heap.size + 1) L1 e1 w' (by omega) h)
  have R3 := Lib.hid (fun w' h => r_u64 (w.heap.size + 1) L2 e2 w' (by omega) h)
  unfold GetP at R1 R2 R3
  rw [hk, h1, f1] at R1
  rw [hN, h2, f2] at R2
  rw [hM, h3, f3] at R3
  have WH := Lib.hid (fun w' h => whole_any (w.heap.size + 1) L3 e3 w' h)
  rw [hw] at WH
  have RD0 := Lib.hid (tc_rd L w)
  have hne : w.heap.size + 1 ≠ w.heap.size := by omega
  have hcb : (c != 0) = true := by simpa using hc
  have hcb' : (c == 0) = false := by simpa using hc
  clear hc
  have g1 : ((k : Int) == 1) = false := by rw [beq_eq_false_iff_ne]; omega
  have g2 : ((k : Int) == 2) = false := by rw [beq_eq_false_iff_ne]; omega
  have g3 : ((k : Int) == 3) = true := by rw [beq_iff_eq]; omega
  have g4 : ((k : Int) == 4) = false := by rw [beq_eq_false_iff_ne]; omega
  clear hL hl hk h1 f1 h2 f2 hN hw len1 h3 f3 hM len2 hkk
  go_enter Try.func43, Try.ntmps43
  go_wp2_with (first
    | (go_at_call 74; refine (WH.out _ (rd_set (rd_set W3.out.1 (by have := T4.out.ne; omega) _ _) (by have := T4.out.ne; omega) _ _)).mono ?_; rintro e w6 ⟨rfl, rfl⟩; have T5 := Lib.hid ((T4.out.setO (m := N)).setY (m := M)); clear x0 x1 x2 x3 g0 g1 g2 g3; obtain ⟨z0, z1, z2, z3, zf0, zf1, zf2, zf3⟩ := four_cells T5.out.z; obtain ⟨y0, y1, y2, y3, _, _, _, _⟩ := four_cells T5.out.c)
    | (go_at_call 35; refine (R3.out _ W2.out.1).mono ?_; rintro e w4 ⟨rfl, h⟩; have W3 := Lib.hid h; have T4 := Lib.hid (TC.only T3.out h.2); obtain ⟨x0, x1, x2, x3, g0, g1, g2, g3⟩ := four_cells T4.out.c; clear h)
    | (go_at_call 31; have := W1; refine (R2.out _ (rd_alloc W1.out.1 _)).mono ?_; rintro e w3 ⟨rfl, h⟩; have W2 := Lib.hid h; have T3 := Lib.hid (TC.only (TC.new (k := k) W1.out.2) h.2); clear h)
    | (go_at_call 31; refine (R1.out _ RD0.out).mono ?_; rintro e w2 ⟨rfl, h⟩; have W1 := Lib.hid h; clear h)
    | (go_at_call 19; refine (r_new _ _).mono ?_; rintro e w1 ⟨rfl, rfl⟩))
  refine bodyPost_ret (v := .tuple #[.agg #[.int .u8 0, .int .u64 0, .int .u8 0, .int .u64 0], .int .i64 c]) (by simp [results, Try.results43, go_sem, *]) rfl ⟨rfl, ?_⟩
  have B1 := T5.out.b
  exact (((B1.setCell (Nat.le_refl _) _).setCell (Nat.le_refl _) _).setCell (Nat.le_refl _) _).setCell (Nat.le_refl _) _

set_option maxRecDepth 100000 in
set_option maxHeartbeats 1600000 in
theorem ctake_mark_bad (L L1 L2 L3 : List UInt8) (k N M : Nat) (e1 e2 e3 c : Int) (w : World) (hL : L ≠ []) (hl : L.length ≤ 10000) (hk : beN (fixO L 0 (1 : Nat)) = k) (h1 : fixL L 0 (1 : Nat) = L1) (f1 : fixE L 0 (1 : Nat) = e1) (hkk : k = 3) (h2 : fixL L1 e1 (1 : Nat) = L2) (f2 : fixE L1 e1 (1 : Nat) = e2) (hN : beN (fixO L1 e1 (1 : Nat)) = N) (h3 : fixL L2 e2 (8 : Nat) = L3) (f3 : fixE L2 e2 (8 : Nat) = e3) (hM : beN (fixO L2 e2 (8 : Nat)) = M) (hw : wholeE L3 e3 = 0) (hm : mayC k 0 N M = false) (hc : c = 4) :
    Calls Try.prog 43 #[.string (strL L)] w fun x w' => x = .returned (.tuple #[chV 0 0 0 0, .int .i64 c]) ∧ Bl w w' := by
  have hnil := strL_ne hL
  have len1 : L1.length ≤ 10000 := by rw [← h1]; have := fixL_length L 0 (1 : Nat); omega
  have R1 := Lib.hid (fun w' h => r_u8 (w.heap.size + 1) L 0 w' (by omega) h)
  have len2 : L2.length ≤ 10000 := by rw [← h2]; have := fixL_length L1 e1 (1 : Nat); omega
  have R2 := Lib.hid (fun w' h => r_u8 (w.heap.size + 1) L1 e1 w' (by omega) h)
  have R3 := Lib.hid (fun w' h => r_u64 (w.heap.size + 1) L2 e2 w' (by omega) h)
  unfold GetP at R1 R2 R3
  rw [hk, h1, f1] at R1
  rw [hN, h2, f2] at R2
  rw [hM, h3, f3] at R3
  have WH := Lib.hid (fun w' h => whole_any (w.heap.size + 1) L3 e3 w' h)
  rw [hw] at WH
  have RD0 := Lib.hid (tc_rd L w)
  have hne : w.heap.size + 1 ≠ w.heap.size := by omega
  have CH := Lib.hid (fun w' => may_any k 0 N M w')
  unfold MayP at CH
  rw [hm] at CH
  clear hm
  subst hc
  have g1 : ((k : Int) == 1) = false := by rw [beq_eq_false_iff_ne]; omega
  have g2 : ((k : Int) == 2) = false := by rw [beq_eq_false_iff_ne]; omega
  have g3 : ((k : Int) == 3) = true := by rw [beq_iff_eq]; omega
  have g4 : ((k : Int) == 4) = false := by rw [beq_eq_false_iff_ne]; omega
  clear hL hl hk h1 f1 h2 f2 hN hw len1 h3 f3 hM len2 hkk
  go_enter Try.func43, Try.ntmps43
  go_wp2_with (first
    | (go_at_call 71; refine (CH.out _).mono ?_; rintro e w7 ⟨rfl, h7⟩; have T7 := Lib.hid (T5.out.bl h7); clear h7; clear z0 z1 z2 z3 zf0 zf1 zf2 zf3 y0 y1 y2 y3; obtain ⟨z0, z1, z2, z3, zf0, zf1, zf2, zf3⟩ := four_cells T7.out.z; obtain ⟨y0, y1, y2, y3, _, _, _, _⟩ := four_cells T7.out.c)
    | (go_at_call 74; refine (WH.out _ (rd_set (rd_set W3.out.1 (by have := T4.out.ne; omega) _ _) (by have := T4.out.ne; omega) _ _)).mono ?_; rintro e w6 ⟨rfl, rfl⟩; have T5 := Lib.hid ((T4.out.setO (m := N)).setY (m := M)); clear x0 x1 x2 x3 g0 g1 g2 g3; obtain ⟨z0, z1, z2, z3, zf0, zf1, zf2, zf3⟩ := four_cells T5.out.z; obtain ⟨y0, y1, y2, y3, _, _, _, _⟩ := four_cells T5.out.c)
    | (go_at_call 35; refine (R3.out _ W2.out.1).mono ?_; rintro e w4 ⟨rfl, h⟩; have W3 := Lib.hid h; have T4 := Lib.hid (TC.only T3.out h.2); obtain ⟨x0, x1, x2, x3, g0, g1, g2, g3⟩ := four_cells T4.out.c; clear h)
    | (go_at_call 31; have := W1; refine (R2.out _ (rd_alloc W1.out.1 _)).mono ?_; rintro e w3 ⟨rfl, h⟩; have W2 := Lib.hid h; have T3 := Lib.hid (TC.only (TC.new (k := k) W1.out.2) h.2); clear h)
    | (go_at_call 31; refine (R1.out _ RD0.out).mono ?_; rintro e w2 ⟨rfl, h⟩; have W1 := Lib.hid h; clear h)
    | (go_at_call 19; refine (r_new _ _).mono ?_; rintro e w1 ⟨rfl, rfl⟩))
  refine bodyPost_ret (v := .tuple #[.agg #[.int .u8 0, .int .u64 0, .int .u8 0, .int .u64 0], .int .i64 4]) (by simp [results, Try.results43, go_sem, *]) rfl ⟨rfl, ?_⟩
  have B1 := T7.out.b
  exact (((B1.setCell (Nat.le_refl _) _).setCell (Nat.le_refl _) _).setCell (Nat.le_refl _) _).setCell (Nat.le_refl _) _

set_option maxRecDepth 100000 in
set_option maxHeartbeats 1600000 in
theorem ctake_mark_good (L L1 L2 L3 : List UInt8) (k N M : Nat) (e1 e2 e3 c : Int) (w : World) (hL : L ≠ []) (hl : L.length ≤ 10000) (hk : beN (fixO L 0 (1 : Nat)) = k) (h1 : fixL L 0 (1 : Nat) = L1) (f1 : fixE L 0 (1 : Nat) = e1) (hkk : k = 3) (h2 : fixL L1 e1 (1 : Nat) = L2) (f2 : fixE L1 e1 (1 : Nat) = e2) (hN : beN (fixO L1 e1 (1 : Nat)) = N) (h3 : fixL L2 e2 (8 : Nat) = L3) (f3 : fixE L2 e2 (8 : Nat) = e3) (hM : beN (fixO L2 e2 (8 : Nat)) = M) (hw : wholeE L3 e3 = 0) (hm : mayC k 0 N M = true) (hc : c = 0) :
    Calls Try.prog 43 #[.string (strL L)] w fun x w' => x = .returned (.tuple #[chV k 0 N M, .int .i64 c]) ∧ Bl w w' := by
  have hnil := strL_ne hL
  have len1 : L1.length ≤ 10000 := by rw [← h1]; have := fixL_length L 0 (1 : Nat); omega
  have R1 := Lib.hid (fun w' h => r_u8 (w.heap.size + 1) L 0 w' (by omega) h)
  have len2 : L2.length ≤ 10000 := by rw [← h2]; have := fixL_length L1 e1 (1 : Nat); omega
  have R2 := Lib.hid (fun w' h => r_u8 (w.heap.size + 1) L1 e1 w' (by omega) h)
  have R3 := Lib.hid (fun w' h => r_u64 (w.heap.size + 1) L2 e2 w' (by omega) h)
  unfold GetP at R1 R2 R3
  rw [hk, h1, f1] at R1
  rw [hN, h2, f2] at R2
  rw [hM, h3, f3] at R3
  have WH := Lib.hid (fun w' h => whole_any (w.heap.size + 1) L3 e3 w' h)
  rw [hw] at WH
  have RD0 := Lib.hid (tc_rd L w)
  have hne : w.heap.size + 1 ≠ w.heap.size := by omega
  have CH := Lib.hid (fun w' => may_any k 0 N M w')
  unfold MayP at CH
  rw [hm] at CH
  clear hm
  subst hc
  have g1 : ((k : Int) == 1) = false := by rw [beq_eq_false_iff_ne]; omega
  have g2 : ((k : Int) == 2) = false := by rw [beq_eq_false_iff_ne]; omega
  have g3 : ((k : Int) == 3) = true := by rw [beq_iff_eq]; omega
  have g4 : ((k : Int) == 4) = false := by rw [beq_eq_false_iff_ne]; omega
  clear hL hl hk h1 f1 h2 f2 hN hw len1 h3 f3 hM len2 hkk
  go_enter Try.func43, Try.ntmps43
  go_wp2_with (first
    | (go_at_call 71; refine (CH.out _).mono ?_; rintro e w7 ⟨rfl, h7⟩; have T7 := Lib.hid (T5.out.bl h7); clear h7; clear z0 z1 z2 z3 zf0 zf1 zf2 zf3 y0 y1 y2 y3; obtain ⟨z0, z1, z2, z3, zf0, zf1, zf2, zf3⟩ := four_cells T7.out.z; obtain ⟨y0, y1, y2, y3, _, _, _, _⟩ := four_cells T7.out.c)
    | (go_at_call 74; refine (WH.out _ (rd_set (rd_set W3.out.1 (by have := T4.out.ne; omega) _ _) (by have := T4.out.ne; omega) _ _)).mono ?_; rintro e w6 ⟨rfl, rfl⟩; have T5 := Lib.hid ((T4.out.setO (m := N)).setY (m := M)); clear x0 x1 x2 x3 g0 g1 g2 g3; obtain ⟨z0, z1, z2, z3, zf0, zf1, zf2, zf3⟩ := four_cells T5.out.z; obtain ⟨y0, y1, y2, y3, _, _, _, _⟩ := four_cells T5.out.c)
    | (go_at_call 35; refine (R3.out _ W2.out.1).mono ?_; rintro e w4 ⟨rfl, h⟩; have W3 := Lib.hid h; have T4 := Lib.hid (TC.only T3.out h.2); obtain ⟨x0, x1, x2, x3, g0, g1, g2, g3⟩ := four_cells T4.out.c; clear h)
    | (go_at_call 31; have := W1; refine (R2.out _ (rd_alloc W1.out.1 _)).mono ?_; rintro e w3 ⟨rfl, h⟩; have W2 := Lib.hid h; have T3 := Lib.hid (TC.only (TC.new (k := k) W1.out.2) h.2); clear h)
    | (go_at_call 31; refine (R1.out _ RD0.out).mono ?_; rintro e w2 ⟨rfl, h⟩; have W1 := Lib.hid h; clear h)
    | (go_at_call 19; refine (r_new _ _).mono ?_; rintro e w1 ⟨rfl, rfl⟩))
  refine bodyPost_ret (v := .tuple #[.agg #[.int .u8 k, .int .u64 0, .int .u8 N, .int .u64 M], .int .i64 0]) (by simp [results, Try.results43, go_sem, *]) rfl ⟨rfl, ?_⟩
  have B1 := T7.out.b
  exact (((B1.setCell (Nat.le_refl _) _).setCell (Nat.le_refl _) _).setCell (Nat.le_refl _) _).setCell (Nat.le_refl _) _

end Go.Proofs.Ytniblmpihnhglaa

/- Walks of layer 7: TakeChange of the reference. Printed by gen_e13.py. -/
namespace Go.Proofs.Ytniblmpihnhglaa
open Go.RowKit
set_option linter.unusedVariables false

abbrev Z77 : Obj := .cells #[.int .u8 0, .int .u64 0, .int .u8 0, .int .u64 0] 77
abbrev T3 : Obj := .cells #[.int .i64 0, .int .i64 5, .int .i64 5, .int .i64 10, .int .i64 9] 3
abbrev V77 (k n op y : Int) : Obj := .cells #[.int .u8 k, .int .u64 n, .int .u8 op, .int .u64 y] 77
theorem rc_blocks {w w1 : World} {k n op y : Int} (h : Bl (((w.alloc Z77).alloc T3).alloc (V77 k n op y)) w1) :
    w1.heap[w.heap.size]? = some (.cells #[.int .u8 0, .int .u64 0, .int .u8 0, .int .u64 0] 77 (0, 0)) ∧ w1.heap[w.heap.size + 2]? = some (.cells #[.int .u8 k, .int .u64 n, .int .u8 op, .int .u64 y] 77 (0, 0)) := by
  have z1 : ((w.alloc Z77).alloc T3).heap.size = w.heap.size + 2 := by show ((w.heap.push _).push _).size = _; rw [Array.size_push, Array.size_push]
  have z2 : (((w.alloc Z77).alloc T3).alloc (V77 k n op y)).heap.size = w.heap.size + 3 := by show (((w.heap.push _).push _).push _).size = _; rw [Array.size_push, Array.size_push, Array.size_push]
  have z0 : (w.alloc Z77).heap.size = w.heap.size + 1 := Array.size_push ..
  refine ⟨?_, ?_⟩
  · rw [h.block _ (by omega), Below.heap_alloc _ _ _ (by omega), Below.heap_alloc _ _ _ (by omega)]
    exact heap_alloc_new _ _
  · rw [h.block _ (by omega), ← z1]
    exact heap_alloc_new _ _
theorem rc_set {w W : World} (h : Bl w W) (j : Nat) (u : Value) : Bl w (W.setCell ⟨w.heap.size, j, none⟩ u) := h.setCell (Nat.le_refl _) u

set_option maxRecDepth 100000 in
set_option maxHeartbeats 1600000 in
theorem rctake_none (w : World) : Calls Try.prog 44 #[.string (strL [])] w fun x w' => x = .returned (.tuple #[chV 0 0 0 0, .int .i64 10]) ∧ Bl w w' := by
  have hnil : (strL []).toList = [] := by kernel_rfl
  go_enter Try.func44, Try.ntmps44
  go_wp2_with fail
  refine bodyPost_ret (v := .tuple #[.agg #[.int .u8 0, .int .u64 0, .int .u8 0, .int .u64 0], .int .i64 10]) (by simp [results, Try.results44, go_sem, *]) rfl ⟨rfl, ?_⟩
  exact (Bl.refl w).alloc _

set_option maxRecDepth 100000 in
set_option maxHeartbeats 1600000 in
theorem rctake_kind (L : List UInt8) (y : UInt8) (w : World) (hy : L[0]? = some y) (hl : L.length ≤ 10000) (hne : y.toNat = 0 ∨ 4 < y.toNat) :
    Calls Try.prog 44 #[.string (strL L)] w fun x w' => x = .returned (.tuple #[chV 0 0 0 0, .int .i64 4]) ∧ Bl w w' := by
  have hL : 0 < L.length := (List.getElem?_eq_some_iff.1 hy).1
  have hnil := strL_ne (L := L) (by rintro rfl; simp at hL)
  have hsz := strL_size L
  have hget : ∀ h, (strL L)[0]'h = y := fun h => strL_get L 0 y hy h
  clear hy
  rcases hne with h | h
  · have a1 : decide ((y.toNat : Int) < 1) = true := decide_eq_true (by omega)
    clear h
    go_enter Try.func44, Try.ntmps44
    go_wp2_with fail
    refine bodyPost_ret (v := .tuple #[.agg #[.int .u8 0, .int .u64 0, .int .u8 0, .int .u64 0], .int .i64 4]) (by simp [results, Try.results44, go_sem, *]) rfl ⟨rfl, ?_⟩
    exact (Bl.refl w).alloc _
  · have a1 : decide ((y.toNat : Int) < 1) = false := decide_eq_false (by omega)
    have a2 : decide ((4 : Int) < (y.toNat : Int)) = true := decide_eq_true (by omega)
    clear h
    go_enter Try.func44, Try.ntmps44
    go_wp2_with fail
    refine bodyPost_ret (v := .tuple #[.agg #[.int .u8 0, .int .u64 0, .int .u8 0, .int .u64 0], .int .i64 4]) (by simp [results, Try.results44, go_sem, *]) rfl ⟨rfl, ?_⟩
    exact (Bl.refl w).alloc _

set_option maxRecDepth 100000 in
set_option maxHeartbeats 1600000 in
theorem rctake_less1 (L : List UInt8) (y : UInt8) (w : World) (hy : L[0]? = some y) (hl : L.length ≤ 10000) (hk : y.toNat = 1) (h : L.length < 5) :
    Calls Try.prog 44 #[.string (strL L)] w fun x w' => x = .returned (.tuple #[chV 0 0 0 0, .int .i64 10]) ∧ Bl w w' := by
  have hL : 0 < L.length := (List.getElem?_eq_some_iff.1 hy).1
  have hnil := strL_ne (L := L) (by rintro rfl; simp at hL)
  have hsz := strL_size L
  have hget : ∀ h, (strL L)[0]'h = y := fun h => strL_get L 0 y hy h
  have hky : (y.toNat : Int) = 1 := by omega
  have b1 : decide ((L.length : Int) < 5) = true := decide_eq_true (by omega)
  clear hy hk h
  go_enter Try.func44, Try.ntmps44
  go_wp2_with fail
  refine bodyPost_ret (v := .tuple #[.agg #[.int .u8 0, .int .u64 0, .int .u8 0, .int .u64 0], .int .i64 10]) (by simp [results, Try.results44, go_sem, *]) rfl ⟨rfl, ?_⟩
  exact ((Bl.refl w).alloc _).alloc _

set_option maxRecDepth 100000 in
set_option maxHeartbeats 1600000 in
theorem rctake_more1 (L : List UInt8) (y : UInt8) (w : World) (hy : L[0]? = some y) (hl : L.length ≤ 10000) (hk : y.toNat = 1) (h : 5 < L.length) :
    Calls Try.prog 44 #[.string (strL L)] w fun x w' => x = .returned (.tuple #[chV 0 0 0 0, .int .i64 4]) ∧ Bl w w' := by
  have hL : 0 < L.length := (List.getElem?_eq_some_iff.1 hy).1
  have hnil := strL_ne (L := L) (by rintro rfl; simp at hL)
  have hsz := strL_size L
  have hget : ∀ h, (strL L)[0]'h = y := fun h => strL_get L 0 y hy h
  have hky : (y.toNat : Int) = 1 := by omega
  have b1 : decide ((L.length : Int) < 5) = false := decide_eq_false (by omega)
  have b2 : decide ((5 : Int) < (L.length : Int)) = true := decide_eq_true (by omega)
  clear hy hk h
  go_enter Try.func44, Try.ntmps44
  go_wp2_with fail
  refine bodyPost_ret (v := .tuple #[.agg #[.int .u8 0, .int .u64 0, .int .u8 0, .int .u64 0], .int .i64 4]) (by simp [results, Try.results44, go_sem, *]) rfl ⟨rfl, ?_⟩
  exact ((Bl.refl w).alloc _).alloc _

set_option maxRecDepth 100000 in
set_option maxHeartbeats 1600000 in
theorem rctake_bad1 (L : List UInt8) (y : UInt8) (w : World) (hy : L[0]? = some y) (hl : L.length ≤ 10000) (hk : y.toNat = 1) (h : L.length = 5) (N : Nat) (hN : beN ((L.drop 1).take 4) = N) (hm : mayC 1 N 0 0 = false) :
    Calls Try.prog 44 #[.string (strL L)] w fun x w' => x = .returned (.tuple #[chV 0 0 0 0, .int .i64 4]) ∧ Bl w w' := by
  have hL : 0 < L.length := (List.getElem?_eq_some_iff.1 hy).1
  have hnil := strL_ne (L := L) (by rintro rfl; simp at hL)
  have hsz := strL_size L
  have hget : ∀ h, (strL L)[0]'h = y := fun h => strL_get L 0 y hy h
  have hky : (y.toNat : Int) = 1 := by omega
  have b1 : decide ((L.length : Int) < 5) = false := decide_eq_false (by omega)
  have b2 : decide ((5 : Int) < (L.length : Int)) = false := decide_eq_false (by omega)
  have i1 : 1 < L.length := by omega
  have N1 : Hid (∀ w, Calls Try.prog 75 #[.string (strL L), .int .i64 1, .int .i64 5] w fun x w' => x = .returned (.int .u64 (N : Int)) ∧ w = w') := Lib.hid (fun w => by
    have := rnum_any L _ 1 5 w rfl (by omega) (by omega) (by omega) hl
    rw [show beN ((L.drop 1).take (5 - 1)) = N from hN] at this; exact this)
  have CH : Hid (∀ w, Calls Try.prog 72 #[.agg #[.int .u8 1, .int .u64 N, .int .u8 0, .int .u64 0]] w fun x w' => x = .returned (.bool false) ∧ Bl w w') := Lib.hid (fun w => by
    have := rmayc_any 1 N 0 0 w
    unfold MayP at this
    rw [hm] at this
    exact this)
  clear hy hk h hm
  go_enter Try.func44, Try.ntmps44
  go_wp2_with (first
    | (go_at_call 72; refine (CH.out _).mono ?_; rintro e w7 ⟨rfl, h7⟩; have T7 := Lib.hid (rc_blocks (k := 1) (n := N) (op := 0) (y := 0) h7); have B7 := Lib.hid h7; clear h7; obtain ⟨z0, z1, z2, z3, zf0, zf1, zf2, zf3⟩ := four_cells T7.out.1; obtain ⟨y0, y1, y2, y3, _, _, _, _⟩ := four_cells T7.out.2)
    | (go_at_call 75; refine (N1.out _).mono ?_; rintro e w' ⟨rfl, rfl⟩))
  refine bodyPost_ret (v := .tuple #[.agg #[.int .u8 0, .int .u64 0, .int .u8 0, .int .u64 0], .int .i64 4]) (by simp [results, Try.results44, go_sem, *]) rfl ⟨rfl, ?_⟩
  exact rc_set (rc_set (rc_set (rc_set (((((Bl.refl w).alloc _).alloc _).alloc _).trans B7.out) _ _) _ _) _ _) _ _

set_option maxRecDepth 100000 in
set_option maxHeartbeats 1600000 in
theorem rctake_good1 (L : List UInt8) (y : UInt8) (w : World) (hy : L[0]? = some y) (hl : L.length ≤ 10000) (hk : y.toNat = 1) (h : L.length = 5) (N : Nat) (hN : beN ((L.drop 1).take 4) = N) (hm : mayC 1 N 0 0 = true) :
    Calls Try.prog 44 #[.string (strL L)] w fun x w' => x = .returned (.tuple #[chV 1 N 0 0, .int .i64 0]) ∧ Bl w w' := by
  have hL : 0 < L.length := (List.getElem?_eq_some_iff.1 hy).1
  have hnil := strL_ne (L := L) (by rintro rfl; simp at hL)
  have hsz := strL_size L
  have hget : ∀ h, (strL L)[0]'h = y := fun h => strL_get L 0 y hy h
  have hky : (y.toNat : Int) = 1 := by omega
  have b1 : decide ((L.length : Int) < 5) = false := decide_eq_false (by omega)
  have b2 : decide ((5 : Int) < (L.length : Int)) = false := decide_eq_false (by omega)
  have i1 : 1 < L.length := by omega
  have N1 : Hid (∀ w, Calls Try.prog 75 #[.string (strL L), .int .i64 1, .int .i64 5] w fun x w' => x = .returned (.int .u64 (N : Int)) ∧ w = w') := Lib.hid (fun w => by
    have := rnum_any L _ 1 5 w rfl (by omega) (by omega) (by omega) hl
    rw [show beN ((L.drop 1).take (5 - 1)) = N from hN] at this; exact this)
  have CH : Hid (∀ w, Calls Try.prog 72 #[.agg #[.int .u8 1, .int .u64 N, .int .u8 0, .int .u64 0]] w fun x w' => x = .returned (.bool true) ∧ Bl w w') := Lib.hid (fun w => by
    have := rmayc_any 1 N 0 0 w
    unfold MayP at this
    rw [hm] at this
    exact this)
  clear hy hk h hm
  go_enter Try.func44, Try.ntmps44
  go_wp2_with (first
    | (go_at_call 72; refine (CH.out _).mono ?_; rintro e w7 ⟨rfl, h7⟩; have T7 := Lib.hid (rc_blocks (k := 1) (n := N) (op := 0) (y := 0) h7); have B7 := Lib.hid h7; clear h7; obtain ⟨z0, z1, z2, z3, zf0, zf1, zf2, zf3⟩ := four_cells T7.out.1; obtain ⟨y0, y1, y2, y3, _, _, _, _⟩ := four_cells T7.out.2)
    | (go_at_call 75; refine (N1.out _).mono ?_; rintro e w' ⟨rfl, rfl⟩))
  refine bodyPost_ret (v := .tuple #[.agg #[.int .u8 1, .int .u64 N, .int .u8 0, .int .u64 0], .int .i64 0]) (by simp [results, Try.results44, go_sem, *]) rfl ⟨rfl, ?_⟩
  exact rc_set (rc_set (rc_set (rc_set (((((Bl.refl w).alloc _).alloc _).alloc _).trans B7.out) _ _) _ _) _ _) _ _

set_option maxRecDepth 100000 in
set_option maxHeartbeats 1600000 in
theorem rctake_less2 (L : List UInt8) (y : UInt8) (w : World) (hy : L[0]? = some y) (hl : L.length ≤ 10000) (hk : y.toNat = 2) (h : L.length < 5) :
    Calls Try.prog 44 #[.string (strL L)] w fun x w' => x = .returned (.tuple #[chV 0 0 0 0, .int .i64 10]) ∧ Bl w w' := by
  have hL : 0 < L.length := (List.getElem?_eq_some_iff.1 hy).1
  have hnil := strL_ne (L := L) (by rintro rfl; simp at hL)
  have hsz := strL_size L
  have hget : ∀ h, (strL L)[0]'h = y := fun h => strL_get L 0 y hy h
  have hky : (y.toNat : Int) = 2 := by omega
  have b1 : decide ((L.length : Int) < 5) = true := decide_eq_true (by omega)
  clear hy hk h
  go_enter Try.func44, Try.ntmps44
  go_wp2_with fail
  refine bodyPost_ret (v := .tuple #[.agg #[.int .u8 0, .int .u64 0, .int .u8 0, .int .u64 0], .int .i64 10]) (by simp [results, Try.results44, go_sem, *]) rfl ⟨rfl, ?_⟩
  exact ((Bl.refl w).alloc _).alloc _

set_option maxRecDepth 100000 in
set_option maxHeartbeats 1600000 in
theorem rctake_more2 (L : List UInt8) (y : UInt8) (w : World) (hy : L[0]? = some y) (hl : L.length ≤ 10000) (hk : y.toNat = 2) (h : 5 < L.length) :
    Calls Try.prog 44 #[.string (strL L)] w fun x w' => x = .returned (.tuple #[chV 0 0 0 0, .int .i64 4]) ∧ Bl w w' := by
  have hL : 0 < L.length := (List.getElem?_eq_some_iff.1 hy).1
  have hnil := strL_ne (L := L) (by rintro rfl; simp at hL)
  have hsz := strL_size L
  have hget : ∀ h, (strL L)[0]'h = y := fun h => strL_get L 0 y hy h
  have hky : (y.toNat : Int) = 2 := by omega
  have b1 : decide ((L.length : Int) < 5) = false := decide_eq_false (by omega)
  have b2 : decide ((5 : Int) < (L.length : Int)) = true := decide_eq_true (by omega)
  clear hy hk h
  go_enter Try.func44, Try.ntmps44
  go_wp2_with fail
  refine bodyPost_ret (v := .tuple #[.agg #[.int .u8 0, .int .u64 0, .int .u8 0, .int .u64 0], .int .i64 4]) (by simp [results, Try.results44, go_sem, *]) rfl ⟨rfl, ?_⟩
  exact ((Bl.refl w).alloc _).alloc _

set_option maxRecDepth 100000 in
set_option maxHeartbeats 1600000 in
theorem rctake_bad2 (L : List UInt8) (y : UInt8) (w : World) (hy : L[0]? = some y) (hl : L.length ≤ 10000) (hk : y.toNat = 2) (h : L.length = 5) (N : Nat) (hN : beN ((L.drop 1).take 4) = N) (hm : mayC 2 N 0 0 = false) :
    Calls Try.prog 44 #[.string (strL L)] w fun x w' => x = .returned (.tuple #[chV 0 0 0 0, .int .i64 4]) ∧ Bl w w' := by
  have hL : 0 < L.length := (List.getElem?_eq_some_iff.1 hy).1
  have hnil := strL_ne (L := L) (by rintro rfl; simp at hL)
  have hsz := strL_size L
  have hget : ∀ h, (strL L)[0]'h = y := fun h => strL_get L 0 y hy h
  have hky : (y.toNat : Int) = 2 := by omega
  have b1 : decide ((L.length : Int) < 5) = false := decide_eq_false (by omega)
  have b2 : decide ((5 : Int) < (L.length : Int)) = false := decide_eq_false (by omega)
  have i1 : 1 < L.length := by omega
  have N1 : Hid (∀ w, Calls Try.prog 75 #[.string (strL L), .int .i64 1, .int .i64 5] w fun x w' => x = .returned (.int .u64 (N : Int)) ∧ w = w') := Lib.hid (fun w => by
    have := rnum_any L _ 1 5 w rfl (by omega) (by omega) (by omega) hl
    rw [show beN ((L.drop 1).take (5 - 1)) = N from hN] at this; exact this)
  have CH : Hid (∀ w, Calls Try.prog 72 #[.agg #[.int .u8 2, .int .u64 N, .int .u8 0, .int .u64 0]] w fun x w' => x = .returned (.bool false) ∧ Bl w w') := Lib.hid (fun w => by
    have := rmayc_any 2 N 0 0 w
    unfold MayP at this
    rw [hm] at this
    exact this)
  clear hy hk h hm
  go_enter Try.func44, Try.ntmps44
  go_wp2_with (first
    | (go_at_call 72; refine (CH.out _).mono ?_; rintro e w7 ⟨rfl, h7⟩; have T7 := Lib.hid (rc_blocks (k := 2) (n := N) (op := 0) (y := 0) h7); have B7 := Lib.hid h7; clear h7; obtain ⟨z0, z1, z2, z3, zf0, zf1, zf2, zf3⟩ := four_cells T7.out.1; obtain ⟨y0, y1, y2, y3, _, _, _, _⟩ := four_cells T7.out.2)
    | (go_at_call 75; refine (N1.out _).mono ?_; rintro e w' ⟨rfl, rfl⟩))
  refine bodyPost_ret (v := .tuple #[.agg #[.int .u8 0, .int .u64 0, .int .u8 0, .int .u64 0], .int .i64 4]) (by simp [results, Try.results44, go_sem, *]) rfl ⟨rfl, ?_⟩
  exact rc_set (rc_set (rc_set (rc_set (((((Bl.refl w).alloc _).alloc _).alloc _).trans B7.out) _ _) _ _) _ _) _ _

set_option maxRecDepth 100000 in
set_option maxHeartbeats 1600000 in
theorem rctake_good2 (L : List UInt8) (y : UInt8) (w : World) (hy : L[0]? = some y) (hl : L.length ≤ 10000) (hk : y.toNat = 2) (h : L.length = 5) (N : Nat) (hN : beN ((L.drop 1).take 4) = N) (hm : mayC 2 N 0 0 = true) :
    Calls Try.prog 44 #[.string (strL L)] w fun x w' => x = .returned (.tuple #[chV 2 N 0 0, .int .i64 0]) ∧ Bl w w' := by
  have hL : 0 < L.length := (List.getElem?_eq_some_iff.1 hy).1
  have hnil := strL_ne (L := L) (by rintro rfl; simp at hL)
  have hsz := strL_size L
  have hget : ∀ h, (strL L)[0]'h = y := fun h => strL_get L 0 y hy h
  have hky : (y.toNat : Int) = 2 := by omega
  have b1 : decide ((L.length : Int) < 5) = false := decide_eq_false (by omega)
  have b2 : decide ((5 : Int) < (L.length : Int)) = false := decide_eq_false (by omega)
  have i1 : 1 < L.length := by omega
  have N1 : Hid (∀ w, Calls Try.prog 75 #[.string (strL L), .int .i64 1, .int .i64 5] w fun x w' => x = .returned (.int .u64 (N : Int)) ∧ w = w') := Lib.hid (fun w => by
    have := rnum_any L _ 1 5 w rfl (by omega) (by omega) (by omega) hl
    rw [show beN ((L.drop 1).take (5 - 1)) = N from hN] at this; exact this)
  have CH : Hid (∀ w, Calls Try.prog 72 #[.agg #[.int .u8 2, .int .u64 N, .int .u8 0, .int .u64 0]] w fun x w' => x = .returned (.bool true) ∧ Bl w w') := Lib.hid (fun w => by
    have := rmayc_any 2 N 0 0 w
    unfold MayP at this
    rw [hm] at this
    exact this)
  clear hy hk h hm
  go_enter Try.func44, Try.ntmps44
  go_wp2_with (first
    | (go_at_call 72; refine (CH.out _).mono ?_; rintro e w7 ⟨rfl, h7⟩; have T7 := Lib.hid (rc_blocks (k := 2) (n := N) (op := 0) (y := 0) h7); have B7 := Lib.hid h7; clear h7; obtain ⟨z0, z1, z2, z3, zf0, zf1, zf2, zf3⟩ := four_cells T7.out.1; obtain ⟨y0, y1, y2, y3, _, _, _, _⟩ := four_cells T7.out.2)
    | (go_at_call 75; refine (N1.out _).mono ?_; rintro e w' ⟨rfl, rfl⟩))
  refine bodyPost_ret (v := .tuple #[.agg #[.int .u8 2, .int .u64 N, .int .u8 0, .int .u64 0], .int .i64 0]) (by simp [results, Try.results44, go_sem, *]) rfl ⟨rfl, ?_⟩
  exact rc_set (rc_set (rc_set (rc_set (((((Bl.refl w).alloc _).alloc _).alloc _).trans B7.out) _ _) _ _) _ _) _ _

set_option maxRecDepth 100000 in
set_option maxHeartbeats 1600000 in
theorem rctake_less3 (L : List UInt8) (y : UInt8) (w : World) (hy : L[0]? = some y) (hl : L.length ≤ 10000) (hk : y.toNat = 3) (h : L.length < 10) :
    Calls Try.prog 44 #[.string (strL L)] w fun x w' => x = .returned (.tuple #[chV 0 0 0 0, .int .i64 10]) ∧ Bl w w' := by
  have hL : 0 < L.length := (List.getElem?_eq_some_iff.1 hy).1
  have hnil := strL_ne (L := L) (by rintro rfl; simp at hL)
  have hsz := strL_size L
  have hget : ∀ h, (strL L)[0]'h = y := fun h => strL_get L 0 y hy h
  have hky : (y.toNat : Int) = 3 := by omega
  have b1 : decide ((L.length : Int) < 10) = true := decide_eq_true (by omega)
  clear hy hk h
  go_enter Try.func44, Try.ntmps44
  go_wp2_with fail
  refine bodyPost_ret (v := .tuple #[.agg #[.int .u8 0, .int .u64 0, .int .u8 0, .int .u64 0], .int .i64 10]) (by simp [results, Try.results44, go_sem, *]) rfl ⟨rfl, ?_⟩
  exact ((Bl.refl w).alloc _).alloc _

set_option maxRecDepth 100000 in
set_option maxHeartbeats 1600000 in
theorem rctake_more3 (L : List UInt8) (y : UInt8) (w : World) (hy : L[0]? = some y) (hl : L.length ≤ 10000) (hk : y.toNat = 3) (h : 10 < L.length) :
    Calls Try.prog 44 #[.string (strL L)] w fun x w' => x = .returned (.tuple #[chV 0 0 0 0, .int .i64 4]) ∧ Bl w w' := by
  have hL : 0 < L.length := (List.getElem?_eq_some_iff.1 hy).1
  have hnil := strL_ne (L := L) (by rintro rfl; simp at hL)
  have hsz := strL_size L
  have hget : ∀ h, (strL L)[0]'h = y := fun h => strL_get L 0 y hy h
  have hky : (y.toNat : Int) = 3 := by omega
  have b1 : decide ((L.length : Int) < 10) = false := decide_eq_false (by omega)
  have b2 : decide ((10 : Int) < (L.length : Int)) = true := decide_eq_true (by omega)
  clear hy hk h
  go_enter Try.func44, Try.ntmps44
  go_wp2_with fail
  refine bodyPost_ret (v := .tuple #[.agg #[.int .u8 0, .int .u64 0, .int .u8 0, .int .u64 0], .int .i64 4]) (by simp [results, Try.results44, go_sem, *]) rfl ⟨rfl, ?_⟩
  exact ((Bl.refl w).alloc _).alloc _

set_option maxRecDepth 100000 in
set_option maxHeartbeats 1600000 in
theorem rctake_bad3 (L : List UInt8) (y : UInt8) (w : World) (hy : L[0]? = some y) (hl : L.length ≤ 10000) (hk : y.toNat = 3) (h : L.length = 10) (z : UInt8) (M : Nat) (hz : L[1]? = some z) (hM : beN ((L.drop 2).take 8) = M) (hm : mayC 3 0 z.toNat M = false) :
    Calls Try.prog 44 #[.string (strL L)] w fun x w' => x = .returned (.tuple #[chV 0 0 0 0, .int .i64 4]) ∧ Bl w w' := by
  have hL : 0 < L.length := (List.getElem?_eq_some_iff.1 hy).1
  have hnil := strL_ne (L := L) (by rintro rfl; simp at hL)
  have hsz := strL_size L
  have hget : ∀ h, (strL L)[0]'h = y := fun h => strL_get L 0 y hy h
  have hky : (y.toNat : Int) = 3 := by omega
  have b1 : decide ((L.length : Int) < 10) = false := decide_eq_false (by omega)
  have b2 : decide ((10 : Int) < (L.length : Int)) = false := decide_eq_false (by omega)
  have i1 : 1 < L.length := by omega
  have N1 : Hid (∀ w, Calls Try.prog 75 #[.string (strL L), .int .i64 2, .int .i64 10] w fun x w' => x = .returned (.int .u64 (M : Int)) ∧ w = w') := Lib.hid (fun w => by
    have := rnum_any L _ 2 10 w rfl (by omega) (by omega) (by omega) hl
    rw [show beN ((L.drop 2).take (10 - 2)) = M from hM] at this; exact this)
  have hget1 : ∀ h, (strL L)[1]'h = z := fun h => strL_get L 1 z hz h
  have CH : Hid (∀ w, Calls Try.prog 72 #[.agg #[.int .u8 3, .int .u64 0, .int .u8 z.toNat, .int .u64 M]] w fun x w' => x = .returned (.bool false) ∧ Bl w w') := Lib.hid (fun w => by
    have := rmayc_any 3 0 z.toNat M w
    unfold MayP at this
    rw [hm] at this
    exact this)
  clear hy hk h hm
  go_enter Try.func44, Try.ntmps44
  go_wp2_with (first
    | (go_at_call 72; refine (CH.out _).mono ?_; rintro e w7 ⟨rfl, h7⟩; have T7 := Lib.hid (rc_blocks (k := 3) (n := 0) (op := z.toNat) (y := M) h7); have B7 := Lib.hid h7; clear h7; obtain ⟨z0, z1, z2, z3, zf0, zf1, zf2, zf3⟩ := four_cells T7.out.1; obtain ⟨y0, y1, y2, y3, _, _, _, _⟩ := four_cells T7.out.2)
    | (go_at_call 75; refine (N1.out _).mono ?_; rintro e w' ⟨rfl, rfl⟩))
  refine bodyPost_ret (v := .tuple #[.agg #[.int .u8 0, .int .u64 0, .int .u8 0, .int .u64 0], .int .i64 4]) (by simp [results, Try.results44, go_sem, *]) rfl ⟨rfl, ?_⟩
  exact rc_set (rc_set (rc_set (rc_set (((((Bl.refl w).alloc _).alloc _).alloc _).trans B7.out) _ _) _ _) _ _) _ _

set_option maxRecDepth 100000 in
set_option maxHeartbeats 1600000 in
theorem rctake_good3 (L : List UInt8) (y : UInt8) (w : World) (hy : L[0]? = some y) (hl : L.length ≤ 10000) (hk : y.toNat = 3) (h : L.length = 10) (z : UInt8) (M : Nat) (hz : L[1]? = some z) (hM : beN ((L.drop 2).take 8) = M) (hm : mayC 3 0 z.toNat M = true) :
    Calls Try.prog 44 #[.string (strL L)] w fun x w' => x = .returned (.tuple #[chV 3 0 z.toNat M, .int .i64 0]) ∧ Bl w w' := by
  have hL : 0 < L.length := (List.getElem?_eq_some_iff.1 hy).1
  have hnil := strL_ne (L := L) (by rintro rfl; simp at hL)
  have hsz := strL_size L
  have hget : ∀ h, (strL L)[0]'h = y := fun h => strL_get L 0 y hy h
  have hky : (y.toNat : Int) = 3 := by omega
  have b1 : decide ((L.length : Int) < 10) = false := decide_eq_false (by omega)
  have b2 : decide ((10 : Int) < (L.length : Int)) = false := decide_eq_false (by omega)
  have i1 : 1 < L.length := by omega
  have N1 : Hid (∀ w, Calls Try.prog 75 #[.string (strL L), .int .i64 2, .int .i64 10] w fun x w' => x = .returned (.int .u64 (M : Int)) ∧ w = w') := Lib.hid (fun w => by
    have := rnum_any L _ 2 10 w rfl (by omega) (by omega) (by omega) hl
    rw [show beN ((L.drop 2).take (10 - 2)) = M from hM] at this; exact this)
  have hget1 : ∀ h, (strL L)[1]'h = z := fun h => strL_get L 1 z hz h
  have CH : Hid (∀ w, Calls Try.prog 72 #[.agg #[.int .u8 3, .int .u64 0, .int .u8 z.toNat, .int .u64 M]] w fun x w' => x = .returned (.bool true) ∧ Bl w w') := Lib.hid (fun w => by
    have := rmayc_any 3 0 z.toNat M w
    unfold MayP at this
    rw [hm] at this
    exact this)
  clear hy hk h hm
  go_enter Try.func44, Try.ntmps44
  go_wp2_with (first
    | (go_at_call 72; refine (CH.out _).mono ?_; rintro e w7 ⟨rfl, h7⟩; have T7 := Lib.hid (rc_blocks (k := 3) (n := 0) (op := z.toNat) (y := M) h7); have B7 := Lib.hid h7; clear h7; obtain ⟨z0, z1, z2, z3, zf0, zf1, zf2, zf3⟩ := four_cells T7.out.1; obtain ⟨y0, y1, y2, y3, _, _, _, _⟩ := four_cells T7.out.2)
    | (go_at_call 75; refine (N1.out _).mono ?_; rintro e w' ⟨rfl, rfl⟩))
  refine bodyPost_ret (v := .tuple #[.agg #[.int .u8 3, .int .u64 0, .int .u8 z.toNat, .int .u64 M], .int .i64 0]) (by simp [results, Try.results44, go_sem, *]) rfl ⟨rfl, ?_⟩
  exact rc_set (rc_set (rc_set (rc_set (((((Bl.refl w).alloc _).alloc _).alloc _).trans B7.out) _ _) _ _) _ _) _ _

set_option maxRecDepth 100000 in
set_option maxHeartbeats 1600000 in
theorem rctake_less4 (L : List UInt8) (y : UInt8) (w : World) (hy : L[0]? = some y) (hl : L.length ≤ 10000) (hk : y.toNat = 4) (h : L.length < 9) :
    Calls Try.prog 44 #[.string (strL L)] w fun x w' => x = .returned (.tuple #[chV 0 0 0 0, .int .i64 10]) ∧ Bl w w' := by
  have hL : 0 < L.length := (List.getElem?_eq_some_iff.1 hy).1
  have hnil := strL_ne (L := L) (by rintro rfl; simp at hL)
  have hsz := strL_size L
  have hget : ∀ h, (strL L)[0]'h = y := fun h => strL_get L 0 y hy h
  have hky : (y.toNat : Int) = 4 := by omega
  have b1 : decide ((L.length : Int) < 9) = true := decide_eq_true (by omega)
  clear hy hk h
  go_enter Try.func44, Try.ntmps44
  go_wp2_with fail
  refine bodyPost_ret (v := .tuple #[.agg #[.int .u8 0, .int .u64 0, .int .u8 0, .int .u64 0], .int .i64 10]) (by simp [results, Try.results44, go_sem, *]) rfl ⟨rfl, ?_⟩
  exact ((Bl.refl w).alloc _).alloc _

set_option maxRecDepth 100000 in
set_option maxHeartbeats 1600000 in
theorem rctake_more4 (L : List UInt8) (y : UInt8) (w : World) (hy : L[0]? = some y) (hl : L.length ≤ 10000) (hk : y.toNat = 4) (h : 9 < L.length) :
    Calls Try.prog 44 #[.string (strL L)] w fun x w' => x = .returned (.tuple #[chV 0 0 0 0, .int .i64 4]) ∧ Bl w w' := by
  have hL : 0 < L.length := (List.getElem?_eq_some_iff.1 hy).1
  have hnil := strL_ne (L := L) (by rintro rfl; simp at hL)
  have hsz := strL_size L
  have hget : ∀ h, (strL L)[0]'h = y := fun h => strL_get L 0 y hy h
  have hky : (y.toNat : Int) = 4 := by omega
  have b1 : decide ((L.length : Int) < 9) = false := decide_eq_false (by omega)
  have b2 : decide ((9 : Int) < (L.length : Int)) = true := decide_eq_true (by omega)
  clear hy hk h
  go_enter Try.func44, Try.ntmps44
  go_wp2_with fail
  refine bodyPost_ret (v := .tuple #[.agg #[.int .u8 0, .int .u64 0, .int .u8 0, .int .u64 0], .int .i64 4]) (by simp [results, Try.results44, go_sem, *]) rfl ⟨rfl, ?_⟩
  exact ((Bl.refl w).alloc _).alloc _

set_option maxRecDepth 100000 in
set_option maxHeartbeats 1600000 in
theorem rctake_bad4 (L : List UInt8) (y : UInt8) (w : World) (hy : L[0]? = some y) (hl : L.length ≤ 10000) (hk : y.toNat = 4) (h : L.length = 9) (N : Nat) (hN : beN ((L.drop 1).take 8) = N) (hm : mayC 4 N 0 0 = false) :
    Calls Try.prog 44 #[.string (strL L)] w fun x w' => x = .returned (.tuple #[chV 0 0 0 0, .int .i64 4]) ∧ Bl w w' := by
  have hL : 0 < L.length := (List.getElem?_eq_some_iff.1 hy).1
  have hnil := strL_ne (L := L) (by rintro rfl; simp at hL)
  have hsz := strL_size L
  have hget : ∀ h, (strL L)[0]'h = y := fun h => strL_get L 0 y hy h
  have hky : (y.toNat : Int) = 4 := by omega
  have b1 : decide ((L.length : Int) < 9) = false := decide_eq_false (by omega)
  have b2 : decide ((9 : Int) < (L.length : Int)) = false := decide_eq_false (by omega)
  have i1 : 1 < L.length := by omega
  have N1 : Hid (∀ w, Calls Try.prog 75 #[.string (strL L), .int .i64 1, .int .i64 9] w fun x w' => x = .returned (.int .u64 (N : Int)) ∧ w = w') := Lib.hid (fun w => by
    have := rnum_any L _ 1 9 w rfl (by omega) (by omega) (by omega) hl
    rw [show beN ((L.drop 1).take (9 - 1)) = N from hN] at this; exact this)
  have CH : Hid (∀ w, Calls Try.prog 72 #[.agg #[.int .u8 4, .int .u64 N, .int .u8 0, .int .u64 0]] w fun x w' => x = .returned (.bool false) ∧ Bl w w') := Lib.hid (fun w => by
    have := rmayc_any 4 N 0 0 w
    unfold MayP at this
    rw [hm] at this
    exact this)
  clear hy hk h hm
  go_enter Try.func44, Try.ntmps44
  go_wp2_with (first
    | (go_at_call 72; refine (CH.out _).mono ?_; rintro e w7 ⟨rfl, h7⟩; have T7 := Lib.hid (rc_blocks (k := 4) (n := N) (op := 0) (y := 0) h7); have B7 := Lib.hid h7; clear h7; obtain ⟨z0, z1, z2, z3, zf0, zf1, zf2, zf3⟩ := four_cells T7.out.1; obtain ⟨y0, y1, y2, y3, _, _, _, _⟩ := four_cells T7.out.2)
    | (go_at_call 75; refine (N1.out _).mono ?_; rintro e w' ⟨rfl, rfl⟩))
  refine bodyPost_ret (v := .tuple #[.agg #[.int .u8 0, .int .u64 0, .int .u8 0, .int .u64 0], .int .i64 4]) (by simp [results, Try.results44, go_sem, *]) rfl ⟨rfl, ?_⟩
  exact rc_set (rc_set (rc_set (rc_set (((((Bl.refl w).alloc _).alloc _).alloc _).trans B7.out) _ _) _ _) _ _) _ _

set_option maxRecDepth 100000 in
set_option maxHeartbeats 1600000 in
theorem rctake_good4 (L : List UInt8) (y : UInt8) (w : World) (hy : L[0]? = some y) (hl : L.length ≤ 10000) (hk : y.toNat = 4) (h : L.length = 9) (N : Nat) (hN : beN ((L.drop 1).take 8) = N) (hm : mayC 4 N 0 0 = true) :
    Calls Try.prog 44 #[.string (strL L)] w fun x w' => x = .returned (.tuple #[chV 4 N 0 0, .int .i64 0]) ∧ Bl w w' := by
  have hL : 0 < L.length := (List.getElem?_eq_some_iff.1 hy).1
  have hnil := strL_ne (L := L) (by rintro rfl; simp at hL)
  have hsz := strL_size L
  have hget : ∀ h, (strL L)[0]'h = y := fun h => strL_get L 0 y hy h
  have hky : (y.toNat : Int) = 4 := by omega
  have b1 : decide ((L.length : Int) < 9) = false := decide_eq_false (by omega)
  have b2 : decide ((9 : Int) < (L.length : Int)) = false := decide_eq_false (by omega)
  have i1 : 1 < L.length := by omega
  have N1 : Hid (∀ w, Calls Try.prog 75 #[.string (strL L), .int .i64 1, .int .i64 9] w fun x w' => x = .returned (.int .u64 (N : Int)) ∧ w = w') := Lib.hid (fun w => by
    have := rnum_any L _ 1 9 w rfl (by omega) (by omega) (by omega) hl
    rw [show beN ((L.drop 1).take (9 - 1)) = N from hN] at this; exact this)
  have CH : Hid (∀ w, Calls Try.prog 72 #[.agg #[.int .u8 4, .int .u64 N, .int .u8 0, .int .u64 0]] w fun x w' => x = .returned (.bool true) ∧ Bl w w') := Lib.hid (fun w => by
    have := rmayc_any 4 N 0 0 w
    unfold MayP at this
    rw [hm] at this
    exact this)
  clear hy hk h hm
  go_enter Try.func44, Try.ntmps44
  go_wp2_with (first
    | (go_at_call 72; refine (CH.out _).mono ?_; rintro e w7 ⟨rfl, h7⟩; have T7 := Lib.hid (rc_blocks (k := 4) (n := N) (op := 0) (y := 0) h7); have B7 := Lib.hid h7; clear h7; obtain ⟨z0, z1, z2, z3, zf0, zf1, zf2, zf3⟩ := four_cells T7.out.1; obtain ⟨y0, y1, y2, y3, _, _, _, _⟩ := four_cells T7.out.2)
    | (go_at_call 75; refine (N1.out _).mono ?_; rintro e w' ⟨rfl, rfl⟩))
  refine bodyPost_ret (v := .tuple #[.agg #[.int .u8 4, .int .u64 N, .int .u8 0, .int .u64 0], .int .i64 0]) (by simp [results, Try.results44, go_sem, *]) rfl ⟨rfl, ?_⟩
  exact rc_set (rc_set (rc_set (rc_set (((((Bl.refl w).alloc _).alloc _).alloc _).trans B7.out) _ _) _ _) _ _) _ _

end Go.Proofs.Ytniblmpihnhglaa

/- What TakeChange makes of any text, of both. -/
namespace Go.Proofs.Ytniblmpihnhglaa
open Go.RowKit
set_option linter.unusedVariables false

theorem ck_get {L : List UInt8} (h : L ≠ []) : ∃ y : UInt8, L[0]? = some y ∧ y.toNat = cK L := by
  cases L with
  | nil => exact absurd rfl h
  | cons a t => exact ⟨a, rfl, by simp [cK, beN]⟩
theorem cT_none : cTV [] = chV 0 0 0 0 ∧ cTE [] = 10 := ⟨rfl, rfl⟩
theorem cT_kind {L : List UInt8} (h : L ≠ []) (hk : cKind L = false) : cTV L = chV 0 0 0 0 ∧ cTE L = 4 := by
  have ho : cOK L = false := by unfold cOK; rw [hk]; simp
  unfold cTV cTE
  rw [ho, if_neg h, if_neg (show ¬ cKind L = true by rw [hk]; decide)]
  exact ⟨rfl, rfl⟩
theorem cT_less {L : List UInt8} (h : L ≠ []) (hk : cKind L = true) (hl : L.length < cLen (cK L)) : cTV L = chV 0 0 0 0 ∧ cTE L = 10 := by
  have ho : cOK L = false := by unfold cOK; rw [decide_eq_false (by omega : ¬ L.length = cLen (cK L))]; simp
  unfold cTV cTE
  rw [ho, if_neg h, if_pos hk, if_pos hl]
  exact ⟨rfl, rfl⟩
theorem cT_more {L : List UInt8} (h : L ≠ []) (hk : cKind L = true) (hl : cLen (cK L) < L.length) : cTV L = chV 0 0 0 0 ∧ cTE L = 4 := by
  have ho : cOK L = false := by unfold cOK; rw [decide_eq_false (by omega : ¬ L.length = cLen (cK L))]; simp
  unfold cTV cTE
  rw [ho, if_neg h, if_pos hk, if_neg (show ¬ L.length < cLen (cK L) by omega)]
  exact ⟨rfl, rfl⟩
theorem cT_bad {L : List UInt8} (h : L ≠ []) (hk : cKind L = true) (hl : L.length = cLen (cK L)) (hm : mayC (cK L) (cN L) (cO L) (cY L) = false) : cTV L = chV 0 0 0 0 ∧ cTE L = 4 := by
  have ho : cOK L = false := by unfold cOK; rw [hm]; simp
  unfold cTV cTE
  rw [ho, if_neg h, if_pos hk, if_neg (show ¬ L.length < cLen (cK L) by omega)]
  exact ⟨rfl, rfl⟩
theorem cT_good {L : List UInt8} (h : L ≠ []) (hk : cKind L = true) (hl : L.length = cLen (cK L)) (hm : mayC (cK L) (cN L) (cO L) (cY L) = true) : cTV L = chV (cK L) (cN L) (cO L) (cY L) ∧ cTE L = 0 := by
  have ho : cOK L = true := by
    unfold cOK
    rw [hm, hk, decide_eq_true hl]
    cases L with
    | nil => exact absurd rfl h
    | cons a t => rfl
  unfold cTV cTE
  rw [ho, if_neg h, if_pos hk, if_neg (show ¬ L.length < cLen (cK L) by omega)]
  exact ⟨rfl, rfl⟩
theorem whole_drop (L : List UInt8) (n : Nat) (h : n ≤ L.length) : wholeE (L.drop n) 0 = if L.length = n then 0 else 4 := by
  unfold wholeE
  rw [if_pos rfl]
  by_cases hn : L.length = n
  · rw [if_pos hn, if_pos (List.drop_of_length_le (by omega))]
  · rw [if_neg hn, if_neg (fun h => by have := congrArg List.length h; rw [List.length_drop] at this; simp at this; omega)]
theorem whole_ten (L : List UInt8) : wholeE L 10 = 10 := by unfold wholeE; rw [if_neg (by decide)]
theorem kinds_of {L : List UInt8} (h : cKind L = true) : cK L = 1 ∨ cK L = 2 ∨ cK L = 3 ∨ cK L = 4 := by
  unfold cKind at h
  rw [decide_eq_true_eq] at h
  omega

theorem ctake_any (L : List UInt8) (w : World) (hl : L.length ≤ 10000) : Calls Try.prog 43 #[.string (strL L)] w (CTakeP L w) := by
  unfold CTakeP
  by_cases hL : L = []
  · subst hL
    exact ctake_none w
  have h1 : 1 ≤ L.length := by
    cases L with
    | nil => exact absurd rfl hL
    | cons a t => simp
  obtain ⟨a1, a2, a3⟩ := fix_go L 1 (by omega) h1
  have hk : beN (fixO L 0 (1 : Nat)) = cK L := by rw [a1]; rfl
  cases hkd : cKind L with
  | false =>
    rw [(cT_kind hL hkd).1, (cT_kind hL hkd).2]
    have hn : cK L ≠ 1 ∧ cK L ≠ 2 ∧ cK L ≠ 3 ∧ cK L ≠ 4 := by
      unfold cKind at hkd
      rw [decide_eq_false_iff_not] at hkd
      omega
    exact ctake_kind L (L.drop 1) (cK L) 0 w hL hl hk a2 a3 hn
  | true =>
    by_cases h3 : cK L = 3
    · have hlen : cLen (cK L) = 10 := by rw [h3]; rfl
      by_cases hs : L.length < 10
      · rw [(cT_less hL hkd (by omega)).1, (cT_less hL hkd (by omega)).2]
        by_cases h2 : 2 ≤ L.length
        · obtain ⟨b1, b2, b3⟩ := fix_go (L.drop 1) 1 (by omega) (by rw [List.length_drop]; omega)
          rw [List.drop_drop] at b2
          have c3 := fix_less (L.drop (1 + 1)) 8 (by omega) (by rw [List.length_drop]; omega)
          exact ctake_mark_torn L _ _ _ (cK L) _ _ 0 0 10 10 w hL hl hk a2 a3 h3 b2 b3 rfl rfl c3 rfl (whole_ten _) (by decide)
        · have b3 := fix_less (L.drop 1) 1 (by omega) (by rw [List.length_drop]; omega)
          exact ctake_mark_torn L _ _ _ (cK L) _ _ 0 10 10 10 w hL hl hk a2 a3 h3 rfl b3 rfl rfl (fix_torn _ _) rfl (whole_ten _) (by decide)
      · obtain ⟨b1, b2, b3⟩ := fix_go (L.drop 1) 1 (by omega) (by rw [List.length_drop]; omega)
        rw [List.drop_drop] at b2
        obtain ⟨c1, c2, c3⟩ := fix_go (L.drop (1 + 1)) 8 (by omega) (by rw [List.length_drop]; omega)
        rw [List.drop_drop] at c2
        have hO : beN (fixO (L.drop 1) 0 (1 : Nat)) = cO L := by rw [b1]; unfold cO; rw [if_pos h3]
        have hY : beN (fixO (L.drop (1 + 1)) 0 (8 : Nat)) = cY L := by rw [c1]; unfold cY; rw [if_pos h3]
        have hN : cN L = 0 := by unfold cN; rw [if_pos h3]
        have hw := whole_drop L (1 + 1 + 8) (by omega)
        by_cases he : L.length = 10
        · rw [if_pos (by omega)] at hw
          cases hm : mayC (cK L) (cN L) (cO L) (cY L) with
          | false =>
            rw [(cT_bad hL hkd (by omega) hm).1, (cT_bad hL hkd (by omega) hm).2]
            rw [hN] at hm
            exact ctake_mark_bad L _ _ _ (cK L) _ _ 0 0 0 4 w hL hl hk a2 a3 h3 b2 b3 hO c2 c3 hY hw hm rfl
          | true =>
            rw [(cT_good hL hkd (by omega) hm).1, (cT_good hL hkd (by omega) hm).2, hN]
            rw [hN] at hm
            exact ctake_mark_good L _ _ _ (cK L) _ _ 0 0 0 0 w hL hl hk a2 a3 h3 b2 b3 hO c2 c3 hY hw hm rfl
        · rw [if_neg (by omega)] at hw
          rw [(cT_more hL hkd (by omega)).1, (cT_more hL hkd (by omega)).2]
          exact ctake_mark_torn L _ _ _ (cK L) _ _ 0 0 0 4 w hL hl hk a2 a3 h3 b2 b3 hO c2 c3 hY hw (by decide)
    · have hO : cO L = 0 := by unfold cO; rw [if_neg h3]
      have hY : cY L = 0 := by unfold cY; rw [if_neg h3]
      by_cases h4 : cK L = 4
      · have hlen : cLen (cK L) = 9 := by rw [h4]; rfl
        by_cases hs : L.length < 9
        · rw [(cT_less hL hkd (by omega)).1, (cT_less hL hkd (by omega)).2]
          have b3 := fix_less (L.drop 1) 8 (by omega) (by rw [List.length_drop]; omega)
          exact ctake_stamp_torn L _ _ (cK L) _ 0 10 10 w hL hl hk a2 a3 h4 rfl b3 rfl (whole_ten _) (by decide)
        · obtain ⟨b1, b2, b3⟩ := fix_go (L.drop 1) 8 (by omega) (by rw [List.length_drop]; omega)
          rw [List.drop_drop] at b2
          have hN : beN (fixO (L.drop 1) 0 (8 : Nat)) = cN L := by rw [b1]; unfold cN; rw [if_neg h3, if_pos h4]
          have hw := whole_drop L (1 + 8) (by omega)
          by_cases he : L.length = 9
          · rw [if_pos (by omega)] at hw
            cases hm : mayC (cK L) (cN L) (cO L) (cY L) with
            | false =>
              rw [(cT_bad hL hkd (by omega) hm).1, (cT_bad hL hkd (by omega) hm).2]
              rw [hO, hY] at hm
              exact ctake_stamp_bad L _ _ (cK L) _ 0 0 4 w hL hl hk a2 a3 h4 b2 b3 hN hw hm rfl
            | true =>
              rw [(cT_good hL hkd (by omega) hm).1, (cT_good hL hkd (by omega) hm).2, hO, hY]
              rw [hO, hY] at hm
              exact ctake_stamp_good L _ _ (cK L) _ 0 0 0 w hL hl hk a2 a3 h4 b2 b3 hN hw hm rfl
          · rw [if_neg (by omega)] at hw
            rw [(cT_more hL hkd (by omega)).1, (cT_more hL hkd (by omega)).2]
            exact ctake_stamp_torn L _ _ (cK L) _ 0 0 4 w hL hl hk a2 a3 h4 b2 b3 hN hw (by decide)
      · have h12 : cK L = 1 ∨ cK L = 2 := by have := kinds_of hkd; omega
        have hlen : cLen (cK L) = 5 := by unfold cLen; rw [if_neg h3, if_neg h4]
        by_cases hs : L.length < 5
        · rw [(cT_less hL hkd (by omega)).1, (cT_less hL hkd (by omega)).2]
          have b3 := fix_less (L.drop 1) 4 (by omega) (by rw [List.length_drop]; omega)
          exact ctake_size_torn L _ _ (cK L) _ 0 10 10 w hL hl hk a2 a3 h12 rfl b3 rfl (whole_ten _) (by decide)
        · obtain ⟨b1, b2, b3⟩ := fix_go (L.drop 1) 4 (by omega) (by rw [List.length_drop]; omega)
          rw [List.drop_drop] at b2
          have hN : beN (fixO (L.drop 1) 0 (4 : Nat)) = cN L := by rw [b1]; unfold cN; rw [if_neg h3, if_neg h4]
          have hw := whole_drop L (1 + 4) (by omega)
          by_cases he : L.length = 5
          · rw [if_pos (by omega)] at hw
            cases hm : mayC (cK L) (cN L) (cO L) (cY L) with
            | false =>
              rw [(cT_bad hL hkd (by omega) hm).1, (cT_bad hL hkd (by omega) hm).2]
              rw [hO, hY] at hm
              exact ctake_size_bad L _ _ (cK L) _ 0 0 4 w hL hl hk a2 a3 h12 b2 b3 hN hw hm rfl
            | true =>
              rw [(cT_good hL hkd (by omega) hm).1, (cT_good hL hkd (by omega) hm).2, hO, hY]
              rw [hO, hY] at hm
              exact ctake_size_good L _ _ (cK L) _ 0 0 0 w hL hl hk a2 a3 h12 b2 b3 hN hw hm rfl
          · rw [if_neg (by omega)] at hw
            rw [(cT_more hL hkd (by omega)).1, (cT_more hL hkd (by omega)).2]
            exact ctake_size_torn L _ _ (cK L) _ 0 0 4 w hL hl hk a2 a3 h12 b2 b3 hN hw (by decide)

theorem rctake_any (L : List UInt8) (w : World) (hl : L.length ≤ 10000) : Calls Try.prog 44 #[.string (strL L)] w (CTakeP L w) := by
  unfold CTakeP
  by_cases hL : L = []
  · subst hL
    exact rctake_none w
  obtain ⟨y, hy, hyk⟩ := ck_get hL
  cases hkd : cKind L with
  | false =>
    rw [(cT_kind hL hkd).1, (cT_kind hL hkd).2]
    have hn : y.toNat = 0 ∨ 4 < y.toNat := by
      unfold cKind at hkd
      rw [decide_eq_false_iff_not] at hkd
      omega
    exact rctake_kind L y w hy hl hn
  | true =>
    have HO : cK L ≠ 3 → cO L = 0 ∧ cY L = 0 := fun h => by unfold cO cY; rw [if_neg h, if_neg h]; exact ⟨rfl, rfl⟩
    rcases kinds_of hkd with h | h | h | h
    · obtain ⟨ho, hyy⟩ := HO (by omega)
      have hlen : cLen (cK L) = 5 := by rw [h]; rfl
      rcases Nat.lt_trichotomy L.length 5 with hs | hs | hs
      · rw [(cT_less hL hkd (by omega)).1, (cT_less hL hkd (by omega)).2]
        exact rctake_less1 L y w hy hl (by omega) hs
      · have hN : beN ((L.drop 1).take (5 - 1)) = cN L := by unfold cN; rw [if_neg (by omega), if_neg (by omega)]
        cases hm : mayC (cK L) (cN L) (cO L) (cY L) with
        | false =>
          rw [(cT_bad hL hkd (by omega) hm).1, (cT_bad hL hkd (by omega) hm).2]
          rw [h, ho, hyy] at hm
          exact rctake_bad1 L y w hy hl (by omega) hs _ hN hm
        | true =>
          rw [(cT_good hL hkd (by omega) hm).1, (cT_good hL hkd (by omega) hm).2]
          rw [h, ho, hyy] at hm ⊢
          exact rctake_good1 L y w hy hl (by omega) hs _ hN hm
      · rw [(cT_more hL hkd (by omega)).1, (cT_more hL hkd (by omega)).2]
        exact rctake_more1 L y w hy hl (by omega) hs
    · obtain ⟨ho, hyy⟩ := HO (by omega)
      have hlen : cLen (cK L) = 5 := by rw [h]; rfl
      rcases Nat.lt_trichotomy L.length 5 with hs | hs | hs
      · rw [(cT_less hL hkd (by omega)).1, (cT_less hL hkd (by omega)).2]
        exact rctake_less2 L y w hy hl (by omega) hs
      · have hN : beN ((L.drop 1).take (5 - 1)) = cN L := by unfold cN; rw [if_neg (by omega), if_neg (by omega)]
        cases hm : mayC (cK L) (cN L) (cO L) (cY L) with
        | false =>
          rw [(cT_bad hL hkd (by omega) hm).1, (cT_bad hL hkd (by omega) hm).2]
          rw [h, ho, hyy] at hm
          exact rctake_bad2 L y w hy hl (by omega) hs _ hN hm
        | true =>
          rw [(cT_good hL hkd (by omega) hm).1, (cT_good hL hkd (by omega) hm).2]
          rw [h, ho, hyy] at hm ⊢
          exact rctake_good2 L y w hy hl (by omega) hs _ hN hm
      · rw [(cT_more hL hkd (by omega)).1, (cT_more hL hkd (by omega)).2]
        exact rctake_more2 L y w hy hl (by omega) hs
    · have hlen : cLen (cK L) = 10 := by rw [h]; rfl
      rcases Nat.lt_trichotomy L.length 10 with hs | hs | hs
      · rw [(cT_less hL hkd (by omega)).1, (cT_less hL hkd (by omega)).2]
        exact rctake_less3 L y w hy hl (by omega) hs
      · obtain ⟨z, hz⟩ : ∃ z, L[1]? = some z := ⟨_, List.getElem?_eq_getElem (by omega)⟩
        have hn : cN L = 0 := by unfold cN; rw [if_pos h]
        have hO : cO L = z.toNat := by
          unfold cO
          rw [if_pos h, show L.drop 1 = z :: L.drop 2 from by
            obtain ⟨hlt, rfl⟩ := List.getElem?_eq_some_iff.1 hz
            rw [List.drop_eq_getElem_cons hlt]]
          simp [beN]
        have hY : beN ((L.drop 2).take 8) = cY L := by unfold cY; rw [if_pos h]
        cases hm : mayC (cK L) (cN L) (cO L) (cY L) with
        | false =>
          rw [(cT_bad hL hkd (by omega) hm).1, (cT_bad hL hkd (by omega) hm).2]
          rw [h, hn, hO] at hm
          exact rctake_bad3 L y w hy hl (by omega) hs z _ hz hY hm
        | true =>
          rw [(cT_good hL hkd (by omega) hm).1, (cT_good hL hkd (by omega) hm).2]
          rw [h, hn, hO] at hm ⊢
          exact rctake_good3 L y w hy hl (by omega) hs z _ hz hY hm
      · rw [(cT_more hL hkd (by omega)).1, (cT_more hL hkd (by omega)).2]
        exact rctake_more3 L y w hy hl (by omega) hs
    · obtain ⟨ho, hyy⟩ := HO (by omega)
      have hlen : cLen (cK L) = 9 := by rw [h]; rfl
      rcases Nat.lt_trichotomy L.length 9 with hs | hs | hs
      · rw [(cT_less hL hkd (by omega)).1, (cT_less hL hkd (by omega)).2]
        exact rctake_less4 L y w hy hl (by omega) hs
      · have hN : beN ((L.drop 1).take (9 - 1)) = cN L := by unfold cN; rw [if_neg (by omega), if_pos h]
        cases hm : mayC (cK L) (cN L) (cO L) (cY L) with
        | false =>
          rw [(cT_bad hL hkd (by omega) hm).1, (cT_bad hL hkd (by omega) hm).2]
          rw [h, ho, hyy] at hm
          exact rctake_bad4 L y w hy hl (by omega) hs _ hN hm
        | true =>
          rw [(cT_good hL hkd (by omega) hm).1, (cT_good hL hkd (by omega) hm).2]
          rw [h, ho, hyy] at hm ⊢
          exact rctake_good4 L y w hy hl (by omega) hs _ hN hm
      · rw [(cT_more hL hkd (by omega)).1, (cT_more hL hkd (by omega)).2]
        exact rctake_more4 L y w hy hl (by omega) hs
end Go.Proofs.Ytniblmpihnhglaa

/- Walks of the small functions of layer 7's statements. -/
namespace Go.Proofs.Ytniblmpihnhglaa
open Go.RowKit
set_option linter.unusedVariables false

set_option maxRecDepth 100000 in
set_option maxHeartbeats 1600000 in
theorem theirs_any (k n op y : Int) (w : World) : Calls Try.prog 42 #[.agg #[.int .u8 k, .int .u64 n, .int .u8 op, .int .u64 y]] w fun x w' => x = .returned (.agg #[.int .u8 k, .int .u64 n, .int .u8 op, .int .u64 y]) ∧ Bl w w' := by
  go_enter Try.func42, Try.ntmps42
  go_wp2_with fail
  refine bodyPost_ret (v := .agg #[.int .u8 k, .int .u64 n, .int .u8 op, .int .u64 y]) (by simp [results, Try.results42, go_sem]) rfl ⟨rfl, ?_⟩
  exact ((Bl.refl w).alloc _).alloc _

def partI (k : Nat) : Int := if k = 1 ∨ k = 2 then 1 else if k = 3 then 2 else 3
theorem part_any (k : Nat) (n op y : Int) (w : World) : Calls Try.prog 48 #[.agg #[.int .u8 k, .int .u64 n, .int .u8 op, .int .u64 y]] w fun x w' => x = .returned (.int .i64 (partI k)) ∧ Bl w w' := by
  rcases (by omega : k = 1 ∨ k = 2 ∨ k = 3 ∨ (k ≠ 1 ∧ k ≠ 2 ∧ k ≠ 3)) with h | h | h | ⟨h1, h2, h3⟩
  · have e : partI k = 1 := by unfold partI; rw [if_pos (.inl h)]
    rw [e]
    subst h
    clear e
    go_enter Try.func48, Try.ntmps48
    go_wp2_with fail
    go_ret
    exact ⟨rfl, (Bl.refl w).alloc _⟩
  · have e : partI k = 1 := by unfold partI; rw [if_pos (.inr h)]
    rw [e]
    subst h
    clear e
    go_enter Try.func48, Try.ntmps48
    go_wp2_with fail
    go_ret
    exact ⟨rfl, (Bl.refl w).alloc _⟩
  · have e : partI k = 2 := by unfold partI; rw [if_neg (by omega), if_pos h]
    rw [e]
    subst h
    clear e
    go_enter Try.func48, Try.ntmps48
    go_wp2_with fail
    go_ret
    exact ⟨rfl, (Bl.refl w).alloc _⟩
  · have e : partI k = 3 := by unfold partI; rw [if_neg (by omega), if_neg h3]
    rw [e]
    have e1 : ((k : Int) == 1) = false := by rw [beq_eq_false_iff_ne]; omega
    have e2 : ((k : Int) == 2) = false := by rw [beq_eq_false_iff_ne]; omega
    have e3 : ((k : Int) == 3) = false := by rw [beq_eq_false_iff_ne]; omega
    clear e h1 h2 h3
    go_enter Try.func48, Try.ntmps48
    go_wp2_with fail
    go_ret
    exact ⟨rfl, (Bl.refl w).alloc _⟩

theorem file_any (s : Int) (w : World) : Calls Try.prog 54 #[.int .u32 s] w fun x w' => x = .returned (.agg #[.int .u8 1, .int .u32 s, .int .u64 0, .int .u64 0]) ∧ Bl w w' := by
  go_enter Try.func54, Try.ntmps54
  go_wp2_with fail
  refine bodyPost_ret (v := .agg #[.int .u8 1, .int .u32 s, .int .u64 0, .int .u64 0]) (by simp [results, Try.results54, go_sem]) rfl ⟨rfl, ?_⟩
  exact (Bl.refl w).alloc _

set_option maxRecDepth 100000 in
set_option maxHeartbeats 1600000 in
theorem does_any (k n : Nat) (w : World) (hk : k < 256) (hn : n < 18446744073709551616) : Calls Try.prog 56 #[.int .u8 k, .int .u64 n] w fun x w' => x = .returned (.int .u32 (apM ⟨1, 5, 0, 0⟩ ⟨k, n, 0, 0⟩).s) ∧ Bl w w' := by
  have AP : Hid (∀ w, Calls Try.prog 45 #[.agg #[.int .u8 1, .int .u32 5, .int .u64 0, .int .u64 0], .agg #[.int .u8 k, .int .u64 n, .int .u8 0, .int .u64 0]] w fun x w' => x = .returned (meV (apM ⟨1, 5, 0, 0⟩ ⟨k, n, 0, 0⟩)) ∧ Bl w w') :=
    Lib.hid (fun w => apply_on ⟨1, 5, 0, 0⟩ ⟨k, n, 0, 0⟩ w ⟨by decide, by decide, by decide, by decide⟩ ⟨hk, hn, by show 0 < 256; decide, by show 0 < 18446744073709551616; decide⟩)
  unfold meV at AP
  clear hk hn
  generalize apM ⟨1, 5, 0, 0⟩ ⟨k, n, 0, 0⟩ = r at AP
  have hf : ∀ (a b c d : Int) (w : World), (Instr.field 85 (.agg #[.int .u8 a, .int .u32 b, .int .u64 c, .int .u64 d]) 1).run Try.prog w = .ok (.int .u32 b) w := fun _ _ _ _ _ => by kernel_rfl
  go_enter Try.func56, Try.ntmps56
  go_wp2_with (first
    | (go_at_call 45; refine (AP.out _).mono ?_; rintro e w2 ⟨rfl, h⟩; have B2 := Lib.hid h; clear h)
    | (go_at_call 54; refine (file_any _ _).mono ?_; rintro e w1 ⟨rfl, h⟩; have B1 := Lib.hid h; clear h))
  go_ret
  exact ⟨rfl, B1.out.trans B2.out⟩

theorem metaL_ne (k s m t : Nat) : metaL k s m t ≠ [] := by
  intro h
  have := congrArg List.length h
  unfold metaL at this
  rw [List.length_append, beB_length] at this
  simp at this

set_option maxRecDepth 100000 in
set_option maxHeartbeats 1600000 in
theorem none_any (x : Me) (w : World) (hx : x.ok) : Calls Try.prog 53 #[meV x] w fun e w' => e = .returned (.bool (!mayX x)) ∧ Bl w w' := by
  have PU := Lib.hid (fun w => mput_any x.k x.s x.m x.t w hx.1 hx.2.1 hx.2.2.1 hx.2.2.2)
  have CH := Lib.hid (fun w => check_any x.k x.s x.m x.t w)
  unfold MPutP at PU
  unfold ChkP at CH
  have M0 : Hid (Bl w (w.alloc (.cells #[.int .u8 x.k, .int .u32 x.s, .int .u64 x.m, .int .u64 x.t] 85))) := Lib.hid ((Bl.refl w).alloc _)
  have BX : Hid (∀ w1, Bl (w.alloc (.cells #[.int .u8 x.k, .int .u32 x.s, .int .u64 x.m, .int .u64 x.t] 85)) w1 → w1.heap[w.heap.size]? = some (.cells #[.int .u8 x.k, .int .u32 x.s, .int .u64 x.m, .int .u64 x.t] 85 (0, 0))) := Lib.hid (fun w1 hb => by
    have hlt : w.heap.size < (w.alloc (.cells #[.int .u8 x.k, .int .u32 x.s, .int .u64 x.m, .int .u64 x.t] 85)).heap.size := by show _ < (w.heap.push _).size; rw [Array.size_push]; omega
    exact (hb.block _ hlt).trans (heap_alloc_new _ _))
  unfold meV
  cases hm : mayX x with
  | true =>
    have hM : mayM x.k x.s x.m = true := hm
    have hc : chk x.k x.s x.m = 0 := by unfold chk; rw [if_pos hM]
    rw [if_pos hM, hc] at PU
    rw [hc] at CH
    have hne := strL_ne (metaL_ne x.k x.s x.m x.t)
    clear hx hm hc hM
    generalize strL (metaL x.k x.s x.m x.t) = S at PU hne
    go_enter Try.func53, Try.ntmps53
    go_wp2_with (go_at_call 49; refine (PU.out _).mono ?_; rintro e w1 ⟨rfl, h⟩; have B1 := Lib.hid h; have bx := BX.out w1 h; obtain ⟨c0, c1, c2, c3, _, _, _, _⟩ := four_cells bx; clear h bx)
    go_ret
    exact ⟨rfl, M0.out.trans B1.out⟩
  | false =>
    have hM : mayM x.k x.s x.m = false := hm
    have hc : chk x.k x.s x.m = 4 := by unfold chk; rw [hM]; rfl
    rw [hM, if_neg (by decide), hc] at PU
    rw [hc] at CH
    have hnil : (strL []).toList = [] := by kernel_rfl
    clear hx hm hc hM
    go_enter Try.func53, Try.ntmps53
    go_wp2_with (first
      | (go_at_call 47; refine (CH.out _).mono ?_; rintro e w2 ⟨rfl, h⟩; have B2 := Lib.hid h; clear h)
      | (go_at_call 49; refine (PU.out _).mono ?_; rintro e w1 ⟨rfl, h⟩; have B1 := Lib.hid h; have bx := BX.out w1 h; obtain ⟨c0, c1, c2, c3, _, _, _, _⟩ := four_cells bx; clear h bx))
    go_ret
    exact ⟨rfl, (M0.out.trans B1.out).trans B2.out⟩

theorem fails_any (L : List UInt8) (e : Int) (w : World) (hl : L.length ≤ 10000) (hV : cTV L = chV 0 0 0 0) (hE : cTE L = e) : Calls Try.prog 55 #[.string (strL L), .int .i64 e] w fun x w' => x = .returned (.bool true) ∧ Bl w w' := by
  have TK : Hid (∀ w, Calls Try.prog 43 #[.string (strL L)] w fun x w' => x = .returned (.tuple #[.agg #[.int .u8 0, .int .u64 0, .int .u8 0, .int .u64 0], .int .i64 e]) ∧ Bl w w') := Lib.hid (fun w => by
    have := ctake_any L w hl
    unfold CTakeP at this
    rw [hV, hE] at this
    exact this)
  clear hl hV hE
  go_enter Try.func55, Try.ntmps55
  go_wp2_with (go_at_call 43; refine (TK.out _).mono ?_; rintro e w1 ⟨rfl, h⟩; have B1 := Lib.hid h; clear h)
  go_ret
  exact ⟨rfl, B1.out.alloc _⟩
end Go.Proofs.Ytniblmpihnhglaa

/- Walks: awake of layer 7's statements. -/
namespace Go.Proofs.Ytniblmpihnhglaa
open Go.RowKit
set_option linter.unusedVariables false

set_option maxRecDepth 100000 in
theorem awPut (w : World) : Calls Try.prog 40 #[.agg #[.int .u8 1, .int .u64 5, .int .u8 0, .int .u64 0]] w fun x w' => x = .returned (.tuple #[.string ⟨#[1, 0, 0, 0, 5]⟩, .int .i64 0]) ∧ Bl w w' := by
  have h := cput_any 1 5 0 0 w (by decide) (by decide) (by decide) (by decide)
  unfold CPutP cE at h
  rw [if_pos (by decide +kernel), if_pos (by decide +kernel), show strL (changeL 1 5 0 0) = ⟨#[1, 0, 0, 0, 5]⟩ from by kernel_rfl] at h
  exact h
theorem awDoes1 (w : World) : Calls Try.prog 56 #[.int .u8 1, .int .u64 3] w fun x w' => x = .returned (.int .u32 5) ∧ Bl w w' := by
  have h := does_any 1 3 w (by decide) (by decide)
  rw [show (apM ⟨1, 5, 0, 0⟩ ⟨1, 3, 0, 0⟩).s = 5 from by decide +kernel] at h
  exact h
theorem awDoes2 (w : World) : Calls Try.prog 56 #[.int .u8 2, .int .u64 3] w fun x w' => x = .returned (.int .u32 3) ∧ Bl w w' := by
  have h := does_any 2 3 w (by decide) (by decide)
  rw [show (apM ⟨1, 5, 0, 0⟩ ⟨2, 3, 0, 0⟩).s = 3 from by decide +kernel] at h
  exact h
theorem awNone (w : World) : Calls Try.prog 53 #[.agg #[.int .u8 3, .int .u32 0, .int .u64 0, .int .u64 0]] w fun x w' => x = .returned (.bool true) ∧ Bl w w' := by
  have h := none_any ⟨3, 0, 0, 0⟩ w ⟨by decide, by decide, by decide, by decide⟩
  rw [show (!mayX ⟨3, 0, 0, 0⟩) = true from by decide +kernel] at h
  exact h
theorem awFails (w : World) : Calls Try.prog 55 #[.string ⟨#[]⟩, .int .i64 10] w fun x w' => x = .returned (.bool true) ∧ Bl w w' :=
  fails_any [] 10 w (by decide) rfl rfl

set_option maxRecDepth 100000 in
set_option maxHeartbeats 1600000 in
theorem mawake_any (w : World) : Calls Try.prog 39 #[] w fun x w' => x = .returned (.bool true) ∧ Bl w w' := by
  go_enter Try.func39, Try.ntmps39
  go_wp2_with (first
    | (go_at_call 55; refine (awFails _).mono ?_; rintro e w5 ⟨rfl, h⟩; have B5 := Lib.hid h; clear h)
    | (go_at_call 53; refine (awNone _).mono ?_; rintro e w4 ⟨rfl, h⟩; have B4 := Lib.hid h; clear h)
    | (go_at_call_of 56 (Value.int .u8 2); refine (awDoes2 _).mono ?_; rintro e w3 ⟨rfl, h⟩; have B3 := Lib.hid h; clear h)
    | (go_at_call_of 56 (Value.int .u8 1); refine (awDoes1 _).mono ?_; rintro e w2 ⟨rfl, h⟩; have B2 := Lib.hid h; clear h)
    | (go_at_call 40; refine (awPut _).mono ?_; rintro e w1 ⟨rfl, h⟩; have B1 := Lib.hid h; clear h))
  go_ret
  exact ⟨rfl, (((B1.out.trans B2.out).trans B3.out).trans B4.out).trans B5.out⟩
end Go.Proofs.Ytniblmpihnhglaa

/- Contracts for the printed walk of MetaOrder: Apply, Check, part, awake. -/
namespace Go.Proofs.Ytniblmpihnhglaa
open Go.RowKit
set_option linter.unusedVariables false
def inMe (k s m t : Int) : Bool := decide ((0 ≤ k ∧ k < 256) ∧ (0 ≤ s ∧ s < 4294967296) ∧ (0 ≤ m ∧ m < 18446744073709551616) ∧ (0 ≤ t ∧ t < 18446744073709551616))
def inCh (k n op y : Int) : Bool := decide ((0 ≤ k ∧ k < 256) ∧ (0 ≤ n ∧ n < 18446744073709551616) ∧ (0 ≤ op ∧ op < 256) ∧ (0 ≤ y ∧ y < 18446744073709551616))
def meN (k s m t : Int) : Me := ⟨k.toNat, s.toNat, m.toNat, t.toNat⟩
def chN (k n op y : Int) : Ch := ⟨k.toNat, n.toNat, op.toNat, y.toNat⟩
def applyF (k s m t c n op y : Int) : Option (Int × Int × Int × Int) :=
  if inMe k s m t = true ∧ inCh c n op y = true then some (((apM (meN k s m t) (chN c n op y)).k : Int), ((apM (meN k s m t) (chN c n op y)).s : Int), ((apM (meN k s m t) (chN c n op y)).m : Int), ((apM (meN k s m t) (chN c n op y)).t : Int)) else none
theorem apply_calls (k s m t c n op y r1 r2 r3 r4 : Int) (w : World) (h : applyF k s m t c n op y = some (r1, r2, r3, r4)) :
    Calls Try.prog 45 #[.agg #[.int .u8 k, .int .u32 s, .int .u64 m, .int .u64 t], .agg #[.int .u8 c, .int .u64 n, .int .u8 op, .int .u64 y]] w fun e w' => e = .returned (.agg #[.int .u8 r1, .int .u32 r2, .int .u64 r3, .int .u64 r4]) ∧ Below w.heap.size w w' := by
  unfold applyF at h
  by_cases hc : inMe k s m t = true ∧ inCh c n op y = true
  · rw [if_pos hc] at h
    obtain ⟨h1, h2⟩ := hc
    unfold inMe at h1
    unfold inCh at h2
    rw [decide_eq_true_eq] at h1 h2
    have hx : (meN k s m t).ok := ⟨by show k.toNat < _; omega, by show s.toNat < _; omega, by show m.toNat < _; omega, by show t.toNat < _; omega⟩
    have hy : (chN c n op y).ok := ⟨by show c.toNat < _; omega, by show n.toNat < _; omega, by show op.toNat < _; omega, by show y.toNat < _; omega⟩
    have ha := apply_on _ _ w hx hy
    have e1 : meV (meN k s m t) = .agg #[.int .u8 k, .int .u32 s, .int .u64 m, .int .u64 t] := by
      unfold meV meN
      simp only [Int.toNat_of_nonneg h1.1.1, Int.toNat_of_nonneg h1.2.1.1, Int.toNat_of_nonneg h1.2.2.1.1, Int.toNat_of_nonneg h1.2.2.2.1]
    have e2 : chW (chN c n op y) = .agg #[.int .u8 c, .int .u64 n, .int .u8 op, .int .u64 y] := by
      unfold chW chN
      simp only [Int.toNat_of_nonneg h2.1.1, Int.toNat_of_nonneg h2.2.1.1, Int.toNat_of_nonneg h2.2.2.1.1, Int.toNat_of_nonneg h2.2.2.2.1]
    rw [e1, e2] at ha
    unfold ApP meV at ha
    have h' := Option.some.inj h
    simp only [Prod.mk.injEq] at h'
    rw [h'.1, h'.2.1, h'.2.2.1, h'.2.2.2] at ha
    exact ha
  · rw [if_neg hc] at h
    exact absurd h (by simp)
def checkF (k s m t : Int) : Option Int := if inMe k s m t = true then some (chk k.toNat s.toNat m) else none
theorem check_calls (k s m t r : Int) (w : World) (h : checkF k s m t = some r) :
    Calls Try.prog 47 #[.agg #[.int .u8 k, .int .u32 s, .int .u64 m, .int .u64 t]] w fun e w' => e = .returned (.int .i64 r) ∧ Below w.heap.size w w' := by
  unfold checkF at h
  by_cases hc : inMe k s m t = true
  · rw [if_pos hc] at h
    unfold inMe at hc
    rw [decide_eq_true_eq] at hc
    have ha := check_any k.toNat s.toNat m t w
    unfold ChkP at ha
    rw [Option.some.inj h, Int.toNat_of_nonneg hc.1.1, Int.toNat_of_nonneg hc.2.1.1] at ha
    exact ha
  · rw [if_neg hc] at h
    exact absurd h (by simp)
def partF (k n op y : Int) : Option Int := if inCh k n op y = true then some (partI k.toNat) else none
theorem partF_cases {k n op y r : Int} (h : partF k n op y = some r) : r = 1 ∨ r = 2 ∨ r = 3 := by
  unfold partF at h
  by_cases hc : inCh k n op y = true
  · rw [if_pos hc] at h
    rw [← Option.some.inj h]
    unfold partI
    split
    · exact .inl rfl
    · split
      · exact .inr (.inl rfl)
      · exact .inr (.inr rfl)
  · rw [if_neg hc] at h
    exact absurd h (by simp)
theorem part_calls (k n op y r : Int) (w : World) (h : partF k n op y = some r) :
    Calls Try.prog 48 #[.agg #[.int .u8 k, .int .u64 n, .int .u8 op, .int .u64 y]] w fun e w' => e = .returned (.int .i64 r) ∧ Below w.heap.size w w' := by
  unfold partF at h
  by_cases hc : inCh k n op y = true
  · rw [if_pos hc] at h
    unfold inCh at hc
    rw [decide_eq_true_eq] at hc
    have ha := part_any k.toNat n op y w
    rw [Option.some.inj h, Int.toNat_of_nonneg hc.1.1] at ha
    exact ha
  · rw [if_neg hc] at h
    exact absurd h (by simp)
theorem awake_calls (r : Bool) (w : World) (h : some true = some r) : Calls Try.prog 39 #[] w fun e w' => e = .returned (.bool r) ∧ Below w.heap.size w w' := by
  rw [← Option.some.inj h]
  exact mawake_any w
end Go.Proofs.Ytniblmpihnhglaa

/- Plain laws of what Apply makes of a meta: MetaOrder's statement. -/
namespace Go.Proofs.Ytniblmpihnhglaa
open Go.RowKit
set_option linter.unusedVariables false

theorem apW_may {x : Me} {c : Ch} (hx : x.ok) (hc : c.ok) (mx : mayX x = true) (mc : mayY c = true) : mayX (apW x c) = true := by
  have fx := mayX_form mx
  have fc := mayY_form mc
  unfold apW
  by_cases h1 : c.k = 1
  · rw [if_pos h1]
    by_cases h : x.k = 1 ∧ x.s < c.n
    · rw [if_pos h]
      exact mayX_of ⟨.inl h.1, by show c.n ≤ _; omega, fx.2.2⟩
    · rw [if_neg h]
      exact mx
  rw [if_neg h1]
  by_cases h2 : c.k = 2
  · rw [if_pos h2]
    by_cases h : x.k = 1
    · rw [if_pos h]
      exact mayX_of ⟨.inl h, by show c.n ≤ _; omega, fx.2.2⟩
    · rw [if_neg h]
      exact mx
  rw [if_neg h2]
  by_cases h3 : c.k = 3
  · rw [if_pos h3]
    have st := step_form x.m c.op c.y (by omega) (by have := hx.2.2.1; omega) (by omega) (by have := hc.2.2.2; omega) (by omega) (by omega)
    refine mayX_of ⟨fx.1, fx.2.1, ?_⟩
    show quietI (((stepI x.m c.op c.y).toNat : Nat) : Int) = (((stepI x.m c.op c.y).toNat : Nat) : Int)
    rw [Int.toNat_of_nonneg st.1]
    exact st.2.2
  · rw [if_neg h3]
    exact mayX_of ⟨fx.1, fx.2.1, fx.2.2⟩
theorem apM_may {x : Me} {c : Ch} (hx : x.ok) (hc : c.ok) : mayX (apM x c) = mayX x := by
  unfold apM
  by_cases h : mayX x = true ∧ mayY c = true
  · rw [if_pos h, apW_may hx hc h.1 h.2, h.1]
  · rw [if_neg h]
theorem apW_k (x : Me) (c : Ch) : (apW x c).k = x.k := by
  unfold apW
  repeat' split
  all_goals rfl
theorem apM_k (x : Me) (c : Ch) : (apM x c).k = x.k := by
  unfold apM
  split
  · exact apW_k x c
  · rfl
theorem apM_s (x : Me) (c : Ch) (h : partI c.k ≠ 1) : (apM x c).s = x.s := by
  have h1 : c.k ≠ 1 := fun e => h (by unfold partI; rw [if_pos (.inl e)])
  have h2 : c.k ≠ 2 := fun e => h (by unfold partI; rw [if_pos (.inr e)])
  unfold apM apW
  rw [if_neg h1, if_neg h2]
  repeat' split
  all_goals rfl
theorem apM_m (x : Me) (c : Ch) (h : partI c.k ≠ 2) : (apM x c).m = x.m := by
  have h3 : c.k ≠ 3 := fun e => h (by unfold partI; rw [if_neg (by omega), if_pos e])
  unfold apM apW
  rw [if_neg h3]
  repeat' split
  all_goals rfl
theorem apM_t (x : Me) (c : Ch) (h : partI c.k ≠ 3) : (apM x c).t = x.t := by
  have h3 : c.k = 1 ∨ c.k = 2 ∨ c.k = 3 := by
    unfold partI at h
    by_cases a : c.k = 1 ∨ c.k = 2
    · omega
    · rw [if_neg a] at h
      by_cases b : c.k = 3
      · omega
      · rw [if_neg b] at h
        exact absurd rfl h
  unfold apM apW
  rcases h3 with e | e | e
  · rw [if_pos e]
    repeat' split
    all_goals rfl
  · rw [if_neg (show ¬ c.k = 1 by omega), if_pos e]
    repeat' split
    all_goals rfl
  · rw [if_neg (show ¬ c.k = 1 by omega), if_neg (show ¬ c.k = 2 by omega), if_pos e]
    repeat' split
    all_goals rfl
theorem apW_grow (x : Me) (c : Ch) (h : c.k = 1) : apW x c = if x.k = 1 then ⟨x.k, max x.s c.n, x.m, x.t⟩ else x := by
  unfold apW
  rw [if_pos h]
  by_cases hk : x.k = 1
  · rw [if_pos hk]
    by_cases hs : x.s < c.n
    · rw [if_pos ⟨hk, hs⟩, Nat.max_eq_right (by omega)]
    · rw [if_neg (fun h => hs h.2), Nat.max_eq_left (by omega)]
  · rw [if_neg hk, if_neg (fun h => hk h.1)]
theorem apW_grows (x : Me) (a b : Ch) (ha : a.k = 1) (hb : b.k = 1) : apW (apW x a) b = apW (apW x b) a := by
  rw [apW_grow _ b hb, apW_grow _ a ha, apW_grow _ a ha, apW_grow _ b hb]
  by_cases hk : x.k = 1
  · simp only [if_pos hk]
    rw [Nat.max_assoc, Nat.max_comm a.n, ← Nat.max_assoc]
  · simp only [if_neg hk]
theorem apW_order (x : Me) (a b : Ch) (h : partI a.k ≠ partI b.k ∨ (a.k = 1 ∧ b.k = 1)) (ha : a.k = 1 ∨ a.k = 2 ∨ a.k = 3 ∨ a.k = 4) (hb : b.k = 1 ∨ b.k = 2 ∨ b.k = 3 ∨ b.k = 4) : apW (apW x a) b = apW (apW x b) a := by
  by_cases hg : a.k = 1 ∧ b.k = 1
  · exact apW_grows x a b hg.1 hg.2
  replace h : partI a.k ≠ partI b.k := h.resolve_right hg
  clear hg
  obtain ⟨k, s, m, t⟩ := x
  obtain ⟨ak, an, ao, ay⟩ := a
  obtain ⟨bk, bn, bo, by_⟩ := b
  dsimp only at h ha hb
  rcases ha with rfl | rfl | rfl | rfl <;> rcases hb with rfl | rfl | rfl | rfl
  all_goals first
    | (exfalso; exact h rfl)
    | (unfold apW; simp only [if_true, if_false, Nat.reduceEqDiff]; all_goals (repeat' split); all_goals first | rfl | (simp_all; done) | (simp_all; omega))
theorem apM_order {x : Me} {a b : Ch} (hx : x.ok) (ha : a.ok) (hb : b.ok) (h : partI a.k ≠ partI b.k ∨ (a.k = 1 ∧ b.k = 1)) : apM (apM x a) b = apM (apM x b) a := by
  have m1 := apM_may hx ha
  have m2 := apM_may hx hb
  by_cases mx : mayX x = true
  · by_cases ma : mayY a = true
    · by_cases mb : mayY b = true
      · have fa := mayY_form ma
        have fb := mayY_form mb
        have w1 := apW_may hx ha mx ma
        have w2 := apW_may hx hb mx mb
        have e1 : apM x a = apW x a := by unfold apM; rw [if_pos ⟨mx, ma⟩]
        have e2 : apM x b = apW x b := by unfold apM; rw [if_pos ⟨mx, mb⟩]
        rw [e1, e2]
        unfold apM
        rw [if_pos ⟨w1, mb⟩, if_pos ⟨w2, ma⟩]
        exact apW_order x a b h (by omega) (by omega)
      · have e : ∀ y, apM y b = y := fun y => by unfold apM; rw [if_neg (fun h => mb h.2)]
        rw [e, e]
    · have e : ∀ y, apM y a = y := fun y => by unfold apM; rw [if_neg (fun h => ma h.2)]
      rw [e, e]
  · have e1 : apM x a = x := by unfold apM; rw [if_neg (fun h => mx h.1)]
    have e2 : apM x b = x := by unfold apM; rw [if_neg (fun h => mx h.1)]
    rw [e1, e2, e1]
theorem apW_twice (x : Me) (a : Ch) (ha : a.k = 1 ∨ a.k = 2 ∨ a.k = 4) : apW (apW x a) a = apW x a := by
  obtain ⟨k, s, m, t⟩ := x
  obtain ⟨ak, an, ao, ay⟩ := a
  dsimp only at ha
  rcases ha with rfl | rfl | rfl
  all_goals (unfold apW; simp only [if_true, if_false, Nat.reduceEqDiff]; all_goals (repeat' split); all_goals first | rfl | (simp_all; done) | (simp_all; omega))
theorem apM_twice {x : Me} {a : Ch} (hx : x.ok) (ha : a.ok) (h : partI a.k ≠ 2) : apM (apM x a) a = apM x a := by
  have h3 : a.k ≠ 3 := fun e => h (by unfold partI; rw [if_neg (by omega), if_pos e])
  by_cases hm : mayX x = true ∧ mayY a = true
  · have fa := mayY_form hm.2
    have e1 : apM x a = apW x a := by unfold apM; rw [if_pos hm]
    rw [e1]
    unfold apM
    rw [if_pos ⟨apW_may hx ha hm.1 hm.2, hm.2⟩]
    exact apW_twice x a (by omega)
  · have e : apM x a = x := by unfold apM; rw [if_neg hm]
    rw [e, e]
end Go.Proofs.Ytniblmpihnhglaa

