/- Texts put together by pack.py: D0 K D1 D2 D3 D4 D5 D6 D7 D8 F0 M0 M1 M2 E1 E2 E3 E4 E6 E9 D9 D10 DO DM E15 E5a E10 E16. -/
import Derived.Below
import Derived.ChangeSame
import Derived.WalkKit
import Derived.WalkSmall
import Derived.Tactics
import Derived.Deep.QuietTactic
import Derived.Deep.Draws
import Derived.Deep.OwnRows
import Derived.OwnWalk
import Derived.Laws.AppendOwn
import Derived.Lib.Hide
import Derived.Test.YtniblmpihnhglaaRows
import Derived.WalkSpells
import Derived.WalkLawsBesides
import Derived.Laws.BitsAll
import Derived.Laws.Rows
import Derived.StillTailTactics
import Derived.BigQuiet
import Derived.Outline
import Derived.IntWalk
import Derived.Deep.RegionLaw
import Derived.Deep.AppendLies
import Derived.Laws.ShiftsVar
import Derived.Lib.AppendStr
import Derived.Laws.BytesArg
import Derived.Laws.FloatBits
import Derived.Laws.Externs
import Derived.Laws.FloatArith
import Derived.Deep.Slices
import Derived.Deep.Fields
import Derived.WideKeyArgs
import Derived.Lib.SmallJoins
import Derived.Deep.RegionWith
/- The reader of layer 3 (codec), as functions of lists of bytes. Plain Lean, no program. -/
namespace Go.Proofs.Ytniblmpihnhglaa

/-- The string of a list of bytes. -/
def strL (L : List UInt8) : ByteArray := ⟨L.toArray⟩
theorem strL_list (s : ByteArray) : strL s.data.toList = s := rfl
theorem strL_data (L : List UInt8) : (strL L).data.toList = L := rfl
theorem strL_size (L : List UInt8) : (strL L).size = L.length := by show L.toArray.size = _; simp
theorem strL_inj {L M : List UInt8} (h : strL L = strL M) : L = M := by have := congrArg (fun s => s.data.toList) h; exact this
theorem strL_take (L : List UInt8) (n : Nat) : (strL L).extract 0 n = strL (L.take n) := by
  unfold strL
  apply ByteArray.ext
  simp [ByteArray.data_extract]
theorem strL_drop (L : List UInt8) (n m : Nat) (h : L.length ≤ m) : (strL L).extract n m = strL (L.drop n) := by
  unfold strL
  apply ByteArray.ext
  simp [ByteArray.data_extract]
  rw [List.take_of_length_le]
  simp; omega

/-- Fixed: what is answered, what is left, the error. -/
def fixO (L : List UInt8) (e n : Int) : List UInt8 := if e = 0 ∧ 0 < n ∧ n ≤ L.length then L.take n.toNat else []
def fixL (L : List UInt8) (e n : Int) : List UInt8 := if e = 0 ∧ 0 < n then (if n ≤ L.length then L.drop n.toNat else []) else L
def fixE (L : List UInt8) (e n : Int) : Int := if e = 0 ∧ 0 < n ∧ (L.length : Int) < n then 10 else e

/-- Bytes as a number, the highest first. -/
def beN (l : List UInt8) : Nat := l.foldl (fun n b => n * 256 + b.toNat) 0
theorem beN_snoc (l : List UInt8) (b : UInt8) : beN (l ++ [b]) = beN l * 256 + b.toNat := by unfold beN; rw [List.foldl_append]; rfl
theorem beN_from (l : List UInt8) : ∀ n : Nat, l.foldl (fun n b => n * 256 + b.toNat) n < (n + 1) * 256 ^ l.length := by
  induction l with
  | nil => intro n; simp
  | cons b l ih =>
    intro n
    rw [List.foldl_cons, List.length_cons, Nat.pow_succ, Nat.mul_comm (256 ^ l.length), ← Nat.mul_assoc]
    have h := b.toNat_lt
    exact Nat.lt_of_lt_of_le (ih _) (Nat.mul_le_mul_right _ (by omega))
theorem beN_lt (l : List UInt8) : beN l < 256 ^ l.length := by
  have := beN_from l 0
  rwa [Nat.zero_add, Nat.one_mul] at this
end Go.Proofs.Ytniblmpihnhglaa

/- Small lemmas of the walk that serve every law of this seat: the last step of a row where the world below the call's own blocks is as it was; quiet calls; how pieces of worlds are handed on. -/
namespace Go.Proofs.Ytniblmpihnhglaa
open Go.RowKit Go.WideShapes Go.ChangeShapes

section
variable {H : Type} {enc : TypeId × Value → H} {P : Program}
theorem post_of_below {f : Func} {s : ChangeSpec} {apart fresh handsOn again : Bool} {W W' : World} {args : Array Value} {v : Value} {ds gs : List (DataW H)} {before pa pv : List MemPlace}
    (hW : DataW.Whole enc P f.params.toList s.vars apart W args.toList ds gs before)
    (hres : ∀ (b : Nat) (sp : Nat → Bool) (hd : Bool), DataW.TrodAll enc P W' b sp hd f.resultTypes.toList (v.resultList f.resultTypes.size) (s.fn H (ds ++ gs)).results [])
    (hargs : ∀ sp : Nat → Bool, (∀ p ∈ before, sp p.block = true) → DataW.TrodAll enc P W' 0 sp true f.params.toList args.toList (s.fn H (ds ++ gs)).args pa)
    (hvars : ∀ sp : Nat → Bool, (∀ p ∈ before, sp p.block = true) → DataW.TrodVars enc P W' sp s.vars (s.fn H (ds ++ gs)).vars pv)
    (hps : before = pa ++ pv) (hb : Below W.heap.size W W')
    (hok : ∀ (j : Nat) (t : TypeId) (r : Value), f.resultTypes[j]? = some t → (v.resultList f.resultTypes.size)[j]? = some r → Value.okWide P W' .any 0 t r) :
    s.post enc P f apart fresh handsOn again W args v W' := by
  have hlt : ∀ p ∈ before, p.block < W.heap.size := fun p hp => hW.lt p hp
  have hold : ∀ p ∈ before, (fun b => decide (b < W.heap.size)) p.block = true := fun p hp => by simpa using hlt p hp
  refine ⟨ds, gs, before, [], pa, pv, hW, hres _ _ _, hargs _ hold, hvars _ hold, World.keptBut_mono (fun p hp => ⟨hp, ?_⟩) (hb.frame (· ∈ before)), fun _ => ?_⟩
  · rw [hps, List.mem_append] at hp
    exact Or.inr hp
  · obtain ⟨_, _, _, _, _, hz, hn⟩ := hW
    refine ⟨hok, _, _, ([] ++ pa) ++ pv, ⟨[] ++ pa, pv, trodAll_append (hargs _ (fun _ _ => rfl)) (hres _ _ _), hvars _ (fun _ _ => rfl), rfl, ?_, ?_⟩, ?_⟩
    · intro b off hp
      have hin : MemPlace.cell b off ∈ before := by rw [hps]; simpa using hp
      rw [hb.frozen (hlt _ hin)]
      exact hz b off hin
    · intro ha
      have := hn ha
      rw [hps] at this
      simpa using this
    · intro p hp _
      rw [hps]
      simpa using hp
end

theorem quiet_add {P : Program} {f : FuncId} {args : Array Value} {w : World} {a n : Nat} {v : Value}
    (h : Calls P f args (w.drewN (a + n)) fun e w' => e = .returned v ∧ ∃ m, w' = (w.drewN (a + n)).drewN m) :
    Calls P f args (w.drewN (a + n)) fun e w'' => e = .returned v ∧ ∃ m, w'' = w.drewN (a + m) :=
  h.mono fun _ _ ⟨he, m, hm⟩ => ⟨he, n + m, by rw [hm, World.drewN_drewN, Nat.add_assoc]⟩
theorem quiet_add_same {P : Program} {f : FuncId} {args : Array Value} {w : World} {a n : Nat} {v : Value}
    (h : Calls P f args (w.drewN (a + n)) fun e w' => e = .returned v ∧ w' = w.drewN (a + n)) :
    Calls P f args (w.drewN (a + n)) fun e w'' => e = .returned v ∧ ∃ m, w'' = w.drewN (a + m) :=
  h.mono fun _ _ ⟨he, hm⟩ => ⟨he, n, hm⟩
theorem quiet_add_left {P : Program} {f : FuncId} {args : Array Value} {w : World} {a n : Nat} {v : Value}
    (h : Calls P f args (w.drewN (a + n)) fun e w' => e = .returned v ∧ w.drewN (a + n) = w') :
    Calls P f args (w.drewN (a + n)) fun e w'' => e = .returned v ∧ ∃ m, w'' = w.drewN (a + m) :=
  h.mono fun _ _ ⟨he, hm⟩ => ⟨he, n, hm.symm⟩
theorem quiet_left {P : Program} {f : FuncId} {args : Array Value} {w : World} {n : Nat} {v : Value}
    (h : Calls P f args (w.drewN n) fun e w' => e = .returned v ∧ w.drewN n = w') : Calls P f args (w.drewN n) fun e w'' => e = .returned v ∧ ∃ m, w'' = w.drewN m :=
  h.mono fun _ _ ⟨he, hm⟩ => ⟨he, n, hm.symm⟩

theorem results_tmp4 {fn : Func} {t u v x : Tmp} (h : fn.results = #[.tmp t, .tmp u, .tmp v, .tmp x]) (tmps : Array Value) (P : Program) (w : World) :
    (results fn tmps).run P w = .ok (.tuple #[tmps.getD t undef, tmps.getD u undef, tmps.getD v undef, tmps.getD x undef]) w := by simp [results, h]
theorem results_tmp5 {fn : Func} {t u v x y : Tmp} (h : fn.results = #[.tmp t, .tmp u, .tmp v, .tmp x, .tmp y]) (tmps : Array Value) (P : Program) (w : World) :
    (results fn tmps).run P w = .ok (.tuple #[tmps.getD t undef, tmps.getD u undef, tmps.getD v undef, tmps.getD x undef, tmps.getD y undef]) w := by simp [results, h]

theorem rowIs_drewN {w : World} {b : Nat} {t : TypeId} {n : Nat} {f : Nat → Value} (h : w.rowIs b t n f) (k : Nat) : (w.drewN k).rowIs b t n f := h
theorem grown_trans {a b c : World} (h : Grown a b) (k : Grown b c) : Grown a c :=
  ⟨World.keptBut_trans h.1 k.1, fun x => (k.2.1 x).trans (h.2.1 x), Nat.le_trans h.2.2 k.2.2⟩

theorem only_drewN {a w : World} {row : Option Nat} (h : a.grownBy w row) (n : Nat) : a.grownBy (w.drewN n) row := ⟨h.os, h.tape, h.output, h.size, h.block⟩
theorem only_drew {a w : World} {row : Option Nat} (h : a.grownBy w row) : a.grownBy w.drew row := ⟨h.os, h.tape, h.output, h.size, h.block⟩
theorem only_alloc {a w : World} {row : Option Nat} (h : a.grownBy w row) (o : Obj) : a.grownBy (w.alloc o) row :=
  ⟨h.os, h.tape, h.output, Nat.le_trans h.size (by simp), fun i hi hne => (Below.heap_alloc w o i (Nat.lt_of_lt_of_le hi h.size)).trans (h.block i hi hne)⟩
theorem only_setCell {a w : World} {g : Nat} (h : a.grownBy w (some g)) {p : Addr} (hp : p.block = g ∨ a.heap.size ≤ p.block) (u : Value) : a.grownBy (w.setCell p u) (some g) :=
  ⟨h.os, h.tape, h.output, by simpa [World.setCell] using h.size, fun i hi hne => (Below.heap_setCell w p u i (by
    rintro rfl
    rcases hp with hp | hp
    · exact hne (by rw [hp])
    · omega)).trans (h.block i hi hne)⟩
theorem only_of_below {a w : World} (h : Below a.heap.size a w) (row : Option Nat) : a.grownBy w row := ⟨h.os, h.tape, h.output, h.size, fun i hi _ => h.block i hi⟩

theorem quiet_pure {P : Program} {f : FuncId} {args : Array Value} {w : World} {n : Nat} {v : Value}
    (h : ∀ w, Calls P f args w fun e w' => e = .returned v ∧ w = w') : Calls P f args (w.drewN n) fun e w'' => e = .returned v ∧ ∃ m, w'' = w.drewN m :=
  (h _).mono fun _ _ ⟨he, hw⟩ => ⟨he, n, hw.symm⟩
theorem ret_int {k : IntKind} {a b : Int} (h : a = b) : Ending.returned (.int k a) = .returned (.int k b) := by rw [h]
theorem ret_bool {a b : Bool} (h : a = b) : Ending.returned (.bool a) = .returned (.bool b) := by rw [h]
theorem ret_pair {k : IntKind} {a b : Int} {v : Value} (h : a = b) : Ending.returned (.tuple #[.int k a, v]) = .returned (.tuple #[.int k b, v]) := by rw [h]

/-- The call's world: what was there when it began is as it was. -/
def Bl (w w' : World) : Prop := Below w.heap.size w w'
theorem Bl.refl (w : World) : Bl w w := Below.refl _ _
theorem Bl.trans {a b c : World} (h : Bl a b) (k : Bl b c) : Bl a c := Below.trans h (Below.mono k h.size)
theorem Bl.drew {a w : World} (h : Bl a w) : Bl a w.drew := Below.drew h
theorem Bl.drewN {a w : World} (h : Bl a w) (n : Nat) : Bl a (w.drewN n) := below_drewN h n
theorem Bl.alloc {a w : World} (h : Bl a w) (o : Obj) : Bl a (w.alloc o) := Below.alloc h h.size o
theorem Bl.setCell {a w : World} (h : Bl a w) {p : Addr} (hp : a.heap.size ≤ p.block) (u : Value) : Bl a (w.setCell p u) := Below.setCell h hp u
theorem Bl.cell {a w : World} (h : Bl a w) {p : Addr} (hp : p.block < a.heap.size) : w.cell? p = a.cell? p := Below.cell h hp
theorem Bl.frozen {a w : World} (h : Bl a w) {p : Addr} (hp : p.block < a.heap.size) : w.frozen? p = a.frozen? p := Below.frozen h hp
theorem Bl.size {a w : World} (h : Bl a w) : a.heap.size ≤ w.heap.size := Below.size h
theorem Bl.of {w w' : World} (h : Below w.heap.size w w') : Bl w w' := h

end Go.Proofs.Ytniblmpihnhglaa

/- Walks of codec.Reader: what each call answers, and what the reader is behind it. -/
namespace Go.Proofs.Ytniblmpihnhglaa
open Go.RowKit
set_option linter.unusedVariables false

/-- At block p a codec.Reader stands: what is left, and its error. -/
def Rd (p : Nat) (L : List UInt8) (e : Int) (w : World) : Prop := w.heap[p]? = some (.cells #[.string (strL L), .int .i64 e] 106 (0, 0))

theorem Rd.lt {p : Nat} {L : List UInt8} {e : Int} {w : World} (h : Rd p L e w) : p < w.heap.size := (Array.getElem?_eq_some_iff.1 h).1
theorem Rd.c0 {p : Nat} {L : List UInt8} {e : Int} {w : World} (h : Rd p L e w) : w.cell? ⟨p, 0, none⟩ = some (.string (strL L)) := by rw [cell_of_row _ _ _ _ _ _ h]; rfl
theorem Rd.c1 {p : Nat} {L : List UInt8} {e : Int} {w : World} (h : Rd p L e w) : w.cell? ⟨p, 1, none⟩ = some (.int .i64 e) := by rw [cell_of_row _ _ _ _ _ _ h]; rfl
theorem Rd.f {p : Nat} {L : List UInt8} {e : Int} {w : World} (h : Rd p L e w) (j : Nat) : w.frozen? ⟨p, j, none⟩ = false := frozen_of_row _ _ _ _ _ h
theorem Rd.set0 {p : Nat} {L M : List UInt8} {e : Int} {w : World} (h : Rd p L e w) : Rd p M e (w.setCell ⟨p, 0, none⟩ (.string (strL M))) := by
  unfold Rd; rw [heap_setCell_same _ _ _ _ _ _ h]; rfl
theorem Rd.set1 {p : Nat} {L : List UInt8} {e d : Int} {w : World} (h : Rd p L e w) : Rd p L d (w.setCell ⟨p, 1, none⟩ (.int .i64 d)) := by
  unfold Rd; rw [heap_setCell_same _ _ _ _ _ _ h]; rfl

/-- Only block p has turned; and what is new. -/
abbrev Only (p : Nat) (w w' : World) : Prop := w.grownBy w' (some p)
theorem only_refl (p : Nat) (w : World) : Only p w w := ⟨rfl, rfl, rfl, Nat.le_refl _, fun _ _ _ => rfl⟩
theorem only_trans {p : Nat} {a b c : World} (h : Only p a b) (k : Only p b c) : Only p a c :=
  ⟨k.os.trans h.os, k.tape.trans h.tape, k.output.trans h.output, Nat.le_trans h.size k.size, fun i hi hn => (k.block i (Nat.lt_of_lt_of_le hi h.size) hn).trans (h.block i hi hn)⟩
theorem only_set {p : Nat} {a w : World} (h : Only p a w) (j : Nat) (u : Value) : Only p a (w.setCell ⟨p, j, none⟩ u) := only_setCell h (.inl rfl) u

def FixP (p : Nat) (L : List UInt8) (e n : Int) (w : World) (x : Ending) (w' : World) : Prop :=
  x = .returned (.string (strL (fixO L e n))) ∧ Rd p (fixL L e n) (fixE L e n) w' ∧ Only p w w'
theorem ret_str {a b : ByteArray} (h : a = b) : Ending.returned (.string a) = .returned (.string b) := by rw [h]

set_option maxHeartbeats 800000 in
theorem fixed_any (p : Nat) (L : List UInt8) (e n : Int) (w : World) (hl : L.length ≤ 140737488351232) (hr : Rd p L e w) :
    Calls Try.prog 33 #[.pointer (some ⟨p, 0, none⟩), .int .i64 n] w fun x w' => FixP p L e n w x w' := by
  have c0 := hr.c0
  have c1 := hr.c1
  have f0 := hr.f 0
  have f1 := hr.f 1
  have HR := Lib.hid hr
  clear hr
  have hsz := strL_size L
  by_cases he : e = 0
  · subst he
    by_cases hn : 0 < n
    · by_cases hb : n ≤ L.length
      · obtain ⟨k, rfl⟩ := Int.eq_ofNat_of_zero_le (by omega : 0 ≤ n)
        have ht := Lib.hid (strL_take L k)
        have hd := Lib.hid (strL_drop L k L.length (Nat.le_refl _))
        have hO : Hid (fixO L 0 k = L.take k) := Lib.hid (by unfold fixO; rw [if_pos ⟨rfl, hn, hb⟩, Int.toNat_natCast])
        have hL : Hid (fixL L 0 k = L.drop k) := Lib.hid (by unfold fixL; rw [if_pos ⟨rfl, hn⟩, if_pos hb, Int.toNat_natCast])
        have hE : Hid (fixE L 0 k = 0) := Lib.hid (by unfold fixE; rw [if_neg (by omega)])
        go_enter Try.func33, Try.ntmps33
        go_wp2_with fail
        go_ret
        refine ⟨ret_str (by rw [ht.out, hO.out]), ?_, only_set (only_refl p w) 0 _⟩
        rw [hd.out, hL.out, hE.out]
        exact HR.out.set0
      · have hO : Hid (fixO L 0 n = []) := Lib.hid (by unfold fixO; rw [if_neg (by omega)])
        have hL : Hid (fixL L 0 n = []) := Lib.hid (by unfold fixL; rw [if_pos ⟨rfl, hn⟩, if_neg hb])
        have hE : Hid (fixE L 0 n = 10) := Lib.hid (by unfold fixE; rw [if_pos ⟨rfl, hn, by omega⟩])
        have he : Hid ((⟨#[]⟩ : ByteArray) = strL []) := Lib.hid rfl
        go_enter Try.func33, Try.ntmps33
        go_wp2_with fail
        go_ret
        refine ⟨ret_str (by rw [hO.out, he.out]), ?_, only_set (only_set (only_refl p w) 0 _) 1 _⟩
        rw [hL.out, hE.out, he.out]
        exact HR.out.set0.set1
    · have hO : Hid (fixO L 0 n = []) := Lib.hid (by unfold fixO; rw [if_neg (by omega)])
      have hL : Hid (fixL L 0 n = L) := Lib.hid (by unfold fixL; rw [if_neg (by omega)])
      have hE : Hid (fixE L 0 n = 0) := Lib.hid (by unfold fixE; rw [if_neg (by omega)])
      have he : Hid ((⟨#[]⟩ : ByteArray) = strL []) := Lib.hid rfl
      go_enter Try.func33, Try.ntmps33
      go_wp2_with fail
      go_ret
      refine ⟨ret_str (by rw [hO.out, he.out]), ?_, only_refl p w⟩
      rw [hL.out, hE.out]
      exact HR.out
  · have hO : Hid (fixO L e n = []) := Lib.hid (by unfold fixO; rw [if_neg (fun h => he h.1)])
    have hL : Hid (fixL L e n = L) := Lib.hid (by unfold fixL; rw [if_neg (fun h => he h.1)])
    have hE : Hid (fixE L e n = e) := Lib.hid (by unfold fixE; rw [if_neg (fun h => he h.1)])
    have hs : Hid ((⟨#[]⟩ : ByteArray) = strL []) := Lib.hid rfl
    have hne : (e != 0) = true := by rw [bne_iff_ne]; exact he
    clear he
    go_enter Try.func33, Try.ntmps33
    go_wp2_with fail
    go_ret
    refine ⟨ret_str (by rw [hO.out, hs.out]), ?_, only_refl p w⟩
    rw [hL.out, hE.out]
    exact HR.out

theorem fixO_length (L : List UInt8) (e n : Int) (m : Nat) (hn : n ≤ m) : (fixO L e n).length ≤ m := by
  unfold fixO
  split
  · rw [List.length_take]; omega
  · simp
theorem take_snoc (l : List UInt8) (k : Nat) (h : k < l.length) : l.take (k + 1) = l.take k ++ [l[k]] := List.take_succ_eq_append_getElem h
theorem beN_take (l : List UInt8) (k : Nat) (b : UInt8) (h : l[k]? = some b) : beN (l.take (k + 1)) = beN (l.take k) * 256 + b.toNat := by
  obtain ⟨hk, rfl⟩ := List.getElem?_eq_some_iff.1 h
  rw [take_snoc l k hk, beN_snoc]
theorem beN_take_lt (l : List UInt8) (k : Nat) (m : Nat) (hm : k ≤ m) : beN (l.take k) < 256 ^ m := by
  have h := beN_lt (l.take k)
  have : (l.take k).length ≤ m := by rw [List.length_take]; omega
  exact Nat.lt_of_lt_of_le h (Nat.pow_le_pow_right (by omega) this)

theorem or_byte (x b : Nat) (hx : x < 72057594037927936) (hb : b < 256) : bits .or .u64 ((x : Int) * 256) (b : Int) = ((x * 256 + b : Nat) : Int) := by
  have := u64_or_nat (x * 256) b (by omega) (by omega)
  rw [nat_join 8 _ _ (by omega) hb] at this
  rw [Int.natCast_mul] at this
  exact this
theorem strL_get (L : List UInt8) (k : Nat) (b : UInt8) (h : L[k]? = some b) (hk : k < (strL L).size) : (strL L)[k] = b := by
  obtain ⟨h1, rfl⟩ := List.getElem?_eq_some_iff.1 h
  show L.toArray[k] = _
  simp
end Go.Proofs.Ytniblmpihnhglaa

/- Walks of codec's numbers out of bytes. -/
namespace Go.Proofs.Ytniblmpihnhglaa
open Go.RowKit
set_option linter.unusedVariables false

def GetP (p : Nat) (L : List UInt8) (e : Int) (width : Nat) (k : IntKind) (w : World) (x : Ending) (w' : World) : Prop :=
  x = .returned (.int k (beN (fixO L e width) : Nat)) ∧ Rd p (fixL L e width) (fixE L e width) w' ∧ Only p w w'

set_option maxHeartbeats 800000 in
theorem get_u8 (p : Nat) (L : List UInt8) (e : Int) (w : World) (hl : L.length ≤ 140737488351232) (hr : Rd p L e w) :
    Calls Try.prog 67 #[.pointer (some ⟨p, 0, none⟩), .int .i64 1] w fun x w' => GetP p L e 1 .u8 w x w' := by
  have F1 := Lib.hid (fixed_any p L e 1 w hl hr)
  have ho : (fixO L e 1).length ≤ 1 := fixO_length L e 1 1 (by omega)
  clear hr hl
  have hG : Hid (∀ x w', x = Ending.returned (.int .u8 (beN (fixO L e 1) : Nat)) → Rd p (fixL L e 1) (fixE L e 1) w' → Only p w w' → GetP p L e 1 .u8 w x w') := fun x w' h1 h2 h3 => ⟨h1, h2, h3⟩
  unfold FixP at F1
  generalize hO : fixO L e 1 = O at *
  generalize fixL L e 1 = L2 at *
  generalize fixE L e 1 = e2 at *
  clear hO
  have hsz := strL_size O
  go_enter Try.func67, Try.ntmps67
  go_wp2_with (go_at_call 33; refine F1.out.mono ?_; rintro e w1 ⟨rfl, hrd, hon⟩; have HRD := Lib.hid hrd; have HON := Lib.hid hon; clear hrd hon)
  go_loop [6, 13] (fun v6 v13 => ∃ k : Nat, k ≤ O.length ∧ v13 = .int .i64 k ∧ v6 = .int .u64 (beN (O.take k) : Nat)) (fun _ v => O.length - (intOf v).toNat)
  case atStart => exact ⟨0, by omega, rfl, rfl⟩
  case round =>
    obtain ⟨k, hk, rfl, rfl⟩ := hrel
    by_cases hlt : k < O.length
    · obtain ⟨b, hb⟩ : ∃ b, O[k]? = some b := ⟨_, List.getElem?_eq_getElem hlt⟩
      have hx : beN (O.take k) < 72057594037927936 := beN_take_lt O k 7 (by omega)
      have hbl := b.toNat_lt
      have ho2 := or_byte _ _ hx hbl
      have HS := Lib.hid (beN_take O k b hb)
      have hget : ∀ h, (strL O)[k]'h = b := fun h => strL_get O k b hb h
      clear hb
      generalize beN (O.take k) = x at *
      generalize hy : x * 256 + b.toNat = y at *
      have HY := Lib.hid hy
      clear hy
      go_wp2_with fail
      go_round
      case rel => exact ⟨k + 1, by omega, by go_num, by rw [HS.out]⟩
      case measure => simp [intOf]; omega
    · have hall : O.take k = O := List.take_of_length_le (by omega)
      have hlast := beN_take_lt O k 1 (by omega)
      rw [hall] at hlast ⊢
      have hlast' : beN O < 256 := hlast
      have HG := Lib.hid (hG.out _ w1 rfl HRD.out HON.out)
      clear hG hall hlast
      generalize beN O = x at *
      go_wp2_with fail
      go_ret
      exact HG.out
set_option maxHeartbeats 400000 in
theorem r_u8 (p : Nat) (L : List UInt8) (e : Int) (w : World) (hl : L.length ≤ 140737488351232) (hr : Rd p L e w) :
    Calls Try.prog 31 #[.pointer (some ⟨p, 0, none⟩)] w fun x w' => GetP p L e 1 .u8 w x w' := by
  have F1 := Lib.hid (get_u8 p L e w hl hr)
  go_enter Try.func31, Try.ntmps31
  go_wp2_with (go_at_call 67; refine F1.out.mono ?_; rintro e w1 ⟨rfl, hrd, hon⟩)
  go_ret
  exact ⟨rfl, hrd, hon⟩

set_option maxHeartbeats 800000 in
theorem get_u16 (p : Nat) (L : List UInt8) (e : Int) (w : World) (hl : L.length ≤ 140737488351232) (hr : Rd p L e w) :
    Calls Try.prog 66 #[.pointer (some ⟨p, 0, none⟩), .int .i64 2] w fun x w' => GetP p L e 2 .u16 w x w' := by
  have F1 := Lib.hid (fixed_any p L e 2 w hl hr)
  have ho : (fixO L e 2).length ≤ 2 := fixO_length L e 2 2 (by omega)
  clear hr hl
  have hG : Hid (∀ x w', x = Ending.returned (.int .u16 (beN (fixO L e 2) : Nat)) → Rd p (fixL L e 2) (fixE L e 2) w' → Only p w w' → GetP p L e 2 .u16 w x w') := fun x w' h1 h2 h3 => ⟨h1, h2, h3⟩
  unfold FixP at F1
  generalize hO : fixO L e 2 = O at *
  generalize fixL L e 2 = L2 at *
  generalize fixE L e 2 = e2 at *
  clear hO
  have hsz := strL_size O
  go_enter Try.func66, Try.ntmps66
  go_wp2_with (go_at_call 33; refine F1.out.mono ?_; rintro e w1 ⟨rfl, hrd, hon⟩; have HRD := Lib.hid hrd; have HON := Lib.hid hon; clear hrd hon)
  go_loop [6, 13] (fun v6 v13 => ∃ k : Nat, k ≤ O.length ∧ v13 = .int .i64 k ∧ v6 = .int .u64 (beN (O.take k) : Nat)) (fun _ v => O.length - (intOf v).toNat)
  case atStart => exact ⟨0, by omega, rfl, rfl⟩
  case round =>
    obtain ⟨k, hk, rfl, rfl⟩ := hrel
    by_cases hlt : k < O.length
    · obtain ⟨b, hb⟩ : ∃ b, O[k]? = some b := ⟨_, List.getElem?_eq_getElem hlt⟩
      have hx : beN (O.take k) < 72057594037927936 := beN_take_lt O k 7 (by omega)
      have hbl := b.toNat_lt
      have ho2 := or_byte _ _ hx hbl
      have HS := Lib.hid (beN_take O k b hb)
      have hget : ∀ h, (strL O)[k]'h = b := fun h => strL_get O k b hb h
      clear hb
      generalize beN (O.take k) = x at *
      generalize hy : x * 256 + b.toNat = y at *
      have HY := Lib.hid hy
      clear hy
      go_wp2_with fail
      go_round
      case rel => exact ⟨k + 1, by omega, by go_num, by rw [HS.out]⟩
      case measure => simp [intOf]; omega
    · have hall : O.take k = O := List.take_of_length_le (by omega)
      have hlast := beN_take_lt O k 2 (by omega)
      rw [hall] at hlast ⊢
      have hlast' : beN O < 65536 := hlast
      have HG := Lib.hid (hG.out _ w1 rfl HRD.out HON.out)
      clear hG hall hlast
      generalize beN O = x at *
      go_wp2_with fail
      go_ret
      exact HG.out
set_option maxHeartbeats 400000 in
theorem r_u16 (p : Nat) (L : List UInt8) (e : Int) (w : World) (hl : L.length ≤ 140737488351232) (hr : Rd p L e w) :
    Calls Try.prog 30 #[.pointer (some ⟨p, 0, none⟩)] w fun x w' => GetP p L e 2 .u16 w x w' := by
  have F1 := Lib.hid (get_u16 p L e w hl hr)
  go_enter Try.func30, Try.ntmps30
  go_wp2_with (go_at_call 66; refine F1.out.mono ?_; rintro e w1 ⟨rfl, hrd, hon⟩)
  go_ret
  exact ⟨rfl, hrd, hon⟩

set_option maxHeartbeats 800000 in
theorem get_u32 (p : Nat) (L : List UInt8) (e : Int) (w : World) (hl : L.length ≤ 140737488351232) (hr : Rd p L e w) :
    Calls Try.prog 70 #[.pointer (some ⟨p, 0, none⟩), .int .i64 4] w fun x w' => GetP p L e 4 .u32 w x w' := by
  have F1 := Lib.hid (fixed_any p L e 4 w hl hr)
  have ho : (fixO L e 4).length ≤ 4 := fixO_length L e 4 4 (by omega)
  clear hr hl
  have hG : Hid (∀ x w', x = Ending.returned (.int .u32 (beN (fixO L e 4) : Nat)) → Rd p (fixL L e 4) (fixE L e 4) w' → Only p w w' → GetP p L e 4 .u32 w x w') := fun x w' h1 h2 h3 => ⟨h1, h2, h3⟩
  unfold FixP at F1
  generalize hO : fixO L e 4 = O at *
  generalize fixL L e 4 = L2 at *
  generalize fixE L e 4 = e2 at *
  clear hO
  have hsz := strL_size O
  go_enter Try.func70, Try.ntmps70
  go_wp2_with (go_at_call 33; refine F1.out.mono ?_; rintro e w1 ⟨rfl, hrd, hon⟩; have HRD := Lib.hid hrd; have HON := Lib.hid hon; clear hrd hon)
  go_loop [6, 13] (fun v6 v13 => ∃ k : Nat, k ≤ O.length ∧ v13 = .int .i64 k ∧ v6 = .int .u64 (beN (O.take k) : Nat)) (fun _ v => O.length - (intOf v).toNat)
  case atStart => exact ⟨0, by omega, rfl, rfl⟩
  case round =>
    obtain ⟨k, hk, rfl, rfl⟩ := hrel
    by_cases hlt : k < O.length
    · obtain ⟨b, hb⟩ : ∃ b, O[k]? = some b := ⟨_, List.getElem?_eq_getElem hlt⟩
      have hx : beN (O.take k) < 72057594037927936 := beN_take_lt O k 7 (by omega)
      have hbl := b.toNat_lt
      have ho2 := or_byte _ _ hx hbl
      have HS := Lib.hid (beN_take O k b hb)
      have hget : ∀ h, (strL O)[k]'h = b := fun h => strL_get O k b hb h
      clear hb
      generalize beN (O.take k) = x at *
      generalize hy : x * 256 + b.toNat = y at *
      have HY := Lib.hid hy
      clear hy
      go_wp2_with fail
      go_round
      case rel => exact ⟨k + 1, by omega, by go_num, by rw [HS.out]⟩
      case measure => simp [intOf]; omega
    · have hall : O.take k = O := List.take_of_length_le (by omega)
      have hlast := beN_take_lt O k 4 (by omega)
      rw [hall] at hlast ⊢
      have hlast' : beN O < 4294967296 := hlast
      have HG := Lib.hid (hG.out _ w1 rfl HRD.out HON.out)
      clear hG hall hlast
      generalize beN O = x at *
      go_wp2_with fail
      go_ret
      exact HG.out
set_option maxHeartbeats 400000 in
theorem r_u32 (p : Nat) (L : List UInt8) (e : Int) (w : World) (hl : L.length ≤ 140737488351232) (hr : Rd p L e w) :
    Calls Try.prog 38 #[.pointer (some ⟨p, 0, none⟩)] w fun x w' => GetP p L e 4 .u32 w x w' := by
  have F1 := Lib.hid (get_u32 p L e w hl hr)
  go_enter Try.func38, Try.ntmps38
  go_wp2_with (go_at_call 70; refine F1.out.mono ?_; rintro e w1 ⟨rfl, hrd, hon⟩)
  go_ret
  exact ⟨rfl, hrd, hon⟩

set_option maxHeartbeats 800000 in
theorem get_u64 (p : Nat) (L : List UInt8) (e : Int) (w : World) (hl : L.length ≤ 140737488351232) (hr : Rd p L e w) :
    Calls Try.prog 69 #[.pointer (some ⟨p, 0, none⟩), .int .i64 8] w fun x w' => GetP p L e 8 .u64 w x w' := by
  have F1 := Lib.hid (fixed_any p L e 8 w hl hr)
  have ho : (fixO L e 8).length ≤ 8 := fixO_length L e 8 8 (by omega)
  clear hr hl
  have hG : Hid (∀ x w', x = Ending.returned (.int .u64 (beN (fixO L e 8) : Nat)) → Rd p (fixL L e 8) (fixE L e 8) w' → Only p w w' → GetP p L e 8 .u64 w x w') := fun x w' h1 h2 h3 => ⟨h1, h2, h3⟩
  unfold FixP at F1
  generalize hO : fixO L e 8 = O at *
  generalize fixL L e 8 = L2 at *
  generalize fixE L e 8 = e2 at *
  clear hO
  have hsz := strL_size O
  go_enter Try.func69, Try.ntmps69
  go_wp2_with (go_at_call 33; refine F1.out.mono ?_; rintro e w1 ⟨rfl, hrd, hon⟩; have HRD := Lib.hid hrd; have HON := Lib.hid hon; clear hrd hon)
  go_loop [6, 13] (fun v6 v13 => ∃ k : Nat, k ≤ O.length ∧ v13 = .int .i64 k ∧ v6 = .int .u64 (beN (O.take k) : Nat)) (fun _ v => O.length - (intOf v).toNat)
  case atStart => exact ⟨0, by omega, rfl, rfl⟩
  case round =>
    obtain ⟨k, hk, rfl, rfl⟩ := hrel
    by_cases hlt : k < O.length
    · obtain ⟨b, hb⟩ : ∃ b, O[k]? = some b := ⟨_, List.getElem?_eq_getElem hlt⟩
      have hx : beN (O.take k) < 72057594037927936 := beN_take_lt O k 7 (by omega)
      have hbl := b.toNat_lt
      have ho2 := or_byte _ _ hx hbl
      have HS := Lib.hid (beN_take O k b hb)
      have hget : ∀ h, (strL O)[k]'h = b := fun h => strL_get O k b hb h
      clear hb
      generalize beN (O.take k) = x at *
      generalize hy : x * 256 + b.toNat = y at *
      have HY := Lib.hid hy
      clear hy
      go_wp2_with fail
      go_round
      case rel => exact ⟨k + 1, by omega, by go_num, by rw [HS.out]⟩
      case measure => simp [intOf]; omega
    · have hall : O.take k = O := List.take_of_length_le (by omega)
      have hlast := beN_take_lt O k 8 (by omega)
      rw [hall] at hlast ⊢
      have hlast' : beN O < 18446744073709551616 := hlast
      have HG := Lib.hid (hG.out _ w1 rfl HRD.out HON.out)
      clear hG hall hlast
      generalize beN O = x at *
      go_wp2_with fail
      go_ret
      exact HG.out
set_option maxHeartbeats 400000 in
theorem r_u64 (p : Nat) (L : List UInt8) (e : Int) (w : World) (hl : L.length ≤ 140737488351232) (hr : Rd p L e w) :
    Calls Try.prog 35 #[.pointer (some ⟨p, 0, none⟩)] w fun x w' => GetP p L e 8 .u64 w x w' := by
  have F1 := Lib.hid (get_u64 p L e w hl hr)
  go_enter Try.func35, Try.ntmps35
  go_wp2_with (go_at_call 69; refine F1.out.mono ?_; rintro e w1 ⟨rfl, hrd, hon⟩)
  go_ret
  exact ⟨rfl, hrd, hon⟩
end Go.Proofs.Ytniblmpihnhglaa

/- Walks of codec.Reader's Text, Err, Rest, New; and of the reference's reader. -/
namespace Go.Proofs.Ytniblmpihnhglaa
open Go.RowKit
set_option linter.unusedVariables false

/-- Text: its length, then so many bytes. -/
def txtN (L : List UInt8) (e : Int) : Nat := beN (fixO L e 2)
def txtO (L : List UInt8) (e : Int) : List UInt8 := fixO (fixL L e 2) (fixE L e 2) (txtN L e)
def txtL (L : List UInt8) (e : Int) : List UInt8 := fixL (fixL L e 2) (fixE L e 2) (txtN L e)
def txtE (L : List UInt8) (e : Int) : Int := fixE (fixL L e 2) (fixE L e 2) (txtN L e)
def TxtP (p : Nat) (L : List UInt8) (e : Int) (w : World) (x : Ending) (w' : World) : Prop :=
  x = .returned (.string (strL (txtO L e))) ∧ Rd p (txtL L e) (txtE L e) w' ∧ Only p w w'
theorem fixL_length (L : List UInt8) (e n : Int) : (fixL L e n).length ≤ L.length := by
  unfold fixL
  split
  · split
    · rw [List.length_drop]; omega
    · simp
  · omega
theorem txtN_lt (L : List UInt8) (e : Int) : txtN L e < 65536 := by
  have h := beN_lt (fixO L e 2)
  have h2 : 256 ^ (fixO L e 2).length ≤ 256 ^ 2 := Nat.pow_le_pow_right (by omega) (fixO_length L e 2 2 (by omega))
  have h3 : (256 : Nat) ^ 2 = 65536 := by decide
  unfold txtN
  omega

set_option maxHeartbeats 400000 in
theorem r_text (p : Nat) (L : List UInt8) (e : Int) (w : World) (hl : L.length ≤ 140737488351232) (hr : Rd p L e w) :
    Calls Try.prog 32 #[.pointer (some ⟨p, 0, none⟩)] w fun x w' => TxtP p L e w x w' := by
  have F1 := Lib.hid (r_u16 p L e w hl hr)
  have hl2 : (fixL L e 2).length ≤ 140737488351232 := Nat.le_trans (fixL_length L e 2) hl
  have hn : beN (fixO L e 2) < 65536 := txtN_lt L e
  have F2 : Hid (∀ w, Rd p (fixL L e 2) (fixE L e 2) w → Calls Try.prog 33 #[.pointer (some ⟨p, 0, none⟩), .int .i64 (beN (fixO L e 2) : Nat)] w fun x w' => FixP p (fixL L e 2) (fixE L e 2) (beN (fixO L e 2) : Nat) w x w') := Lib.hid (fun w hr => fixed_any p _ _ _ w hl2 hr)
  clear hr hl hl2
  have hG : Hid (∀ x w1 w2, FixP p (fixL L e 2) (fixE L e 2) (beN (fixO L e 2) : Nat) w1 x w2 → Only p w w1 → TxtP p L e w x w2) := fun x w1 w2 h ho => ⟨h.1, h.2.1, only_trans ho h.2.2⟩
  unfold GetP at F1
  generalize beN (fixO L e 2) = n at *
  go_enter Try.func32, Try.ntmps32
  go_wp2_with (go_at_call 30; refine F1.out.mono ?_; rintro e w1 ⟨rfl, hrd, hon⟩; have HRD := Lib.hid hrd; have HON := Lib.hid hon; clear hrd hon)
  refine (F2.out _ HRD.out).mono ?_
  rintro x w2 h2
  have hg := Lib.hid (hG.out _ _ _ h2 HON.out)
  obtain ⟨rfl, h3, h4⟩ := h2
  clear h3 h4 hG
  go_wp2_with fail
  go_ret
  exact hg.out

set_option maxHeartbeats 400000 in
theorem r_err (p : Nat) (L : List UInt8) (e : Int) (w : World) (hr : Rd p L e w) : Calls Try.prog 21 #[.pointer (some ⟨p, 0, none⟩)] w fun x w' => x = .returned (.int .i64 e) ∧ w = w' := by
  have c1 := hr.c1
  go_enter Try.func21, Try.ntmps21
  go_wp2_with fail
  go_ret
  exact ⟨rfl, rfl⟩
set_option maxHeartbeats 400000 in
theorem r_rest (p : Nat) (L : List UInt8) (e : Int) (w : World) (hr : Rd p L e w) : Calls Try.prog 23 #[.pointer (some ⟨p, 0, none⟩)] w fun x w' => x = .returned (.string (strL L)) ∧ w = w' := by
  have c0 := hr.c0
  go_enter Try.func23, Try.ntmps23
  go_wp2_with fail
  go_ret
  exact ⟨rfl, rfl⟩
def NewP (s : ByteArray) (w : World) (x : Ending) (w' : World) : Prop := x = .returned (.pointer (some ⟨w.heap.size, 0, none⟩)) ∧ w' = w.alloc (.cells #[.string s, .int .i64 0] 106)
set_option maxHeartbeats 400000 in
theorem r_new (s : ByteArray) (w : World) : Calls Try.prog 19 #[.string s] w fun x w' => NewP s w x w' := by
  go_enter Try.func19, Try.ntmps19
  go_wp2_with fail
  go_ret
  exact ⟨rfl, rfl⟩
theorem rd_new (L : List UInt8) (w : World) : Rd w.heap.size L 0 (w.alloc (.cells #[.string (strL L), .int .i64 0] 106)) := heap_alloc_new _ _

/-- The reference's reader at block q: its text, and what is left of it. -/
def Rr (q : Nat) (S L : List UInt8) (e : Int) (w : World) : Prop :=
  ∃ at_ : Nat, w.heap[q]? = some (.cells #[.string (strL S), .int .i64 at_, .bool (e != 0)] 46 (0, 0)) ∧ at_ ≤ S.length ∧ ((e = 0 ∧ L = S.drop at_) ∨ (e = 10 ∧ L = []))
def RFixP (q : Nat) (S L : List UInt8) (e n : Int) (w : World) (x : Ending) (w' : World) : Prop :=
  x = .returned (.string (strL (fixO L e n))) ∧ Rr q S (fixL L e n) (fixE L e n) w' ∧ Only q w w'
end Go.Proofs.Ytniblmpihnhglaa

/- Walks of the reference's reader of layer 3. -/
namespace Go.Proofs.Ytniblmpihnhglaa
open Go.RowKit
set_option linter.unusedVariables false

theorem rr_c0 {q : Nat} {S : List UInt8} {a : Nat} {b : Bool} {w : World} (h : w.heap[q]? = some (.cells #[.string (strL S), .int .i64 a, .bool b] 46 (0, 0))) : w.cell? ⟨q, 0, none⟩ = some (.string (strL S)) := by rw [cell_of_row _ _ _ _ _ _ h]; rfl
theorem rr_c1 {q : Nat} {S : List UInt8} {a : Nat} {b : Bool} {w : World} (h : w.heap[q]? = some (.cells #[.string (strL S), .int .i64 a, .bool b] 46 (0, 0))) : w.cell? ⟨q, 1, none⟩ = some (.int .i64 a) := by rw [cell_of_row _ _ _ _ _ _ h]; rfl
theorem rr_c2 {q : Nat} {S : List UInt8} {a : Nat} {b : Bool} {w : World} (h : w.heap[q]? = some (.cells #[.string (strL S), .int .i64 a, .bool b] 46 (0, 0))) : w.cell? ⟨q, 2, none⟩ = some (.bool b) := by rw [cell_of_row _ _ _ _ _ _ h]; rfl

theorem strL_mid (S : List UInt8) (a k : Nat) : (strL S).extract a (a + k) = strL ((S.drop a).take k) := by
  unfold strL
  apply ByteArray.ext
  simp [ByteArray.data_extract]

set_option maxHeartbeats 800000 in
theorem rr_fixed_go (q : Nat) (S : List UInt8) (a k b : Nat) (w : World) (hS : S.length ≤ 140737488351232) (hb : b = a + k) (hk : 0 < k) (hle : b ≤ S.length)
    (hr : w.heap[q]? = some (.cells #[.string (strL S), .int .i64 a, .bool false] 46 (0, 0))) :
    Calls Try.prog 61 #[.pointer (some ⟨q, 0, none⟩), .int .i64 k] w fun x w' => x = .returned (.string ((strL S).extract a b)) ∧ w'.heap[q]? = some (.cells #[.string (strL S), .int .i64 b, .bool false] 46 (0, 0)) ∧ Only q w w' := by
  have c0 := rr_c0 hr
  have c1 := rr_c1 hr
  have c2 := rr_c2 hr
  have f1 : w.frozen? ⟨q, 1, none⟩ = false := frozen_of_row _ _ _ _ _ hr
  have HR := Lib.hid hr
  clear hr
  have hsz := strL_size S
  have e1 : IntKind.i64.wrap ((S.length : Int) - (a : Int)) = ((S.length - a : Nat) : Int) := by rw [IntWalk.i64_in _ (by omega)]; omega
  have E1 := Lib.hid e1
  have E2 : Hid ((a : Int) + (k : Int) = (b : Int)) := Lib.hid (by omega)
  have E3 : Hid (IntKind.i64.wrap ((b : Int) - (k : Int)) = (a : Int)) := Lib.hid (by rw [IntWalk.i64_in _ (by omega)]; omega)
  have l1 : k ≤ S.length - a := by omega
  have l2 : a ≤ b := by omega
  have l3 : a + k ≤ 140737488351232 := by omega
  have HB := Lib.hid hb
  clear hb e1
  generalize hn : S.length - a = m at *
  have HN := Lib.hid hn
  clear hn
  go_enter Try.func61, Try.ntmps61
  go_wp2_with fail
  have e1 := E1.out
  go_quiet (fail)
  clear e1
  go_wp2_with fail
  rw [E2.out]
  have e3 := E3.out
  go_quiet (fail)
  clear e3
  go_wp2_with fail
  go_ret
  refine ⟨rfl, ?_, only_drewN (only_set (only_drewN (only_refl q w) _) 1 _) _⟩
  show ((w.drewN _).setCell _ _).heap[q]? = _
  rw [heap_setCell_same _ _ _ _ _ _ (show (w.drewN _).heap[q]? = _ from HR.out)]
  rfl

set_option maxHeartbeats 800000 in
theorem rr_fixed_torn (q : Nat) (S : List UInt8) (a : Nat) (n : Int) (w : World) (hS : S.length ≤ 140737488351232) (hb : a ≤ S.length) (hk : 0 < n) (hle : (S.length : Int) - a < n)
    (hr : w.heap[q]? = some (.cells #[.string (strL S), .int .i64 a, .bool false] 46 (0, 0))) :
    Calls Try.prog 61 #[.pointer (some ⟨q, 0, none⟩), .int .i64 n] w fun x w' => x = .returned (.string ⟨#[]⟩) ∧ w'.heap[q]? = some (.cells #[.string (strL S), .int .i64 a, .bool true] 46 (0, 0)) ∧ Only q w w' := by
  have c0 := rr_c0 hr
  have c1 := rr_c1 hr
  have c2 := rr_c2 hr
  have f2 : w.frozen? ⟨q, 2, none⟩ = false := frozen_of_row _ _ _ _ _ hr
  have HR := Lib.hid hr
  clear hr
  have hsz := strL_size S
  have E1 : Hid (IntKind.i64.wrap ((S.length : Int) - (a : Int)) = ((S.length - a : Nat) : Int)) := Lib.hid (by rw [IntWalk.i64_in _ (by omega)]; omega)
  have l1 : ((S.length - a : Nat) : Int) < n := by omega
  clear hle
  generalize S.length - a = m at *
  go_enter Try.func61, Try.ntmps61
  go_wp2_with fail
  have e1 := E1.out
  go_quiet (fail)
  clear e1
  go_wp2_with fail
  go_ret
  refine ⟨rfl, ?_, only_set (only_drewN (only_refl q w) _) 2 _⟩
  show ((w.drewN _).setCell _ _).heap[q]? = _
  rw [heap_setCell_same _ _ _ _ _ _ (show (w.drewN _).heap[q]? = _ from HR.out)]
  rfl
set_option maxHeartbeats 800000 in
theorem rr_fixed_none (q : Nat) (S : List UInt8) (a : Nat) (b : Bool) (n : Int) (w : World) (hk : b = true ∨ n ≤ 0)
    (hr : w.heap[q]? = some (.cells #[.string (strL S), .int .i64 a, .bool b] 46 (0, 0))) :
    Calls Try.prog 61 #[.pointer (some ⟨q, 0, none⟩), .int .i64 n] w fun x w' => x = .returned (.string ⟨#[]⟩) ∧ w = w' := by
  have c2 := rr_c2 hr
  clear hr
  cases b
  · have hn : n ≤ 0 := by rcases hk with h | h; (cases h); exact h
    clear hk
    go_enter Try.func61, Try.ntmps61
    go_wp2_with fail
    go_ret
    exact ⟨rfl, rfl⟩
  · clear hk
    go_enter Try.func61, Try.ntmps61
    go_wp2_with fail
    go_ret
    exact ⟨rfl, rfl⟩

theorem rr_fixed (q : Nat) (S L : List UInt8) (e n : Int) (w : World) (hS : S.length ≤ 140737488351232) (hr : Rr q S L e w) :
    Calls Try.prog 61 #[.pointer (some ⟨q, 0, none⟩), .int .i64 n] w fun x w' => RFixP q S L e n w x w' := by
  obtain ⟨a, hh, ha, hs⟩ := hr
  have hnil : (⟨#[]⟩ : ByteArray) = strL [] := rfl
  rcases hs with ⟨rfl, rfl⟩ | ⟨rfl, rfl⟩
  · by_cases hn : 0 < n
    · by_cases hb : n ≤ ((S.drop a).length : Int)
      · obtain ⟨k, rfl⟩ := Int.eq_ofNat_of_zero_le (by omega : 0 ≤ n)
        have hk : k ≤ S.length - a := by rw [List.length_drop] at hb; omega
        refine (rr_fixed_go q S a k (a + k) w hS rfl (by omega) (by omega) hh).mono fun x w' ⟨h1, h2, h3⟩ => ⟨?_, ?_, h3⟩
        · rw [h1, strL_mid]; unfold fixO; rw [if_pos ⟨rfl, hn, hb⟩, Int.toNat_natCast]
        · have e1 : fixE (S.drop a) 0 k = 0 := by unfold fixE; rw [if_neg (by omega)]
          have e2 : fixL (S.drop a) 0 k = S.drop (a + k) := by unfold fixL; rw [if_pos ⟨rfl, hn⟩, if_pos hb, Int.toNat_natCast, List.drop_drop]
          rw [e1, e2]
          exact ⟨a + k, h2, by omega, .inl ⟨rfl, rfl⟩⟩
      · have hb' : (S.length : Int) - a < n := by rw [List.length_drop] at hb; omega
        refine (rr_fixed_torn q S a n w hS ha hn hb' hh).mono fun x w' ⟨h1, h2, h3⟩ => ⟨?_, ?_, h3⟩
        · rw [h1, hnil]; unfold fixO; rw [if_neg (fun h => hb h.2.2)]
        · have e1 : fixE (S.drop a) 0 n = 10 := by unfold fixE; rw [if_pos ⟨rfl, hn, by omega⟩]
          have e2 : fixL (S.drop a) 0 n = [] := by unfold fixL; rw [if_pos ⟨rfl, hn⟩, if_neg hb]
          rw [e1, e2]
          exact ⟨a, h2, ha, .inr ⟨rfl, rfl⟩⟩
    · refine (rr_fixed_none q S a false n w (.inr (by omega)) hh).mono fun x w' ⟨h1, h2⟩ => ⟨?_, ?_, by rw [← h2]; exact only_refl q w⟩
      · rw [h1, hnil]; unfold fixO; rw [if_neg (fun h => hn h.2.1)]
      · have e1 : fixE (S.drop a) 0 n = 0 := by unfold fixE; rw [if_neg (fun h => hn h.2.1)]
        have e2 : fixL (S.drop a) 0 n = S.drop a := by unfold fixL; rw [if_neg (fun h => hn h.2)]
        rw [e1, e2, ← h2]
        exact ⟨a, hh, ha, .inl ⟨rfl, rfl⟩⟩
  · refine (rr_fixed_none q S a true n w (.inl rfl) hh).mono fun x w' ⟨h1, h2⟩ => ⟨?_, ?_, by rw [← h2]; exact only_refl q w⟩
    · rw [h1, hnil]; unfold fixO; rw [if_neg (fun h => absurd h.1 (by omega))]
    · have e1 : fixE [] 10 n = 10 := by unfold fixE; rw [if_neg (fun h => absurd h.1 (by omega))]
      have e2 : fixL [] 10 n = [] := by unfold fixL; rw [if_neg (fun h => absurd h.1 (by omega))]
      rw [e1, e2, ← h2]
      exact ⟨a, hh, ha, .inr ⟨rfl, rfl⟩⟩

def RNumP (q : Nat) (S L : List UInt8) (e : Int) (width : Nat) (w : World) (x : Ending) (w' : World) : Prop :=
  x = .returned (.int .u64 (beN (fixO L e width) : Nat)) ∧ Rr q S (fixL L e width) (fixE L e width) w' ∧ Only q w w'
theorem mul_byte (x b : Nat) (hx : x < 72057594037927936) : IntKind.u64.wrap ((x : Int) * 256) = (x : Int) * 256 := by rw [IntKind.wrap_u64]; omega

set_option maxHeartbeats 800000 in
theorem rr_number (q : Nat) (S L : List UInt8) (e : Int) (width : Nat) (w : World) (hw : width ≤ 8) (hS : S.length ≤ 140737488351232) (hr : Rr q S L e w) :
    Calls Try.prog 60 #[.pointer (some ⟨q, 0, none⟩), .int .i64 width] w fun x w' => RNumP q S L e width w x w' := by
  have F1 := Lib.hid (rr_fixed q S L e width w hS hr)
  have ho : (fixO L e width).length ≤ 8 := fixO_length L e width 8 (by omega)
  clear hr hS hw
  have hG : Hid (∀ x w', x = Ending.returned (.int .u64 (beN (fixO L e width) : Nat)) → Rr q S (fixL L e width) (fixE L e width) w' → Only q w w' → RNumP q S L e width w x w') := fun x w' h1 h2 h3 => ⟨h1, h2, h3⟩
  unfold RFixP at F1
  generalize hO : fixO L e width = O at *
  generalize fixL L e width = L2 at *
  generalize fixE L e width = e2 at *
  clear hO
  have hsz := strL_size O
  go_enter Try.func60, Try.ntmps60
  go_wp2_with (go_at_call 61; refine F1.out.mono ?_; rintro e w1 ⟨rfl, hrd, hon⟩; have HRD := Lib.hid hrd; have HON := Lib.hid hon; clear hrd hon)
  go_loop [6, 7] (fun v6 v13 => ∃ k : Nat, k ≤ O.length ∧ v13 = .int .i64 k ∧ v6 = .int .u64 (beN (O.take k) : Nat)) (fun _ v => O.length - (intOf v).toNat)
  case atStart => exact ⟨0, by omega, rfl, rfl⟩
  case round =>
    obtain ⟨k, hk, rfl, rfl⟩ := hrel
    by_cases hlt : k < O.length
    · obtain ⟨b, hb⟩ : ∃ b, O[k]? = some b := ⟨_, List.getElem?_eq_getElem hlt⟩
      have hx : beN (O.take k) < 72057594037927936 := beN_take_lt O k 7 (by omega)
      have hbl := b.toNat_lt
      have HS := Lib.hid (beN_take O k b hb)
      have hget : ∀ h, (strL O)[k]'h = b := fun h => strL_get O k b hb h
      clear hb
      generalize beN (O.take k) = x at *
      go_wp2_with fail
      go_round
      case rel => exact ⟨k + 1, by omega, by go_num, by rw [HS.out]; go_num⟩
      case measure => simp [intOf]; omega
    · have hall : O.take k = O := List.take_of_length_le (by omega)
      rw [hall]
      have HG := Lib.hid (hG.out _ w1 rfl HRD.out HON.out)
      clear hG hall
      generalize beN O = x at *
      go_wp2_with fail
      go_ret
      exact HG.out
end Go.Proofs.Ytniblmpihnhglaa

namespace Go.Proofs.Ytniblmpihnhglaa
open Go.RowKit
set_option linter.unusedVariables false

def byteV (l : List UInt8) : List Value := l.map fun b => Value.int .u8 (b.toNat : Int)
/-- At block p a codec.Writer stands: what was written, its error; its bytes in a row of the call's own from block B on. -/
def Wr (B p : Nat) (L : List UInt8) (e : Int) (w : World) : Prop :=
  ∃ v, w.heap[p]? = some (.cells #[v, .int .i64 e] 29 (0, 0)) ∧ w.ownsRow B 5 1 v L.length (byteV L) ∧ p < B ∧ B ≤ w.heap.size
/-- Below block B only block p has turned. -/
structure OnlyB (B p : Nat) (w w' : World) : Prop where
  os : w'.os = w.os
  tape : w'.tape = w.tape
  output : w'.output = w.output
  size : w.heap.size ≤ w'.heap.size
  block : ∀ k, k < B → k ≠ p → w'.heap[k]? = w.heap[k]?
  other : ∀ k, k < w.heap.size → k ≠ p → (∀ c fz, w.heap[k]? ≠ some (.cells c 5 fz)) → w'.heap[k]? = w.heap[k]?
theorem onlyB_refl (B p : Nat) (w : World) : OnlyB B p w w := ⟨rfl, rfl, rfl, Nat.le_refl _, fun _ _ _ => rfl, fun _ _ _ _ => rfl⟩
theorem onlyB_trans {B p : Nat} {a b c : World} (h : OnlyB B p a b) (k : OnlyB B p b c) : OnlyB B p a c :=
  ⟨k.os.trans h.os, k.tape.trans h.tape, k.output.trans h.output, Nat.le_trans h.size k.size, fun j hj hne => (k.block j hj hne).trans (h.block j hj hne), fun j hj hne h5 => (k.other j (Nat.lt_of_lt_of_le hj h.size) hne (by rw [h.other j hj hne h5]; exact h5)).trans (h.other j hj hne h5)⟩

theorem info5 : (Try.prog.info? 5).map (fun i => (i.zero, i.size, i.bytes)) = some (some (.int .u8 0), 1, 1) := by kernel_rfl

/-- The byte at place k of a number's bytes, so many, the highest first. -/
def byteAt (n W k : Nat) : UInt8 := UInt8.ofNat (n / 2 ^ (8 * (W - 1 - k)))
def beB (n W : Nat) : List UInt8 := (List.range W).map (byteAt n W)
theorem beB_length (n W : Nat) : (beB n W).length = W := by simp [beB]
theorem beB_take (n W k : Nat) (h : k < W) : (beB n W).take (k + 1) = (beB n W).take k ++ [byteAt n W k] := by
  rw [List.take_succ_eq_append_getElem (by rw [beB_length]; exact h)]
  congr 1
  simp only [beB, List.getElem_map, List.getElem_range]
theorem byteV_append (a b : List UInt8) : byteV (a ++ b) = byteV a ++ byteV b := by simp [byteV]
theorem byteV_length (a : List UInt8) : (byteV a).length = a.length := by simp [byteV]

/-- What an append onto the writer's row leaves as it was. -/
theorem grown_cell {B p : Nat} {wr W w1 : World} {v2 : Value} {n : Nat} {xs : List Value} {e : Int} (hh : wr.heap[p]? = some (.cells #[v2, .int .i64 e] 29 (0, 0))) (hown : wr.ownsRow B 5 1 v2 n xs) (hp : p < B) (hB : B ≤ wr.heap.size)
    (hW : Bl wr W) (hg : W.grownBy w1 v2.ownBlock) : w1.heap[p]? = some (.cells #[v2, .int .i64 e] 29 (0, 0)) := by
  rw [hg.block p (by have := hW.size; omega) (fun h => by have := (hown.lt p h.symm).1; omega), hW.block p (by omega), hh]

/-- And where the new slice is stored. -/
theorem wr_step {B p : Nat} {wr W w1 : World} {v2 u : Value} {L : List UInt8} {e : Int} (bs : List UInt8) (hh : wr.heap[p]? = some (.cells #[v2, .int .i64 e] 29 (0, 0))) (hown : wr.ownsRow B 5 1 v2 L.length (byteV L)) (hp : p < B) (hB : B ≤ wr.heap.size)
    (hW : Bl wr W) (hg : W.grownBy w1 v2.ownBlock) (h1 : w1.ownsRow B 5 1 u (L.length + bs.length) (byteV L ++ byteV bs)) :
    Wr B p (L ++ bs) e (w1.setCell ⟨p, 0, none⟩ u) ∧ OnlyB B p wr (w1.setCell ⟨p, 0, none⟩ u) := by
  have h := grown_cell hh hown hp hB hW hg
  have hs : w1.heap.size ≥ wr.heap.size := Nat.le_trans hW.size hg.size
  refine ⟨⟨u, ?_, ?_, hp, ?_⟩, ⟨?_, ?_, ?_, ?_, ?_, ?_⟩⟩
  · rw [heap_setCell_same w1 p 0 _ _ u h]; rfl
  · have := ownsRow_setCell_below h1 (a := ⟨p, 0, none⟩) hp u
    rwa [List.length_append, byteV_append]
  · simp; omega
  · exact hg.os.trans hW.os
  · exact hg.tape.trans hW.tape
  · exact hg.output.trans hW.output
  · simpa using hs
  · intro k hk hne
    rw [heap_setCell_other]
    · rw [hg.block k (by have := hW.size; omega) (fun h => by have := (hown.lt k h.symm).1; omega), hW.block k (by omega)]
    · exact hne
  · intro k hk hne h5
    rw [heap_setCell_other]
    · rw [hg.block k (by have := hW.size; omega) (fun h => by
        rcases hown.2 with ⟨rfl, _⟩ | ⟨g, cap, cur, rfl, _, hb, _⟩
        · cases h
        · cases h; exact h5 _ _ hb), hW.block k hk]
    · exact hne

def PutP (B p : Nat) (L M : List UInt8) (w : World) (x : Ending) (w' : World) : Prop := x = .returned (.tuple #[]) ∧ Wr B p (L ++ M) 0 w' ∧ OnlyB B p w w'
theorem byte_conv (n d : Nat) (W k : Nat) (h : d = 8 * (W - 1 - k)) (hd : d ≤ 64) : IntKind.u8.wrap ((n : Int) / 2 ^ min d 64) = ((byteAt n W k).toNat : Int) := by
  subst h
  rw [IntKind.wrap_u8', Nat.min_eq_left hd]
  have : (byteAt n W k).toNat = n / 2 ^ (8 * (W - 1 - k)) % 256 := UInt8.toNat_ofNat'
  rw [this, Int.natCast_emod, Int.natCast_ediv, Int.natCast_pow]
  rfl
theorem le_ad {w : World} {B : Nat} {o : Obj} (h : B ≤ w.heap.size) : B ≤ (w.alloc o).drew.heap.size := by
  show B ≤ (w.heap.push o).size
  rw [Array.size_push]
  omega
theorem news_last {w : World} {H : Nat} {t : TypeId} {v : Value} (hH : w.heap.size = H) (j : Nat) (u : Value) (h : [v][j]? = some u) : (w.alloc (.cells #[v] t)).drew.cell? ((⟨H, 0, none⟩ : Addr).add j) = some u := by
  subst hH
  show (w.alloc (.cells #[v] t)).cell? _ = _
  exact World.news_of_block (heap_alloc_new w _) j u (by simpa using h)

set_option maxRecDepth 100000 in
set_option maxHeartbeats 1600000 in
theorem put_u8 (B p : Nat) (L : List UInt8) (n : Nat) (w : World) (hn : n < 256) (hl : L.length ≤ 1000000000) (hr : Wr B p L 0 w) :
    Calls Try.prog 63 #[.pointer (some ⟨p, 0, none⟩), .int .u8 n, .int .i64 1] w (PutP B p L (beB n 1) w) := by
  have HR := Lib.hid hr
  obtain ⟨v, hh, hown, hp, hB⟩ := hr
  have c0 : w.cell? ⟨p, 0, none⟩ = some v := by rw [cell_of_row _ _ _ _ _ _ hh]; rfl
  have c1 : w.cell? ⟨p, 1, none⟩ = some (.int .i64 0) := by rw [cell_of_row _ _ _ _ _ _ hh]; rfl
  have f0 : w.frozen? ⟨p, 0, none⟩ = false := frozen_of_row _ _ _ _ _ hh
  have HL := Lib.hid hl
  have HN := Lib.hid hn
  clear hh hown hl hn
  obtain ⟨i0, hi, hz0, hz1, hz2⟩ := info_parts info5
  have HI := Lib.hid hi
  have Z0 := Lib.hid hz0
  have Z1 := Lib.hid hz1
  have Z2 := Lib.hid hz2
  clear hi hz0 hz1 hz2
  go_enter Try.func63, Try.ntmps63
  go_wp2_with fail
  go_loopw [17] (fun v17 wr => ∃ k : Nat, k ≤ 1 ∧ v17 = .int .i64 k ∧ Hid (Wr B p (L ++ (beB n 1).take k) 0 wr ∧ OnlyB B p w wr)) (fun v _ => 1 - (intOf v).toNat)
  case atStart => exact ⟨0, by omega, rfl, by rw [List.take_zero, List.append_nil]; exact ⟨HR.out, onlyB_refl _ _ _⟩⟩
  case round =>
    clear c0 c1 f0 HR
    obtain ⟨k, hk, rfl, hj⟩ := hrel
    by_cases hlt : k < 1
    · obtain ⟨⟨v2, hh2, hown2, hp2, hB2⟩, hob⟩ := hj.out
      have c0 : wr.cell? ⟨p, 0, none⟩ = some v2 := by rw [cell_of_row _ _ _ _ _ _ hh2]; rfl
      have OWN := Lib.hid hown2
      have HH2 := Lib.hid hh2
      have HOB := Lib.hid hob
      obtain ⟨d, hd⟩ : ∃ d, d = 8 * (1 - 1 - k) := ⟨_, rfl⟩
      have HD := Lib.hid hd
      have hlt' := hlt
      have hu : IntKind.u64.wrap (n : Int) = n := IntWalk.u64_in n (by have := HN.out; omega)
      have hs : IntKind.i64.wrap (8 * IntKind.i64.wrap (IntKind.i64.wrap 0 - (k : Int))) = (d : Int) := by
        rw [IntWalk.i64_in (0) (by omega), IntWalk.i64_in (0 - (k : Int)) (by omega), IntWalk.i64_in _ (by omega)]; omega
      have hb : IntKind.u8.wrap ((n : Int) / 2 ^ min d 64) = ((byteAt n 1 k).toNat : Int) := byte_conv n d 1 k hd (by omega)
      have cA : (wr.alloc (.cells #[.int .u8 ((byteAt n 1 k).toNat : Int)] 5)).cell? ⟨p, 0, none⟩ = some v2 := by
        rw [World.cell?_of_block (((Bl.refl wr).alloc _).block p (by omega)), c0]
      have HLN : Hid (L.length + k + 1 ≤ 1000000010) := by have := HL.out; show _ ≤ _; omega
      have hlen : (L ++ (beB n 1).take k).length = L.length + k := by rw [List.length_append, List.length_take, beB_length]; omega
      have HLEN := Lib.hid hlen
      clear hj hh2 hown2 hob hlen hd
      generalize hM : L ++ (beB n 1).take k = M at OWN HLEN
      have HM := Lib.hid hM
      clear hM
      go_wp2_with fail
      go_region_law (refine step_append_lies _ rfl (.tmp 24) (.tmp 34) 26 rfl B 5 i0 (.int .u8 0) 1 1 Try.underlying26 HI.out Z0.out Z1.out Z2.out rfl (by decide) v2 _ _ rfl ((OWN.out.alloc _).drew) ⟨wr.heap.size, 0, none⟩ 1 1 [_] rfl rfl (news_last rfl) (by intro u hu; rw [List.mem_singleton.1 hu]; rfl) (by decide) (by have := HLEN.out; have := HLN.out; rw [HLEN.out]; show _ ≤ 9223372036854775807; omega) (by have := HLN.out; rw [HLEN.out]; omega) (le_ad hB2) _ rfl ?_; intro g cap w1 hown hgrow hat hlt; have c1 : w1.cell? ⟨p, 0, none⟩ = some v2 := by { rw [cell_of_row _ _ _ _ _ _ (grown_cell HH2.out OWN.out hp2 hB2 ((Bl.refl wr).alloc _).drew hgrow)]; rfl }; have f1 : w1.frozen? ⟨p, 0, none⟩ = false := frozen_of_row _ _ _ _ _ (grown_cell HH2.out OWN.out hp2 hB2 ((Bl.refl wr).alloc _).drew hgrow); have HGROW := Lib.hid hgrow; have HOWN := Lib.hid hown; clear hgrow hown hat hlt)
      all_goals go_wp2_with fail
      all_goals go_roundw
      all_goals first | (simp only [intOf]; omega) | (
        refine ⟨k + 1, by omega, by go_num, ?_⟩
        have h := wr_step [byteAt n 1 k] HH2.out OWN.out hp2 hB2 (((Bl.refl wr).alloc _).drew) HGROW.out HOWN.out
        refine ⟨?_, onlyB_trans HOB.out h.2⟩
        rw [beB_take n 1 k hlt', ← List.append_assoc, HM.out]
        exact h.1)
    · have hk1 : k = 1 := by omega
      subst hk1
      go_wp2_with fail
      have h := hj.out
      rw [List.take_of_length_le (by rw [beB_length]; exact Nat.le_refl _)] at h
      go_end0
      exact ⟨rfl, h⟩
set_option maxRecDepth 100000 in
theorem puterr_u8 (B p : Nat) (L : List UInt8) (e : Int) (n : Nat) (w : World) (he : e ≠ 0) (hr : Wr B p L e w) :
    Calls Try.prog 63 #[.pointer (some ⟨p, 0, none⟩), .int .u8 n, .int .i64 1] w fun x w' => x = .returned (.tuple #[]) ∧ w = w' := by
  obtain ⟨v, hh, hown, hp, hB⟩ := hr
  have c1 : w.cell? ⟨p, 1, none⟩ = some (.int .i64 e) := by rw [cell_of_row _ _ _ _ _ _ hh]; rfl
  have hb : (e != 0) = true := by simpa using he
  clear hh hown
  go_enter Try.func63, Try.ntmps63
  go_wp2_with fail
  exact bodyPost_ret (results_none rfl _ _ _) rfl ⟨rfl, rfl⟩

set_option maxRecDepth 100000 in
set_option maxHeartbeats 1600000 in
theorem put_u16 (B p : Nat) (L : List UInt8) (n : Nat) (w : World) (hn : n < 65536) (hl : L.length ≤ 1000000000) (hr : Wr B p L 0 w) :
    Calls Try.prog 64 #[.pointer (some ⟨p, 0, none⟩), .int .u16 n, .int .i64 2] w (PutP B p L (beB n 2) w) := by
  have HR := Lib.hid hr
  obtain ⟨v, hh, hown, hp, hB⟩ := hr
  have c0 : w.cell? ⟨p, 0, none⟩ = some v := by rw [cell_of_row _ _ _ _ _ _ hh]; rfl
  have c1 : w.cell? ⟨p, 1, none⟩ = some (.int .i64 0) := by rw [cell_of_row _ _ _ _ _ _ hh]; rfl
  have f0 : w.frozen? ⟨p, 0, none⟩ = false := frozen_of_row _ _ _ _ _ hh
  have HL := Lib.hid hl
  have HN := Lib.hid hn
  clear hh hown hl hn
  obtain ⟨i0, hi, hz0, hz1, hz2⟩ := info_parts info5
  have HI := Lib.hid hi
  have Z0 := Lib.hid hz0
  have Z1 := Lib.hid hz1
  have Z2 := Lib.hid hz2
  clear hi hz0 hz1 hz2
  go_enter Try.func64, Try.ntmps64
  go_wp2_with fail
  go_loopw [17] (fun v17 wr => ∃ k : Nat, k ≤ 2 ∧ v17 = .int .i64 k ∧ Hid (Wr B p (L ++ (beB n 2).take k) 0 wr ∧ OnlyB B p w wr)) (fun v _ => 2 - (intOf v).toNat)
  case atStart => exact ⟨0, by omega, rfl, by rw [List.take_zero, List.append_nil]; exact ⟨HR.out, onlyB_refl _ _ _⟩⟩
  case round =>
    clear c0 c1 f0 HR
    obtain ⟨k, hk, rfl, hj⟩ := hrel
    by_cases hlt : k < 2
    · obtain ⟨⟨v2, hh2, hown2, hp2, hB2⟩, hob⟩ := hj.out
      have c0 : wr.cell? ⟨p, 0, none⟩ = some v2 := by rw [cell_of_row _ _ _ _ _ _ hh2]; rfl
      have OWN := Lib.hid hown2
      have HH2 := Lib.hid hh2
      have HOB := Lib.hid hob
      obtain ⟨d, hd⟩ : ∃ d, d = 8 * (2 - 1 - k) := ⟨_, rfl⟩
      have HD := Lib.hid hd
      have hlt' := hlt
      have hu : IntKind.u64.wrap (n : Int) = n := IntWalk.u64_in n (by have := HN.out; omega)
      have hs : IntKind.i64.wrap (8 * IntKind.i64.wrap (IntKind.i64.wrap 1 - (k : Int))) = (d : Int) := by
        rw [IntWalk.i64_in (1) (by omega), IntWalk.i64_in (1 - (k : Int)) (by omega), IntWalk.i64_in _ (by omega)]; omega
      have hb : IntKind.u8.wrap ((n : Int) / 2 ^ min d 64) = ((byteAt n 2 k).toNat : Int) := byte_conv n d 2 k hd (by omega)
      have cA : (wr.alloc (.cells #[.int .u8 ((byteAt n 2 k).toNat : Int)] 5)).cell? ⟨p, 0, none⟩ = some v2 := by
        rw [World.cell?_of_block (((Bl.refl wr).alloc _).block p (by omega)), c0]
      have HLN : Hid (L.length + k + 1 ≤ 1000000010) := by have := HL.out; show _ ≤ _; omega
      have hlen : (L ++ (beB n 2).take k).length = L.length + k := by rw [List.length_append, List.length_take, beB_length]; omega
      have HLEN := Lib.hid hlen
      clear hj hh2 hown2 hob hlen hd
      generalize hM : L ++ (beB n 2).take k = M at OWN HLEN
      have HM := Lib.hid hM
      clear hM
      go_wp2_with fail
      go_region_law (refine step_append_lies _ rfl (.tmp 24) (.tmp 34) 26 rfl B 5 i0 (.int .u8 0) 1 1 Try.underlying26 HI.out Z0.out Z1.out Z2.out rfl (by decide) v2 _ _ rfl ((OWN.out.alloc _).drew) ⟨wr.heap.size, 0, none⟩ 1 1 [_] rfl rfl (news_last rfl) (by intro u hu; rw [List.mem_singleton.1 hu]; rfl) (by decide) (by have := HLEN.out; have := HLN.out; rw [HLEN.out]; show _ ≤ 9223372036854775807; omega) (by have := HLN.out; rw [HLEN.out]; omega) (le_ad hB2) _ rfl ?_; intro g cap w1 hown hgrow hat hlt; have c1 : w1.cell? ⟨p, 0, none⟩ = some v2 := by { rw [cell_of_row _ _ _ _ _ _ (grown_cell HH2.out OWN.out hp2 hB2 ((Bl.refl wr).alloc _).drew hgrow)]; rfl }; have f1 : w1.frozen? ⟨p, 0, none⟩ = false := frozen_of_row _ _ _ _ _ (grown_cell HH2.out OWN.out hp2 hB2 ((Bl.refl wr).alloc _).drew hgrow); have HGROW := Lib.hid hgrow; have HOWN := Lib.hid hown; clear hgrow hown hat hlt)
      all_goals go_wp2_with fail
      all_goals go_roundw
      all_goals first | (simp only [intOf]; omega) | (
        refine ⟨k + 1, by omega, by go_num, ?_⟩
        have h := wr_step [byteAt n 2 k] HH2.out OWN.out hp2 hB2 (((Bl.refl wr).alloc _).drew) HGROW.out HOWN.out
        refine ⟨?_, onlyB_trans HOB.out h.2⟩
        rw [beB_take n 2 k hlt', ← List.append_assoc, HM.out]
        exact h.1)
    · have hk2 : k = 2 := by omega
      subst hk2
      go_wp2_with fail
      have h := hj.out
      rw [List.take_of_length_le (by rw [beB_length]; exact Nat.le_refl _)] at h
      go_end0
      exact ⟨rfl, h⟩
set_option maxRecDepth 100000 in
theorem puterr_u16 (B p : Nat) (L : List UInt8) (e : Int) (n : Nat) (w : World) (he : e ≠ 0) (hr : Wr B p L e w) :
    Calls Try.prog 64 #[.pointer (some ⟨p, 0, none⟩), .int .u16 n, .int .i64 2] w fun x w' => x = .returned (.tuple #[]) ∧ w = w' := by
  obtain ⟨v, hh, hown, hp, hB⟩ := hr
  have c1 : w.cell? ⟨p, 1, none⟩ = some (.int .i64 e) := by rw [cell_of_row _ _ _ _ _ _ hh]; rfl
  have hb : (e != 0) = true := by simpa using he
  clear hh hown
  go_enter Try.func64, Try.ntmps64
  go_wp2_with fail
  exact bodyPost_ret (results_none rfl _ _ _) rfl ⟨rfl, rfl⟩

set_option maxRecDepth 100000 in
set_option maxHeartbeats 1600000 in
theorem put_u32 (B p : Nat) (L : List UInt8) (n : Nat) (w : World) (hn : n < 4294967296) (hl : L.length ≤ 1000000000) (hr : Wr B p L 0 w) :
    Calls Try.prog 65 #[.pointer (some ⟨p, 0, none⟩), .int .u32 n, .int .i64 4] w (PutP B p L (beB n 4) w) := by
  have HR := Lib.hid hr
  obtain ⟨v, hh, hown, hp, hB⟩ := hr
  have c0 : w.cell? ⟨p, 0, none⟩ = some v := by rw [cell_of_row _ _ _ _ _ _ hh]; rfl
  have c1 : w.cell? ⟨p, 1, none⟩ = some (.int .i64 0) := by rw [cell_of_row _ _ _ _ _ _ hh]; rfl
  have f0 : w.frozen? ⟨p, 0, none⟩ = false := frozen_of_row _ _ _ _ _ hh
  have HL := Lib.hid hl
  have HN := Lib.hid hn
  clear hh hown hl hn
  obtain ⟨i0, hi, hz0, hz1, hz2⟩ := info_parts info5
  have HI := Lib.hid hi
  have Z0 := Lib.hid hz0
  have Z1 := Lib.hid hz1
  have Z2 := Lib.hid hz2
  clear hi hz0 hz1 hz2
  go_enter Try.func65, Try.ntmps65
  go_wp2_with fail
  go_loopw [17] (fun v17 wr => ∃ k : Nat, k ≤ 4 ∧ v17 = .int .i64 k ∧ Hid (Wr B p (L ++ (beB n 4).take k) 0 wr ∧ OnlyB B p w wr)) (fun v _ => 4 - (intOf v).toNat)
  case atStart => exact ⟨0, by omega, rfl, by rw [List.take_zero, List.append_nil]; exact ⟨HR.out, onlyB_refl _ _ _⟩⟩
  case round =>
    clear c0 c1 f0 HR
    obtain ⟨k, hk, rfl, hj⟩ := hrel
    by_cases hlt : k < 4
    · obtain ⟨⟨v2, hh2, hown2, hp2, hB2⟩, hob⟩ := hj.out
      have c0 : wr.cell? ⟨p, 0, none⟩ = some v2 := by rw [cell_of_row _ _ _ _ _ _ hh2]; rfl
      have OWN := Lib.hid hown2
      have HH2 := Lib.hid hh2
      have HOB := Lib.hid hob
      obtain ⟨d, hd⟩ : ∃ d, d = 8 * (4 - 1 - k) := ⟨_, rfl⟩
      have HD := Lib.hid hd
      have hlt' := hlt
      have hu : IntKind.u64.wrap (n : Int) = n := IntWalk.u64_in n (by have := HN.out; omega)
      have hs : IntKind.i64.wrap (8 * IntKind.i64.wrap (IntKind.i64.wrap 3 - (k : Int))) = (d : Int) := by
        rw [IntWalk.i64_in (3) (by omega), IntWalk.i64_in (3 - (k : Int)) (by omega), IntWalk.i64_in _ (by omega)]; omega
      have hb : IntKind.u8.wrap ((n : Int) / 2 ^ min d 64) = ((byteAt n 4 k).toNat : Int) := byte_conv n d 4 k hd (by omega)
      have cA : (wr.alloc (.cells #[.int .u8 ((byteAt n 4 k).toNat : Int)] 5)).cell? ⟨p, 0, none⟩ = some v2 := by
        rw [World.cell?_of_block (((Bl.refl wr).alloc _).block p (by omega)), c0]
      have HLN : Hid (L.length + k + 1 ≤ 1000000010) := by have := HL.out; show _ ≤ _; omega
      have hlen : (L ++ (beB n 4).take k).length = L.length + k := by rw [List.length_append, List.length_take, beB_length]; omega
      have HLEN := Lib.hid hlen
      clear hj hh2 hown2 hob hlen hd
      generalize hM : L ++ (beB n 4).take k = M at OWN HLEN
      have HM := Lib.hid hM
      clear hM
      go_wp2_with fail
      go_region_law (refine step_append_lies _ rfl (.tmp 24) (.tmp 34) 26 rfl B 5 i0 (.int .u8 0) 1 1 Try.underlying26 HI.out Z0.out Z1.out Z2.out rfl (by decide) v2 _ _ rfl ((OWN.out.alloc _).drew) ⟨wr.heap.size, 0, none⟩ 1 1 [_] rfl rfl (news_last rfl) (by intro u hu; rw [List.mem_singleton.1 hu]; rfl) (by decide) (by have := HLEN.out; have := HLN.out; rw [HLEN.out]; show _ ≤ 9223372036854775807; omega) (by have := HLN.out; rw [HLEN.out]; omega) (le_ad hB2) _ rfl ?_; intro g cap w1 hown hgrow hat hlt; have c1 : w1.cell? ⟨p, 0, none⟩ = some v2 := by { rw [cell_of_row _ _ _ _ _ _ (grown_cell HH2.out OWN.out hp2 hB2 ((Bl.refl wr).alloc _).drew hgrow)]; rfl }; have f1 : w1.frozen? ⟨p, 0, none⟩ = false := frozen_of_row _ _ _ _ _ (grown_cell HH2.out OWN.out hp2 hB2 ((Bl.refl wr).alloc _).drew hgrow); have HGROW := Lib.hid hgrow; have HOWN := Lib.hid hown; clear hgrow hown hat hlt)
      all_goals go_wp2_with fail
      all_goals go_roundw
      all_goals first | (simp only [intOf]; omega) | (
        refine ⟨k + 1, by omega, by go_num, ?_⟩
        have h := wr_step [byteAt n 4 k] HH2.out OWN.out hp2 hB2 (((Bl.refl wr).alloc _).drew) HGROW.out HOWN.out
        refine ⟨?_, onlyB_trans HOB.out h.2⟩
        rw [beB_take n 4 k hlt', ← List.append_assoc, HM.out]
        exact h.1)
    · have hk4 : k = 4 := by omega
      subst hk4
      go_wp2_with fail
      have h := hj.out
      rw [List.take_of_length_le (by rw [beB_length]; exact Nat.le_refl _)] at h
      go_end0
      exact ⟨rfl, h⟩
set_option maxRecDepth 100000 in
theorem puterr_u32 (B p : Nat) (L : List UInt8) (e : Int) (n : Nat) (w : World) (he : e ≠ 0) (hr : Wr B p L e w) :
    Calls Try.prog 65 #[.pointer (some ⟨p, 0, none⟩), .int .u32 n, .int .i64 4] w fun x w' => x = .returned (.tuple #[]) ∧ w = w' := by
  obtain ⟨v, hh, hown, hp, hB⟩ := hr
  have c1 : w.cell? ⟨p, 1, none⟩ = some (.int .i64 e) := by rw [cell_of_row _ _ _ _ _ _ hh]; rfl
  have hb : (e != 0) = true := by simpa using he
  clear hh hown
  go_enter Try.func65, Try.ntmps65
  go_wp2_with fail
  exact bodyPost_ret (results_none rfl _ _ _) rfl ⟨rfl, rfl⟩

set_option maxRecDepth 100000 in
set_option maxHeartbeats 1600000 in
theorem put_u64 (B p : Nat) (L : List UInt8) (n : Nat) (w : World) (hn : n < 18446744073709551616) (hl : L.length ≤ 1000000000) (hr : Wr B p L 0 w) :
    Calls Try.prog 68 #[.pointer (some ⟨p, 0, none⟩), .int .u64 n, .int .i64 8] w (PutP B p L (beB n 8) w) := by
  have HR := Lib.hid hr
  obtain ⟨v, hh, hown, hp, hB⟩ := hr
  have c0 : w.cell? ⟨p, 0, none⟩ = some v := by rw [cell_of_row _ _ _ _ _ _ hh]; rfl
  have c1 : w.cell? ⟨p, 1, none⟩ = some (.int .i64 0) := by rw [cell_of_row _ _ _ _ _ _ hh]; rfl
  have f0 : w.frozen? ⟨p, 0, none⟩ = false := frozen_of_row _ _ _ _ _ hh
  have HL := Lib.hid hl
  have HN := Lib.hid hn
  clear hh hown hl hn
  obtain ⟨i0, hi, hz0, hz1, hz2⟩ := info_parts info5
  have HI := Lib.hid hi
  have Z0 := Lib.hid hz0
  have Z1 := Lib.hid hz1
  have Z2 := Lib.hid hz2
  clear hi hz0 hz1 hz2
  go_enter Try.func68, Try.ntmps68
  go_wp2_with fail
  go_loopw [17] (fun v17 wr => ∃ k : Nat, k ≤ 8 ∧ v17 = .int .i64 k ∧ Hid (Wr B p (L ++ (beB n 8).take k) 0 wr ∧ OnlyB B p w wr)) (fun v _ => 8 - (intOf v).toNat)
  case atStart => exact ⟨0, by omega, rfl, by rw [List.take_zero, List.append_nil]; exact ⟨HR.out, onlyB_refl _ _ _⟩⟩
  case round =>
    clear c0 c1 f0 HR
    obtain ⟨k, hk, rfl, hj⟩ := hrel
    by_cases hlt : k < 8
    · obtain ⟨⟨v2, hh2, hown2, hp2, hB2⟩, hob⟩ := hj.out
      have c0 : wr.cell? ⟨p, 0, none⟩ = some v2 := by rw [cell_of_row _ _ _ _ _ _ hh2]; rfl
      have OWN := Lib.hid hown2
      have HH2 := Lib.hid hh2
      have HOB := Lib.hid hob
      obtain ⟨d, hd⟩ : ∃ d, d = 8 * (8 - 1 - k) := ⟨_, rfl⟩
      have HD := Lib.hid hd
      have hlt' := hlt
      have hs : IntKind.i64.wrap (8 * IntKind.i64.wrap (IntKind.i64.wrap 7 - (k : Int))) = (d : Int) := by
        rw [IntWalk.i64_in (7) (by omega), IntWalk.i64_in (7 - (k : Int)) (by omega), IntWalk.i64_in _ (by omega)]; omega
      have hb : IntKind.u8.wrap ((n : Int) / 2 ^ min d 64) = ((byteAt n 8 k).toNat : Int) := byte_conv n d 8 k hd (by omega)
      have cA : (wr.alloc (.cells #[.int .u8 ((byteAt n 8 k).toNat : Int)] 5)).cell? ⟨p, 0, none⟩ = some v2 := by
        rw [World.cell?_of_block (((Bl.refl wr).alloc _).block p (by omega)), c0]
      have HLN : Hid (L.length + k + 1 ≤ 1000000010) := by have := HL.out; show _ ≤ _; omega
      have hlen : (L ++ (beB n 8).take k).length = L.length + k := by rw [List.length_append, List.length_take, beB_length]; omega
      have HLEN := Lib.hid hlen
      clear hj hh2 hown2 hob hlen hd
      generalize hM : L ++ (beB n 8).take k = M at OWN HLEN
      have HM := Lib.hid hM
      clear hM
      go_wp2_with fail
      go_region_law (refine step_append_lies _ rfl (.tmp 24) (.tmp 33) 26 rfl B 5 i0 (.int .u8 0) 1 1 Try.underlying26 HI.out Z0.out Z1.out Z2.out rfl (by decide) v2 _ _ rfl ((OWN.out.alloc _).drew) ⟨wr.heap.size, 0, none⟩ 1 1 [_] rfl rfl (news_last rfl) (by intro u hu; rw [List.mem_singleton.1 hu]; rfl) (by decide) (by have := HLEN.out; have := HLN.out; rw [HLEN.out]; show _ ≤ 9223372036854775807; omega) (by have := HLN.out; rw [HLEN.out]; omega) (le_ad hB2) _ rfl ?_; intro g cap w1 hown hgrow hat hlt; have c1 : w1.cell? ⟨p, 0, none⟩ = some v2 := by { rw [cell_of_row _ _ _ _ _ _ (grown_cell HH2.out OWN.out hp2 hB2 ((Bl.refl wr).alloc _).drew hgrow)]; rfl }; have f1 : w1.frozen? ⟨p, 0, none⟩ = false := frozen_of_row _ _ _ _ _ (grown_cell HH2.out OWN.out hp2 hB2 ((Bl.refl wr).alloc _).drew hgrow); have HGROW := Lib.hid hgrow; have HOWN := Lib.hid hown; clear hgrow hown hat hlt)
      all_goals go_wp2_with fail
      all_goals go_roundw
      all_goals first | (simp only [intOf]; omega) | (
        refine ⟨k + 1, by omega, by go_num, ?_⟩
        have h := wr_step [byteAt n 8 k] HH2.out OWN.out hp2 hB2 (((Bl.refl wr).alloc _).drew) HGROW.out HOWN.out
        refine ⟨?_, onlyB_trans HOB.out h.2⟩
        rw [beB_take n 8 k hlt', ← List.append_assoc, HM.out]
        exact h.1)
    · have hk8 : k = 8 := by omega
      subst hk8
      go_wp2_with fail
      have h := hj.out
      rw [List.take_of_length_le (by rw [beB_length]; exact Nat.le_refl _)] at h
      go_end0
      exact ⟨rfl, h⟩
set_option maxRecDepth 100000 in
theorem puterr_u64 (B p : Nat) (L : List UInt8) (e : Int) (n : Nat) (w : World) (he : e ≠ 0) (hr : Wr B p L e w) :
    Calls Try.prog 68 #[.pointer (some ⟨p, 0, none⟩), .int .u64 n, .int .i64 8] w fun x w' => x = .returned (.tuple #[]) ∧ w = w' := by
  obtain ⟨v, hh, hown, hp, hB⟩ := hr
  have c1 : w.cell? ⟨p, 1, none⟩ = some (.int .i64 e) := by rw [cell_of_row _ _ _ _ _ _ hh]; rfl
  have hb : (e != 0) = true := by simpa using he
  clear hh hown
  go_enter Try.func68, Try.ntmps68
  go_wp2_with fail
  exact bodyPost_ret (results_none rfl _ _ _) rfl ⟨rfl, rfl⟩
end Go.Proofs.Ytniblmpihnhglaa

namespace Go.Proofs.Ytniblmpihnhglaa
open Go.RowKit
set_option linter.unusedVariables false

theorem calls_conv {P : Program} {f : Nat} {args : Array Value} {w : World} {A B : Ending → World → Prop} (h : Calls P f args w A) (k : ∀ x w', A x w' → B x w') : Calls P f args w B := h.mono k

set_option maxRecDepth 100000 in
theorem w_u8 (B p : Nat) (L : List UInt8) (n : Nat) (w : World) (hn : n < 256) (hl : L.length ≤ 1000000000) (hr : Wr B p L 0 w) :
    Calls Try.prog 25 #[.pointer (some ⟨p, 0, none⟩), .int .u8 n] w (PutP B p L (beB n 1) w) := by
  have HN := Lib.hid hn
  have HL := Lib.hid hl
  have HR := Lib.hid hr
  clear hn hl hr
  go_enter Try.func25, Try.ntmps25
  go_wp2_with (go_at_call 63; refine (put_u8 B p L n _ HN.out HL.out HR.out).mono ?_; rintro e w' ⟨rfl, hp⟩; have HP := Lib.hid hp; clear hp)
  go_end0
  exact ⟨rfl, HP.out⟩
set_option maxRecDepth 100000 in
theorem w_u16 (B p : Nat) (L : List UInt8) (n : Nat) (w : World) (hn : n < 65536) (hl : L.length ≤ 1000000000) (hr : Wr B p L 0 w) :
    Calls Try.prog 26 #[.pointer (some ⟨p, 0, none⟩), .int .u16 n] w (PutP B p L (beB n 2) w) := by
  have HN := Lib.hid hn
  have HL := Lib.hid hl
  have HR := Lib.hid hr
  clear hn hl hr
  go_enter Try.func26, Try.ntmps26
  go_wp2_with (go_at_call 64; refine (put_u16 B p L n _ HN.out HL.out HR.out).mono ?_; rintro e w' ⟨rfl, hp⟩; have HP := Lib.hid hp; clear hp)
  go_end0
  exact ⟨rfl, HP.out⟩
set_option maxRecDepth 100000 in
theorem w_u32 (B p : Nat) (L : List UInt8) (n : Nat) (w : World) (hn : n < 4294967296) (hl : L.length ≤ 1000000000) (hr : Wr B p L 0 w) :
    Calls Try.prog 27 #[.pointer (some ⟨p, 0, none⟩), .int .u32 n] w (PutP B p L (beB n 4) w) := by
  have HN := Lib.hid hn
  have HL := Lib.hid hl
  have HR := Lib.hid hr
  clear hn hl hr
  go_enter Try.func27, Try.ntmps27
  go_wp2_with (go_at_call 65; refine (put_u32 B p L n _ HN.out HL.out HR.out).mono ?_; rintro e w' ⟨rfl, hp⟩; have HP := Lib.hid hp; clear hp)
  go_end0
  exact ⟨rfl, HP.out⟩
set_option maxRecDepth 100000 in
theorem w_u64 (B p : Nat) (L : List UInt8) (n : Nat) (w : World) (hn : n < 18446744073709551616) (hl : L.length ≤ 1000000000) (hr : Wr B p L 0 w) :
    Calls Try.prog 34 #[.pointer (some ⟨p, 0, none⟩), .int .u64 n] w (PutP B p L (beB n 8) w) := by
  have HN := Lib.hid hn
  have HL := Lib.hid hl
  have HR := Lib.hid hr
  clear hn hl hr
  go_enter Try.func34, Try.ntmps34
  go_wp2_with (go_at_call 68; refine (put_u64 B p L n _ HN.out HL.out HR.out).mono ?_; rintro e w' ⟨rfl, hp⟩; have HP := Lib.hid hp; clear hp)
  go_end0
  exact ⟨rfl, HP.out⟩

def SameP (w : World) (x : Ending) (w' : World) : Prop := x = .returned (.tuple #[]) ∧ w = w'
set_option maxRecDepth 100000 in
theorem we_u8 (B p : Nat) (L : List UInt8) (e : Int) (n : Nat) (w : World) (he : e ≠ 0) (hr : Wr B p L e w) :
    Calls Try.prog 25 #[.pointer (some ⟨p, 0, none⟩), .int .u8 n] w (SameP w) := by
  have HE := Lib.hid he
  have HR := Lib.hid hr
  clear he hr
  go_enter Try.func25, Try.ntmps25
  go_wp2_with (go_at_call 63; refine (puterr_u8 B p L e n _ HE.out HR.out).mono ?_; rintro e w' ⟨rfl, rfl⟩)
  go_end0
  exact ⟨rfl, rfl⟩
set_option maxRecDepth 100000 in
theorem we_u16 (B p : Nat) (L : List UInt8) (e : Int) (n : Nat) (w : World) (he : e ≠ 0) (hr : Wr B p L e w) :
    Calls Try.prog 26 #[.pointer (some ⟨p, 0, none⟩), .int .u16 n] w (SameP w) := by
  have HE := Lib.hid he
  have HR := Lib.hid hr
  clear he hr
  go_enter Try.func26, Try.ntmps26
  go_wp2_with (go_at_call 64; refine (puterr_u16 B p L e n _ HE.out HR.out).mono ?_; rintro e w' ⟨rfl, rfl⟩)
  go_end0
  exact ⟨rfl, rfl⟩
set_option maxRecDepth 100000 in
theorem we_u32 (B p : Nat) (L : List UInt8) (e : Int) (n : Nat) (w : World) (he : e ≠ 0) (hr : Wr B p L e w) :
    Calls Try.prog 27 #[.pointer (some ⟨p, 0, none⟩), .int .u32 n] w (SameP w) := by
  have HE := Lib.hid he
  have HR := Lib.hid hr
  clear he hr
  go_enter Try.func27, Try.ntmps27
  go_wp2_with (go_at_call 65; refine (puterr_u32 B p L e n _ HE.out HR.out).mono ?_; rintro e w' ⟨rfl, rfl⟩)
  go_end0
  exact ⟨rfl, rfl⟩
set_option maxRecDepth 100000 in
theorem we_u64 (B p : Nat) (L : List UInt8) (e : Int) (n : Nat) (w : World) (he : e ≠ 0) (hr : Wr B p L e w) :
    Calls Try.prog 34 #[.pointer (some ⟨p, 0, none⟩), .int .u64 n] w (SameP w) := by
  have HE := Lib.hid he
  have HR := Lib.hid hr
  clear he hr
  go_enter Try.func34, Try.ntmps34
  go_wp2_with (go_at_call 68; refine (puterr_u64 B p L e n _ HE.out HR.out).mono ?_; rintro e w' ⟨rfl, rfl⟩)
  go_end0
  exact ⟨rfl, rfl⟩

theorem strCells_strL (M : List UInt8) : Lib.strCells (strL M) = byteV M := by
  simp [Lib.strCells, byteV, strL]
theorem strL_size' (M : List UInt8) : (strL M).size = M.length := by simp [strL, ByteArray.size]

theorem own_shape {w : World} {base : Nat} {e : TypeId} {size : Nat} {v : Value} {n : Nat} {xs : List Value} (h : w.ownsRow base e size v n xs) : ∃ a c, v = .slice a n c := by
  rcases h.2 with ⟨rfl, rfl⟩ | ⟨g, cap, cur, rfl, _⟩
  · exact ⟨_, _, rfl⟩
  · exact ⟨_, _, rfl⟩
/-- Where a text is stored behind the row. -/
theorem wr_raw {B p : Nat} {wr w1 : World} {v2 u : Value} {L M : List UInt8} {e : Int} (hh : wr.heap[p]? = some (.cells #[v2, .int .i64 e] 29 (0, 0))) (hown : wr.ownsRow B 5 1 v2 L.length (byteV L)) (hp : p < B) (hB : B ≤ wr.heap.size)
    (hg : wr.grownBy w1 v2.ownBlock) (h1 : w1.ownsRow B 5 1 u (L.length + (strL M).size) (byteV L ++ Lib.strCells (strL M))) :
    Wr B p (L ++ M) e (w1.setCell ⟨p, 0, none⟩ u) ∧ OnlyB B p wr (w1.setCell ⟨p, 0, none⟩ u) := by
  rw [strCells_strL, strL_size'] at h1
  exact wr_step M hh hown hp hB (Bl.refl wr) hg h1

set_option maxRecDepth 100000 in
theorem w_raw (B p : Nat) (L M : List UInt8) (w : World) (hm : M.length ≤ 1000000) (hl : L.length ≤ 1000000000) (hr : Wr B p L 0 w) :
    Calls Try.prog 29 #[.pointer (some ⟨p, 0, none⟩), .string (strL M)] w (PutP B p L M w) := by
  obtain ⟨v, hh, hown, hp, hB⟩ := hr
  have c0 : w.cell? ⟨p, 0, none⟩ = some v := by rw [cell_of_row _ _ _ _ _ _ hh]; rfl
  have c1 : w.cell? ⟨p, 1, none⟩ = some (.int .i64 0) := by rw [cell_of_row _ _ _ _ _ _ hh]; rfl
  obtain ⟨i0, hi, hz0, hz1, hz2⟩ := info_parts info5
  have HI := Lib.hid hi
  have Z0 := Lib.hid hz0
  have Z1 := Lib.hid hz1
  have Z2 := Lib.hid hz2
  have HL := Lib.hid hl
  have HM := Lib.hid hm
  have HH := Lib.hid hh
  have HO := Lib.hid hown
  clear hi hz0 hz1 hz2 hl hm hh hown
  generalize hS : strL M = S
  have HS := Lib.hid hS
  clear hS
  go_enter Try.func29, Try.ntmps29
  go_wp2_with (refine Lib.wpList_append_own_string _ rfl (.tmp 17) (.tmp 18) 26 9 rfl B 5 i0 Try.underlying26 Try.underlying9 HI.out Z0.out Z1.out Z2.out v _ _ rfl HO.out S rfl (by have := HL.out; have := HM.out; rw [← HS.out, strL_size']; show _ ≤ 9223372036854775807; omega) (by have := HL.out; have := HM.out; rw [← HS.out, strL_size']; omega) hB ?_; intro g w1 hown hgrow hat; obtain ⟨ga, gc, rfl⟩ := own_shape hown; have c1 : w1.cell? ⟨p, 0, none⟩ = some v := by { rw [cell_of_row _ _ _ _ _ _ (grown_cell HH.out HO.out hp hB (Bl.refl w) hgrow)]; rfl }; have f1 : w1.frozen? ⟨p, 0, none⟩ = false := frozen_of_row _ _ _ _ _ (grown_cell HH.out HO.out hp hB (Bl.refl w) hgrow); have HGROW := Lib.hid hgrow; have HOWN := Lib.hid hown; clear hgrow hown hat)
  go_end0
  have h1 := HOWN.out
  rw [← HS.out] at h1
  have h := wr_raw HH.out HO.out hp hB HGROW.out h1
  rw [HS.out] at h
  exact ⟨rfl, h⟩

set_option maxRecDepth 100000 in
theorem we_raw (B p : Nat) (L : List UInt8) (e : Int) (s : ByteArray) (w : World) (he : e ≠ 0) (hr : Wr B p L e w) :
    Calls Try.prog 29 #[.pointer (some ⟨p, 0, none⟩), .string s] w (SameP w) := by
  obtain ⟨v, hh, hown, hp, hB⟩ := hr
  have c1 : w.cell? ⟨p, 1, none⟩ = some (.int .i64 e) := by rw [cell_of_row _ _ _ _ _ _ hh]; rfl
  have hb : (e == 0) = false := by simpa using he
  clear hh hown
  go_enter Try.func29, Try.ntmps29
  go_wp2_with fail
  go_end0
  exact ⟨rfl, rfl⟩

/-- The writer's error is set. -/
theorem wr_long {B p : Nat} {L : List UInt8} {e d : Int} {w : World} (h : Wr B p L e w) : Wr B p L d (w.setCell ⟨p, 1, none⟩ (.int .i64 d)) ∧ OnlyB B p w (w.setCell ⟨p, 1, none⟩ (.int .i64 d)) := by
  obtain ⟨v, hh, hown, hp, hB⟩ := h
  refine ⟨⟨v, ?_, ownsRow_setCell_below hown (a := ⟨p, 1, none⟩) hp _, hp, by simpa using hB⟩, ⟨rfl, rfl, rfl, by simp, fun k hk hne => heap_setCell_other w _ k _ hne, fun k hk hne _ => heap_setCell_other w _ k _ hne⟩⟩
  rw [heap_setCell_same w p 1 _ _ _ hh]; rfl

set_option maxRecDepth 100000 in
theorem w_text_long (B p : Nat) (L M : List UInt8) (e : Int) (w : World) (hm : 65535 < M.length) (hr : Wr B p L e w) :
    Calls Try.prog 28 #[.pointer (some ⟨p, 0, none⟩), .string (strL M)] w fun x w' => x = .returned (.tuple #[]) ∧ Wr B p L 3 w' ∧ OnlyB B p w w' := by
  have HW := Lib.hid hr
  obtain ⟨v, hh, hown, hp, hB⟩ := hr
  have c1 : w.cell? ⟨p, 1, none⟩ = some (.int .i64 e) := by rw [cell_of_row _ _ _ _ _ _ hh]; rfl
  have f1 : w.frozen? ⟨p, 1, none⟩ = false := frozen_of_row _ _ _ _ _ hh
  have hz : (strL M).size = M.length := strL_size' M
  have ht : decide ((65535 : Int) < (M.length : Int)) = true := decide_eq_true (by omega)
  generalize strL M = S at hz
  clear hh hown
  go_enter Try.func28, Try.ntmps28
  go_wp2_with fail
  exact bodyPost_ret (results_none rfl _ _ _) rfl ⟨rfl, wr_long HW.out⟩

def TxtE (B p : Nat) (L M : List UInt8) (w : World) (x : Ending) (w' : World) : Prop := x = .returned (.tuple #[]) ∧ Wr B p (L ++ (beB M.length 2 ++ M)) 0 w' ∧ OnlyB B p w w'
set_option maxRecDepth 100000 in
theorem w_text (B p : Nat) (L M : List UInt8) (w : World) (hm : M.length ≤ 65535) (hl : L.length ≤ 999999000) (hr : Wr B p L 0 w) :
    Calls Try.prog 28 #[.pointer (some ⟨p, 0, none⟩), .string (strL M)] w (TxtE B p L M w) := by
  have HW := Lib.hid hr
  have hz : (strL M).size = M.length := strL_size' M
  have ht : decide ((65535 : Int) < (M.length : Int)) = false := decide_eq_false (by omega)
  have hu : IntKind.u16.wrap (M.length : Int) = M.length := IntWalk.u16_in _ (by omega)
  have HM := Lib.hid hm
  have HL := Lib.hid hl
  generalize hS : strL M = S at hz
  have HS := Lib.hid hS
  clear hr hm hl hS
  go_enter Try.func28, Try.ntmps28
  go_wp2_with (first
    | (go_at_call 26; refine (w_u16 B p L M.length _ (by have := HM.out; omega) (by have := HL.out; omega) HW.out).mono ?_; rintro e w1 ⟨rfl, hp1⟩; have HP1 := Lib.hid hp1; clear hp1)
    | (go_at_call 29; rw [← HS.out]; refine (w_raw B p (L ++ beB M.length 2) M _ (by have := HM.out; omega) (by have := HL.out; rw [List.length_append, beB_length]; omega) HP1.out.1).mono ?_; rintro e w2 ⟨rfl, hp2⟩; have HP2 := Lib.hid hp2; clear hp2))
  go_end0
  refine ⟨rfl, ?_, onlyB_trans HP1.out.2 HP2.out.2⟩
  rw [← List.append_assoc]
  exact HP2.out.1

set_option maxRecDepth 100000 in
theorem we_text (B p : Nat) (L M : List UInt8) (e : Int) (w : World) (he : e ≠ 0) (hm : M.length ≤ 65535) (hr : Wr B p L e w) :
    Calls Try.prog 28 #[.pointer (some ⟨p, 0, none⟩), .string (strL M)] w (SameP w) := by
  have HW := Lib.hid hr
  have hz : (strL M).size = M.length := strL_size' M
  have ht : decide ((65535 : Int) < (M.length : Int)) = false := decide_eq_false (by omega)
  have hu : IntKind.u16.wrap (M.length : Int) = M.length := IntWalk.u16_in _ (by omega)
  have HE := Lib.hid he
  generalize hS : strL M = S at hz
  clear hr hm hS he
  go_enter Try.func28, Try.ntmps28
  go_wp2_with (first
    | (go_at_call 26; refine (we_u16 B p L e M.length _ HE.out HW.out).mono ?_; rintro e w1 ⟨rfl, rfl⟩)
    | (go_at_call 29; refine (we_raw B p L e S _ HE.out HW.out).mono ?_; rintro e w2 ⟨rfl, rfl⟩))
  go_end0
  exact ⟨rfl, rfl⟩

set_option maxRecDepth 100000 in
theorem convert_nil26 (w : World) : (convert 26 9 (.slice none 0 0)).run Try.prog w = .ok (.string (strL [])) w := by
  exact run_convert_bytes_nil w 26 5 Try.underlying26 Try.underlying5 0 0 9 Try.underlying9
set_option maxRecDepth 100000 in
/-- What the row's bytes are as a string. -/
theorem run_row_string {w : World} {B : Nat} {v : Value} {L : List UInt8} (h : w.ownsRow B 5 1 v L.length (byteV L)) :
    (convert 26 9 v).run Try.prog w = .ok (.string (strL L)) w := by
  rcases own_shape h with ⟨a, c, rfl⟩
  rcases Nat.eq_zero_or_pos L.length with h0 | h0
  · rcases h.2 with ⟨hv, _⟩ | ⟨g, cap, cur, hv, _⟩
    · have : L = [] := List.length_eq_zero_iff.1 h0
      subst this
      injection hv with h1 h2 h3
      subst h1 h3
      exact convert_nil26 w
    · injection hv with h1 h2 h3
      subst h1 h3
      have := run_convert_bytes_arg (P := Try.prog) w 26 5 Try.underlying26 Try.underlying5 g 0 0 c [] rfl (fun i hi => by omega) 9 Try.underlying9
      rw [h0, this]
      have : L = [] := List.length_eq_zero_iff.1 h0
      subst this
      rfl
  · obtain ⟨g, cap, hv, _, _⟩ := h.form h0
    injection hv with h1 h2 h3
    subst h1 h3
    have := run_convert_bytes_arg (P := Try.prog) w 26 5 Try.underlying26 Try.underlying5 g 0 L.length c (L.map fun b => (b.toNat : Int)) (by simp) (fun i hi => by
      rw [Nat.zero_add, h.cellAt i (by omega)]
      simp [byteV, List.getD, hi]) 9 Try.underlying9
    rw [this]
    congr 2
    simp only [strOfNums, strL, List.map_map]
    congr 2
    refine (List.map_congr_left fun b _ => ?_).trans (List.map_id L)
    simp

set_option maxRecDepth 100000 in
theorem w_bytes (B p : Nat) (L : List UInt8) (w : World) (hr : Wr B p L 0 w) :
    Calls Try.prog 17 #[.pointer (some ⟨p, 0, none⟩)] w fun x w' => x = .returned (.tuple #[.string (strL L), .int .i64 0]) ∧ w = w' := by
  obtain ⟨v, hh, hown, hp, hB⟩ := hr
  have c0 : w.cell? ⟨p, 0, none⟩ = some v := by rw [cell_of_row _ _ _ _ _ _ hh]; rfl
  have c1 : w.cell? ⟨p, 1, none⟩ = some (.int .i64 0) := by rw [cell_of_row _ _ _ _ _ _ hh]; rfl
  have hc := run_row_string hown
  clear hh hown
  go_enter Try.func17, Try.ntmps17
  go_wp2_with (refine wpList_convert _ rfl 26 9 _ rfl _ _ rfl hc ?_)
  go_ret2
  exact ⟨rfl, rfl⟩
set_option maxRecDepth 100000 in
theorem we_bytes (B p : Nat) (L : List UInt8) (e : Int) (w : World) (he : e ≠ 0) (hr : Wr B p L e w) :
    Calls Try.prog 17 #[.pointer (some ⟨p, 0, none⟩)] w fun x w' => x = .returned (.tuple #[.string (strL []), .int .i64 e]) ∧ ∃ n, w' = w.drewN n := by
  obtain ⟨v, hh, hown, hp, hB⟩ := hr
  have c1 : w.cell? ⟨p, 1, none⟩ = some (.int .i64 e) := by rw [cell_of_row _ _ _ _ _ _ hh]; rfl
  have hb : (e != 0) = true := by simpa using he
  clear hh hown
  go_enter Try.func17, Try.ntmps17
  go_wp2_with fail
  go_quiet (fail)
  go_wp2_with fail
  go_ret2
  exact ⟨rfl, _, rfl⟩
end Go.Proofs.Ytniblmpihnhglaa

namespace Go.Proofs.Ytniblmpihnhglaa
open Go.RowKit
set_option linter.unusedVariables false

theorem run_mk26 (N : Nat) (hn : N ≤ 65535) (W : World) : (Instr.makeSlice 26 (.int .i64 (N : Int)) (.int .i64 (N : Int))).run Try.prog W = .ok (.slice (some ⟨W.heap.size, 0, none⟩) N N) (W.alloc (.cells (madeCells #[.int .u8 0] N) 5)) :=
  run_make_row' (P := Try.prog) 26 5 (.int .u8 0) 1 Try.underlying26 (by kernel_rfl) rfl .i64 .i64 N (by omega) (by omega) W

def numC (n W k j : Nat) : Value := if W - k ≤ j then .int .u8 ((byteAt n W j).toNat : Int) else .int .u8 0
theorem byteAt_div (n W k : Nat) (h : k < W) : n / 256 ^ k % 256 = (byteAt n W (W - 1 - k)).toNat := by
  have : (byteAt n W (W - 1 - k)).toNat = n / 2 ^ (8 * (W - 1 - (W - 1 - k))) % 256 := UInt8.toNat_ofNat'
  rw [this, show W - 1 - (W - 1 - k) = k from by omega, Nat.pow_mul]
theorem numC_step (n W k : Nat) (h : k < W) (j : Nat) (hj : j < W) :
    (if j = W - 1 - k then Value.int .u8 ((byteAt n W (W - 1 - k)).toNat : Int) else numC n W k j) = numC n W (k + 1) j := by
  unfold numC
  by_cases e : j = W - 1 - k
  · subst e; rw [if_pos rfl, if_pos (by omega)]
  · rw [if_neg e]
    by_cases h : W - k ≤ j
    · rw [if_pos h, if_pos (by omega)]
    · rw [if_neg h, if_neg (by omega)]
set_option maxRecDepth 100000 in
theorem run_cv26 {n W H : Nat} {wr : World} (hr : wr.rowIs H 5 W (numC n W W)) : (convert 26 9 (.slice (some ⟨H, 0, none⟩) W W)).run Try.prog wr = .ok (.string (strL (beB n W))) wr := by
  have := run_convert_bytes_arg (P := Try.prog) wr 26 5 Try.underlying26 Try.underlying5 H 0 W W ((beB n W).map fun b => (b.toNat : Int)) (by simp [beB]) (fun i hi => by
    rw [Nat.zero_add, hr.cell hi]
    simp [numC, beB, List.getD, hi]) 9 Try.underlying9
  rw [this]
  congr 2
  simp only [strOfNums, strL, List.map_map]
  congr 2
  refine (List.map_congr_left fun b _ => ?_).trans (List.map_id _)
  simp

def NumP (n W : Nat) (w : World) (x : Ending) (w' : World) : Prop := x = .returned (.string (strL (beB n W))) ∧ Bl w w'
set_option maxRecDepth 100000 in
set_option maxHeartbeats 1600000 in
theorem number_any (n W : Nat) (w : World) (hn : n < 18446744073709551616) (h1 : 1 ≤ W) (h8 : W ≤ 8) :
    Calls Try.prog 73 #[.int .u64 n, .int .i64 W] w (NumP n W w) := by
  have hmk := run_mk26 W (by omega)
  have hz : Hid (World.rowIs (w.alloc (.cells (madeCells #[.int .u8 0] W) 5)) w.heap.size 5 W (numC n W 0)) := Lib.hid ((World.rowIs_made w (.int .u8 0) W 5).congr fun i hi => by
    unfold numC; rw [if_neg (by omega)])
  have HN := Lib.hid hn
  clear hn
  generalize hO : Obj.cells (madeCells #[.int .u8 0] W) 5 = O at hmk hz
  clear hO
  go_enter Try.func73, Try.ntmps73
  go_wp2_with fail
  go_loopw [0, 6] (fun v0 v6 wr => ∃ k : Nat, k ≤ W ∧ v0 = .int .u64 ((n / 256 ^ k : Nat) : Int) ∧ v6 = .int .i64 ((W : Int) - 1 - k) ∧ Bl w wr ∧ Hid (wr.rowIs w.heap.size 5 W (numC n W k))) (fun _ v _ => (intOf v + 1).toNat)
  case atStart => exact ⟨0, by omega, by simp, by go_num, (Bl.refl w).alloc _, hz⟩
  case round =>
    clear hz hmk
    obtain ⟨k, hk, rfl, rfl, hb, hrow⟩ := hrel
    have hm : n / 256 ^ k ≤ 18446744073709551615 := by have := HN.out; have := Nat.div_le_self n (256 ^ k); omega
    have hnext : n / 256 ^ k / 256 = n / 256 ^ (k + 1) := by rw [Nat.div_div_eq_div_mul, Nat.pow_succ]
    by_cases hlt : k < W
    · have hbyte := byteAt_div n W k hlt
      have gf := hrow.out.frozen (W - 1 - k)
      have gc := hrow.out.cell (i := W - 1 - k) (by omega)
      have hidx : ((W : Int) - 1 - k) = ((W - 1 - k : Nat) : Int) := by omega
      have HB := Lib.hid hbyte
      have HX := Lib.hid hnext
      generalize n / 256 ^ k = m at *
      have hr : (m : Int).tmod 256 = ((m % 256 : Nat) : Int) := by rw [Int.tmod_eq_emod_of_nonneg (by omega)]; rfl
      have hq : (m : Int).tdiv 256 = ((m / 256 : Nat) : Int) := by rw [Int.tdiv_eq_ediv_of_nonneg (by omega)]; rfl
      have hu : IntKind.u8.wrap ((m % 256 : Nat) : Int) = ((m % 256 : Nat) : Int) := IntWalk.u8_in _ (by omega)
      have hw : IntKind.u64.wrap ((m / 256 : Nat) : Int) = ((m / 256 : Nat) : Int) := IntWalk.u64_in _ (by omega)
      have hset := hrow.out.set (W - 1 - k) (.int .u8 ((byteAt n W (W - 1 - k)).toNat : Int))
      have HSET := Lib.hid (hset.congr (fun j hj => numC_step n W k hlt j hj))
      clear hnext hset
      rw [hidx]
      go_wp2_with fail
      refine ⟨⟨k + 1, by omega, by rw [← HX.out, Int.natCast_ediv]; rfl, by go_num, hb.setCell (Nat.le_refl _) _, HSET⟩, by simp only [intOf]; omega⟩
    · have hkW : k = W := by omega
      subst hkW
      have hcv := run_cv26 hrow.out
      clear hm hnext
      go_wp2_with fail
      go_ret
      exact ⟨rfl, hb⟩

/-- At block q a reference writer stands. -/
def Rw (q : Nat) (L : List UInt8) (b : Bool) (w : World) : Prop := w.heap[q]? = some (.cells #[.string (strL L), .bool b] 32 (0, 0))
theorem Rw.c0 {p : Nat} {L : List UInt8} {e : Bool} {w : World} (h : Rw p L e w) : w.cell? ⟨p, 0, none⟩ = some (.string (strL L)) := by rw [cell_of_row _ _ _ _ _ _ h]; rfl
theorem Rw.c1 {p : Nat} {L : List UInt8} {e : Bool} {w : World} (h : Rw p L e w) : w.cell? ⟨p, 1, none⟩ = some (.bool e) := by rw [cell_of_row _ _ _ _ _ _ h]; rfl
theorem Rw.f {p : Nat} {L : List UInt8} {e : Bool} {w : World} (h : Rw p L e w) (j : Nat) : w.frozen? ⟨p, j, none⟩ = false := frozen_of_row _ _ _ _ _ h
theorem Rw.set0 {p : Nat} {L M : List UInt8} {e : Bool} {w : World} (h : Rw p L e w) : Rw p M e (w.setCell ⟨p, 0, none⟩ (.string (strL M))) := by
  unfold Rw; rw [heap_setCell_same _ _ _ _ _ _ h]; rfl
theorem Rw.set1 {p : Nat} {L : List UInt8} {e d : Bool} {w : World} (h : Rw p L e w) : Rw p L d (w.setCell ⟨p, 1, none⟩ (.bool d)) := by
  unfold Rw; rw [heap_setCell_same _ _ _ _ _ _ h]; rfl
theorem Rw.lt {p : Nat} {L : List UInt8} {e : Bool} {w : World} (h : Rw p L e w) : p < w.heap.size := (Array.getElem?_eq_some_iff.1 h).1
theorem strL_append (a b : List UInt8) : strL a ++ strL b = strL (a ++ b) := by
  apply ByteArray.ext; simp [strL]
def RwP (q : Nat) (L : List UInt8) (b : Bool) (w : World) (x : Ending) (w' : World) : Prop := x = .returned (.tuple #[]) ∧ Rw q L b w' ∧ Only q w w'

theorem rw_raw (q : Nat) (L M : List UInt8) (w : World) (hm : M.length ≤ 1000000) (hl : L.length ≤ 1000000000) (hr : Rw q L false w) :
    Calls Try.prog 58 #[.pointer (some ⟨q, 0, none⟩), .string (strL M)] w (RwP q (L ++ M) false w) := by
  have c0 := hr.c0
  have c1 := hr.c1
  have f0 := hr.f 0
  have hs := strL_append L M
  have hb : (strL L).size + (strL M).size ≤ 1001000000 := by rw [strL_size', strL_size']; omega
  have HR := Lib.hid hr
  clear hr hm hl
  go_enter Try.func58, Try.ntmps58
  go_wp2_with fail
  go_end0
  exact ⟨rfl, HR.out.set0, only_set (only_refl _ _) 0 _⟩
theorem rwe_raw (q : Nat) (L : List UInt8) (s : ByteArray) (w : World) (hr : Rw q L true w) :
    Calls Try.prog 58 #[.pointer (some ⟨q, 0, none⟩), .string s] w (SameP w) := by
  have c1 := hr.c1
  clear hr
  go_enter Try.func58, Try.ntmps58
  go_wp2_with fail
  go_end0
  exact ⟨rfl, rfl⟩
theorem rw_number (q n W : Nat) (L : List UInt8) (w : World) (hn : n < 18446744073709551616) (h1 : 1 ≤ W) (h8 : W ≤ 8) (hl : L.length ≤ 1000000000) (hr : Rw q L false w) :
    Calls Try.prog 57 #[.pointer (some ⟨q, 0, none⟩), .int .u64 n, .int .i64 W] w (RwP q (L ++ beB n W) false w) := by
  have HN := Lib.hid hn
  have HL := Lib.hid hl
  have HR := Lib.hid hr
  clear hr hn hl
  go_enter Try.func57, Try.ntmps57
  go_wp2_with (first
    | (go_at_call 73; refine (number_any n W _ HN.out h1 h8).mono ?_; rintro e w1 ⟨rfl, hb⟩; have HB := Lib.hid hb; have HR1 : Hid (Rw q L false w1) := Lib.hid ((hb.block q HR.out.lt).trans HR.out); clear hb)
    | (go_at_call 58; refine (rw_raw q L (beB n W) _ (by rw [beB_length]; omega) HL.out HR1.out).mono ?_; rintro e w2 ⟨rfl, hp2⟩; have HP2 := Lib.hid hp2; clear hp2))
  go_end0
  exact ⟨rfl, HP2.out.1, only_trans (only_of_below HB.out _) HP2.out.2⟩
theorem rwe_number (q n W : Nat) (L : List UInt8) (w : World) (hn : n < 18446744073709551616) (h1 : 1 ≤ W) (h8 : W ≤ 8) (hr : Rw q L true w) :
    Calls Try.prog 57 #[.pointer (some ⟨q, 0, none⟩), .int .u64 n, .int .i64 W] w (RwP q L true w) := by
  have HN := Lib.hid hn
  have HR := Lib.hid hr
  clear hr hn
  go_enter Try.func57, Try.ntmps57
  go_wp2_with (first
    | (go_at_call 73; refine (number_any n W _ HN.out h1 h8).mono ?_; rintro e w1 ⟨rfl, hb⟩; have HB := Lib.hid hb; have HR1 : Hid (Rw q L true w1) := Lib.hid ((hb.block q HR.out.lt).trans HR.out); clear hb)
    | (go_at_call 58; refine (rwe_raw q L _ _ HR1.out).mono ?_; rintro e w2 ⟨rfl, rfl⟩))
  go_end0
  exact ⟨rfl, HR1.out, only_of_below HB.out _⟩

theorem rtext_long (s : ByteArray) (w : World) (hm : 65535 < s.size) :
    Calls Try.prog 80 #[.string s] w fun x w' => x = .returned (.tuple #[.string (strL []), .bool false]) ∧ w = w' := by
  have ht : decide ((65535 : Int) < (s.size : Int)) = true := decide_eq_true (by omega)
  clear hm
  go_enter Try.func80, Try.ntmps80
  go_wp2_with fail
  go_ret2
  exact ⟨rfl, rfl⟩
theorem rtext (M : List UInt8) (w : World) (hm : M.length ≤ 65535) :
    Calls Try.prog 80 #[.string (strL M)] w fun x w' => x = .returned (.tuple #[.string (strL (beB M.length 2 ++ M)), .bool true]) ∧ Bl w w' := by
  have hz : (strL M).size = M.length := strL_size' M
  have ht : decide ((65535 : Int) < (M.length : Int)) = false := decide_eq_false (by omega)
  have hu : IntKind.u64.wrap (M.length : Int) = M.length := IntWalk.u64_in _ (by omega)
  have hs := strL_append (beB M.length 2) M
  have hb : (strL (beB M.length 2)).size + (strL M).size ≤ 1001000000 := by rw [strL_size', strL_size', beB_length]; omega
  have HM := Lib.hid hm
  generalize strL M = S at hz hs hb
  generalize M.length = m at *
  clear hm
  go_enter Try.func80, Try.ntmps80
  go_wp2_with (go_at_call 73; refine (number_any m 2 _ (by have := HM.out; omega) (by decide) (by decide)).mono ?_; rintro e w1 ⟨rfl, hb⟩; have HB := Lib.hid hb; clear hb)
  go_ret2
  exact ⟨rfl, HB.out⟩

theorem rw_text_long (q : Nat) (L : List UInt8) (b : Bool) (s : ByteArray) (w : World) (hm : 65535 < s.size) (hr : Rw q L b w) :
    Calls Try.prog 59 #[.pointer (some ⟨q, 0, none⟩), .string s] w (RwP q L true w) := by
  have HR := Lib.hid hr
  have HM := Lib.hid hm
  have c1 := hr.c1
  have f1 := hr.f 1
  clear hr hm
  have HS : Hid (Rw q L true (w.setCell ⟨q, 1, none⟩ (.bool true))) := Lib.hid HR.out.set1
  go_enter Try.func59, Try.ntmps59
  go_wp2_with (first
    | (go_at_call 80; refine (rtext_long s _ HM.out).mono ?_; rintro e w1 ⟨rfl, rfl⟩)
    | (go_at_call 58; refine (rwe_raw q L _ _ HS.out).mono ?_; rintro e w2 ⟨rfl, rfl⟩))
  go_end0
  exact ⟨rfl, HS.out, only_set (only_refl _ _) 1 _⟩
theorem rw_text (q : Nat) (L M : List UInt8) (w : World) (hm : M.length ≤ 65535) (hl : L.length ≤ 1000000000) (hr : Rw q L false w) :
    Calls Try.prog 59 #[.pointer (some ⟨q, 0, none⟩), .string (strL M)] w (RwP q (L ++ (beB M.length 2 ++ M)) false w) := by
  have HR := Lib.hid hr
  have HM := Lib.hid hm
  have HL := Lib.hid hl
  clear hr hm hl
  go_enter Try.func59, Try.ntmps59
  go_wp2_with (first
    | (go_at_call 80; refine (rtext M _ HM.out).mono ?_; rintro e w1 ⟨rfl, hb⟩; have HB := Lib.hid hb; have HR1 : Hid (Rw q L false w1) := Lib.hid ((hb.block q HR.out.lt).trans HR.out); clear hb)
    | (go_at_call 58; refine (rw_raw q L _ _ (by have := HM.out; rw [List.length_append, beB_length]; omega) HL.out HR1.out).mono ?_; rintro e w2 ⟨rfl, hp2⟩; have HP2 := Lib.hid hp2; clear hp2))
  go_end0
  exact ⟨rfl, HP2.out.1, only_trans (only_of_below HB.out _) HP2.out.2⟩
theorem rwe_text (q : Nat) (L M : List UInt8) (w : World) (hm : M.length ≤ 65535) (hr : Rw q L true w) :
    Calls Try.prog 59 #[.pointer (some ⟨q, 0, none⟩), .string (strL M)] w (RwP q L true w) := by
  have HR := Lib.hid hr
  have HM := Lib.hid hm
  clear hr hm
  go_enter Try.func59, Try.ntmps59
  go_wp2_with (first
    | (go_at_call 80; refine (rtext M _ HM.out).mono ?_; rintro e w1 ⟨rfl, hb⟩; have HB := Lib.hid hb; have HR1 : Hid (Rw q L true w1) := Lib.hid ((hb.block q HR.out.lt).trans HR.out); clear hb)
    | (go_at_call 58; refine (rwe_raw q L _ _ HR1.out).mono ?_; rintro e w2 ⟨rfl, rfl⟩))
  go_end0
  exact ⟨rfl, HR1.out, only_of_below HB.out _⟩
theorem rw_bytes (q : Nat) (L : List UInt8) (w : World) (hr : Rw q L false w) :
    Calls Try.prog 18 #[.pointer (some ⟨q, 0, none⟩)] w fun x w' => x = .returned (.tuple #[.string (strL L), .int .i64 0]) ∧ w = w' := by
  have c0 := hr.c0
  have c1 := hr.c1
  clear hr
  go_enter Try.func18, Try.ntmps18
  go_wp2_with fail
  go_ret2
  exact ⟨rfl, rfl⟩
theorem rwe_bytes (q : Nat) (L : List UInt8) (w : World) (hr : Rw q L true w) :
    Calls Try.prog 18 #[.pointer (some ⟨q, 0, none⟩)] w fun x w' => x = .returned (.tuple #[.string (strL []), .int .i64 3]) ∧ w = w' := by
  have c1 := hr.c1
  clear hr
  go_enter Try.func18, Try.ntmps18
  go_wp2_with fail
  go_ret2
  exact ⟨rfl, rfl⟩
end Go.Proofs.Ytniblmpihnhglaa

namespace Go.Proofs.Ytniblmpihnhglaa
open Go.RowKit
set_option linter.unusedVariables false

theorem onlyB_below {B p n : Nat} {a b : World} (h : OnlyB B p a b) (hp : n ≤ p) (hB : n ≤ B) : Below n a b :=
  ⟨h.os, h.tape, h.output, h.size, fun k hk => h.block k (by omega) (by omega)⟩
theorem only_below {p n : Nat} {a b : World} (h : Only p a b) (hp : n ≤ p) (hB : n ≤ a.heap.size) : Below n a b :=
  ⟨h.os, h.tape, h.output, h.size, fun k hk => h.block k (by omega) (fun e => by cases e; omega)⟩
theorem wr_new (w : World) : Wr (w.heap.size + 1) w.heap.size [] 0 (w.alloc (.cells #[.slice none 0 0, .int .i64 0] 29)) :=
  ⟨_, heap_alloc_new _ _, World.ownsRow_nil _ _ _ _, Nat.lt_succ_self _, by show _ ≤ (w.heap.push _).size; rw [Array.size_push]; exact Nat.le_refl _⟩
theorem rw_new (w : World) : Rw w.heap.size [] false (w.alloc (.cells #[.string ⟨#[]⟩, .bool false] 32)) := heap_alloc_new _ _
theorem wr_below {B p : Nat} {L : List UInt8} {e : Int} {a b : World} (h : Wr B p L e a) (hb : Bl a b) : Wr B p L e b := by
  obtain ⟨v, h1, h2, h3, h4⟩ := h
  exact ⟨v, (hb.block p (by omega)).trans h1, h2.kept (row := none) ⟨hb.os, hb.tape, hb.output, hb.size, fun k hk _ => hb.block k hk⟩ (by cases h : v.ownBlock <;> simp), h3, Nat.le_trans h4 hb.size⟩
theorem wr_drewN {B p : Nat} {L : List UInt8} {e : Int} {a : World} (h : Wr B p L e a) (n : Nat) : Wr B p L e (a.drewN n) := h

set_option maxRecDepth 100000 in
set_option maxHeartbeats 800000 in
theorem awake_any (w : World) : Calls Try.prog 15 #[] w fun x w' => x = .returned (.bool true) ∧ Bl w w' := by
  have H0 := Lib.hid (wr_new w)
  have N0 : Hid (Bl w (w.alloc (.cells #[.slice none 0 0, .int .i64 0] 29))) := Lib.hid ((Bl.refl w).alloc _)
  have f1 : (strL (beB 1 1 ++ (beB 258 2 ++ (beB 2 2 ++ [97, 98])))).toList = [1, 1, 2, 0, 2, 97, 98] := by kernel_rfl
  have f2 : ((beN (fixO [1, 2, 3] 0 2) : Nat) : Int) = 258 := by kernel_rfl
  have f3 : fixE [1, 2, 3] 0 2 = 0 := by kernel_rfl
  have f4 : (strL (fixL [1, 2, 3] 0 2)).toList = [3] := by kernel_rfl
  go_enter Try.func15, Try.ntmps15
  go_wp2_with (first
    | (go_at_call 25; refine (w_u8 _ _ [] 1 _ (by decide) (by decide) H0.out).mono ?_; rintro e w1 ⟨rfl, h1⟩; have H1 := Lib.hid h1; clear h1)
    | (go_at_call 26; refine (w_u16 _ _ _ 258 _ (by decide) (by decide) H1.out.1).mono ?_; rintro e w2 ⟨rfl, h2⟩; have H2 := Lib.hid h2; clear h2)
    | (go_at_call 28; refine (w_text _ _ _ [97, 98] _ (by decide) (by decide) H2.out.1).mono ?_; rintro e w3 ⟨rfl, h3⟩; have H3 := Lib.hid h3; clear h3)
    | (go_at_call 17; refine (w_bytes _ _ _ _ H3.out.1).mono ?_; rintro e w4 ⟨rfl, rfl⟩)
    | (go_at_call 19; refine (r_new (strL [1, 2, 3]) _).mono ?_; rintro e w5 ⟨rfl, rfl⟩; have R0 := Lib.hid (rd_new [1, 2, 3] w3))
    | (go_at_call 30; refine (r_u16 _ [1, 2, 3] 0 _ (by decide) R0.out).mono ?_; rintro e w6 ⟨rfl, h6⟩; have R1 := Lib.hid h6; clear h6)
    | (go_at_call 21; refine (r_err _ _ _ _ R1.out.1).mono ?_; rintro e w7 ⟨rfl, rfl⟩)
    | (go_at_call 23; refine (r_rest _ _ _ _ R1.out.1).mono ?_; rintro e w8 ⟨rfl, rfl⟩))
  go_ret
  refine ⟨rfl, ?_⟩
  have k1 := onlyB_below H1.out.2 (n := w.heap.size) (Nat.le_refl _) (Nat.le_succ _)
  have k2 := onlyB_below H2.out.2 (n := w.heap.size) (Nat.le_refl _) (Nat.le_succ _)
  have k3 := onlyB_below H3.out.2 (n := w.heap.size) (Nat.le_refl _) (Nat.le_succ _)
  have k : Below w.heap.size w w3 := Below.trans N0.out (k1.trans (k2.trans k3))
  have k4 : Bl w (w3.alloc (.cells #[.string (strL [1, 2, 3]), .int .i64 0] 106)) := Bl.alloc k _
  exact Below.trans k4 (only_below R1.out.2 k.size k4.size)

set_option maxHeartbeats 400000 in
theorem rr_text (q : Nat) (S L : List UInt8) (e : Int) (w : World) (hS : S.length ≤ 140737488351232) (hr : Rr q S L e w) :
    Calls Try.prog 62 #[.pointer (some ⟨q, 0, none⟩)] w fun x w' => x = .returned (.string (strL (txtO L e))) ∧ Rr q S (txtL L e) (txtE L e) w' ∧ Only q w w' := by
  have F1 := Lib.hid (rr_number q S L e 2 w (by decide) hS hr)
  have hn : beN (fixO L e 2) < 65536 := txtN_lt L e
  have F2 : Hid (∀ w, Rr q S (fixL L e 2) (fixE L e 2) w → Calls Try.prog 61 #[.pointer (some ⟨q, 0, none⟩), .int .i64 (beN (fixO L e 2) : Nat)] w fun x w' => RFixP q S (fixL L e 2) (fixE L e 2) (beN (fixO L e 2) : Nat) w x w') := Lib.hid (fun w hr => rr_fixed q S _ _ _ w hS hr)
  have hG : Hid (∀ x w1 w2, RFixP q S (fixL L e 2) (fixE L e 2) (beN (fixO L e 2) : Nat) w1 x w2 → Only q w w1 → x = .returned (.string (strL (txtO L e))) ∧ Rr q S (txtL L e) (txtE L e) w2 ∧ Only q w w2) := fun x w1 w2 h ho => ⟨h.1, h.2.1, only_trans ho h.2.2⟩
  clear hr hS
  unfold RNumP at F1
  generalize beN (fixO L e 2) = n at *
  have hu : IntKind.i64.wrap (n : Int) = n := IntWalk.i64_in _ (by omega)
  go_enter Try.func62, Try.ntmps62
  go_wp2_with (go_at_call 60; refine F1.out.mono ?_; rintro e w1 ⟨rfl, hrd, hon⟩; have HRD := Lib.hid hrd; have HON := Lib.hid hon; clear hrd hon)
  refine (F2.out _ HRD.out).mono ?_
  rintro x w2 h2
  have hg := Lib.hid (hG.out _ _ _ h2 HON.out)
  obtain ⟨rfl, h3, h4⟩ := h2
  clear h3 h4 hG
  go_wp2_with fail
  go_ret
  exact hg.out

theorem rr_err (q : Nat) (S L : List UInt8) (e : Int) (w : World) (hr : Rr q S L e w) :
    Calls Try.prog 22 #[.pointer (some ⟨q, 0, none⟩)] w fun x w' => x = .returned (.int .i64 e) ∧ w = w' := by
  obtain ⟨a, hh, ha, hs⟩ := hr
  have c2 := rr_c2 hh
  clear hh
  rcases hs with ⟨rfl, rfl⟩ | ⟨rfl, rfl⟩
  · have hb : ((0 : Int) != 0) = false := rfl
    rw [hb] at c2
    go_enter Try.func22, Try.ntmps22
    go_wp2_with fail
    go_ret
    exact ⟨rfl, rfl⟩
  · have hb : ((10 : Int) != 0) = true := rfl
    rw [hb] at c2
    go_enter Try.func22, Try.ntmps22
    go_wp2_with fail
    go_ret
    exact ⟨rfl, rfl⟩

theorem rr_rest (q : Nat) (S L : List UInt8) (e : Int) (w : World) (hS : S.length ≤ 140737488351232) (hr : Rr q S L e w) :
    Calls Try.prog 24 #[.pointer (some ⟨q, 0, none⟩)] w fun x w' => x = .returned (.string (strL L)) ∧ Bl w w' := by
  obtain ⟨a, hh, ha, hs⟩ := hr
  have c0 := rr_c0 hh
  have c1 := rr_c1 hh
  have c2 := rr_c2 hh
  clear hh
  rcases hs with ⟨rfl, rfl⟩ | ⟨rfl, rfl⟩
  · have hb : ((0 : Int) != 0) = false := rfl
    rw [hb] at c2
    have hz := strL_size S
    have hd := strL_drop S a (strL S).size (by rw [strL_size]; exact Nat.le_refl _)
    have HD := Lib.hid hd
    rw [hz] at hd
    go_enter Try.func24, Try.ntmps24
    go_wp2_with fail
    go_quiet (fail)
    go_wp2_with fail
    go_ret
    exact ⟨rfl, (Bl.refl w).drewN _⟩
  · have hb : ((10 : Int) != 0) = true := rfl
    rw [hb] at c2
    go_enter Try.func24, Try.ntmps24
    go_wp2_with fail
    go_ret
    exact ⟨rfl, Bl.refl w⟩
end Go.Proofs.Ytniblmpihnhglaa

/- Floats of 64 bits as ranks: how the model's order of two words stands to the words themselves. Plain Lean, no program. -/
namespace Go.Proofs.Ytniblmpihnhglaa
open Ieee

theorem cmp_eq_iff (a b : Int) : compare a b = .eq ↔ a = b := by
  simp only [compare, compareOfLessAndEq]
  split
  · simp; omega
  · split <;> simp_all
theorem cmp_lt_iff (a b : Int) : compare a b = .lt ↔ a < b := by
  simp only [compare, compareOfLessAndEq]
  split
  · simp_all
  · split <;> simp_all
theorem cmp_same {a b c d : Int} (h : a < b ↔ c < d) (e : a = b ↔ c = d) : compare a b = compare c d := by
  simp only [compare, compareOfLessAndEq, h, e]

theorem dbl_sign : double.signWeight = 9223372036854775808 := by decide +kernel
theorem dbl_binade : double.binade = 4503599627370496 := by decide +kernel
theorem dbl_inf : double.infRung = 9218868437227405312 := by decide +kernel
theorem dbl_least : double.leastPlace = -1074 := by decide +kernel

/-- The magnitude of a rung, in units of the least one. -/
def vnat (r : Nat) : Nat := if r < 4503599627370496 then r else (4503599627370496 + r % 4503599627370496) * 2 ^ (r / 4503599627370496 - 1)
/-- The exponent of a rung, and its digits. -/
def vexp (r : Nat) : Nat := if r < 4503599627370496 then 0 else r / 4503599627370496 - 1
def vmag (r : Nat) : Nat := if r < 4503599627370496 then r else 4503599627370496 + r % 4503599627370496
theorem vnat_eq (r : Nat) : vnat r = vmag r * 2 ^ vexp r := by
  unfold vnat vmag vexp
  split <;> simp

def neg64 (x : Nat) : Bool := x / 9223372036854775808 % 2 == 1
def rung (x : Nat) : Nat := x % 9223372036854775808
def sval (x : Nat) : Int := if neg64 x then -(vnat (rung x) : Int) else vnat (rung x)
def rk (x : Nat) : Int := if neg64 x then -(rung x : Int) else rung x

theorem read_num (x : Nat) (h : rung x < 9218868437227405312) : double.read x = .number (neg64 x) (vmag (rung x)) (-1074 + (vexp (rung x) : Int)) := by
  unfold Format.read neg64 vmag vexp
  unfold rung at h ⊢
  rw [dbl_sign, dbl_binade, dbl_inf, dbl_least]
  by_cases h1 : x % 9223372036854775808 < 4503599627370496
  · simp only [h1, if_true]; rfl
  · simp only [h1, h, if_true, if_false]
theorem read_inf (x : Nat) (h : rung x = 9218868437227405312) : double.read x = .infinity (neg64 x) := by
  unfold Format.read neg64
  unfold rung at h
  rw [dbl_sign, dbl_binade, dbl_inf, dbl_least]
  simp only [h]
  rw [if_neg (by omega), if_neg (by omega), if_pos trivial]
theorem read_nan (x : Nat) (h : 9218868437227405312 < rung x) : double.read x = .nan (neg64 x) (rung x - 9218868437227405312) := by
  unfold Format.read neg64
  unfold rung at h ⊢
  rw [dbl_sign, dbl_binade, dbl_inf, dbl_least]
  simp only []
  rw [if_neg (by omega), if_neg (by omega), if_neg (by omega)]

theorem vnat_lt {a b : Nat} (h : a < b) : vnat a < vnat b := by
  unfold vnat
  by_cases ha : a < 4503599627370496
  · rw [if_pos ha]
    by_cases hb : b < 4503599627370496
    · rw [if_pos hb]; exact h
    · rw [if_neg hb]
      have : 0 < 2 ^ (b / 4503599627370496 - 1) := Nat.two_pow_pos _
      calc a < (4503599627370496 + b % 4503599627370496) * 1 := by omega
        _ ≤ _ := Nat.mul_le_mul_left _ this
  · have hb : ¬ b < 4503599627370496 := by omega
    rw [if_neg ha, if_neg hb]
    by_cases e : a / 4503599627370496 = b / 4503599627370496
    · rw [e]
      exact Nat.mul_lt_mul_of_pos_right (by omega) (Nat.two_pow_pos _)
    · have hlt : a / 4503599627370496 < b / 4503599627370496 := by omega
      have hp : 2 ^ (a / 4503599627370496 - 1 + 1) ≤ 2 ^ (b / 4503599627370496 - 1) := Nat.pow_le_pow_right (by omega) (by omega)
      rw [Nat.pow_succ] at hp
      have h0 : 0 < 2 ^ (a / 4503599627370496 - 1) := Nat.two_pow_pos _
      calc (4503599627370496 + a % 4503599627370496) * 2 ^ (a / 4503599627370496 - 1)
          < (4503599627370496 * 2) * 2 ^ (a / 4503599627370496 - 1) := Nat.mul_lt_mul_of_pos_right (by omega) h0
        _ = 4503599627370496 * (2 ^ (a / 4503599627370496 - 1) * 2) := by rw [Nat.mul_assoc, Nat.mul_comm 2]
        _ ≤ 4503599627370496 * 2 ^ (b / 4503599627370496 - 1) := Nat.mul_le_mul_left _ hp
        _ ≤ _ := Nat.mul_le_mul_right _ (by omega)
theorem vnat_inj {a b : Nat} (h : vnat a = vnat b) : a = b := by
  rcases Nat.lt_trichotomy a b with h1 | h1 | h1
  · have := vnat_lt h1; omega
  · exact h1
  · have := vnat_lt h1; omega
theorem vnat_zero : vnat 0 = 0 := rfl
theorem vnat_pos {a : Nat} (h : 0 < a) : 0 < vnat a := by have := vnat_lt h; rw [vnat_zero] at this; exact this

theorem sval_lt (x y : Nat) : sval x < sval y ↔ rk x < rk y := by
  unfold sval rk
  have hm : ∀ a b : Nat, (vnat a : Int) < vnat b ↔ (a : Int) < b := by
    intro a b
    rcases Nat.lt_trichotomy a b with h | h | h
    · have := vnat_lt h; omega
    · subst h; omega
    · have := vnat_lt h; omega
  have z : ∀ a : Nat, (0 : Int) < vnat a ↔ (0 : Int) < a := by
    intro a; have := hm 0 a; rw [vnat_zero] at this; exact this
  have := hm (rung x) (rung y)
  have := hm (rung y) (rung x)
  have := z (rung x)
  have := z (rung y)
  by_cases h1 : neg64 x <;> by_cases h2 : neg64 y <;> simp only [h1, h2, if_true, if_false, Bool.false_eq_true] <;> omega
theorem sval_eq (x y : Nat) : sval x = sval y ↔ rk x = rk y := by
  have h1 := sval_lt x y
  have h2 := sval_lt y x
  omega

theorem signed_mul (s : Bool) (m e k : Nat) : signed s m (e + k) = signed s m e * (2 ^ k : Nat) := by
  unfold signed
  rw [Nat.shiftLeft_eq, Nat.shiftLeft_eq, Nat.pow_add, ← Nat.mul_assoc]
  split
  · rw [Int.natCast_mul, Int.neg_mul]
  · rw [Int.natCast_mul]

theorem signed_val (s : Bool) (m e : Nat) : signed s m e = if s then -((m * 2 ^ e : Nat) : Int) else ((m * 2 ^ e : Nat) : Int) := by
  unfold signed; rw [Nat.shiftLeft_eq]

theorem order_num (x y : Nat) (hx : rung x < 9218868437227405312) (hy : rung y < 9218868437227405312) : double.order x y = some (compare (rk x) (rk y)) := by
  unfold Format.order
  rw [read_num x hx, read_num y hy]
  simp only [Datum.order]
  congr 1
  generalize hb : min (-1074 + (vexp (rung x) : Int)) (-1074 + (vexp (rung y) : Int)) = base
  have hk : ∃ k : Nat, base = -1074 + (k : Int) ∧ k ≤ vexp (rung x) ∧ k ≤ vexp (rung y) := ⟨min (vexp (rung x)) (vexp (rung y)), by omega, by omega, by omega⟩
  obtain ⟨k, rfl, k1, k2⟩ := hk
  have e1 : (-1074 + (vexp (rung x) : Int) - (-1074 + (k : Int))).toNat = vexp (rung x) - k := by omega
  have e2 : (-1074 + (vexp (rung y) : Int) - (-1074 + (k : Int))).toNat = vexp (rung y) - k := by omega
  rw [e1, e2]
  have f1 : sval x = signed (neg64 x) (vmag (rung x)) (vexp (rung x) - k) * (2 ^ k : Nat) := by
    rw [← signed_mul, Nat.sub_add_cancel k1, signed_val, ← vnat_eq]; rfl
  have f2 : sval y = signed (neg64 y) (vmag (rung y)) (vexp (rung y) - k) * (2 ^ k : Nat) := by
    rw [← signed_mul, Nat.sub_add_cancel k2, signed_val, ← vnat_eq]; rfl
  have hp : (0 : Int) < ((2 ^ k : Nat) : Int) := by have := Nat.two_pow_pos k; omega
  refine cmp_same ?_ ?_
  · rw [← sval_lt, f1, f2]
    exact ⟨fun h => Int.mul_lt_mul_of_pos_right h hp, fun h => Int.lt_of_mul_lt_mul_right h (by omega)⟩
  · rw [← sval_eq, f1, f2]
    exact ⟨fun h => by rw [h], fun h => Int.eq_of_mul_eq_mul_right (by omega) h⟩

def nanN (x : Nat) : Bool := decide (9218868437227405312 < rung x)

theorem order_nan (x y : Nat) (h : nanN x = true ∨ nanN y = true) : double.order x y = none := by
  unfold Format.order
  rcases h with h | h
  · rw [read_nan x (of_decide_eq_true h)]; rfl
  · rw [read_nan y (of_decide_eq_true h)]
    cases double.read x <;> rfl

theorem order_rk (x y : Nat) (hx : nanN x = false) (hy : nanN y = false) : double.order x y = some (compare (rk x) (rk y)) := by
  have hx' : rung x ≤ 9218868437227405312 := by have := of_decide_eq_false hx; omega
  have hy' : rung y ≤ 9218868437227405312 := by have := of_decide_eq_false hy; omega
  rcases Nat.lt_or_eq_of_le hx' with h1 | h1
  · rcases Nat.lt_or_eq_of_le hy' with h2 | h2
    · exact order_num x y h1 h2
    · unfold Format.order
      rw [read_num x h1, read_inf y h2]
      simp only [Datum.order]
      congr 1
      unfold rk
      cases hn : neg64 y
      · symm; simp only [Bool.false_eq_true, if_false]; rw [cmp_lt_iff]
        split <;> omega
      · symm; simp only [if_true]
        have : compare (if neg64 x = true then -(rung x : Int) else (rung x : Int)) (-(rung y : Int)) = compare (1 : Int) 0 := cmp_same (by split <;> omega) (by split <;> omega)
        rw [this]; rfl
  · rcases Nat.lt_or_eq_of_le hy' with h2 | h2
    · unfold Format.order
      rw [read_inf x h1, read_num y h2]
      simp only [Datum.order]
      congr 1
      unfold rk
      cases hn : neg64 x
      · symm; simp only [Bool.false_eq_true, if_false]
        have : compare (rung x : Int) (if neg64 y = true then -(rung y : Int) else (rung y : Int)) = compare (1 : Int) 0 := cmp_same (by split <;> omega) (by split <;> omega)
        rw [this]; rfl
      · symm; simp only [if_true]; rw [cmp_lt_iff]
        split <;> omega
    · unfold Format.order
      rw [read_inf x h1, read_inf y h2]
      simp only [Datum.order]
      congr 1
      unfold rk
      rw [h1, h2]
      cases neg64 x <;> cases neg64 y <;> rfl

/-- '==' of two floats. -/
theorem eq_rk (x y : Nat) : (double.order x y == some .eq) = (!nanN x && !nanN y && decide (rk x = rk y)) := by
  cases hx : nanN x
  · cases hy : nanN y
    · rw [order_rk x y hx hy, Bool.eq_iff_iff]
      simp only [beq_iff_eq, Option.some.injEq, cmp_eq_iff]
      simp
    · rw [order_nan x y (.inr hy)]; rfl
  · rw [order_nan x y (.inl hx)]; rfl
/-- '<' of two floats. -/
theorem lt_rk (x y : Nat) : (double.order x y == some .lt) = (!nanN x && !nanN y && decide (rk x < rk y)) := by
  cases hx : nanN x
  · cases hy : nanN y
    · rw [order_rk x y hx hy, Bool.eq_iff_iff]
      simp only [beq_iff_eq, Option.some.injEq, cmp_lt_iff]
      simp
    · rw [order_nan x y (.inr hy)]; rfl
  · rw [order_nan x y (.inl hx)]; rfl
theorem ne_self (x : Nat) : (double.order x x != some .eq) = nanN x := by
  rw [bne, eq_rk]; cases nanN x <;> simp

end Go.Proofs.Ytniblmpihnhglaa

/- Walks of the functions of layer 1 (number) and of its reference: what each returns, as plain functions of numbers. -/
namespace Go.Proofs.Ytniblmpihnhglaa
open Go.RowKit

theorem run_from (n : Int) (w : World) : (callFunc 83 #[.int .u64 n]).run Try.prog w = .ok (.value (.float .f64 n.toNat)) w := by
  rw [run_callFunc_extern (P := Try.prog) Try.func83 (by kernel_rfl) (by kernel_rfl) (by kernel_rfl) (e := Extern.MathFloatBits.float64frombits) (by kernel_rfl)]
  rfl
theorem run_bits (n : Nat) (w : World) : (callFunc 82 #[.float .f64 n]).run Try.prog w = .ok (.value (.int .u64 n)) w := by
  rw [run_callFunc_extern (P := Try.prog) Try.func82 (by kernel_rfl) (by kernel_rfl) (by kernel_rfl) (e := Extern.MathFloatBits.float64bits) (by kernel_rfl)]
  rfl

def nanI (x : Int) : Bool := nanN x.toNat
def quietI (x : Int) : Int := if nanI x then 9221120237041090561 else x
def ordI (x : Int) : Int := if 9223372036854775808 ≤ x then 18446744073709551615 - x else x + 9223372036854775808
def backI (x : Int) : Int := if 9223372036854775808 ≤ x then x - 9223372036854775808 else 18446744073709551615 - x
def sameB (a b : Int) : Bool := !nanI a && !nanI b && decide (rk a.toNat = rk b.toNat)
def u64 (x : Int) : Prop := 0 ≤ x ∧ x < 18446744073709551616


theorem nanI_eq (x : Int) (h0 : 0 ≤ x) : nanI x = decide (9218868437227405312 < x % 9223372036854775808) := by
  unfold nanI nanN rung
  rw [Bool.eq_iff_iff]; simp only [decide_eq_true_eq]; omega
theorem order_ne (x : Nat) : (FloatKind.f64.format.order x x != some Ordering.eq) = nanN x := ne_self x
theorem order_eq (x y : Nat) : (FloatKind.f64.format.order x y == some Ordering.eq) = (!nanN x && !nanN y && decide (rk x = rk y)) := eq_rk x y

theorem and_top (x : Int) (h0 : 0 ≤ x) (h1 : x < 18446744073709551616) : bits .and .u64 x 9223372036854775808 = if 9223372036854775808 ≤ x then 9223372036854775808 else 0 := by
  go_bits2
  all_goals (split <;> omega)
theorem not_64 (x : Int) (h0 : 0 ≤ x) (h1 : x < 18446744073709551616) : bits .xor .u64 IntKind.u64.max x = 18446744073709551615 - x := by
  obtain ⟨n, rfl⟩ := Int.eq_ofNat_of_zero_le h0
  rw [show IntKind.u64.max = ((18446744073709551615 : Nat) : Int) from by decide +kernel, bits_xor_u64_nat _ _ (by omega) (by omega)]
  have e : 18446744073709551615 ^^^ n = 18446744073709551615 - n := by
    have := BitVec.toNat_not (x := BitVec.ofNat 64 n)
    rw [← BitVec.allOnes_xor] at this
    rw [BitVec.toNat_xor, BitVec.toNat_ofNat, Nat.mod_eq_of_lt (by omega)] at this
    simpa using this
  rw [e]; omega
theorem or_top (x : Int) (h0 : 0 ≤ x) (h1 : x < 9223372036854775808) : bits .or .u64 x 9223372036854775808 = x + 9223372036854775808 := by
  rw [u64_or x _ h0 (by omega) (by omega) (by omega)]
  rw [Nat.or_comm]
  rw [nat_join 63 _ _ (by decide +kernel) (by omega)]
  omega
theorem andNot_top (x : Int) (h0 : 9223372036854775808 ≤ x) (h1 : x < 18446744073709551616) : bits .andNot .u64 x 9223372036854775808 = x - 9223372036854775808 := by
  rw [u64_andNot x _ (by omega) (by omega) (by omega) (by omega)]
  have : x.toNat &&& 9223372036854775807 = x.toNat % 9223372036854775808 := Nat.and_two_pow_sub_one_eq_mod x.toNat 63
  rw [show (18446744073709551615 - (9223372036854775808 : Int).toNat) = 9223372036854775807 from by decide +kernel, this]
  omega

set_option maxHeartbeats 400000 in
theorem quiet_any (x : Int) (w : World) : Calls Try.prog 79 #[.int .u64 x] w fun e w' => e = .returned (.int .u64 (quietI x)) ∧ w = w' := by
  have hf := run_from x
  have hd := order_ne x.toNat
  have hq : quietI x = if nanN x.toNat then 9221120237041090561 else x := rfl
  cases hb : nanN x.toNat
  all_goals
    rw [hb] at hd hq
    have Hq := Lib.hid hq; clear hq hb
    go_enter Try.func79, Try.ntmps79
    go_wp2
    go_ret
    exact ⟨ret_int Hq.out.symm, rfl⟩

set_option maxHeartbeats 400000 in
theorem order_any (x : Int) (w : World) (h0 : 0 ≤ x) (h1 : x < 18446744073709551616) : Calls Try.prog 87 #[.int .u64 x] w fun e w' => e = .returned (.int .u64 (ordI x)) ∧ w = w' := by
  have hd := and_top x h0 h1
  by_cases hc : 9223372036854775808 ≤ x
  · rw [if_pos hc] at hd
    have ht : (bits .and .u64 x 9223372036854775808 != 0) = true := by rw [hd]; rfl
    have Hq : Hid (bits .xor .u64 IntKind.u64.max x = ordI x) := Lib.hid (by unfold ordI; rw [if_pos hc]; exact not_64 x h0 h1)
    clear hd
    go_enter Try.func87, Try.ntmps87
    go_wp2
    go_ret
    exact ⟨ret_int Hq.out, rfl⟩
  · rw [if_neg hc] at hd
    have ht : (bits .and .u64 x 9223372036854775808 != 0) = false := by rw [hd]; rfl
    have Hq : Hid (bits .or .u64 x 9223372036854775808 = ordI x) := Lib.hid (by unfold ordI; rw [if_neg hc]; exact or_top x h0 (by omega))
    clear hd
    go_enter Try.func87, Try.ntmps87
    go_wp2
    go_ret
    exact ⟨ret_int Hq.out, rfl⟩
set_option maxHeartbeats 400000 in
theorem back_any (x : Int) (w : World) (h0 : 0 ≤ x) (h1 : x < 18446744073709551616) : Calls Try.prog 86 #[.int .u64 x] w fun e w' => e = .returned (.int .u64 (backI x)) ∧ w = w' := by
  have hd := and_top x h0 h1
  by_cases hc : 9223372036854775808 ≤ x
  · rw [if_pos hc] at hd
    have ht : (bits .and .u64 x 9223372036854775808 != 0) = true := by rw [hd]; rfl
    have Hq : Hid (bits .andNot .u64 x 9223372036854775808 = backI x) := Lib.hid (by unfold backI; rw [if_pos hc]; exact andNot_top x hc h1)
    clear hd
    go_enter Try.func86, Try.ntmps86
    go_wp2
    go_ret
    exact ⟨ret_int Hq.out, rfl⟩
  · rw [if_neg hc] at hd
    have ht : (bits .and .u64 x 9223372036854775808 != 0) = false := by rw [hd]; rfl
    have Hq : Hid (bits .xor .u64 IntKind.u64.max x = backI x) := Lib.hid (by unfold backI; rw [if_neg hc]; exact not_64 x h0 h1)
    clear hd
    go_enter Try.func86, Try.ntmps86
    go_wp2
    go_ret
    exact ⟨ret_int Hq.out, rfl⟩
set_option maxHeartbeats 400000 in
theorem rorder_any (x : Int) (w : World) (h0 : 0 ≤ x) (h1 : x < 18446744073709551616) : Calls Try.prog 91 #[.int .u64 x] w fun e w' => e = .returned (.int .u64 (ordI x)) ∧ w = w' := by
  by_cases hc : 9223372036854775808 ≤ x
  · have Hq : Hid (18446744073709551615 - x = ordI x) := Lib.hid (by unfold ordI; rw [if_pos hc])
    go_enter Try.func91, Try.ntmps91
    go_wp2
    go_ret
    exact ⟨ret_int Hq.out, rfl⟩
  · have Hq : Hid (x + 9223372036854775808 = ordI x) := Lib.hid (by unfold ordI; rw [if_neg hc])
    go_enter Try.func91, Try.ntmps91
    go_wp2
    go_ret
    exact ⟨ret_int Hq.out, rfl⟩
theorem and_exp (x : Int) (h0 : 0 ≤ x) (h1 : x < 18446744073709551616) : bits .and .u64 (x / 4503599627370496) 2047 = x / 4503599627370496 % 2048 := by
  have : 0 ≤ x / 4503599627370496 ∧ x / 4503599627370496 < 18446744073709551616 := by omega
  obtain ⟨a, b⟩ := this
  generalize x / 4503599627370496 = y at *
  go_bits2
  all_goals omega
set_option maxHeartbeats 400000 in
theorem rnan_any (x : Int) (w : World) (h0 : 0 ≤ x) (h1 : x < 18446744073709551616) : Calls Try.prog 92 #[.int .u64 x] w fun e w' => e = .returned (.bool (nanI x)) ∧ w = w' := by
  have hd := and_exp x h0 h1
  have Hn := Lib.hid (nanI_eq x h0)
  have Hw := Lib.hid (IntKind.wrap_u64 (x * 4096))
  by_cases hc : x / 4503599627370496 % 2048 = 2047
  · rw [hc] at hd
    go_enter Try.func92, Try.ntmps92
    go_wp2
    go_ret
    refine ⟨ret_bool ?_, rfl⟩
    rw [Hn.out, Hw.out, Bool.eq_iff_iff, bne_iff_ne, decide_eq_true_eq]
    omega
  · have ht : (bits .and .u64 (x / 4503599627370496) 2047 == 2047) = false := by rw [hd]; simpa using hc
    have hc' : ¬ bits .and .u64 (x / 4503599627370496) 2047 = 2047 := by rw [hd]; exact hc
    have Hc := Lib.hid hc
    clear hd hc
    go_enter Try.func92, Try.ntmps92
    go_wp2
    go_ret
    refine ⟨ret_bool ?_, rfl⟩
    have := Hc.out
    rw [Hn.out]; symm; rw [decide_eq_false_iff_not]
    omega
theorem nan_cases (x : Int) : nanI x = true ∨ nanI x = false := by cases nanI x <;> simp
set_option maxHeartbeats 400000 in
theorem rquiet_any (x : Int) (w : World) (h0 : 0 ≤ x) (h1 : x < 18446744073709551616) : Calls Try.prog 88 #[.int .u64 x] w fun e w' => e = .returned (.int .u64 (quietI x)) ∧ w = w' := by
  have hq : quietI x = if nanI x then 9221120237041090561 else x := rfl
  rcases nan_cases x with hb | hb
  all_goals
    rw [hb] at hq
    have Hq := Lib.hid hq; clear hq
    go_enter Try.func88, Try.ntmps88
    go_wp2_with (go_at_call 92; refine (rnan_any _ _ h0 h1).mono ?_; rintro e w' ⟨rfl, rfl⟩)
    go_ret
    exact ⟨ret_int Hq.out.symm, rfl⟩

end Go.Proofs.Ytniblmpihnhglaa

/- Walks of number.Apply and of the reference's Apply, Sum, Product: what each returns; the world below its own blocks is as it was. -/
namespace Go.Proofs.Ytniblmpihnhglaa
open Go.RowKit

/-- Quiet of a sum or product. -/
def arithN (op : BinOp) (x y : Nat) : Int :=
  match floatBits op .f64 x y with
  | some r => quietI r
  | none => 9221120237041090561
def FA (op : BinOp) (x y : Nat) (w : World) (e : Ending) (w' : World) : Prop := ∃ r n : Nat, e = .returned (.float .f64 r) ∧ quietI r = arithN op x y ∧ w' = w.drewN n

theorem nan_drawn (t : Nat) : nanN ((t % 2) * 2 ^ 63 + 0x7ff0000000000000 + 1 + (t / 2) % (2 ^ 52 - 1)) = true := by
  unfold nanN rung
  rw [decide_eq_true_eq]
  have h2 : (t / 2) % (2 ^ 52 - 1) < 4503599627370495 := Nat.mod_lt _ (by decide)
  generalize (t / 2) % (2 ^ 52 - 1) = u at *
  omega
theorem drawn_lt (t : Nat) : (t % 2) * 2 ^ 63 + 0x7ff0000000000000 + 1 + (t / 2) % (2 ^ 52 - 1) < 18446744073709551616 := by
  have h2 : (t / 2) % (2 ^ 52 - 1) < 4503599627370495 := Nat.mod_lt _ (by decide)
  generalize (t / 2) % (2 ^ 52 - 1) = u at *
  omega
theorem quiet_nan (r : Nat) (h : nanN r = true) : quietI r = 9221120237041090561 := by
  unfold quietI nanI; rw [Int.toNat_natCast, h]; rfl

theorem run_arith_none (op : BinOp) (ho : op = .add ∨ op = .mul) (x y : Nat) (w : World) (h : floatBits op .f64 x y = none) : ∃ r : Nat, r < 18446744073709551616 ∧ nanN r = true ∧ (binOp op 131 (.float .f64 x) (.float .f64 y)).run Try.prog w = .ok (.float .f64 r) w.drew := by
  refine ⟨_, drawn_lt (w.tape w.drawn (Question.nanBits .f64 x y)), nan_drawn (w.tape w.drawn (Question.nanBits .f64 x y)), ?_⟩
  rcases ho with rfl | rfl <;> simp only [floatBits] at h <;> simp [binOp, Op.floatArith, h, Question.forced, Question.cut]
theorem run_arith (op : BinOp) (ho : op = .add ∨ op = .mul) (x y : Nat) (w : World) : ∃ r n : Nat, r < 18446744073709551616 ∧ quietI r = arithN op x y ∧ (binOp op 131 (.float .f64 x) (.float .f64 y)).run Try.prog w = .ok (.float .f64 r) (w.drewN n) := by
  cases h : floatBits op .f64 x y with
  | some r => exact ⟨r, 0, by have := floatBits_wf h; simpa [Lit.wf] using this, by unfold arithN; rw [h], run_float_arith w op 131 .f64 x y r h⟩
  | none =>
    obtain ⟨r, hl, hr, hrun⟩ := run_arith_none op ho x y w h
    exact ⟨r, 1, hl, by unfold arithN; rw [h]; exact quiet_nan r hr, hrun⟩

set_option maxHeartbeats 400000 in
theorem fadd (x y : Nat) (w : World) : Calls Try.prog 84 #[.float .f64 x, .float .f64 y] w fun e w' => FA .add x y w e w' := by
  obtain ⟨r, n, _, hq, hrun⟩ := run_arith .add (.inl rfl) x y w
  have Hq := Lib.hid hq; clear hq
  go_enter Try.func84, Try.ntmps84
  go_wp2
  go_ret
  exact ⟨r, n, rfl, Hq.out, rfl⟩
set_option maxHeartbeats 400000 in
theorem fmul (x y : Nat) (w : World) : Calls Try.prog 85 #[.float .f64 x, .float .f64 y] w fun e w' => FA .mul x y w e w' := by
  obtain ⟨r, n, _, hq, hrun⟩ := run_arith .mul (.inr rfl) x y w
  have Hq := Lib.hid hq; clear hq
  go_enter Try.func85, Try.ntmps85
  go_wp2
  go_ret
  exact ⟨r, n, rfl, Hq.out, rfl⟩

def FT (op : BinOp) (x y : Int) (w : World) (e : Ending) (w' : World) : Prop := e = .returned (.tuple #[.int .u64 (arithN op x.toNat y.toNat), .int .i64 0]) ∧ ∃ n : Nat, w' = w.drewN n

set_option maxRecDepth 100000 in
set_option maxHeartbeats 400000 in
theorem floats_add (p q : Nat) (x y : Int) (w : World) (hx : w.cell? ⟨p, 0, none⟩ = some (.int .u64 x)) (hy : w.cell? ⟨q, 1, none⟩ = some (.int .u64 y)) :
   Calls Try.prog 81 #[.func (.func 84) #[] #[], .pointer (some ⟨p, 0, none⟩), .pointer (some ⟨q, 0, none⟩)] w fun e w' => FT .add x y w e w' := by
  have hf1 := run_from x
  have hf2 := run_from y
  have hb := run_bits
  go_enter Try.func81, Try.ntmps81
  go_wp2_with fail
  go_still_tail 6, (by kernel_rfl)
  go_wp2_with (go_at_call 84; refine (fadd _ _ _).mono ?_; rintro e w' ⟨r, n, rfl, hr, rfl⟩; have Hr := Lib.hid hr; clear hr)
  go_wp2_with (go_at_call 79; refine (quiet_any _ _).mono ?_; rintro e w' ⟨rfl, rfl⟩)
  go_ret2
  exact ⟨ret_pair Hr.out, _, rfl⟩

set_option maxRecDepth 100000 in
set_option maxHeartbeats 400000 in
theorem floats_mul (p q : Nat) (x y : Int) (w : World) (hx : w.cell? ⟨p, 0, none⟩ = some (.int .u64 x)) (hy : w.cell? ⟨q, 1, none⟩ = some (.int .u64 y)) :
   Calls Try.prog 81 #[.func (.func 85) #[] #[], .pointer (some ⟨p, 0, none⟩), .pointer (some ⟨q, 0, none⟩)] w fun e w' => FT .mul x y w e w' := by
  have hf1 := run_from x
  have hf2 := run_from y
  have hb := run_bits
  go_enter Try.func81, Try.ntmps81
  go_wp2_with fail
  go_still_tail 6, (by kernel_rfl)
  go_wp2_with (go_at_call 85; refine (fmul _ _ _).mono ?_; rintro e w' ⟨r, n, rfl, hr, rfl⟩; have Hr := Lib.hid hr; clear hr)
  go_wp2_with (go_at_call 79; refine (quiet_any _ _).mono ?_; rintro e w' ⟨rfl, rfl⟩)
  go_ret2
  exact ⟨ret_pair Hr.out, _, rfl⟩


theorem q_lo (x : Int) (h0 : 0 ≤ x) : 0 ≤ quietI x := by unfold quietI; split <;> omega
theorem q_hi (x : Int) (h1 : x < 18446744073709551616) : quietI x < 18446744073709551616 := by unfold quietI; split <;> omega
theorem o_lo (x : Int) (h0 : 0 ≤ x) (h1 : x < 18446744073709551616) : 0 ≤ ordI x := by unfold ordI; split <;> omega
theorem o_hi (x : Int) (h0 : 0 ≤ x) (h1 : x < 18446744073709551616) : ordI x < 18446744073709551616 := by unfold ordI; split <;> omega
theorem back_ord (x : Int) (h0 : 0 ≤ x) (h1 : x < 18446744073709551616) : backI (ordI x) = x := by unfold backI ordI; split <;> split <;> omega
theorem ord_back (x : Int) (h0 : 0 ≤ x) (h1 : x < 18446744073709551616) : ordI (backI x) = x := by unfold backI ordI; split <;> split <;> omega

def greatI (x y : Int) : Int := if ordI (quietI x) < ordI (quietI y) then quietI y else quietI x
def leastI (x y : Int) : Int := if ordI (quietI y) < ordI (quietI x) then quietI y else quietI x

theorem below_two (w : World) (c d : Array Value) (t u : TypeId) (n : Nat) : Bl w (((w.alloc (.cells c t)).alloc (.cells d u)).drewN n) :=
  below_drewN (((Below.refl _ _).alloc (Nat.le_refl _) _).alloc (by simp) _) n

def AT (v e0 : Int) (w : World) (e : Ending) (w' : World) : Prop := e = .returned (.tuple #[.int .u64 v, .int .i64 e0]) ∧ Bl w w'

set_option maxHeartbeats 400000 in
theorem apply_set (x y : Int) (w : World) : Calls Try.prog 76 #[.int .u64 x, .agg #[.int .u8 1, .int .u64 y]] w fun e w' => AT (quietI y) 0 w e w' := by
  go_enter Try.func76, Try.ntmps76
  go_wp2_with fail
  go_quiet ((go_at_call 79; exact quiet_pure (quiet_any _)))
  go_wp2_with fail
  go_ret2
  exact ⟨rfl, below_two ..⟩
set_option maxHeartbeats 400000 in
theorem apply_add (x y : Int) (w : World) : Calls Try.prog 76 #[.int .u64 x, .agg #[.int .u8 2, .int .u64 y]] w fun e w' => AT (arithN .add x.toNat y.toNat) 0 w e w' := by
  go_enter Try.func76, Try.ntmps76
  go_wp2_with fail
  go_quiet ((go_at_call 79; exact quiet_pure (quiet_any _)))
  go_wp2_with (go_at_call 81; refine (floats_add _ _ x y _ ?_ ?_).mono ?_; (simp [go_sem]); (simp [go_sem]); rintro e w' ⟨rfl, n, rfl⟩)
  go_ret2
  exact ⟨rfl, below_two ..⟩
set_option maxHeartbeats 400000 in
theorem apply_mul (x y : Int) (w : World) : Calls Try.prog 76 #[.int .u64 x, .agg #[.int .u8 5, .int .u64 y]] w fun e w' => AT (arithN .mul x.toNat y.toNat) 0 w e w' := by
  go_enter Try.func76, Try.ntmps76
  go_wp2_with fail
  go_quiet ((go_at_call 79; exact quiet_pure (quiet_any _)))
  go_wp2_with (go_at_call 81; refine (floats_mul _ _ x y _ ?_ ?_).mono ?_; (simp [go_sem]); (simp [go_sem]); rintro e w' ⟨rfl, n, rfl⟩)
  go_ret2
  exact ⟨rfl, below_two ..⟩
theorem not_gt {a b : Int} (h : ¬ a < b) : decide (b ≤ a) = true := by rw [decide_eq_true_eq]; omega
set_option maxHeartbeats 400000 in
theorem apply_great1 (x y : Int) (w : World) (a0 : 0 ≤ x) (a1 : x < 18446744073709551616) (b0 : 0 ≤ y) (b1 : y < 18446744073709551616) (hc : ordI (quietI x) < ordI (quietI y)) : Calls Try.prog 76 #[.int .u64 x, .agg #[.int .u8 3, .int .u64 y]] w fun e w' => AT (greatI x y) 0 w e w' := by
  have hv : backI (ordI (quietI y)) = greatI x y := by unfold greatI; rw [if_pos hc]; exact back_ord _ (q_lo _ (by omega)) (q_hi _ (by omega))
  have Hv := Lib.hid hv; clear hv
  have p0 := q_lo x a0
  have p1 := q_hi x a1
  have r0 := q_lo y b0
  have r1 := q_hi y b1
  have p2 := o_lo _ p0 p1
  have p3 := o_hi _ p0 p1
  have r2 := o_lo _ r0 r1
  have r3 := o_hi _ r0 r1
  go_enter Try.func76, Try.ntmps76
  go_wp2_with fail
  go_quiet ((go_at_call 79; exact quiet_pure (quiet_any _)))
  go_wp2_with (first | (go_at_call 87; refine (order_any _ _ (by assumption) (by assumption)).mono ?_; rintro e w' ⟨rfl, rfl⟩) | (go_at_call 86; refine (back_any _ _ (by assumption) (by assumption)).mono ?_; rintro e w' ⟨rfl, rfl⟩))
  go_ret2
  exact ⟨ret_pair Hv.out, below_two ..⟩
set_option maxHeartbeats 400000 in
theorem apply_great0 (x y : Int) (w : World) (a0 : 0 ≤ x) (a1 : x < 18446744073709551616) (b0 : 0 ≤ y) (b1 : y < 18446744073709551616) (hc : ¬ ordI (quietI x) < ordI (quietI y)) : Calls Try.prog 76 #[.int .u64 x, .agg #[.int .u8 3, .int .u64 y]] w fun e w' => AT (greatI x y) 0 w e w' := by
  have hv : backI (ordI (quietI x)) = greatI x y := by unfold greatI; rw [if_neg hc]; exact back_ord _ (q_lo _ (by omega)) (q_hi _ (by omega))
  have Hv := Lib.hid hv; clear hv
  have p0 := q_lo x a0
  have p1 := q_hi x a1
  have r0 := q_lo y b0
  have r1 := q_hi y b1
  have p2 := o_lo _ p0 p1
  have p3 := o_hi _ p0 p1
  have r2 := o_lo _ r0 r1
  have r3 := o_hi _ r0 r1
  go_enter Try.func76, Try.ntmps76
  go_wp2_with fail
  go_quiet ((go_at_call 79; exact quiet_pure (quiet_any _)))
  go_wp2_with (first | (go_at_call 87; refine (order_any _ _ (by assumption) (by assumption)).mono ?_; rintro e w' ⟨rfl, rfl⟩) | (go_at_call 86; refine (back_any _ _ (by assumption) (by assumption)).mono ?_; rintro e w' ⟨rfl, rfl⟩))
  go_ret2
  exact ⟨ret_pair Hv.out, below_two ..⟩
set_option maxHeartbeats 400000 in
theorem apply_least1 (x y : Int) (w : World) (a0 : 0 ≤ x) (a1 : x < 18446744073709551616) (b0 : 0 ≤ y) (b1 : y < 18446744073709551616) (hc : ordI (quietI y) < ordI (quietI x)) : Calls Try.prog 76 #[.int .u64 x, .agg #[.int .u8 4, .int .u64 y]] w fun e w' => AT (leastI x y) 0 w e w' := by
  have hv : backI (ordI (quietI y)) = leastI x y := by unfold leastI; rw [if_pos hc]; exact back_ord _ (q_lo _ (by omega)) (q_hi _ (by omega))
  have Hv := Lib.hid hv; clear hv
  have p0 := q_lo x a0
  have p1 := q_hi x a1
  have r0 := q_lo y b0
  have r1 := q_hi y b1
  have p2 := o_lo _ p0 p1
  have p3 := o_hi _ p0 p1
  have r2 := o_lo _ r0 r1
  have r3 := o_hi _ r0 r1
  go_enter Try.func76, Try.ntmps76
  go_wp2_with fail
  go_quiet ((go_at_call 79; exact quiet_pure (quiet_any _)))
  go_wp2_with (first | (go_at_call 87; refine (order_any _ _ (by assumption) (by assumption)).mono ?_; rintro e w' ⟨rfl, rfl⟩) | (go_at_call 86; refine (back_any _ _ (by assumption) (by assumption)).mono ?_; rintro e w' ⟨rfl, rfl⟩))
  go_ret2
  exact ⟨ret_pair Hv.out, below_two ..⟩
set_option maxHeartbeats 400000 in
theorem apply_least0 (x y : Int) (w : World) (a0 : 0 ≤ x) (a1 : x < 18446744073709551616) (b0 : 0 ≤ y) (b1 : y < 18446744073709551616) (hc : ¬ ordI (quietI y) < ordI (quietI x)) : Calls Try.prog 76 #[.int .u64 x, .agg #[.int .u8 4, .int .u64 y]] w fun e w' => AT (leastI x y) 0 w e w' := by
  have hv : backI (ordI (quietI x)) = leastI x y := by unfold leastI; rw [if_neg hc]; exact back_ord _ (q_lo _ (by omega)) (q_hi _ (by omega))
  have Hv := Lib.hid hv; clear hv
  have p0 := q_lo x a0
  have p1 := q_hi x a1
  have r0 := q_lo y b0
  have r1 := q_hi y b1
  have p2 := o_lo _ p0 p1
  have p3 := o_hi _ p0 p1
  have r2 := o_lo _ r0 r1
  have r3 := o_hi _ r0 r1
  go_enter Try.func76, Try.ntmps76
  go_wp2_with fail
  go_quiet ((go_at_call 79; exact quiet_pure (quiet_any _)))
  go_wp2_with (first | (go_at_call 87; refine (order_any _ _ (by assumption) (by assumption)).mono ?_; rintro e w' ⟨rfl, rfl⟩) | (go_at_call 86; refine (back_any _ _ (by assumption) (by assumption)).mono ?_; rintro e w' ⟨rfl, rfl⟩))
  go_ret2
  exact ⟨ret_pair Hv.out, below_two ..⟩

theorem apply_great (x y : Int) (w : World) (a0 : 0 ≤ x) (a1 : x < 18446744073709551616) (b0 : 0 ≤ y) (b1 : y < 18446744073709551616) : Calls Try.prog 76 #[.int .u64 x, .agg #[.int .u8 3, .int .u64 y]] w fun e w' => AT (greatI x y) 0 w e w' := by
  by_cases hc : ordI (quietI x) < ordI (quietI y)
  · exact apply_great1 x y w a0 a1 b0 b1 hc
  · exact apply_great0 x y w a0 a1 b0 b1 hc
theorem apply_least (x y : Int) (w : World) (a0 : 0 ≤ x) (a1 : x < 18446744073709551616) (b0 : 0 ≤ y) (b1 : y < 18446744073709551616) : Calls Try.prog 76 #[.int .u64 x, .agg #[.int .u8 4, .int .u64 y]] w fun e w' => AT (leastI x y) 0 w e w' := by
  by_cases hc : ordI (quietI y) < ordI (quietI x)
  · exact apply_least1 x y w a0 a1 b0 b1 hc
  · exact apply_least0 x y w a0 a1 b0 b1 hc
set_option maxHeartbeats 400000 in
theorem apply_bad (x y op : Int) (w : World) (h1 : (op == 1) = false) (h2 : (op == 2) = false) (h3 : (op == 3) = false) (h4 : (op == 4) = false) (h5 : (op == 5) = false) : Calls Try.prog 76 #[.int .u64 x, .agg #[.int .u8 op, .int .u64 y]] w fun e w' => AT 0 2 w e w' := by
  go_enter Try.func76, Try.ntmps76
  go_wp2_with fail
  go_quiet ((go_at_call 79; exact quiet_pure (quiet_any _)))
  go_wp2_with fail
  go_ret2
  exact ⟨rfl, below_two ..⟩

/-- What a step makes of a mark. -/
def stepI (x op y : Int) : Int := if op = 1 then quietI y else if op = 2 then arithN .add x.toNat y.toNat else if op = 3 then greatI x y else if op = 4 then leastI x y else if op = 5 then arithN .mul x.toNat y.toNat else 0
def stepE (op : Int) : Int := if 1 ≤ op ∧ op ≤ 5 then 0 else 2

theorem op_cases (op : Int) : op = 1 ∨ op = 2 ∨ op = 3 ∨ op = 4 ∨ op = 5 ∨ (op ≠ 1 ∧ op ≠ 2 ∧ op ≠ 3 ∧ op ≠ 4 ∧ op ≠ 5) := by omega
theorem apply_any (x op y : Int) (w : World) (a0 : 0 ≤ x) (a1 : x < 18446744073709551616) (b0 : 0 ≤ y) (b1 : y < 18446744073709551616) : Calls Try.prog 76 #[.int .u64 x, .agg #[.int .u8 op, .int .u64 y]] w fun e w' => AT (stepI x op y) (stepE op) w e w' := by
  rcases op_cases op with rfl | rfl | rfl | rfl | rfl | ⟨h1, h2, h3, h4, h5⟩
  · exact apply_set x y w
  · exact apply_add x y w
  · exact apply_great x y w a0 a1 b0 b1
  · exact apply_least x y w a0 a1 b0 b1
  · exact apply_mul x y w
  · have e1 : stepI x op y = 0 := by unfold stepI; rw [if_neg h1, if_neg h2, if_neg h3, if_neg h4, if_neg h5]
    have e2 : stepE op = 2 := by unfold stepE; rw [if_neg (by omega)]
    rw [e1, e2]
    exact apply_bad x y op w (by simpa using h1) (by simpa using h2) (by simpa using h3) (by simpa using h4) (by simpa using h5)

end Go.Proofs.Ytniblmpihnhglaa

/- Walks of layer 1: Same, the reference's Apply, and the small functions of the statements' own package. -/
namespace Go.Proofs.Ytniblmpihnhglaa
open Go.RowKit
set_option linter.unusedVariables false

set_option maxHeartbeats 400000 in
theorem rsum_any (x y : Int) (w : World) : Calls Try.prog 89 #[.int .u64 x, .int .u64 y] w fun e w' => e = .returned (.int .u64 (arithN .add x.toNat y.toNat)) ∧ Bl w w' := by
  have hf1 := run_from x
  have hf2 := run_from y
  have hb := run_bits
  obtain ⟨r, n, hl, hq, hrun⟩ := run_arith .add (.inl rfl) x.toNat y.toNat w
  have Hq := Lib.hid hq; clear hq
  have r0 : (0 : Int) ≤ r := by omega
  have r1 : (r : Int) < 18446744073709551616 := by omega
  go_enter Try.func89, Try.ntmps89
  go_wp2_with (go_at_call 88; refine (rquiet_any _ _ r0 r1).mono ?_; rintro e w' ⟨rfl, rfl⟩)
  go_ret
  exact ⟨ret_int Hq.out, (Bl.refl w).drewN _⟩
set_option maxHeartbeats 400000 in
theorem rprod_any (x y : Int) (w : World) : Calls Try.prog 90 #[.int .u64 x, .int .u64 y] w fun e w' => e = .returned (.int .u64 (arithN .mul x.toNat y.toNat)) ∧ Bl w w' := by
  have hf1 := run_from x
  have hf2 := run_from y
  have hb := run_bits
  obtain ⟨r, n, hl, hq, hrun⟩ := run_arith .mul (.inr rfl) x.toNat y.toNat w
  have Hq := Lib.hid hq; clear hq
  have r0 : (0 : Int) ≤ r := by omega
  have r1 : (r : Int) < 18446744073709551616 := by omega
  go_enter Try.func90, Try.ntmps90
  go_wp2_with (go_at_call 88; refine (rquiet_any _ _ r0 r1).mono ?_; rintro e w' ⟨rfl, rfl⟩)
  go_ret
  exact ⟨ret_int Hq.out, (Bl.refl w).drewN _⟩

theorem ret_fst {a b c : Int} (h : a = b) : Ending.returned (.tuple #[.int .u64 a, .int .i64 c]) = .returned (.tuple #[.int .u64 b, .int .i64 c]) := by rw [h]
set_option maxHeartbeats 400000 in
theorem rapply_set (x y : Int) (w : World) (a0 : 0 ≤ x) (a1 : x < 18446744073709551616) (b0 : 0 ≤ y) (b1 : y < 18446744073709551616) : Calls Try.prog 78 #[.int .u64 x, .int .u8 1, .int .u64 y] w fun e w' => AT (quietI y) 0 w e w' := by
  go_enter Try.func78, Try.ntmps78
  go_wp2_with (first | (go_at_call 88; refine (rquiet_any _ _ (by assumption) (by assumption)).mono ?_; rintro e w' ⟨rfl, rfl⟩))
  go_ret2
  exact ⟨rfl, Bl.refl w⟩
set_option maxHeartbeats 400000 in
theorem rapply_add (x y : Int) (w : World) (a0 : 0 ≤ x) (a1 : x < 18446744073709551616) (b0 : 0 ≤ y) (b1 : y < 18446744073709551616) : Calls Try.prog 78 #[.int .u64 x, .int .u8 2, .int .u64 y] w fun e w' => AT (arithN .add x.toNat y.toNat) 0 w e w' := by
  go_enter Try.func78, Try.ntmps78
  go_wp2_with (first | (go_at_call 89; refine (rsum_any _ _ _).mono ?_; rintro e w' ⟨rfl, hb⟩))
  go_ret2
  exact ⟨rfl, by assumption⟩
set_option maxHeartbeats 400000 in
theorem rapply_mul (x y : Int) (w : World) (a0 : 0 ≤ x) (a1 : x < 18446744073709551616) (b0 : 0 ≤ y) (b1 : y < 18446744073709551616) : Calls Try.prog 78 #[.int .u64 x, .int .u8 5, .int .u64 y] w fun e w' => AT (arithN .mul x.toNat y.toNat) 0 w e w' := by
  go_enter Try.func78, Try.ntmps78
  go_wp2_with (first | (go_at_call 90; refine (rprod_any _ _ _).mono ?_; rintro e w' ⟨rfl, hb⟩))
  go_ret2
  exact ⟨rfl, by assumption⟩
set_option maxHeartbeats 400000 in
theorem rapply_great1 (x y : Int) (w : World) (a0 : 0 ≤ x) (a1 : x < 18446744073709551616) (b0 : 0 ≤ y) (b1 : y < 18446744073709551616) (hc : ordI (quietI x) < ordI (quietI y)) : Calls Try.prog 78 #[.int .u64 x, .int .u8 3, .int .u64 y] w fun e w' => AT (greatI x y) 0 w e w' := by
  have Hv : Hid (quietI y = greatI x y) := Lib.hid (by unfold greatI; rw [if_pos hc])
  have p0 := q_lo x a0
  have p1 := q_hi x a1
  have r0 := q_lo y b0
  have r1 := q_hi y b1
  go_enter Try.func78, Try.ntmps78
  go_wp2_with (first | (go_at_call 88; refine (rquiet_any _ _ (by assumption) (by assumption)).mono ?_; rintro e w' ⟨rfl, rfl⟩) | (go_at_call 91; refine (rorder_any _ _ (by assumption) (by assumption)).mono ?_; rintro e w' ⟨rfl, rfl⟩))
  go_ret2
  exact ⟨ret_fst Hv.out, Bl.refl w⟩
set_option maxHeartbeats 400000 in
theorem rapply_great0 (x y : Int) (w : World) (a0 : 0 ≤ x) (a1 : x < 18446744073709551616) (b0 : 0 ≤ y) (b1 : y < 18446744073709551616) (hc : ¬ ordI (quietI x) < ordI (quietI y)) : Calls Try.prog 78 #[.int .u64 x, .int .u8 3, .int .u64 y] w fun e w' => AT (greatI x y) 0 w e w' := by
  have Hv : Hid (quietI x = greatI x y) := Lib.hid (by unfold greatI; rw [if_neg hc])
  have p0 := q_lo x a0
  have p1 := q_hi x a1
  have r0 := q_lo y b0
  have r1 := q_hi y b1
  go_enter Try.func78, Try.ntmps78
  go_wp2_with (first | (go_at_call 88; refine (rquiet_any _ _ (by assumption) (by assumption)).mono ?_; rintro e w' ⟨rfl, rfl⟩) | (go_at_call 91; refine (rorder_any _ _ (by assumption) (by assumption)).mono ?_; rintro e w' ⟨rfl, rfl⟩))
  go_ret2
  exact ⟨ret_fst Hv.out, Bl.refl w⟩
set_option maxHeartbeats 400000 in
theorem rapply_least1 (x y : Int) (w : World) (a0 : 0 ≤ x) (a1 : x < 18446744073709551616) (b0 : 0 ≤ y) (b1 : y < 18446744073709551616) (hc : ordI (quietI y) < ordI (quietI x)) : Calls Try.prog 78 #[.int .u64 x, .int .u8 4, .int .u64 y] w fun e w' => AT (leastI x y) 0 w e w' := by
  have Hv : Hid (quietI y = leastI x y) := Lib.hid (by unfold leastI; rw [if_pos hc])
  have p0 := q_lo x a0
  have p1 := q_hi x a1
  have r0 := q_lo y b0
  have r1 := q_hi y b1
  go_enter Try.func78, Try.ntmps78
  go_wp2_with (first | (go_at_call 88; refine (rquiet_any _ _ (by assumption) (by assumption)).mono ?_; rintro e w' ⟨rfl, rfl⟩) | (go_at_call 91; refine (rorder_any _ _ (by assumption) (by assumption)).mono ?_; rintro e w' ⟨rfl, rfl⟩))
  go_ret2
  exact ⟨ret_fst Hv.out, Bl.refl w⟩
set_option maxHeartbeats 400000 in
theorem rapply_least0 (x y : Int) (w : World) (a0 : 0 ≤ x) (a1 : x < 18446744073709551616) (b0 : 0 ≤ y) (b1 : y < 18446744073709551616) (hc : ¬ ordI (quietI y) < ordI (quietI x)) : Calls Try.prog 78 #[.int .u64 x, .int .u8 4, .int .u64 y] w fun e w' => AT (leastI x y) 0 w e w' := by
  have Hv : Hid (quietI x = leastI x y) := Lib.hid (by unfold leastI; rw [if_neg hc])
  have p0 := q_lo x a0
  have p1 := q_hi x a1
  have r0 := q_lo y b0
  have r1 := q_hi y b1
  go_enter Try.func78, Try.ntmps78
  go_wp2_with (first | (go_at_call 88; refine (rquiet_any _ _ (by assumption) (by assumption)).mono ?_; rintro e w' ⟨rfl, rfl⟩) | (go_at_call 91; refine (rorder_any _ _ (by assumption) (by assumption)).mono ?_; rintro e w' ⟨rfl, rfl⟩))
  go_ret2
  exact ⟨ret_fst Hv.out, Bl.refl w⟩
set_option maxHeartbeats 400000 in
theorem rapply_bad (x y op : Int) (w : World) (a0 : 0 ≤ x) (a1 : x < 18446744073709551616) (b0 : 0 ≤ y) (b1 : y < 18446744073709551616)  (h1 : (op == 1) = false) (h2 : (op == 2) = false) (h3 : (op == 3) = false) (h4 : (op == 4) = false) (h5 : (op == 5) = false) : Calls Try.prog 78 #[.int .u64 x, .int .u8 op, .int .u64 y] w fun e w' => AT (0) 2 w e w' := by
  go_enter Try.func78, Try.ntmps78
  go_wp2_with (first | fail)
  go_ret2
  exact ⟨rfl, Bl.refl w⟩
theorem rapply_any (x op y : Int) (w : World) (a0 : 0 ≤ x) (a1 : x < 18446744073709551616) (b0 : 0 ≤ y) (b1 : y < 18446744073709551616) : Calls Try.prog 78 #[.int .u64 x, .int .u8 op, .int .u64 y] w fun e w' => AT (stepI x op y) (stepE op) w e w' := by
  rcases op_cases op with rfl | rfl | rfl | rfl | rfl | ⟨h1, h2, h3, h4, h5⟩
  · exact rapply_set x y w a0 a1 b0 b1
  · exact rapply_add x y w a0 a1 b0 b1
  · by_cases hc : ordI (quietI x) < ordI (quietI y)
    · exact rapply_great1 x y w a0 a1 b0 b1 hc
    · exact rapply_great0 x y w a0 a1 b0 b1 hc
  · by_cases hc : ordI (quietI y) < ordI (quietI x)
    · exact rapply_least1 x y w a0 a1 b0 b1 hc
    · exact rapply_least0 x y w a0 a1 b0 b1 hc
  · exact rapply_mul x y w a0 a1 b0 b1
  · have e1 : stepI x op y = 0 := by unfold stepI; rw [if_neg h1, if_neg h2, if_neg h3, if_neg h4, if_neg h5]
    have e2 : stepE op = 2 := by unfold stepE; rw [if_neg (by omega)]
    rw [e1, e2]
    exact rapply_bad x y op w a0 a1 b0 b1 (by simpa using h1) (by simpa using h2) (by simpa using h3) (by simpa using h4) (by simpa using h5)

end Go.Proofs.Ytniblmpihnhglaa

/- Walks of layer 7: what may be. -/
namespace Go.Proofs.Ytniblmpihnhglaa
open Go.RowKit
set_option linter.unusedVariables false

/-- May a meta be? -/
def mayM (k s : Nat) (m : Int) : Bool := decide ((k = 1 ∨ (k = 2 ∧ s = 0)) ∧ s ≤ 2048 ∧ quietI m = m)
def metaV (k s : Nat) (m t : Int) : Value := .agg #[.int .u8 k, .int .u32 s, .int .u64 m, .int .u64 t]
def chk (k s : Nat) (m : Int) : Int := if mayM k s m then 0 else 4
def ChkP (k s : Nat) (m : Int) (w : World) (x : Ending) (w' : World) : Prop := x = .returned (.int .i64 (chk k s m)) ∧ Bl w w'

theorem check_early (k s : Nat) (m t : Int) (w : World) (h : (k ≠ 1 ∧ k ≠ 2) ∨ 2048 < s ∨ (k = 2 ∧ 0 < s)) :
    Calls Try.prog 47 #[.agg #[.int .u8 k, .int .u32 s, .int .u64 m, .int .u64 t]] w (ChkP k s m w) := by
  have hc : chk k s m = 4 := by unfold chk mayM; rw [if_neg]; simp only [decide_eq_true_eq]; omega
  unfold ChkP
  rw [hc]
  clear hc
  by_cases h1 : k = 1
  · subst h1
    have hs : 2048 < s := by omega
    clear h
    go_enter Try.func47, Try.ntmps47
    go_wp2_with fail
    go_ret
    exact ⟨rfl, (Bl.refl w).alloc _⟩
  by_cases h2 : k = 2
  · subst h2
    have hs : 0 < s := by omega
    clear h h1
    by_cases h3 : 2048 < s
    · go_enter Try.func47, Try.ntmps47
      go_wp2_with fail
      go_ret
      exact ⟨rfl, (Bl.refl w).alloc _⟩
    · have h3' : s ≤ 2048 := by omega
      clear h3
      go_enter Try.func47, Try.ntmps47
      go_wp2_with fail
      go_ret
      exact ⟨rfl, (Bl.refl w).alloc _⟩
  · clear h
    have e1 : ((k : Int) != 1) = true := by simp; omega
    have e2 : ((k : Int) != 2) = true := by simp; omega
    clear h1 h2
    go_enter Try.func47, Try.ntmps47
    go_wp2_with fail
    go_ret
    exact ⟨rfl, (Bl.refl w).alloc _⟩

theorem check_late (k s : Nat) (m t : Int) (w : World) (h : (k = 1 ∧ s ≤ 2048) ∨ (k = 2 ∧ s = 0)) :
    Calls Try.prog 47 #[.agg #[.int .u8 k, .int .u32 s, .int .u64 m, .int .u64 t]] w (ChkP k s m w) := by
  by_cases hq : quietI m = m
  · have hc : chk k s m = 0 := by unfold chk mayM; rw [if_pos]; simp only [decide_eq_true_eq]; refine ⟨?_, ?_, hq⟩ <;> omega
    unfold ChkP
    rw [hc]
    clear hc
    rcases h with ⟨rfl, hs⟩ | ⟨rfl, rfl⟩
    · go_enter Try.func47, Try.ntmps47
      go_wp2_with fail
      go_quiet ((go_at_call 79; exact quiet_pure (quiet_any _)))
      go_wp2_with fail
      go_ret
      exact ⟨rfl, ((Bl.refl w).alloc _).drewN _⟩
    · go_enter Try.func47, Try.ntmps47
      go_wp2_with fail
      go_quiet ((go_at_call 79; exact quiet_pure (quiet_any _)))
      go_wp2_with fail
      go_ret
      exact ⟨rfl, ((Bl.refl w).alloc _).drewN _⟩
  · have hc : chk k s m = 4 := by unfold chk mayM; rw [if_neg]; simp only [decide_eq_true_eq]; intro h; exact hq h.2.2
    have hqb : (quietI m != m) = true := by simpa using hq
    unfold ChkP
    rw [hc]
    clear hc hq
    rcases h with ⟨rfl, hs⟩ | ⟨rfl, rfl⟩
    · go_enter Try.func47, Try.ntmps47
      go_wp2_with fail
      go_quiet ((go_at_call 79; exact quiet_pure (quiet_any _)))
      go_wp2_with fail
      go_ret
      exact ⟨rfl, ((Bl.refl w).alloc _).drewN _⟩
    · go_enter Try.func47, Try.ntmps47
      go_wp2_with fail
      go_quiet ((go_at_call 79; exact quiet_pure (quiet_any _)))
      go_wp2_with fail
      go_ret
      exact ⟨rfl, ((Bl.refl w).alloc _).drewN _⟩
theorem check_any (k s : Nat) (m t : Int) (w : World) : Calls Try.prog 47 #[.agg #[.int .u8 k, .int .u32 s, .int .u64 m, .int .u64 t]] w (ChkP k s m w) := by
  by_cases h : (k = 1 ∧ s ≤ 2048) ∨ (k = 2 ∧ s = 0)
  · exact check_late k s m t w h
  · exact check_early k s m t w (by omega)

/-- May a change be? -/
def mayC (k : Nat) (n : Int) (op : Nat) (y : Int) : Bool := decide (((k = 1 ∨ k = 2) ∧ n ≤ 2048 ∧ op = 0 ∧ y = 0) ∨ (k = 4 ∧ op = 0 ∧ y = 0) ∨ (k = 3 ∧ n = 0 ∧ 1 ≤ op ∧ op ≤ 5))
def MayP (k : Nat) (n : Int) (op : Nat) (y : Int) (w : World) (x : Ending) (w' : World) : Prop := x = .returned (.bool (mayC k n op y)) ∧ Bl w w'
theorem may_any (k : Nat) (n : Int) (op : Nat) (y : Int) (w : World) : Calls Try.prog 71 #[.agg #[.int .u8 k, .int .u64 n, .int .u8 op, .int .u64 y]] w (MayP k n op y w) := by
  unfold MayP
  rcases (by omega : k = 1 ∨ k = 2 ∨ k = 3 ∨ k = 4 ∨ (k ≠ 1 ∧ k ≠ 2 ∧ k ≠ 3 ∧ k ≠ 4)) with rfl | rfl | rfl | rfl | ⟨h1, h2, h3, h4⟩
  all_goals
    try (have e1 : ((k : Int) == 1) = false := by (rw [beq_eq_false_iff_ne]; omega))
    try (have e2 : ((k : Int) == 2) = false := by (rw [beq_eq_false_iff_ne]; omega))
    try (have e3 : ((k : Int) == 3) = false := by (rw [beq_eq_false_iff_ne]; omega))
    try (have e4 : ((k : Int) == 4) = false := by (rw [beq_eq_false_iff_ne]; omega))
    go_enter Try.func71, Try.ntmps71
    go_wp2_with fail
    all_goals
      go_ret
      refine ⟨ret_bool ?_, (Bl.refl w).alloc _⟩
      unfold mayC
      first
        | (symm; rw [decide_eq_true_eq]; omega)
        | (symm; rw [decide_eq_false_iff_not]; omega)
        | (rw [decide_eq_decide]; omega)
end Go.Proofs.Ytniblmpihnhglaa

/- Walks of layer 7: what may be, by the reference; small functions. -/
namespace Go.Proofs.Ytniblmpihnhglaa
open Go.RowKit
set_option linter.unusedVariables false

def RMayP (k s : Nat) (m : Int) (w : World) (x : Ending) (w' : World) : Prop := x = .returned (.bool (mayM k s m)) ∧ Bl w w'
set_option maxRecDepth 100000 in
set_option maxHeartbeats 1600000 in
theorem rmay_any (k s : Nat) (m t : Int) (w : World) (m0 : 0 ≤ m) (m1 : m < 18446744073709551616) :
    Calls Try.prog 77 #[.agg #[.int .u8 k, .int .u32 s, .int .u64 m, .int .u64 t]] w (RMayP k s m w) := by
  unfold RMayP
  have hmb : mayM k s m = (decide ((k = 1 ∨ (k = 2 ∧ s = 0)) ∧ s ≤ 2048) && (quietI m == m)) := by
    unfold mayM
    by_cases hq : quietI m = m
    · simp [hq]
    · simp [hq]
  rw [hmb]
  clear hmb
  have HQ := Lib.hid (fun w => rquiet_any m w m0 m1)
  clear m0 m1
  by_cases hk2 : k = 2
  · subst hk2
    by_cases hs : s = 0
    · subst hs
      have hd : decide ((2 = 1 ∨ (2 = 2 ∧ 0 = 0)) ∧ 0 ≤ 2048) = true := by decide
      rw [hd, Bool.true_and]
      clear hd
      go_enter Try.func77, Try.ntmps77
      go_wp2_with fail
      go_quiet ((go_at_call 88; exact quiet_pure HQ.out))
      go_wp2_with fail
      go_ret
      exact ⟨rfl, ((Bl.refl w).alloc _).drewN _⟩
    · have hd : decide ((2 = 1 ∨ (2 = 2 ∧ s = 0)) ∧ s ≤ 2048) = false := by rw [decide_eq_false_iff_not]; omega
      rw [hd, Bool.false_and]
      clear hd
      have hsb : ((s : Int) == 0) = false := by rw [beq_eq_false_iff_ne]; omega
      go_enter Try.func77, Try.ntmps77
      go_wp2_with fail
      go_quiet (fail)
      go_wp2_with fail
      go_ret
      exact ⟨rfl, ((Bl.refl w).alloc _).drewN _⟩
  · have hkb : ((k : Int) == 2) = false := by rw [beq_eq_false_iff_ne]; omega
    by_cases hk1 : k = 1
    · subst hk1
      by_cases hs : s ≤ 2048
      · have hd : decide ((1 = 1 ∨ (1 = 2 ∧ s = 0)) ∧ s ≤ 2048) = true := by rw [decide_eq_true_eq]; omega
        have hsb : decide ((s : Int) ≤ 2048) = true := decide_eq_true (by omega)
        rw [hd, Bool.true_and]
        clear hd hkb hk2
        go_enter Try.func77, Try.ntmps77
        go_wp2_with fail
        go_quiet ((go_at_call 88; exact quiet_pure HQ.out))
        go_wp2_with fail
        go_ret
        exact ⟨rfl, ((Bl.refl w).alloc _).drewN _⟩
      · have hd : decide ((1 = 1 ∨ (1 = 2 ∧ s = 0)) ∧ s ≤ 2048) = false := by rw [decide_eq_false_iff_not]; omega
        have hsb : decide ((s : Int) ≤ 2048) = false := decide_eq_false (by omega)
        rw [hd, Bool.false_and]
        clear hd hkb hk2
        go_enter Try.func77, Try.ntmps77
        go_wp2_with fail
        go_quiet (fail)
        go_wp2_with fail
        go_ret
        exact ⟨rfl, ((Bl.refl w).alloc _).drewN _⟩
    · have hkb1 : ((k : Int) == 1) = false := by rw [beq_eq_false_iff_ne]; omega
      have hd : decide ((k = 1 ∨ (k = 2 ∧ s = 0)) ∧ s ≤ 2048) = false := by rw [decide_eq_false_iff_not]; omega
      rw [hd, Bool.false_and]
      clear hd hk2 hk1
      go_enter Try.func77, Try.ntmps77
      go_wp2_with fail
      go_quiet (fail)
      go_wp2_with fail
      go_ret
      exact ⟨rfl, ((Bl.refl w).alloc _).drewN _⟩

theorem rmayc_any (k : Nat) (n : Int) (op : Nat) (y : Int) (w : World) : Calls Try.prog 72 #[.agg #[.int .u8 k, .int .u64 n, .int .u8 op, .int .u64 y]] w (MayP k n op y w) := by
  unfold MayP
  rcases (by omega : k = 1 ∨ k = 2 ∨ k = 3 ∨ k = 4 ∨ (k ≠ 1 ∧ k ≠ 2 ∧ k ≠ 3 ∧ k ≠ 4)) with rfl | rfl | rfl | rfl | ⟨h1, h2, h3, h4⟩
  all_goals
    try (have e1 : ((k : Int) == 1) = false := by (rw [beq_eq_false_iff_ne]; omega))
    try (have e2 : ((k : Int) == 2) = false := by (rw [beq_eq_false_iff_ne]; omega))
    try (have e3 : ((k : Int) == 3) = false := by (rw [beq_eq_false_iff_ne]; omega))
    try (have e4 : ((k : Int) == 4) = false := by (rw [beq_eq_false_iff_ne]; omega))
    go_enter Try.func72, Try.ntmps72
    go_wp2_with fail
    all_goals
      go_ret
      refine ⟨ret_bool ?_, (Bl.refl w).alloc _⟩
      unfold mayC
      first
        | (symm; rw [decide_eq_true_eq]; omega)
        | (symm; rw [decide_eq_false_iff_not]; omega)
        | (rw [decide_eq_decide]; omega)
        | (show decide (y = 0) = _; rw [decide_eq_decide]; omega)
end Go.Proofs.Ytniblmpihnhglaa

/- Walks of layer 7: Put. -/
namespace Go.Proofs.Ytniblmpihnhglaa
open Go.RowKit
set_option linter.unusedVariables false

/-- A meta's bytes. -/
def metaL (k s m t : Nat) : List UInt8 := beB k 1 ++ (beB s 4 ++ (beB m 8 ++ beB t 8))
def MPutP (k s m t : Nat) (w : World) (x : Ending) (w' : World) : Prop :=
  x = .returned (.tuple #[.string (strL (if mayM k s m then metaL k s m t else [])), .int .i64 (chk k s m)]) ∧ Bl w w'
set_option maxRecDepth 100000 in
set_option maxHeartbeats 1600000 in
theorem mput_any (k s m t : Nat) (w : World) (hk : k < 256) (hs : s < 4294967296) (hm : m < 18446744073709551616) (ht : t < 18446744073709551616) :
    Calls Try.prog 49 #[.agg #[.int .u8 k, .int .u32 s, .int .u64 m, .int .u64 t]] w (MPutP k s m t w) := by
  have CH := Lib.hid (fun w => check_any k s m t w)
  unfold MPutP
  by_cases hM : mayM k s m = true
  · have hc : chk k s m = 0 := by unfold chk; rw [if_pos hM]
    rw [if_pos hM, hc]
    unfold ChkP at CH
    rw [hc] at CH
    have HK := Lib.hid hk
    have HS := Lib.hid hs
    have HM := Lib.hid hm
    have HT := Lib.hid ht
    clear hM hc hk hs hm ht
    have BX : Hid (∀ w1, Bl (w.alloc (.cells #[.int .u8 k, .int .u32 s, .int .u64 m, .int .u64 t] 85)) w1 → w1.heap[w.heap.size]? = some (.cells #[.int .u8 k, .int .u32 s, .int .u64 m, .int .u64 t] 85 (0, 0)) ∧ w.heap.size < w1.heap.size) := Lib.hid (fun w1 hb => by
      have hlt : w.heap.size < (w.alloc (.cells #[.int .u8 k, .int .u32 s, .int .u64 m, .int .u64 t] 85)).heap.size := by show _ < (w.heap.push _).size; rw [Array.size_push]; omega
      exact ⟨(hb.block _ hlt).trans (heap_alloc_new _ _), Nat.lt_of_lt_of_le hlt hb.size⟩)
    have A0 : Hid (Bl w (w.alloc (.cells #[.int .u8 k, .int .u32 s, .int .u64 m, .int .u64 t] 85))) := Lib.hid ((Bl.refl w).alloc _)
    go_enter Try.func49, Try.ntmps49
    go_wp2_with (first
      | (go_at_call 17; refine (w_bytes _ _ _ _ W4.out.1).mono ?_; rintro e w7 ⟨rfl, rfl⟩)
      | (go_at_call 34; have := W3; refine (w_u64 _ _ _ t _ HT.out (by simp only [List.length_append, List.length_nil, beB_length]; decide) W3.out.1).mono ?_; rintro e w6 ⟨rfl, h⟩; have W4 := Lib.hid h; clear h)
      | (go_at_call 34; refine (w_u64 _ _ _ m _ HM.out (by simp only [List.length_append, List.length_nil, beB_length]; decide) W2.out.1).mono ?_; rintro e w5 ⟨rfl, h⟩; have W3 := Lib.hid h; have X3 := Lib.hid ((h.2.block w.heap.size (by have := Z.out; omega) (by have := Z.out; omega)).trans X2.out); have c3 : w5.cell? ⟨w.heap.size, 3, none⟩ = some (.int .u64 t) := by { rw [cell_of_row _ _ _ _ _ _ X3.out]; rfl }; clear h)
      | (go_at_call 27; refine (w_u32 _ _ _ s _ HS.out (by simp only [List.length_append, List.length_nil, beB_length]; decide) W1.out.1).mono ?_; rintro e w4 ⟨rfl, h⟩; have W2 := Lib.hid h; have X2 := Lib.hid ((h.2.block w.heap.size (by have := Z.out; omega) (by have := Z.out; omega)).trans X1.out); have c2 : w4.cell? ⟨w.heap.size, 2, none⟩ = some (.int .u64 m) := by { rw [cell_of_row _ _ _ _ _ _ X2.out]; rfl }; clear h)
      | (go_at_call 25; refine (w_u8 _ _ [] k _ HK.out (by decide) W0.out).mono ?_; rintro e w3 ⟨rfl, h⟩; have W1 := Lib.hid h; have X1 := Lib.hid ((h.2.block w.heap.size (by have := Z.out; omega) (by have := Z.out; omega)).trans X0.out); have c1 : w3.cell? ⟨w.heap.size, 1, none⟩ = some (.int .u32 s) := by { rw [cell_of_row _ _ _ _ _ _ X1.out]; rfl }; clear h)
      | (go_at_call 47; refine (CH.out _).mono ?_; rintro e w1 ⟨rfl, h⟩; have B1 := Lib.hid h; have bx := BX.out w1 h; have Z := Lib.hid bx.2; have W0 := Lib.hid (wr_new w1); have X0 : Hid ((w1.alloc (.cells #[.slice none 0 0, .int .i64 0] 29)).heap[w.heap.size]? = some (.cells #[.int .u8 k, .int .u32 s, .int .u64 m, .int .u64 t] 85 (0, 0))) := Lib.hid ((Below.heap_alloc _ _ _ bx.2).trans bx.1); have c0 : (w1.alloc (.cells #[.slice none 0 0, .int .i64 0] 29)).cell? ⟨w.heap.size, 0, none⟩ = some (.int .u8 k) := by { rw [cell_of_row _ _ _ _ _ _ X0.out]; rfl }; clear h bx))
    go_ret2
    have hL : [] ++ beB k 1 ++ beB s 4 ++ beB m 8 ++ beB t 8 = metaL k s m t := by simp [metaL, List.append_assoc]
    refine ⟨?_, ?_⟩
    · rw [← hL]
      rfl
    · have n0 : w.heap.size ≤ w1.heap.size := by have := Z.out; omega
      have a1 : Bl w w1 := A0.out.trans B1.out
      have a2 : Bl w (w1.alloc (.cells #[.slice none 0 0, .int .i64 0] 29)) := a1.alloc _
      exact Below.trans a2 (Below.trans (onlyB_below W1.out.2 n0 (by omega)) (Below.trans (onlyB_below W2.out.2 n0 (by omega)) (Below.trans (onlyB_below W3.out.2 n0 (by omega)) (onlyB_below W4.out.2 n0 (by omega)))))
  · have hc : chk k s m = 4 := by unfold chk; rw [if_neg hM]
    rw [if_neg hM, hc]
    unfold ChkP at CH
    rw [hc] at CH
    clear hM hc hk hs hm ht
    go_enter Try.func49, Try.ntmps49
    go_wp2_with (go_at_call 47; refine (CH.out _).mono ?_; rintro e w1 ⟨rfl, h⟩; have B1 := Lib.hid h; clear h)
    go_ret2
    exact ⟨rfl, ((Bl.refl w).alloc _).trans B1.out⟩
end Go.Proofs.Ytniblmpihnhglaa

/- Walks of layer 7: whole. -/
namespace Go.Proofs.Ytniblmpihnhglaa
open Go.RowKit
set_option linter.unusedVariables false

def wholeE (L : List UInt8) (e : Int) : Int := if e = 0 then (if L = [] then 0 else 4) else e
theorem whole_any (p : Nat) (L : List UInt8) (e : Int) (w : World) (hr : Rd p L e w) :
    Calls Try.prog 74 #[.pointer (some ⟨p, 0, none⟩)] w fun x w' => x = .returned (.int .i64 (wholeE L e)) ∧ w = w' := by
  have E1 := Lib.hid (fun w h => r_err p L e w h)
  have E2 := Lib.hid (fun w h => r_rest p L e w h)
  have HR := Lib.hid hr
  clear hr
  by_cases he : e = 0
  · subst he
    by_cases hL : L = []
    · subst hL
      have hnil : (strL []).toList = [] := by kernel_rfl
      go_enter Try.func74, Try.ntmps74
      go_wp2_with (first
        | (go_at_call 21; refine (E1.out _ HR.out).mono ?_; rintro e w1 ⟨rfl, rfl⟩)
        | (go_at_call 23; refine (E2.out _ HR.out).mono ?_; rintro e w1 ⟨rfl, rfl⟩))
      go_ret
      exact ⟨rfl, rfl⟩
    · have hw : wholeE L 0 = 4 := by unfold wholeE; rw [if_pos rfl, if_neg hL]
      have hne : (strL L).toList.isEmpty = false := by
        rw [ByteArray.toList_eq]
        show L.isEmpty = false
        cases L with
        | nil => exact absurd rfl hL
        | cons a t => rfl
      rw [hw]
      clear hw
      go_enter Try.func74, Try.ntmps74
      go_wp2_with (first
        | (go_at_call 21; refine (E1.out _ HR.out).mono ?_; rintro e w1 ⟨rfl, rfl⟩)
        | (go_at_call 23; refine (E2.out _ HR.out).mono ?_; rintro e w1 ⟨rfl, rfl⟩))
      go_ret
      exact ⟨rfl, rfl⟩
  · have hw : wholeE L e = e := by unfold wholeE; rw [if_neg he]
    have hb : (e != 0) = true := by simpa using he
    rw [hw]
    clear hw he
    go_enter Try.func74, Try.ntmps74
    go_wp2_with (first
      | (go_at_call 21; refine (E1.out _ HR.out).mono ?_; rintro e w1 ⟨rfl, rfl⟩)
      | (go_at_call 23; refine (E2.out _ HR.out).mono ?_; rintro e w1 ⟨rfl, rfl⟩))
    go_ret
    exact ⟨rfl, rfl⟩
end Go.Proofs.Ytniblmpihnhglaa

/- Walks of layer 7: Take. -/
namespace Go.Proofs.Ytniblmpihnhglaa
open Go.RowKit
set_option linter.unusedVariables false

def tK (L : List UInt8) : Nat := beN (L.take 1)
def tS (L : List UInt8) : Nat := beN ((L.drop 1).take 4)
def tM (L : List UInt8) : Nat := beN ((L.drop 5).take 8)
def tT (L : List UInt8) : Nat := beN ((L.drop 13).take 8)
def tOK (L : List UInt8) : Bool := decide (L.length = 21) && mayM (tK L) (tS L) (tM L)
def tE (L : List UInt8) : Int := if L.length < 21 then 10 else if tOK L then 0 else 4
def tV (L : List UInt8) : Value := if tOK L then metaV (tK L) (tS L) (tM L) (tT L) else metaV 0 0 0 0
def TakeP (L : List UInt8) (w : World) (x : Ending) (w' : World) : Prop := x = .returned (.tuple #[tV L, .int .i64 (tE L)]) ∧ Bl w w'

theorem fix_go (L : List UInt8) (n : Nat) (h0 : 0 < n) (h : n ≤ L.length) : fixO L 0 n = L.take n ∧ fixL L 0 n = L.drop n ∧ fixE L 0 n = 0 := by
  unfold fixO fixL fixE
  rw [if_pos ⟨rfl, by omega, by omega⟩, if_pos ⟨rfl, by omega⟩, if_pos (by omega), if_neg (by omega)]
  exact ⟨rfl, rfl, rfl⟩
theorem fix_torn (L : List UInt8) (n : Nat) : fixE L 10 n = 10 := by
  unfold fixE
  rw [if_neg (by omega)]
theorem fix_less (L : List UInt8) (n : Nat) (h0 : 0 < n) (h : L.length < n) : fixE L 0 n = 10 := by
  unfold fixE
  rw [if_pos ⟨rfl, by omega, by omega⟩]
/-- How a reader stands behind U8, U32, U64, U64. -/
structure Four (L : List UInt8) (K S M T : Nat) (L1 : List UInt8) (e1 : Int) (L2 : List UInt8) (e2 : Int) (L3 : List UInt8) (e3 : Int) (L4 : List UInt8) (e4 : Int) : Prop where
  k : beN (fixO L 0 (1 : Nat)) = K
  l1 : fixL L 0 (1 : Nat) = L1
  f1 : fixE L 0 (1 : Nat) = e1
  s : beN (fixO L1 e1 (4 : Nat)) = S
  l2 : fixL L1 e1 (4 : Nat) = L2
  f2 : fixE L1 e1 (4 : Nat) = e2
  m : beN (fixO L2 e2 (8 : Nat)) = M
  l3 : fixL L2 e2 (8 : Nat) = L3
  f3 : fixE L2 e2 (8 : Nat) = e3
  t : beN (fixO L3 e3 (8 : Nat)) = T
  l4 : fixL L3 e3 (8 : Nat) = L4
  f4 : fixE L3 e3 (8 : Nat) = e4
theorem four_any (L : List UInt8) : ∃ K S M T L1 e1 L2 e2 L3 e3 L4 e4, Four L K S M T L1 e1 L2 e2 L3 e3 L4 e4 := ⟨_, _, _, _, _, _, _, _, _, _, _, _, rfl, rfl, rfl, rfl, rfl, rfl, rfl, rfl, rfl, rfl, rfl, rfl⟩
theorem four_long (L : List UInt8) (h : 21 ≤ L.length) : ∃ L1 e1 L2 e2 L3 e3, Four L (tK L) (tS L) (tM L) (tT L) L1 e1 L2 e2 L3 e3 (L.drop 21) 0 := by
  obtain ⟨a1, a2, a3⟩ := fix_go L 1 (by omega) (by omega)
  obtain ⟨b1, b2, b3⟩ := fix_go (L.drop 1) 4 (by omega) (by rw [List.length_drop]; omega)
  obtain ⟨c1, c2, c3⟩ := fix_go (L.drop 5) 8 (by omega) (by rw [List.length_drop]; omega)
  obtain ⟨d1, d2, d3⟩ := fix_go (L.drop 13) 8 (by omega) (by rw [List.length_drop]; omega)
  rw [List.drop_drop] at b2 c2 d2
  exact ⟨_, _, _, _, _, _, by rw [a1]; rfl, a2, a3, by rw [b1]; rfl, b2, b3, by rw [c1]; rfl, c2, c3, by rw [d1]; rfl, d2, d3⟩
theorem four_short (L : List UInt8) (h : L.length < 21) {K S M T : Nat} {L1 L2 L3 L4 : List UInt8} {e1 e2 e3 e4 : Int} (f : Four L K S M T L1 e1 L2 e2 L3 e3 L4 e4) : e4 = 10 := by
  obtain ⟨_, f1, f2, _, f3, f4, _, f5, f6, _, f7, f8⟩ := f
  by_cases h1 : 1 ≤ L.length
  · obtain ⟨_, a2, a3⟩ := fix_go L 1 (by omega) h1
    rw [a2] at f1; rw [a3] at f2; subst f1 f2
    by_cases h2 : 5 ≤ L.length
    · obtain ⟨_, b2, b3⟩ := fix_go (L.drop 1) 4 (by omega) (by rw [List.length_drop]; omega)
      rw [b2, List.drop_drop] at f3; rw [b3] at f4; subst f3 f4
      by_cases h3 : 13 ≤ L.length
      · obtain ⟨_, c2, c3⟩ := fix_go (L.drop (1 + 4)) 8 (by omega) (by rw [List.length_drop]; omega)
        rw [c2, List.drop_drop] at f5; rw [c3] at f6; subst f5 f6
        rw [← f8]
        exact fix_less _ _ (by omega) (by rw [List.length_drop]; omega)
      · rw [fix_less _ 8 (by omega) (by rw [List.length_drop]; omega)] at f6; subst f6
        rw [← f8, fix_torn]
    · rw [fix_less _ 4 (by omega) (by rw [List.length_drop]; omega)] at f4; subst f4
      rw [fix_torn] at f6; subst f6
      rw [← f8, fix_torn]
  · rw [fix_less L 1 (by omega) (by omega)] at f2; subst f2
    rw [fix_torn] at f4; subst f4
    rw [fix_torn] at f6; subst f6
    rw [← f8, fix_torn]

theorem rd_alloc {p : Nat} {L : List UInt8} {e : Int} {w : World} (h : Rd p L e w) (o : Obj) : Rd p L e (w.alloc o) := (Below.heap_alloc w o p h.lt).trans h

abbrev takeW (L : List UInt8) (w : World) : World := (w.alloc (.cells #[.int .u8 0, .int .u32 0, .int .u64 0, .int .u64 0] 85)).alloc (.cells #[.string (strL L), .int .i64 0] 106)
theorem takeW_size (L : List UInt8) (w : World) : (takeW L w).heap.size = w.heap.size + 2 := by
  show ((w.heap.push _).push _).size = _
  rw [Array.size_push, Array.size_push]
theorem chain_only {L : List UInt8} {w w2 w3 w4 w5 : World} (h1 : Only (w.heap.size + 1) (takeW L w) w2) (h2 : Only (w.heap.size + 1) w2 w3) (h3 : Only (w.heap.size + 1) w3 w4) (h4 : Only (w.heap.size + 1) w4 w5) : Only (w.heap.size + 1) (takeW L w) w5 :=
  only_trans (only_trans h1 h2) (only_trans h3 h4)
theorem chain_below {L : List UInt8} {w w2 w3 w4 w5 : World} (h1 : Only (w.heap.size + 1) (takeW L w) w2) (h2 : Only (w.heap.size + 1) w2 w3) (h3 : Only (w.heap.size + 1) w3 w4) (h4 : Only (w.heap.size + 1) w4 w5) : Bl w w5 :=
  Below.trans (((Bl.refl w).alloc _).alloc _) (only_below (chain_only h1 h2 h3 h4) (by omega) (by rw [takeW_size]; omega))
theorem zero_block {L : List UInt8} {w w2 w3 w4 w5 : World} (h1 : Only (w.heap.size + 1) (takeW L w) w2) (h2 : Only (w.heap.size + 1) w2 w3) (h3 : Only (w.heap.size + 1) w3 w4) (h4 : Only (w.heap.size + 1) w4 w5) (o : Obj) :
    (w5.alloc o).heap[w.heap.size]? = some (.cells #[.int .u8 0, .int .u32 0, .int .u64 0, .int .u64 0] 85 (0, 0)) := by
  have h := chain_only h1 h2 h3 h4
  have hz := takeW_size L w
  rw [Below.heap_alloc w5 o _ (by have := h.size; omega), h.block _ (by omega) (by intro e; have := Option.some.inj e; omega)]
  rw [Below.heap_alloc _ _ _ (by show _ < (w.heap.push _).size; rw [Array.size_push]; omega)]
  exact heap_alloc_new _ _

theorem four_cells {W : World} {b : Nat} {t : TypeId} {v0 v1 v2 v3 : Value} (h : W.heap[b]? = some (.cells #[v0, v1, v2, v3] t (0, 0))) :
    W.cell? ⟨b, 0, none⟩ = some v0 ∧ W.cell? ⟨b, 1, none⟩ = some v1 ∧ W.cell? ⟨b, 2, none⟩ = some v2 ∧ W.cell? ⟨b, 3, none⟩ = some v3 ∧
    W.frozen? ⟨b, 0, none⟩ = false ∧ W.frozen? ⟨b, 1, none⟩ = false ∧ W.frozen? ⟨b, 2, none⟩ = false ∧ W.frozen? ⟨b, 3, none⟩ = false := by
  refine ⟨?_, ?_, ?_, ?_, frozen_of_row _ _ _ _ _ h, frozen_of_row _ _ _ _ _ h, frozen_of_row _ _ _ _ _ h, frozen_of_row _ _ _ _ _ h⟩ <;> (rw [cell_of_row _ _ _ _ _ _ h]; rfl)

set_option maxRecDepth 100000 in
set_option maxHeartbeats 1600000 in
theorem take_bad (L L1 L2 L3 L4 : List UInt8) (K S M T : Nat) (e1 e2 e3 e4 c : Int) (w : World) (hl : L.length ≤ 10000) (hF : Four L K S M T L1 e1 L2 e2 L3 e3 L4 e4) (hw : wholeE L4 e4 = c) (hc : c ≠ 0) :
    Calls Try.prog 51 #[.string (strL L)] w fun x w' => x = .returned (.tuple #[metaV 0 0 0 0, .int .i64 c]) ∧ Bl w w' := by
  have len1 : L1.length ≤ 10000 := by rw [← hF.l1]; have := fixL_length L 0 (1 : Nat); omega
  have len2 : L2.length ≤ 10000 := by rw [← hF.l2]; have := fixL_length L1 e1 (4 : Nat); omega
  have len3 : L3.length ≤ 10000 := by rw [← hF.l3]; have := fixL_length L2 e2 (8 : Nat); omega
  have R1 := Lib.hid (fun w' h => r_u8 (w.heap.size + 1) L 0 w' (by omega) h)
  have R2 := Lib.hid (fun w' h => r_u32 (w.heap.size + 1) L1 e1 w' (by omega) h)
  have R3 := Lib.hid (fun w' h => r_u64 (w.heap.size + 1) L2 e2 w' (by omega) h)
  have R4 := Lib.hid (fun w' h => r_u64 (w.heap.size + 1) L3 e3 w' (by omega) h)
  unfold GetP at R1 R2 R3 R4
  rw [hF.k, hF.l1, hF.f1] at R1
  rw [hF.s, hF.l2, hF.f2] at R2
  rw [hF.m, hF.l3, hF.f3] at R3
  rw [hF.t, hF.l4, hF.f4] at R4
  clear hF len1 len2 len3
  have WH := Lib.hid (fun w' h => whole_any (w.heap.size + 1) L4 e4 w' h)
  rw [hw] at WH
  have RD0 : Hid (Rd (w.heap.size + 1) L 0 ((w.alloc (.cells #[.int .u8 0, .int .u32 0, .int .u64 0, .int .u64 0] 85)).alloc (.cells #[.string (strL L), .int .i64 0] 106))) := Lib.hid (by
    have := rd_new L (w.alloc (.cells #[.int .u8 0, .int .u32 0, .int .u64 0, .int .u64 0] 85))
    rwa [show (w.alloc (.cells #[.int .u8 0, .int .u32 0, .int .u64 0, .int .u64 0] 85)).heap.size = w.heap.size + 1 from Array.size_push ..] at this)
  have hcb : (c != 0) = true := by simpa using hc
  have hcb' : (c == 0) = false := by simpa using hc
  clear hw hc hl
  go_enter Try.func51, Try.ntmps51
  go_wp2_with (first
    | (go_at_call 74; refine (WH.out _ (rd_alloc W4.out.1 _)).mono ?_; rintro e w6 ⟨rfl, rfl⟩; have X6 := Lib.hid (zero_block W1.out.2 W2.out.2 W3.out.2 W4.out.2 (.cells #[.int .u8 K, .int .u32 S, .int .u64 M, .int .u64 T] 85)); obtain ⟨c0, c1, c2, c3, f0, f1, f2, f3⟩ := four_cells X6.out)
    | (go_at_call 35; have := W3; refine (R4.out _ W3.out.1).mono ?_; rintro e w5 ⟨rfl, h⟩; have W4 := Lib.hid h; clear h)
    | (go_at_call 35; refine (R3.out _ W2.out.1).mono ?_; rintro e w4 ⟨rfl, h⟩; have W3 := Lib.hid h; clear h)
    | (go_at_call 38; refine (R2.out _ W1.out.1).mono ?_; rintro e w3 ⟨rfl, h⟩; have W2 := Lib.hid h; clear h)
    | (go_at_call 31; refine (R1.out _ RD0.out).mono ?_; rintro e w2 ⟨rfl, h⟩; have W1 := Lib.hid h; clear h)
    | (go_at_call 19; refine (r_new _ _).mono ?_; rintro e w1 ⟨rfl, rfl⟩))
  have B5 := chain_below W1.out.2 W2.out.2 W3.out.2 W4.out.2
  refine bodyPost_ret (v := .tuple #[.agg #[.int .u8 0, .int .u32 0, .int .u64 0, .int .u64 0], .int .i64 c]) (by simp [results, Try.results51, go_sem, *]) rfl ⟨rfl, ?_⟩
  exact ((((B5.alloc _).setCell (Nat.le_refl _) _).setCell (Nat.le_refl _) _).setCell (Nat.le_refl _) _).setCell (Nat.le_refl _) _
set_option maxRecDepth 100000 in
set_option maxHeartbeats 1600000 in
theorem take_form (L L1 L2 L3 L4 : List UInt8) (K S M T : Nat) (e1 e2 e3 e4 c : Int) (w : World) (hl : L.length ≤ 10000) (hF : Four L K S M T L1 e1 L2 e2 L3 e3 L4 e4) (hw : wholeE L4 e4 = 0) (hk : chk K S M = c) (hc : c ≠ 0) :
    Calls Try.prog 51 #[.string (strL L)] w fun x w' => x = .returned (.tuple #[metaV 0 0 0 0, .int .i64 c]) ∧ Bl w w' := by
  have len1 : L1.length ≤ 10000 := by rw [← hF.l1]; have := fixL_length L 0 (1 : Nat); omega
  have len2 : L2.length ≤ 10000 := by rw [← hF.l2]; have := fixL_length L1 e1 (4 : Nat); omega
  have len3 : L3.length ≤ 10000 := by rw [← hF.l3]; have := fixL_length L2 e2 (8 : Nat); omega
  have R1 := Lib.hid (fun w' h => r_u8 (w.heap.size + 1) L 0 w' (by omega) h)
  have R2 := Lib.hid (fun w' h => r_u32 (w.heap.size + 1) L1 e1 w' (by omega) h)
  have R3 := Lib.hid (fun w' h => r_u64 (w.heap.size + 1) L2 e2 w' (by omega) h)
  have R4 := Lib.hid (fun w' h => r_u64 (w.heap.size + 1) L3 e3 w' (by omega) h)
  unfold GetP at R1 R2 R3 R4
  rw [hF.k, hF.l1, hF.f1] at R1
  rw [hF.s, hF.l2, hF.f2] at R2
  rw [hF.m, hF.l3, hF.f3] at R3
  rw [hF.t, hF.l4, hF.f4] at R4
  clear hF len1 len2 len3
  have WH := Lib.hid (fun w' h => whole_any (w.heap.size + 1) L4 e4 w' h)
  rw [hw] at WH
  have CH := Lib.hid (fun w' => check_any K S M T w')
  unfold ChkP at CH
  rw [hk] at CH
  have RD0 : Hid (Rd (w.heap.size + 1) L 0 ((w.alloc (.cells #[.int .u8 0, .int .u32 0, .int .u64 0, .int .u64 0] 85)).alloc (.cells #[.string (strL L), .int .i64 0] 106))) := Lib.hid (by
    have := rd_new L (w.alloc (.cells #[.int .u8 0, .int .u32 0, .int .u64 0, .int .u64 0] 85))
    rwa [show (w.alloc (.cells #[.int .u8 0, .int .u32 0, .int .u64 0, .int .u64 0] 85)).heap.size = w.heap.size + 1 from Array.size_push ..] at this)
  have hcb : (c != 0) = true := by simpa using hc
  have hcb' : (c == 0) = false := by simpa using hc
  clear hw hc hl hk
  go_enter Try.func51, Try.ntmps51
  go_wp2_with (first
    | (go_at_call 47; refine (CH.out _).mono ?_; rintro e w7 ⟨rfl, h7⟩; have B7 := Lib.hid h7; clear h7 c0 c1 c2 c3 f0 f1 f2 f3; have X7 := Lib.hid (((B7.out.block w.heap.size (by have := (Array.getElem?_eq_some_iff.1 X6.out).1; exact this)).trans X6.out)); obtain ⟨c0, c1, c2, c3, f0, f1, f2, f3⟩ := four_cells X7.out)
    | (go_at_call 74; refine (WH.out _ (rd_alloc W4.out.1 _)).mono ?_; rintro e w6 ⟨rfl, rfl⟩; have X6 := Lib.hid (zero_block W1.out.2 W2.out.2 W3.out.2 W4.out.2 (.cells #[.int .u8 K, .int .u32 S, .int .u64 M, .int .u64 T] 85)); obtain ⟨c0, c1, c2, c3, f0, f1, f2, f3⟩ := four_cells X6.out)
    | (go_at_call 35; have := W3; refine (R4.out _ W3.out.1).mono ?_; rintro e w5 ⟨rfl, h⟩; have W4 := Lib.hid h; clear h)
    | (go_at_call 35; refine (R3.out _ W2.out.1).mono ?_; rintro e w4 ⟨rfl, h⟩; have W3 := Lib.hid h; clear h)
    | (go_at_call 38; refine (R2.out _ W1.out.1).mono ?_; rintro e w3 ⟨rfl, h⟩; have W2 := Lib.hid h; clear h)
    | (go_at_call 31; refine (R1.out _ RD0.out).mono ?_; rintro e w2 ⟨rfl, h⟩; have W1 := Lib.hid h; clear h)
    | (go_at_call 19; refine (r_new _ _).mono ?_; rintro e w1 ⟨rfl, rfl⟩))
  have B5 := chain_below W1.out.2 W2.out.2 W3.out.2 W4.out.2
  refine bodyPost_ret (v := .tuple #[.agg #[.int .u8 0, .int .u32 0, .int .u64 0, .int .u64 0], .int .i64 c]) (by simp [results, Try.results51, go_sem, *]) rfl ⟨rfl, ?_⟩
  exact (((((B5.alloc _).trans B7.out).setCell (Nat.le_refl _) _).setCell (Nat.le_refl _) _).setCell (Nat.le_refl _) _).setCell (Nat.le_refl _) _
set_option maxRecDepth 100000 in
set_option maxHeartbeats 1600000 in
theorem take_good (L L1 L2 L3 L4 : List UInt8) (K S M T : Nat) (e1 e2 e3 e4 : Int) (w : World) (hl : L.length ≤ 10000) (hF : Four L K S M T L1 e1 L2 e2 L3 e3 L4 e4) (hw : wholeE L4 e4 = 0) (hk : chk K S M = 0) :
    Calls Try.prog 51 #[.string (strL L)] w fun x w' => x = .returned (.tuple #[metaV K S M T, .int .i64 0]) ∧ Bl w w' := by
  have len1 : L1.length ≤ 10000 := by rw [← hF.l1]; have := fixL_length L 0 (1 : Nat); omega
  have len2 : L2.length ≤ 10000 := by rw [← hF.l2]; have := fixL_length L1 e1 (4 : Nat); omega
  have len3 : L3.length ≤ 10000 := by rw [← hF.l3]; have := fixL_length L2 e2 (8 : Nat); omega
  have R1 := Lib.hid (fun w' h => r_u8 (w.heap.size + 1) L 0 w' (by omega) h)
  have R2 := Lib.hid (fun w' h => r_u32 (w.heap.size + 1) L1 e1 w' (by omega) h)
  have R3 := Lib.hid (fun w' h => r_u64 (w.heap.size + 1) L2 e2 w' (by omega) h)
  have R4 := Lib.hid (fun w' h => r_u64 (w.heap.size + 1) L3 e3 w' (by omega) h)
  unfold GetP at R1 R2 R3 R4
  rw [hF.k, hF.l1, hF.f1] at R1
  rw [hF.s, hF.l2, hF.f2] at R2
  rw [hF.m, hF.l3, hF.f3] at R3
  rw [hF.t, hF.l4, hF.f4] at R4
  clear hF len1 len2 len3
  have WH := Lib.hid (fun w' h => whole_any (w.heap.size + 1) L4 e4 w' h)
  rw [hw] at WH
  have CH := Lib.hid (fun w' => check_any K S M T w')
  unfold ChkP at CH
  rw [hk] at CH
  have RD0 : Hid (Rd (w.heap.size + 1) L 0 ((w.alloc (.cells #[.int .u8 0, .int .u32 0, .int .u64 0, .int .u64 0] 85)).alloc (.cells #[.string (strL L), .int .i64 0] 106))) := Lib.hid (by
    have := rd_new L (w.alloc (.cells #[.int .u8 0, .int .u32 0, .int .u64 0, .int .u64 0] 85))
    rwa [show (w.alloc (.cells #[.int .u8 0, .int .u32 0, .int .u64 0, .int .u64 0] 85)).heap.size = w.heap.size + 1 from Array.size_push ..] at this)
  clear hw hl hk
  go_enter Try.func51, Try.ntmps51
  go_wp2_with (first
    | (go_at_call 47; refine (CH.out _).mono ?_; rintro e w7 ⟨rfl, h7⟩; have B7 := Lib.hid h7; clear h7 c0 c1 c2 c3 f0 f1 f2 f3; have X7 := Lib.hid (((B7.out.block w.heap.size (by have := (Array.getElem?_eq_some_iff.1 X6.out).1; exact this)).trans X6.out)); obtain ⟨c0, c1, c2, c3, f0, f1, f2, f3⟩ := four_cells X7.out; have Y7 := Lib.hid ((B7.out.block w5.heap.size (by show _ < (w5.heap.push _).size; rw [Array.size_push]; omega)).trans (heap_alloc_new w5 (.cells #[.int .u8 K, .int .u32 S, .int .u64 M, .int .u64 T] 85))); obtain ⟨y0, y1, y2, y3, g0, g1, g2, g3⟩ := four_cells Y7.out; clear g0 g1 g2 g3)
    | (go_at_call 74; refine (WH.out _ (rd_alloc W4.out.1 _)).mono ?_; rintro e w6 ⟨rfl, rfl⟩; have X6 := Lib.hid (zero_block W1.out.2 W2.out.2 W3.out.2 W4.out.2 (.cells #[.int .u8 K, .int .u32 S, .int .u64 M, .int .u64 T] 85)); obtain ⟨c0, c1, c2, c3, f0, f1, f2, f3⟩ := four_cells X6.out)
    | (go_at_call 35; have := W3; refine (R4.out _ W3.out.1).mono ?_; rintro e w5 ⟨rfl, h⟩; have W4 := Lib.hid h; clear h)
    | (go_at_call 35; refine (R3.out _ W2.out.1).mono ?_; rintro e w4 ⟨rfl, h⟩; have W3 := Lib.hid h; clear h)
    | (go_at_call 38; refine (R2.out _ W1.out.1).mono ?_; rintro e w3 ⟨rfl, h⟩; have W2 := Lib.hid h; clear h)
    | (go_at_call 31; refine (R1.out _ RD0.out).mono ?_; rintro e w2 ⟨rfl, h⟩; have W1 := Lib.hid h; clear h)
    | (go_at_call 19; refine (r_new _ _).mono ?_; rintro e w1 ⟨rfl, rfl⟩))
  have B5 := chain_below W1.out.2 W2.out.2 W3.out.2 W4.out.2
  refine bodyPost_ret (v := .tuple #[.agg #[.int .u8 K, .int .u32 S, .int .u64 M, .int .u64 T], .int .i64 0]) (by simp [results, Try.results51, go_sem, *]) rfl ⟨rfl, ?_⟩
  exact (((((B5.alloc _).trans B7.out).setCell (Nat.le_refl _) _).setCell (Nat.le_refl _) _).setCell (Nat.le_refl _) _).setCell (Nat.le_refl _) _

theorem take_any (L : List UInt8) (w : World) (hl : L.length ≤ 10000) : Calls Try.prog 51 #[.string (strL L)] w fun x w' => TakeP L w x w' := by
  unfold TakeP
  by_cases h1 : L.length < 21
  · obtain ⟨K, S, M, T, L1, e1, L2, e2, L3, e3, L4, e4, hF⟩ := four_any L
    have he := four_short L h1 hF
    have h := take_bad L L1 L2 L3 L4 K S M T e1 e2 e3 e4 10 w hl hF (by rw [he]; rfl) (by decide)
    have ho : tOK L = false := by unfold tOK; rw [decide_eq_false (by omega)]; rfl
    unfold tV tE
    rw [ho, if_pos h1]
    exact h
  · obtain ⟨L1, e1, L2, e2, L3, e3, hF⟩ := four_long L (by omega)
    by_cases h2 : L.length = 21
    · have hw : wholeE (L.drop 21) 0 = 0 := by
        unfold wholeE
        rw [if_pos rfl, if_pos (List.drop_of_length_le (by omega))]
      unfold tV tE
      rw [if_neg h1]
      by_cases hM : mayM (tK L) (tS L) (tM L) = true
      · have ho : tOK L = true := by unfold tOK; rw [decide_eq_true h2, hM]; rfl
        rw [if_pos ho, if_pos ho]
        exact take_good L L1 L2 L3 _ _ _ _ _ e1 e2 e3 0 w hl hF hw (by unfold chk; rw [if_pos hM])
      · have ho : ¬ tOK L = true := by unfold tOK; rw [decide_eq_true h2, Bool.true_and]; exact hM
        rw [if_neg ho, if_neg ho]
        exact take_form L L1 L2 L3 _ _ _ _ _ e1 e2 e3 0 4 w hl hF hw (by unfold chk; rw [if_neg hM]) (by decide)
    · have hw : wholeE (L.drop 21) 0 = 4 := by
        unfold wholeE
        rw [if_pos rfl, if_neg (fun h => by have := congrArg List.length h; rw [List.length_drop] at this; simp at this; omega)]
      have h := take_bad L L1 L2 L3 _ _ _ _ _ e1 e2 e3 0 4 w hl hF hw (by decide)
      have ho : tOK L = false := by unfold tOK; rw [decide_eq_false h2]; rfl
      unfold tV tE
      rw [ho, if_neg h1]
      exact h
end Go.Proofs.Ytniblmpihnhglaa

/- Walks of layer 7: PutChange. -/
namespace Go.Proofs.Ytniblmpihnhglaa
open Go.RowKit
set_option linter.unusedVariables false

/-- A change's bytes. -/
def changeL (k n op y : Nat) : List UInt8 := if k = 3 then beB 3 1 ++ (beB op 1 ++ beB y 8) else if k = 4 then beB 4 1 ++ beB n 8 else beB k 1 ++ beB n 4
def cE (k n op y : Nat) : Int := if mayC k n op y then 0 else 4
def CPutP (k n op y : Nat) (w : World) (x : Ending) (w' : World) : Prop :=
  x = .returned (.tuple #[.string (strL (if mayC k n op y then changeL k n op y else [])), .int .i64 (cE k n op y)]) ∧ Bl w w'
abbrev C73 (k n op y : Nat) : Obj := .cells #[.int .u8 k, .int .u64 n, .int .u8 op, .int .u64 y] 73
abbrev W29 : Obj := .cells #[.slice none 0 0, .int .i64 0] 29
theorem c73_keep {k n op y : Nat} {w w1 : World} (h : Bl (w.alloc (C73 k n op y)) w1) : w1.heap[w.heap.size]? = some (.cells #[.int .u8 k, .int .u64 n, .int .u8 op, .int .u64 y] 73 (0, 0)) ∧ w.heap.size < w1.heap.size := by
  have hlt : w.heap.size < (w.alloc (C73 k n op y)).heap.size := by show _ < (w.heap.push _).size; rw [Array.size_push]; omega
  exact ⟨(h.block _ hlt).trans (heap_alloc_new _ _), Nat.lt_of_lt_of_le hlt h.size⟩

set_option maxRecDepth 100000 in
set_option maxHeartbeats 1600000 in
theorem cput_no (k n op y : Nat) (w : World) (hM : mayC k n op y = false) :
    Calls Try.prog 40 #[.agg #[.int .u8 k, .int .u64 n, .int .u8 op, .int .u64 y]] w fun x w' => x = .returned (.tuple #[.string (strL []), .int .i64 4]) ∧ Bl w w' := by
  have CH := Lib.hid (fun w => may_any k n op y w)
  unfold MayP at CH
  rw [hM] at CH
  clear hM
  go_enter Try.func40, Try.ntmps40
  go_wp2_with (go_at_call 71; refine (CH.out _).mono ?_; rintro e w1 ⟨rfl, h⟩; have B1 := Lib.hid h; clear h)
  go_ret2
  exact ⟨rfl, ((Bl.refl w).alloc _).trans B1.out⟩

set_option maxRecDepth 100000 in
set_option maxHeartbeats 1600000 in
theorem cput_size (k n op y : Nat) (w : World) (hk : k = 1 ∨ k = 2) (hn : n ≤ 2048) (hM : mayC k n op y = true) :
    Calls Try.prog 40 #[.agg #[.int .u8 k, .int .u64 n, .int .u8 op, .int .u64 y]] w fun x w' => x = .returned (.tuple #[.string (strL (beB k 1 ++ beB n 4)), .int .i64 0]) ∧ Bl w w' := by
  have CH := Lib.hid (fun w => may_any k n op y w)
  unfold MayP at CH
  rw [hM] at CH
  clear hM
  have hu : IntKind.u32.wrap (n : Int) = n := by rw [IntKind.wrap_u32]; omega
  have HK : Hid (k < 256) := Lib.hid (by show k < 256; omega)
  have HN : Hid (n < 4294967296) := Lib.hid (by show n < 4294967296; omega)
  have A0 : Hid (Bl w (w.alloc (C73 k n op y))) := Lib.hid ((Bl.refl w).alloc _)
  clear hn
  rcases hk with rfl | rfl
  all_goals
    go_enter Try.func40, Try.ntmps40
    go_wp2_with (first
      | (go_at_call 17; refine (w_bytes _ _ _ _ W2.out.1).mono ?_; rintro e w7 ⟨rfl, rfl⟩)
      | (go_at_call 27; have := W1; refine (w_u32 _ _ _ n _ HN.out (by simp only [List.length_append, List.length_nil, beB_length]; decide) W1.out.1).mono ?_; rintro e w4 ⟨rfl, h⟩; have W2 := Lib.hid h; clear h)
      | (go_at_call 25; refine (w_u8 _ _ [] _ _ HK.out (by decide) W0.out).mono ?_; rintro e w3 ⟨rfl, h⟩; have W1 := Lib.hid h; have X1 := Lib.hid ((h.2.block w.heap.size (by have := Z.out; omega) (by have := Z.out; omega)).trans X0.out); obtain ⟨c0, c1, c2, c3, _, _, _, _⟩ := four_cells X1.out; clear h)
      | (go_at_call 71; refine (CH.out _).mono ?_; rintro e w1 ⟨rfl, h⟩; have B1 := Lib.hid h; have bx := c73_keep h; have Z := Lib.hid bx.2; have W0 := Lib.hid (wr_new w1); have X0 := Lib.hid ((Below.heap_alloc w1 W29 _ bx.2).trans bx.1); obtain ⟨d0, d1, d2, d3, _, _, _, _⟩ := four_cells X0.out; clear h bx))
    go_ret2
    refine ⟨rfl, ?_⟩
    have n0 : w.heap.size ≤ w1.heap.size := by have := Z.out; omega
    have a1 : Bl w w1 := A0.out.trans B1.out
    exact Below.trans (a1.alloc W29) (Below.trans (onlyB_below W1.out.2 n0 (by omega)) (onlyB_below W2.out.2 n0 (by omega)))

set_option maxRecDepth 100000 in
set_option maxHeartbeats 1600000 in
theorem cput_stamp (n op y : Nat) (w : World) (hn : n < 18446744073709551616) (hM : mayC 4 n op y = true) :
    Calls Try.prog 40 #[.agg #[.int .u8 4, .int .u64 n, .int .u8 op, .int .u64 y]] w fun x w' => x = .returned (.tuple #[.string (strL (beB 4 1 ++ beB n 8)), .int .i64 0]) ∧ Bl w w' := by
  have CH := Lib.hid (fun w => may_any 4 n op y w)
  unfold MayP at CH
  rw [hM] at CH
  clear hM
  have HN := Lib.hid hn
  have A0 : Hid (Bl w (w.alloc (C73 4 n op y))) := Lib.hid ((Bl.refl w).alloc _)
  clear hn
  go_enter Try.func40, Try.ntmps40
  go_wp2_with (first
    | (go_at_call 17; refine (w_bytes _ _ _ _ W2.out.1).mono ?_; rintro e w7 ⟨rfl, rfl⟩)
    | (go_at_call 34; have := W1; refine (w_u64 _ _ _ n _ HN.out (by simp only [List.length_append, List.length_nil, beB_length]; decide) W1.out.1).mono ?_; rintro e w4 ⟨rfl, h⟩; have W2 := Lib.hid h; clear h)
    | (go_at_call 25; refine (w_u8 _ _ [] 4 _ (by decide) (by decide) W0.out).mono ?_; rintro e w3 ⟨rfl, h⟩; have W1 := Lib.hid h; have X1 := Lib.hid ((h.2.block w.heap.size (by have := Z.out; omega) (by have := Z.out; omega)).trans X0.out); obtain ⟨c0, c1, c2, c3, _, _, _, _⟩ := four_cells X1.out; clear h)
    | (go_at_call 71; refine (CH.out _).mono ?_; rintro e w1 ⟨rfl, h⟩; have B1 := Lib.hid h; have bx := c73_keep h; have Z := Lib.hid bx.2; have W0 := Lib.hid (wr_new w1); have X0 := Lib.hid ((Below.heap_alloc w1 W29 _ bx.2).trans bx.1); obtain ⟨d0, d1, d2, d3, _, _, _, _⟩ := four_cells X0.out; clear h bx))
  go_ret2
  refine ⟨rfl, ?_⟩
  have n0 : w.heap.size ≤ w1.heap.size := by have := Z.out; omega
  have a1 : Bl w w1 := A0.out.trans B1.out
  exact Below.trans (a1.alloc W29) (Below.trans (onlyB_below W1.out.2 n0 (by omega)) (onlyB_below W2.out.2 n0 (by omega)))

set_option maxRecDepth 100000 in
set_option maxHeartbeats 1600000 in
theorem cput_mark (n op y : Nat) (w : World) (ho : op < 256) (hy : y < 18446744073709551616) (hM : mayC 3 n op y = true) :
    Calls Try.prog 40 #[.agg #[.int .u8 3, .int .u64 n, .int .u8 op, .int .u64 y]] w fun x w' => x = .returned (.tuple #[.string (strL (beB 3 1 ++ beB op 1 ++ beB y 8)), .int .i64 0]) ∧ Bl w w' := by
  have CH := Lib.hid (fun w => may_any 3 n op y w)
  unfold MayP at CH
  rw [hM] at CH
  clear hM
  have HO := Lib.hid ho
  have HY := Lib.hid hy
  have A0 : Hid (Bl w (w.alloc (C73 3 n op y))) := Lib.hid ((Bl.refl w).alloc _)
  clear ho hy
  go_enter Try.func40, Try.ntmps40
  go_wp2_with (first
    | (go_at_call 17; refine (w_bytes _ _ _ _ W3.out.1).mono ?_; rintro e w7 ⟨rfl, rfl⟩)
    | (go_at_call 34; refine (w_u64 _ _ _ y _ HY.out (by simp only [List.length_append, List.length_nil, beB_length]; decide) W2.out.1).mono ?_; rintro e w5 ⟨rfl, h⟩; have W3 := Lib.hid h; clear h)
    | (go_at_call 25; have := W1; refine (w_u8 _ _ _ op _ HO.out (by simp only [List.length_append, List.length_nil, beB_length]; decide) W1.out.1).mono ?_; rintro e w4 ⟨rfl, h⟩; have W2 := Lib.hid h; have X2 := Lib.hid ((h.2.block w.heap.size (by have := Z.out; omega) (by have := Z.out; omega)).trans X1.out); obtain ⟨g0, g1, g2, g3, _, _, _, _⟩ := four_cells X2.out; clear h)
    | (go_at_call 25; refine (w_u8 _ _ [] 3 _ (by decide) (by decide) W0.out).mono ?_; rintro e w3 ⟨rfl, h⟩; have W1 := Lib.hid h; have X1 := Lib.hid ((h.2.block w.heap.size (by have := Z.out; omega) (by have := Z.out; omega)).trans X0.out); obtain ⟨c0, c1, c2, c3, _, _, _, _⟩ := four_cells X1.out; clear h)
    | (go_at_call 71; refine (CH.out _).mono ?_; rintro e w1 ⟨rfl, h⟩; have B1 := Lib.hid h; have bx := c73_keep h; have Z := Lib.hid bx.2; have W0 := Lib.hid (wr_new w1); have X0 := Lib.hid ((Below.heap_alloc w1 W29 _ bx.2).trans bx.1); obtain ⟨d0, d1, d2, d3, _, _, _, _⟩ := four_cells X0.out; clear h bx))
  go_ret2
  refine ⟨rfl, ?_⟩
  have n0 : w.heap.size ≤ w1.heap.size := by have := Z.out; omega
  have a1 : Bl w w1 := A0.out.trans B1.out
  exact Below.trans (a1.alloc W29) (Below.trans (onlyB_below W1.out.2 n0 (by omega)) (Below.trans (onlyB_below W2.out.2 n0 (by omega)) (onlyB_below W3.out.2 n0 (by omega))))

theorem mayC_form {k n op y : Nat} (h : mayC k n op y = true) : ((k = 1 ∨ k = 2) ∧ n ≤ 2048) ∨ k = 4 ∨ k = 3 := by
  unfold mayC at h
  rw [decide_eq_true_eq] at h
  omega
theorem cput_any (k n op y : Nat) (w : World) (hk : k < 256) (hn : n < 18446744073709551616) (ho : op < 256) (hy : y < 18446744073709551616) :
    Calls Try.prog 40 #[.agg #[.int .u8 k, .int .u64 n, .int .u8 op, .int .u64 y]] w (CPutP k n op y w) := by
  unfold CPutP cE
  by_cases hM : mayC k n op y = true
  · rw [if_pos hM, if_pos hM]
    rcases mayC_form hM with ⟨h1, h2⟩ | rfl | rfl
    · have : changeL k n op y = beB k 1 ++ beB n 4 := by unfold changeL; rw [if_neg (by omega), if_neg (by omega)]
      rw [this]
      exact cput_size k n op y w h1 h2 hM
    · exact cput_stamp n op y w hn hM
    · have : changeL 3 n op y = beB 3 1 ++ beB op 1 ++ beB y 8 := by unfold changeL; rw [if_pos rfl, List.append_assoc]
      rw [this]
      exact cput_mark n op y w ho hy hM
  · rw [if_neg hM, if_neg hM]
    exact cput_no k n op y w (by simpa using hM)
end Go.Proofs.Ytniblmpihnhglaa

namespace Go.Proofs.Ytniblmpihnhglaa
open Go.RowKit
set_option linter.unusedVariables false

/-- Only blocks p and q have turned, and what is new. -/
structure Only2 (p q : Nat) (w w' : World) : Prop where
  os : w'.os = w.os
  tape : w'.tape = w.tape
  output : w'.output = w.output
  size : w.heap.size ≤ w'.heap.size
  block : ∀ k, k < w.heap.size → k ≠ p → k ≠ q → w'.heap[k]? = w.heap[k]?
theorem only2_refl (p q : Nat) (w : World) : Only2 p q w w := ⟨rfl, rfl, rfl, Nat.le_refl _, fun _ _ _ _ => rfl⟩
theorem only2_trans {p q : Nat} {a b c : World} (h : Only2 p q a b) (k : Only2 p q b c) : Only2 p q a c :=
  ⟨k.os.trans h.os, k.tape.trans h.tape, k.output.trans h.output, Nat.le_trans h.size k.size, fun i hi h1 h2 => (k.block i (Nat.lt_of_lt_of_le hi h.size) h1 h2).trans (h.block i hi h1 h2)⟩
theorem only2_l {p q : Nat} {a b : World} (h : Only p a b) : Only2 p q a b := ⟨h.os, h.tape, h.output, h.size, fun k hk h1 _ => h.block k hk (fun e => h1 (by cases e; rfl))⟩
theorem only2_r {p q : Nat} {a b : World} (h : Only q a b) : Only2 p q a b := ⟨h.os, h.tape, h.output, h.size, fun k hk _ h1 => h.block k hk (fun e => h1 (by cases e; rfl))⟩
theorem only2_bl {p q : Nat} {a b : World} (h : Bl a b) : Only2 p q a b := ⟨h.os, h.tape, h.output, h.size, fun k hk _ _ => h.block k hk⟩
theorem only2_below {p q n : Nat} {a b : World} (h : Only2 p q a b) (hp : n ≤ p) (hq : n ≤ q) (hn : n ≤ a.heap.size) : Below n a b :=
  ⟨h.os, h.tape, h.output, h.size, fun k hk => h.block k (by omega) (by omega) (by omega)⟩
theorem rr_lt {q : Nat} {S L : List UInt8} {e : Int} {w : World} (h : Rr q S L e w) : q < w.heap.size := by obtain ⟨a, h, _⟩ := h; exact (Array.getElem?_eq_some_iff.1 h).1
theorem rd_block {p : Nat} {L : List UInt8} {e : Int} {a b : World} (h : Rd p L e a) (k : b.heap[p]? = a.heap[p]?) : Rd p L e b := k.trans h
theorem rr_block {q : Nat} {S L : List UInt8} {e : Int} {a b : World} (h : Rr q S L e a) (k : b.heap[q]? = a.heap[q]?) : Rr q S L e b := by
  obtain ⟨i, h1, h2, h3⟩ := h; exact ⟨i, k.trans h1, h2, h3⟩

/-- Both readers, at the same. -/
def Both (p q : Nat) (S L : List UInt8) (e : Int) (w : World) : Prop := Rd p L e w ∧ Rr q S L e w ∧ p ≠ q
theorem both_bl {p q : Nat} {S L : List UInt8} {e : Int} {a b : World} (h : Both p q S L e a) (k : Bl a b) : Both p q S L e b :=
  ⟨rd_block h.1 (k.block p h.1.lt), rr_block h.2.1 (k.block q (rr_lt h.2.1)), h.2.2⟩
theorem both_step {p q : Nat} {S L L' : List UInt8} {e e' : Int} {a b c : World} (h : Both p q S L e a) (hp : Only p a b) (h1 : Rd p L' e' b) (hq : Only q b c) (h2 : Rr q S L' e' c) : Both p q S L' e' c :=
  ⟨rd_block h1 (hq.block p h1.lt (fun x => h.2.2 (by cases x; rfl))), h2, h.2.2⟩
theorem both_mid {p q : Nat} {S L : List UInt8} {e : Int} {a b : World} (h : Both p q S L e a) (hp : Only p a b) : Rr q S L e b :=
  rr_block h.2.1 (hp.block q (rr_lt h.2.1) (fun x => h.2.2 (by cases x; rfl)))
def OneP (p q : Nat) (S : List UInt8) (w : World) (x : Ending) (w' : World) : Prop :=
  x = .returned (.bool true) ∧ (∃ L e, L.length ≤ S.length ∧ Both p q S L e w') ∧ Only2 p q w w'
theorem txtL_length (L : List UInt8) (e : Int) : (txtL L e).length ≤ L.length := Nat.le_trans (fixL_length _ _ _) (fixL_length _ _ _)
theorem beN_lt8 (l : List UInt8) (h : l.length ≤ 8) : beN l < 18446744073709551616 := by
  have := beN_take_lt l 8 8 (Nat.le_refl _)
  rwa [List.take_of_length_le h] at this

set_option maxRecDepth 100000 in
set_option maxHeartbeats 800000 in
theorem one_1 (p q k : Nat) (n : Int) (S L : List UInt8) (e : Int) (w : World) (hk : k % 6 = 0) (hS : S.length ≤ 6000) (hL : L.length ≤ S.length) (h : Both p q S L e w) :
    Calls Try.prog 20 #[.pointer (some ⟨p, 0, none⟩), .pointer (some ⟨q, 0, none⟩), .agg #[.int .u8 k, .int .i64 n]] w (OneP p q S w) := by
  have H0 : Hid (Both p q S L e (w.alloc (.cells #[.int .u8 k, .int .i64 n] 49))) := Lib.hid (both_bl h ((Bl.refl w).alloc _))
  have HS := Lib.hid hS
  have HL := Lib.hid hL
  have hr : (k : Int).tmod 6 = 0 := by rw [Int.tmod_eq_emod_of_nonneg (by omega)]; omega
  have F1 := Lib.hid (r_u8 p L e _ (by omega) H0.out.1)
  have F2 : Hid (∀ w', Rr q S L e w' → Calls Try.prog 60 #[.pointer (some ⟨q, 0, none⟩), .int .i64 1] w' fun x w'' => RNumP q S L e 1 w' x w'') := Lib.hid (fun w' h' => rr_number q S L e 1 w' (by decide) (by omega) h')
  have hu : IntKind.u64.wrap ((beN (fixO L e 1) : Nat) : Int) = (beN (fixO L e 1) : Nat) := IntWalk.u64_in _ (by have := beN_lt8 (fixO L e 1) (fixO_length L e 1 8 (by decide)); omega)
  have hl : Hid ((fixL L e 1).length ≤ L.length) := Lib.hid (fixL_length L e 1)
  clear h hS hL hk
  unfold GetP at F1
  unfold RNumP at F2
  have e0 : ((1 : Nat) : Int) = 1 := rfl
  rw [e0] at F1
  have F2' : Hid (∀ w', Rr q S L e w' → Calls Try.prog 60 #[.pointer (some ⟨q, 0, none⟩), .int .i64 1] w' fun x w'' => x = .returned (.int .u64 (beN (fixO L e 1) : Nat)) ∧ Rr q S (fixL L e 1) (fixE L e 1) w'' ∧ Only q w' w'') := F2
  clear F2 e0
  generalize beN (fixO L e 1) = v at *
  go_enter Try.func20, Try.ntmps20
  go_wp2_with (first
    | (go_at_call 31; refine F1.out.mono ?_; rintro x w1 ⟨rfl, h1, h2⟩; have H1 := Lib.hid h1; have O1 := Lib.hid h2; clear h1 h2)
    | (go_at_call 60; refine (F2'.out _ (both_mid H0.out O1.out)).mono ?_; rintro x w2 ⟨rfl, h3, h4⟩; have H2 := Lib.hid h3; have O2 := Lib.hid h4; clear h3 h4))
  go_ret
  refine ⟨rfl, ⟨_, _, Nat.le_trans hl.out HL.out, both_step H0.out O1.out H1.out O2.out H2.out⟩, only2_trans (only2_bl ((Bl.refl w).alloc _)) (only2_trans (only2_l O1.out) (only2_r O2.out))⟩

set_option maxRecDepth 100000 in
set_option maxHeartbeats 800000 in
theorem one_2 (p q k : Nat) (n : Int) (S L : List UInt8) (e : Int) (w : World) (hk : k % 6 = 1) (hS : S.length ≤ 6000) (hL : L.length ≤ S.length) (h : Both p q S L e w) :
    Calls Try.prog 20 #[.pointer (some ⟨p, 0, none⟩), .pointer (some ⟨q, 0, none⟩), .agg #[.int .u8 k, .int .i64 n]] w (OneP p q S w) := by
  have H0 : Hid (Both p q S L e (w.alloc (.cells #[.int .u8 k, .int .i64 n] 49))) := Lib.hid (both_bl h ((Bl.refl w).alloc _))
  have HS := Lib.hid hS
  have HL := Lib.hid hL
  have hr : (k : Int).tmod 6 = 1 := by rw [Int.tmod_eq_emod_of_nonneg (by omega)]; omega
  have F1 := Lib.hid (r_u16 p L e _ (by omega) H0.out.1)
  have F2 : Hid (∀ w', Rr q S L e w' → Calls Try.prog 60 #[.pointer (some ⟨q, 0, none⟩), .int .i64 2] w' fun x w'' => RNumP q S L e 2 w' x w'') := Lib.hid (fun w' h' => rr_number q S L e 2 w' (by decide) (by omega) h')
  have hu : IntKind.u64.wrap ((beN (fixO L e 2) : Nat) : Int) = (beN (fixO L e 2) : Nat) := IntWalk.u64_in _ (by have := beN_lt8 (fixO L e 2) (fixO_length L e 2 8 (by decide)); omega)
  have hl : Hid ((fixL L e 2).length ≤ L.length) := Lib.hid (fixL_length L e 2)
  clear h hS hL hk
  unfold GetP at F1
  unfold RNumP at F2
  have e0 : ((2 : Nat) : Int) = 2 := rfl
  rw [e0] at F1
  have F2' : Hid (∀ w', Rr q S L e w' → Calls Try.prog 60 #[.pointer (some ⟨q, 0, none⟩), .int .i64 2] w' fun x w'' => x = .returned (.int .u64 (beN (fixO L e 2) : Nat)) ∧ Rr q S (fixL L e 2) (fixE L e 2) w'' ∧ Only q w' w'') := F2
  clear F2 e0
  generalize beN (fixO L e 2) = v at *
  go_enter Try.func20, Try.ntmps20
  go_wp2_with (first
    | (go_at_call 30; refine F1.out.mono ?_; rintro x w1 ⟨rfl, h1, h2⟩; have H1 := Lib.hid h1; have O1 := Lib.hid h2; clear h1 h2)
    | (go_at_call 60; refine (F2'.out _ (both_mid H0.out O1.out)).mono ?_; rintro x w2 ⟨rfl, h3, h4⟩; have H2 := Lib.hid h3; have O2 := Lib.hid h4; clear h3 h4))
  go_ret
  refine ⟨rfl, ⟨_, _, Nat.le_trans hl.out HL.out, both_step H0.out O1.out H1.out O2.out H2.out⟩, only2_trans (only2_bl ((Bl.refl w).alloc _)) (only2_trans (only2_l O1.out) (only2_r O2.out))⟩

set_option maxRecDepth 100000 in
set_option maxHeartbeats 800000 in
theorem one_4 (p q k : Nat) (n : Int) (S L : List UInt8) (e : Int) (w : World) (hk : k % 6 = 2) (hS : S.length ≤ 6000) (hL : L.length ≤ S.length) (h : Both p q S L e w) :
    Calls Try.prog 20 #[.pointer (some ⟨p, 0, none⟩), .pointer (some ⟨q, 0, none⟩), .agg #[.int .u8 k, .int .i64 n]] w (OneP p q S w) := by
  have H0 : Hid (Both p q S L e (w.alloc (.cells #[.int .u8 k, .int .i64 n] 49))) := Lib.hid (both_bl h ((Bl.refl w).alloc _))
  have HS := Lib.hid hS
  have HL := Lib.hid hL
  have hr : (k : Int).tmod 6 = 2 := by rw [Int.tmod_eq_emod_of_nonneg (by omega)]; omega
  have F1 := Lib.hid (r_u32 p L e _ (by omega) H0.out.1)
  have F2 : Hid (∀ w', Rr q S L e w' → Calls Try.prog 60 #[.pointer (some ⟨q, 0, none⟩), .int .i64 4] w' fun x w'' => RNumP q S L e 4 w' x w'') := Lib.hid (fun w' h' => rr_number q S L e 4 w' (by decide) (by omega) h')
  have hu : IntKind.u64.wrap ((beN (fixO L e 4) : Nat) : Int) = (beN (fixO L e 4) : Nat) := IntWalk.u64_in _ (by have := beN_lt8 (fixO L e 4) (fixO_length L e 4 8 (by decide)); omega)
  have hl : Hid ((fixL L e 4).length ≤ L.length) := Lib.hid (fixL_length L e 4)
  clear h hS hL hk
  unfold GetP at F1
  unfold RNumP at F2
  have e0 : ((4 : Nat) : Int) = 4 := rfl
  rw [e0] at F1
  have F2' : Hid (∀ w', Rr q S L e w' → Calls Try.prog 60 #[.pointer (some ⟨q, 0, none⟩), .int .i64 4] w' fun x w'' => x = .returned (.int .u64 (beN (fixO L e 4) : Nat)) ∧ Rr q S (fixL L e 4) (fixE L e 4) w'' ∧ Only q w' w'') := F2
  clear F2 e0
  generalize beN (fixO L e 4) = v at *
  go_enter Try.func20, Try.ntmps20
  go_wp2_with (first
    | (go_at_call 38; refine F1.out.mono ?_; rintro x w1 ⟨rfl, h1, h2⟩; have H1 := Lib.hid h1; have O1 := Lib.hid h2; clear h1 h2)
    | (go_at_call 60; refine (F2'.out _ (both_mid H0.out O1.out)).mono ?_; rintro x w2 ⟨rfl, h3, h4⟩; have H2 := Lib.hid h3; have O2 := Lib.hid h4; clear h3 h4))
  go_ret
  refine ⟨rfl, ⟨_, _, Nat.le_trans hl.out HL.out, both_step H0.out O1.out H1.out O2.out H2.out⟩, only2_trans (only2_bl ((Bl.refl w).alloc _)) (only2_trans (only2_l O1.out) (only2_r O2.out))⟩

set_option maxRecDepth 100000 in
set_option maxHeartbeats 800000 in
theorem one_8 (p q k : Nat) (n : Int) (S L : List UInt8) (e : Int) (w : World) (hk : k % 6 = 3) (hS : S.length ≤ 6000) (hL : L.length ≤ S.length) (h : Both p q S L e w) :
    Calls Try.prog 20 #[.pointer (some ⟨p, 0, none⟩), .pointer (some ⟨q, 0, none⟩), .agg #[.int .u8 k, .int .i64 n]] w (OneP p q S w) := by
  have H0 : Hid (Both p q S L e (w.alloc (.cells #[.int .u8 k, .int .i64 n] 49))) := Lib.hid (both_bl h ((Bl.refl w).alloc _))
  have HS := Lib.hid hS
  have HL := Lib.hid hL
  have hr : (k : Int).tmod 6 = 3 := by rw [Int.tmod_eq_emod_of_nonneg (by omega)]; omega
  have F1 := Lib.hid (r_u64 p L e _ (by omega) H0.out.1)
  have F2 : Hid (∀ w', Rr q S L e w' → Calls Try.prog 60 #[.pointer (some ⟨q, 0, none⟩), .int .i64 8] w' fun x w'' => RNumP q S L e 8 w' x w'') := Lib.hid (fun w' h' => rr_number q S L e 8 w' (by decide) (by omega) h')
  have hl : Hid ((fixL L e 8).length ≤ L.length) := Lib.hid (fixL_length L e 8)
  clear h hS hL hk
  unfold GetP at F1
  unfold RNumP at F2
  have e0 : ((8 : Nat) : Int) = 8 := rfl
  rw [e0] at F1
  have F2' : Hid (∀ w', Rr q S L e w' → Calls Try.prog 60 #[.pointer (some ⟨q, 0, none⟩), .int .i64 8] w' fun x w'' => x = .returned (.int .u64 (beN (fixO L e 8) : Nat)) ∧ Rr q S (fixL L e 8) (fixE L e 8) w'' ∧ Only q w' w'') := F2
  clear F2 e0
  generalize beN (fixO L e 8) = v at *
  go_enter Try.func20, Try.ntmps20
  go_wp2_with (first
    | (go_at_call 35; refine F1.out.mono ?_; rintro x w1 ⟨rfl, h1, h2⟩; have H1 := Lib.hid h1; have O1 := Lib.hid h2; clear h1 h2)
    | (go_at_call 60; refine (F2'.out _ (both_mid H0.out O1.out)).mono ?_; rintro x w2 ⟨rfl, h3, h4⟩; have H2 := Lib.hid h3; have O2 := Lib.hid h4; clear h3 h4))
  go_ret
  refine ⟨rfl, ⟨_, _, Nat.le_trans hl.out HL.out, both_step H0.out O1.out H1.out O2.out H2.out⟩, only2_trans (only2_bl ((Bl.refl w).alloc _)) (only2_trans (only2_l O1.out) (only2_r O2.out))⟩
end Go.Proofs.Ytniblmpihnhglaa

namespace Go.Proofs.Ytniblmpihnhglaa
open Go.RowKit
set_option linter.unusedVariables false

set_option maxRecDepth 100000 in
set_option maxHeartbeats 800000 in
theorem one_fixed (p q k : Nat) (n : Int) (S L : List UInt8) (e : Int) (w : World) (hk : k % 6 = 4) (hS : S.length ≤ 6000) (hL : L.length ≤ S.length) (h : Both p q S L e w) :
    Calls Try.prog 20 #[.pointer (some ⟨p, 0, none⟩), .pointer (some ⟨q, 0, none⟩), .agg #[.int .u8 k, .int .i64 n]] w (OneP p q S w) := by
  have H0 : Hid (Both p q S L e (w.alloc (.cells #[.int .u8 k, .int .i64 n] 49))) := Lib.hid (both_bl h ((Bl.refl w).alloc _))
  have HS := Lib.hid hS
  have HL := Lib.hid hL
  have hr : (k : Int).tmod 6 = 4 := by rw [Int.tmod_eq_emod_of_nonneg (by omega)]; omega
  have F1 := Lib.hid (fixed_any p L e n _ (by omega) H0.out.1)
  have F2 : Hid (∀ w', Rr q S L e w' → Calls Try.prog 61 #[.pointer (some ⟨q, 0, none⟩), .int .i64 n] w' fun x w'' => RFixP q S L e n w' x w'') := Lib.hid (fun w' h' => rr_fixed q S L e n w' (by omega) h')
  have hl : Hid ((fixL L e n).length ≤ L.length) := Lib.hid (fixL_length L e n)
  have G : Hid (∀ w1 : World, Only p (w.alloc (.cells #[.int .u8 k, .int .i64 n] 49)) w1 → w1.cell? ⟨w.heap.size, 1, none⟩ = some (.int .i64 n)) := Lib.hid (fun w1 h1 => by
    have : w1.heap[w.heap.size]? = some (.cells #[.int .u8 k, .int .i64 n] 49 (0, 0)) := (h1.block w.heap.size (by show _ < (w.heap.push _).size; rw [Array.size_push]; omega) (fun x => by cases x; exact absurd h.1.lt (by omega))).trans (heap_alloc_new _ _)
    rw [cell_of_row _ _ _ _ _ _ this]; rfl)
  clear h hS hL hk
  unfold FixP at F1
  unfold RFixP at F2
  generalize strL (fixO L e n) = v at *
  go_enter Try.func20, Try.ntmps20
  go_wp2_with (first
    | (go_at_call 33; refine F1.out.mono ?_; rintro x w1 ⟨rfl, h1, h2⟩; have H1 := Lib.hid h1; have O1 := Lib.hid h2; have gc := G.out _ h2; clear h1 h2)
    | (go_at_call 61; refine (F2.out _ (both_mid H0.out O1.out)).mono ?_; rintro x w2 ⟨rfl, h3, h4⟩; have H2 := Lib.hid h3; have O2 := Lib.hid h4; clear h3 h4))
  go_ret
  refine ⟨rfl, ⟨_, _, Nat.le_trans hl.out HL.out, both_step H0.out O1.out H1.out O2.out H2.out⟩, only2_trans (only2_bl ((Bl.refl w).alloc _)) (only2_trans (only2_l O1.out) (only2_r O2.out))⟩

set_option maxRecDepth 100000 in
set_option maxHeartbeats 800000 in
theorem one_text (p q k : Nat) (n : Int) (S L : List UInt8) (e : Int) (w : World) (hk : k % 6 = 5) (hS : S.length ≤ 6000) (hL : L.length ≤ S.length) (h : Both p q S L e w) :
    Calls Try.prog 20 #[.pointer (some ⟨p, 0, none⟩), .pointer (some ⟨q, 0, none⟩), .agg #[.int .u8 k, .int .i64 n]] w (OneP p q S w) := by
  have H0 : Hid (Both p q S L e (w.alloc (.cells #[.int .u8 k, .int .i64 n] 49))) := Lib.hid (both_bl h ((Bl.refl w).alloc _))
  have HS := Lib.hid hS
  have HL := Lib.hid hL
  have hr : (k : Int).tmod 6 = 5 := by rw [Int.tmod_eq_emod_of_nonneg (by omega)]; omega
  have F1 := Lib.hid (r_text p L e _ (by omega) H0.out.1)
  have F2 : Hid (∀ w', Rr q S L e w' → Calls Try.prog 62 #[.pointer (some ⟨q, 0, none⟩)] w' fun x w'' => x = .returned (.string (strL (txtO L e))) ∧ Rr q S (txtL L e) (txtE L e) w'' ∧ Only q w' w'') := Lib.hid (fun w' h' => rr_text q S L e w' (by omega) h')
  have hl : Hid ((txtL L e).length ≤ L.length) := Lib.hid (txtL_length L e)
  clear h hS hL hk
  unfold TxtP at F1
  generalize strL (txtO L e) = v at *
  go_enter Try.func20, Try.ntmps20
  go_wp2_with (first
    | (go_at_call 32; refine F1.out.mono ?_; rintro x w1 ⟨rfl, h1, h2⟩; have H1 := Lib.hid h1; have O1 := Lib.hid h2; clear h1 h2)
    | (go_at_call 62; refine (F2.out _ (both_mid H0.out O1.out)).mono ?_; rintro x w2 ⟨rfl, h3, h4⟩; have H2 := Lib.hid h3; have O2 := Lib.hid h4; clear h3 h4))
  go_ret
  refine ⟨rfl, ⟨_, _, Nat.le_trans hl.out HL.out, both_step H0.out O1.out H1.out O2.out H2.out⟩, only2_trans (only2_bl ((Bl.refl w).alloc _)) (only2_trans (only2_l O1.out) (only2_r O2.out))⟩

theorem one_any (p q k : Nat) (n : Int) (S L : List UInt8) (e : Int) (w : World) (hS : S.length ≤ 6000) (hL : L.length ≤ S.length) (h : Both p q S L e w) :
    Calls Try.prog 20 #[.pointer (some ⟨p, 0, none⟩), .pointer (some ⟨q, 0, none⟩), .agg #[.int .u8 k, .int .i64 n]] w (OneP p q S w) := by
  rcases (by omega : k % 6 = 0 ∨ k % 6 = 1 ∨ k % 6 = 2 ∨ k % 6 = 3 ∨ k % 6 = 4 ∨ k % 6 = 5) with h6 | h6 | h6 | h6 | h6 | h6
  · exact one_1 p q k n S L e w h6 hS hL h
  · exact one_2 p q k n S L e w h6 hS hL h
  · exact one_4 p q k n S L e w h6 hS hL h
  · exact one_8 p q k n S L e w h6 hS hL h
  · exact one_fixed p q k n S L e w h6 hS hL h
  · exact one_text p q k n S L e w h6 hS hL h

/-- A slice of so many asks, as the walk meets it. -/
def Asks (w : World) (v : Value) (n : Nat) : Prop :=
  (v = .slice none 0 0 ∧ n = 0) ∨ ∃ a cap, v = .slice (some a) n cap ∧ ∀ i, i < n → ∃ (k : Nat) (m : Int), w.cell? (a.add (i * 2)) = some (.int .u8 k) ∧ w.cell? (a.add (i * 2 + 1)) = some (.int .i64 m)
theorem asks_form {w : World} {v : Value} {n : Nat} (h : Asks w v n) : ∃ a c, v = .slice a n c := by
  rcases h with ⟨rfl, rfl⟩ | ⟨a, cap, rfl, _⟩
  · exact ⟨_, _, rfl⟩
  · exact ⟨_, _, rfl⟩
end Go.Proofs.Ytniblmpihnhglaa

/- Arguments that are slices of structs: opened to what the walks ask. -/
namespace Go.Proofs.Ytniblmpihnhglaa
open Go.ChangeShapes Go.WideShapes Go.Deep Go.RowKit
section
variable {H : Type} {enc : TypeId × Value → H} {P : Program} {w : World} {base : Nat} {spare : Nat → Bool} {held : Bool}
theorem open_slice_fields {t e : TypeId} {fs : Array Field} {fuel : Nat} {cs : List Value} {x : DataW H × List MemPlace} (ht : P.underlying t = some (.slice e)) (he : P.underlying e = some (.struct fs))
    (hone : oneCellFields P fs = true) (hC : P.cellsOf e = fs.size) (h : DataW.trod enc P w base spare held fuel t cs = some x) :
    (cs = [.slice none 0 0] ∧ x = (.nil, [])) ∨
    ∃ (a : Addr) (len cap m : Nat) (D : Nat → DataW H) (Pl : Nat → List MemPlace), cs = [.slice (some a) len cap] ∧ base ≤ a.block ∧ len ≤ cap ∧ cap ≤ maxLen ∧ m = (if spare a.block then cap else len) ∧
      x = (.slice ((List.range len).map D) ((List.range (m - len)).map fun j => D (len + j)), MemPlace.row a (m * fs.size) ++ (List.range m).flatMap Pl) ∧
      ∀ i, i < m → ∃ (ys : List (DataW H × List MemPlace)) (n : Nat), D i = .agg (ys.map (·.1)) ∧ Pl i = ys.flatMap (·.2) ∧ ys.length = fs.size ∧
        ∀ (j : Nat) (f : Field), fs[j]? = some f → ∃ (v : Value) (y : DataW H × List MemPlace), w.cell? (a.add (i * fs.size + j)) = some v ∧ ys[j]? = some y ∧ DataW.trod enc P w base spare held n f.type [v] = some y := by
  rcases open_slice ht h with h0 | ⟨a, len, cap, m, n, D, Pl, hcs, hb, hl, hm, hmm, hx, hi⟩
  · exact .inl h0
  · refine .inr ⟨a, len, cap, m, D, Pl, hcs, hb, hl, hm, hmm, by rw [hC] at hx; exact hx, fun i him => ?_⟩
    obtain ⟨cs', hc, ht'⟩ := hi i him
    rw [hC] at hc
    obtain ⟨ys, n', hn', hy, hlen, hyl, hf⟩ := DataW.trod_struct he ht'
    obtain ⟨_, hcl, hat⟩ := World.cells?_some hc
    simp only [Prod.mk.injEq] at hy
    refine ⟨ys, n', hy.1, hy.2, hyl, fun j f hj => ?_⟩
    obtain ⟨ho, hk⟩ := hone_of hone j f hj
    have hjl : j < fs.size := (Array.getElem?_eq_some_iff.1 hj).1
    have hcell := hat j hjl
    have hv : cs'[j]? = some (cs'[j]'(by omega)) := List.getElem?_eq_getElem (by omega)
    have h1 := hf j f hj
    rw [ho, hk] at h1
    have hone' : (cs'.drop j).take 1 = [cs'[j]'(by omega)] := by
      rw [List.drop_eq_getElem_cons (by omega)]
      rfl
    rw [hone'] at h1
    have hys : ys[j]? = some (ys[j]'(by omega)) := List.getElem?_eq_getElem (by omega)
    refine ⟨_, _, ?_, hys, h1.trans hys⟩
    rw [← Go.Deep.add_add, hcell, hv]
end
section
variable {H : Type} {enc : TypeId × Value → H}
set_option maxRecDepth 100000 in
theorem stays_arg {t : TypeId} {W W' : World} {v : Value} {d : DataW H} {ps : List MemPlace} (hr : Try.prog.readableRec t = true) (hrow : t < Try.prog.types.size)
    (h : DataW.Trod enc Try.prog W 0 (fun _ => true) true t v d ps) (hb : Below W.heap.size W W') (hlt : ∀ p ∈ ps, p.block < W.heap.size) (sp : Nat → Bool) (hs : ∀ p ∈ ps, sp p.block = true) :
    DataW.Trod enc Try.prog W' 0 sp true t v d ps :=
  WideElems.Trod_stays (by kernel_rfl) hr hrow h (fun p hp => hb.same (hlt p hp)) hs

set_option maxRecDepth 100000 in
theorem asks_of {W : World} {r : Reach} {b0 : Nat} {v : Value} {d : DataW H} {ps : List MemPlace} (hv : Value.okWide Try.prog W r b0 41 v) (h : DataW.Trod enc Try.prog W 0 (fun _ => true) true 41 v d ps) : ∃ n, Asks W v n := by
  obtain ⟨a, len, cap, rfl⟩ := okWide_slice Try.underlying41 hv
  obtain ⟨fuel, hf⟩ := h
  rcases open_slice_fields Try.underlying41 Try.underlying49 (by kernel_rfl) (by kernel_rfl) hf with ⟨h1, h2⟩ | ⟨a', len', cap', m, D, Pl, h1, hb, hle, hc, hm, hx, hi⟩
  · have h1' : Value.slice a len cap = .slice none 0 0 := by simpa [Value.cells] using h1
    exact ⟨0, .inl ⟨h1', rfl⟩⟩
  · have h1' : Value.slice a len cap = .slice (some a') len' cap' := by simpa [Value.cells] using h1
    refine ⟨len', .inr ⟨a', cap', h1', fun i hil => ?_⟩⟩
    have him : i < m := by rw [hm]; split <;> omega
    obtain ⟨ys, n, _, _, _, hf⟩ := hi i him
    obtain ⟨v0, y0, c0, _, t0⟩ := hf 0 _ rfl
    obtain ⟨v1, y1, c1, _, t1⟩ := hf 1 _ rfl
    obtain ⟨k0, e0, _, w0⟩ := DataW.trod_int Try.underlying5 t0
    obtain ⟨k1, e1, _, w1⟩ := DataW.trod_int Try.underlying3 t1
    simp at e0 e1
    subst e0 e1
    have hk : 0 ≤ k0 ∧ k0 ≤ 255 := by simpa [Lit.wf, IntKind.min, IntKind.max, IntKind.signed, IntKind.bits] using w0
    refine ⟨k0.toNat, k1, ?_, ?_⟩
    · rw [show ((k0.toNat : Nat) : Int) = k0 from by omega]; exact c0
    · exact c1
end
end Go.Proofs.Ytniblmpihnhglaa

/- Arguments that are a meta or a change by value: opened to what the walks ask. -/
namespace Go.Proofs.Ytniblmpihnhglaa
open Go.ChangeShapes Go.WideShapes Go.Deep Go.RowKit Go.Joins
set_option linter.unusedVariables false

/-- A meta's fields. -/
structure Me where
  k : Nat
  s : Nat
  m : Nat
  t : Nat
def Me.ok (x : Me) : Prop := x.k < 256 ∧ x.s < 4294967296 ∧ x.m < 18446744073709551616 ∧ x.t < 18446744073709551616
def MetaArg (v : Value) (x : Me) : Prop := v = .agg #[.int .u8 x.k, .int .u32 x.s, .int .u64 x.m, .int .u64 x.t] ∧ x.ok
/-- A change's fields. -/
structure Ch where
  k : Nat
  n : Nat
  op : Nat
  y : Nat
def Ch.ok (x : Ch) : Prop := x.k < 256 ∧ x.n < 18446744073709551616 ∧ x.op < 256 ∧ x.y < 18446744073709551616
def ChangeArg (v : Value) (x : Ch) : Prop := v = .agg #[.int .u8 x.k, .int .u64 x.n, .int .u8 x.op, .int .u64 x.y] ∧ x.ok
section
variable {H : Type} {enc : TypeId × Value → H}
theorem wf_u8 {a : Int} (h : (Lit.int .u8 a).wf = true) : ((a.toNat : Nat) : Int) = a ∧ a.toNat < 256 := by
  have : 0 ≤ a ∧ a ≤ 255 := by simpa [Lit.wf, IntKind.min, IntKind.max, IntKind.signed, IntKind.bits] using h
  omega
theorem wf_u32 {a : Int} (h : (Lit.int .u32 a).wf = true) : ((a.toNat : Nat) : Int) = a ∧ a.toNat < 4294967296 := by
  have : 0 ≤ a ∧ a ≤ 4294967295 := by simpa [Lit.wf, IntKind.min, IntKind.max, IntKind.signed, IntKind.bits] using h
  omega
theorem wf_u64 {a : Int} (h : (Lit.int .u64 a).wf = true) : ((a.toNat : Nat) : Int) = a ∧ a.toNat < 18446744073709551616 := by
  have : 0 ≤ a ∧ a ≤ 18446744073709551615 := by simpa [Lit.wf, IntKind.min, IntKind.max, IntKind.signed, IntKind.bits] using h
  omega
set_option maxRecDepth 100000 in
theorem meta_of {W : World} {r : Reach} {b0 : Nat} {v : Value} {d : DataW H} {ps : List MemPlace} (hv : Value.okWide Try.prog W r b0 85 v) (h : DataW.Trod enc Try.prog W 0 (fun _ => true) true 85 v d ps) : ∃ x, MetaArg v x := by
  obtain ⟨v0, v1, v2, v3, y0, y1, y2, y3, n, rfl, _, _, t0, t1, t2, t3⟩ := open_agg4 Try.underlying85 (by kernel_rfl) (by kernel_rfl) hv h
  obtain ⟨k0, e0, _, w0⟩ := DataW.trod_int Try.underlying5 t0
  obtain ⟨k1, e1, _, w1⟩ := DataW.trod_int Try.underlying58 t1
  obtain ⟨k2, e2, _, w2⟩ := DataW.trod_int Try.underlying34 t2
  obtain ⟨k3, e3, _, w3⟩ := DataW.trod_int Try.underlying34 t3
  simp at e0 e1 e2 e3
  subst e0 e1 e2 e3
  refine ⟨⟨k0.toNat, k1.toNat, k2.toNat, k3.toNat⟩, ?_, (wf_u8 w0).2, (wf_u32 w1).2, (wf_u64 w2).2, (wf_u64 w3).2⟩
  simp only [(wf_u8 w0).1, (wf_u32 w1).1, (wf_u64 w2).1, (wf_u64 w3).1]
set_option maxRecDepth 100000 in
theorem change_of {W : World} {r : Reach} {b0 : Nat} {v : Value} {d : DataW H} {ps : List MemPlace} (hv : Value.okWide Try.prog W r b0 73 v) (h : DataW.Trod enc Try.prog W 0 (fun _ => true) true 73 v d ps) : ∃ x, ChangeArg v x := by
  obtain ⟨cs, rfl, hsz⟩ := okWide_struct Try.underlying73 hv
  have hC : Try.prog.cellsOf 73 = 4 := by kernel_rfl
  obtain ⟨l⟩ := cs
  match l, hsz.trans hC with
  | [c0, c1, c2, c3], _ =>
    obtain ⟨fuel, hf⟩ := h
    obtain ⟨xs, n, _, hx, _, hlen, hg⟩ := DataW.trod_struct Try.underlying73 hf
    match xs, hlen with
    | [y0, y1, y2], _ =>
      have k5 : Try.prog.cellsOf 5 = 1 := by kernel_rfl
      have k34 : Try.prog.cellsOf 34 = 1 := by kernel_rfl
      have k71 : Try.prog.cellsOf 71 = 2 := by kernel_rfl
      have g0 : DataW.trod enc Try.prog W 0 (fun _ => true) true n 5 [c0] = some y0 := by have := hg 0 _ rfl; simpa [Value.cells, k5] using this
      have g1 : DataW.trod enc Try.prog W 0 (fun _ => true) true n 34 [c1] = some y1 := by have := hg 1 _ rfl; simpa [Value.cells, k34] using this
      have g2 : DataW.trod enc Try.prog W 0 (fun _ => true) true n 71 [c2, c3] = some y2 := by have := hg 2 _ rfl; simpa [Value.cells, k71] using this
      obtain ⟨z0, z1, n2, _, _, s0, s1⟩ := trod_struct2 Try.underlying71 g2
      have s0' : DataW.trod enc Try.prog W 0 (fun _ => true) true n2 5 [c2] = some z0 := by simpa [k5] using s0
      have s1' : DataW.trod enc Try.prog W 0 (fun _ => true) true n2 34 [c3] = some z1 := by simpa [k34] using s1
      obtain ⟨a0, e0, _, w0⟩ := DataW.trod_int Try.underlying5 g0
      obtain ⟨a1, e1, _, w1⟩ := DataW.trod_int Try.underlying34 g1
      obtain ⟨a2, e2, _, w2⟩ := DataW.trod_int Try.underlying5 s0'
      obtain ⟨a3, e3, _, w3⟩ := DataW.trod_int Try.underlying34 s1'
      simp at e0 e1 e2 e3
      subst e0 e1 e2 e3
      refine ⟨⟨a0.toNat, a1.toNat, a2.toNat, a3.toNat⟩, ?_, (wf_u8 w0).2, (wf_u64 w1).2, (wf_u8 w2).2, (wf_u64 w3).2⟩
      simp only [(wf_u8 w0).1, (wf_u64 w1).1, (wf_u8 w2).1, (wf_u64 w3).1]
end
end Go.Proofs.Ytniblmpihnhglaa

/- Walks of layer 7: Apply. Printed by gen_e15.py. -/
namespace Go.Proofs.Ytniblmpihnhglaa
open Go.RowKit
set_option linter.unusedVariables false

abbrev M4 (k s m t : Int) (T : TypeId) : Obj := .cells #[.int .u8 k, .int .u32 s, .int .u64 m, .int .u64 t] T
abbrev C4 (k n op y : Int) (T : TypeId) : Obj := .cells #[.int .u8 k, .int .u64 n, .int .u8 op, .int .u64 y] T
/-- A meta's, a change's and the result's block. -/
structure AP (w W : World) (T : TypeId) (k s m t : Int) (ck n op y : Int) : Prop where
  m : W.heap[w.heap.size]? = some (.cells #[.int .u8 k, .int .u32 s, .int .u64 m, .int .u64 t] 85 (0, 0))
  c : W.heap[w.heap.size + 1]? = some (.cells #[.int .u8 ck, .int .u64 n, .int .u8 op, .int .u64 y] T (0, 0))
  z : W.heap[w.heap.size + 2]? = some (.cells #[.int .u8 0, .int .u32 0, .int .u64 0, .int .u64 0] 85 (0, 0))
  b : Bl w W
theorem AP.bl {w W W' : World} {T : TypeId} {k s m t ck n op y : Int} (h : AP w W T k s m t ck n op y) (hb : Bl W W') : AP w W' T k s m t ck n op y :=
  ⟨(hb.block _ (Array.getElem?_eq_some_iff.1 h.m).1).trans h.m, (hb.block _ (Array.getElem?_eq_some_iff.1 h.c).1).trans h.c, (hb.block _ (Array.getElem?_eq_some_iff.1 h.z).1).trans h.z, h.b.trans hb⟩
theorem AP.new (w : World) (T : TypeId) (k s m t ck n op y : Int) : AP w (((w.alloc (M4 k s m t 85)).alloc (C4 ck n op y T)).alloc (M4 0 0 0 0 85)) T k s m t ck n op y := by
  have z0 : (w.alloc (M4 k s m t 85)).heap.size = w.heap.size + 1 := Array.size_push ..
  have z1 : ((w.alloc (M4 k s m t 85)).alloc (C4 ck n op y T)).heap.size = w.heap.size + 2 := by show ((w.heap.push _).push _).size = _; rw [Array.size_push, Array.size_push]
  refine ⟨?_, ?_, ?_, (((Bl.refl w).alloc _).alloc _).alloc _⟩
  · rw [Below.heap_alloc _ _ _ (by omega), Below.heap_alloc _ _ _ (by omega)]
    exact heap_alloc_new _ _
  · rw [Below.heap_alloc _ _ _ (by omega), ← z0]
    exact heap_alloc_new _ _
  · rw [← z1]
    exact heap_alloc_new _ _
theorem ap_set {w W : World} (h : Bl w W) (i j : Nat) (u : Value) : Bl w (W.setCell ⟨w.heap.size + i, j, none⟩ u) := h.setCell (by show w.heap.size ≤ w.heap.size + i; omega) u
theorem ap_set0 {w W : World} (h : Bl w W) (j : Nat) (u : Value) : Bl w (W.setCell ⟨w.heap.size, j, none⟩ u) := h.setCell (Nat.le_refl _) u


set_option maxRecDepth 100000 in
set_option maxHeartbeats 3200000 in
theorem apply_bad0 (k s m t ck n op y : Nat) (w : World) (hm1 : m < 18446744073709551616) (hm2 : y < 18446744073709551616) (hm : mayM k s m = false) :
    Calls Try.prog 45 #[.agg #[.int .u8 k, .int .u32 s, .int .u64 m, .int .u64 t], .agg #[.int .u8 ck, .int .u64 n, .int .u8 op, .int .u64 y]] w fun x w' => x = .returned (.agg #[.int .u8 k, .int .u32 s, .int .u64 m, .int .u64 t]) ∧ Bl w w' := by
  have CH : Hid (∀ w, Calls Try.prog 47 #[.agg #[.int .u8 k, .int .u32 s, .int .u64 m, .int .u64 t]] w fun x w' => x = .returned (.int .i64 4) ∧ Bl w w') := Lib.hid (fun w => by
    have := check_any k s m t w
    unfold ChkP at this
    rw [show chk k s m = 4 by unfold chk; rw [hm]; rfl] at this
    exact this)
  have A0 := Lib.hid (AP.new w 73 k s m t ck n op y)
  clear hm hm1 hm2
  go_enter Try.func45, Try.ntmps45
  go_wp2_with (first
    | (go_at_call 47; refine (CH.out _).mono ?_; rintro e w1 ⟨rfl, h⟩; have A1 := Lib.hid (A0.out.bl h); clear h; obtain ⟨a0, a1, a2, a3, af0, af1, af2, af3⟩ := four_cells A1.out.m; obtain ⟨b0, b1, b2, b3, _, _, _, _⟩ := four_cells A1.out.c; obtain ⟨z0, z1, z2, z3, zf0, zf1, zf2, zf3⟩ := four_cells A1.out.z))
  refine bodyPost_ret (v := .agg #[.int .u8 k, .int .u32 s, .int .u64 m, .int .u64 t]) (by simp [results, Try.results45, go_sem, *]) rfl ⟨rfl, ?_⟩
  exact ap_set (ap_set (ap_set (ap_set A1.out.b 2 _ _) 2 _ _) 2 _ _) 2 _ _

set_option maxRecDepth 100000 in
set_option maxHeartbeats 3200000 in
theorem apply_off (k s m t ck n op y : Nat) (w : World) (hm1 : m < 18446744073709551616) (hm2 : y < 18446744073709551616) (hm : mayM k s m = true) (hcm : mayC ck n op y = false) :
    Calls Try.prog 45 #[.agg #[.int .u8 k, .int .u32 s, .int .u64 m, .int .u64 t], .agg #[.int .u8 ck, .int .u64 n, .int .u8 op, .int .u64 y]] w fun x w' => x = .returned (.agg #[.int .u8 k, .int .u32 s, .int .u64 m, .int .u64 t]) ∧ Bl w w' := by
  have CH : Hid (∀ w, Calls Try.prog 47 #[.agg #[.int .u8 k, .int .u32 s, .int .u64 m, .int .u64 t]] w fun x w' => x = .returned (.int .i64 0) ∧ Bl w w') := Lib.hid (fun w => by
    have := check_any k s m t w
    unfold ChkP at this
    rw [show chk k s m = 0 by unfold chk; rw [if_pos hm]] at this
    exact this)
  have CM : Hid (∀ w, Calls Try.prog 71 #[.agg #[.int .u8 ck, .int .u64 n, .int .u8 op, .int .u64 y]] w fun x w' => x = .returned (.bool false) ∧ Bl w w') := Lib.hid (fun w => by
    have := may_any ck n op y w
    unfold MayP at this
    rw [hcm] at this
    exact this)
  have A0 := Lib.hid (AP.new w 73 k s m t ck n op y)
  clear hm hm1 hm2 hcm
  go_enter Try.func45, Try.ntmps45
  go_wp2_with (first
    | (go_at_call 71; refine (CM.out _).mono ?_; rintro e w2 ⟨rfl, h⟩; have A2 := Lib.hid (A1.out.bl h); clear h; clear a0 a1 a2 a3 af0 af1 af2 af3 b0 b1 b2 b3 z0 z1 z2 z3 zf0 zf1 zf2 zf3; obtain ⟨a0, a1, a2, a3, af0, af1, af2, af3⟩ := four_cells A2.out.m; obtain ⟨b0, b1, b2, b3, _, _, _, _⟩ := four_cells A2.out.c; obtain ⟨z0, z1, z2, z3, zf0, zf1, zf2, zf3⟩ := four_cells A2.out.z)
    | (go_at_call 47; refine (CH.out _).mono ?_; rintro e w1 ⟨rfl, h⟩; have A1 := Lib.hid (A0.out.bl h); clear h; obtain ⟨a0, a1, a2, a3, af0, af1, af2, af3⟩ := four_cells A1.out.m; obtain ⟨b0, b1, b2, b3, _, _, _, _⟩ := four_cells A1.out.c; obtain ⟨z0, z1, z2, z3, zf0, zf1, zf2, zf3⟩ := four_cells A1.out.z))
  refine bodyPost_ret (v := .agg #[.int .u8 k, .int .u32 s, .int .u64 m, .int .u64 t]) (by simp [results, Try.results45, go_sem, *]) rfl ⟨rfl, ?_⟩
  exact ap_set (ap_set (ap_set (ap_set A2.out.b 2 _ _) 2 _ _) 2 _ _) 2 _ _

set_option maxRecDepth 100000 in
set_option maxHeartbeats 3200000 in
theorem apply_growY (k s m t ck n op y : Nat) (w : World) (hm1 : m < 18446744073709551616) (hm2 : y < 18446744073709551616) (hm : mayM k s m = true) (hcm : mayC ck n op y = true) (hk : k = 1) (hc : ck = 1) (hn : n ≤ 2048) (hs : s < n) :
    Calls Try.prog 45 #[.agg #[.int .u8 k, .int .u32 s, .int .u64 m, .int .u64 t], .agg #[.int .u8 ck, .int .u64 n, .int .u8 op, .int .u64 y]] w fun x w' => x = .returned (.agg #[.int .u8 k, .int .u32 n, .int .u64 m, .int .u64 t]) ∧ Bl w w' := by
  have CH : Hid (∀ w, Calls Try.prog 47 #[.agg #[.int .u8 k, .int .u32 s, .int .u64 m, .int .u64 t]] w fun x w' => x = .returned (.int .i64 0) ∧ Bl w w') := Lib.hid (fun w => by
    have := check_any k s m t w
    unfold ChkP at this
    rw [show chk k s m = 0 by unfold chk; rw [if_pos hm]] at this
    exact this)
  have CM : Hid (∀ w, Calls Try.prog 71 #[.agg #[.int .u8 ck, .int .u64 n, .int .u8 op, .int .u64 y]] w fun x w' => x = .returned (.bool true) ∧ Bl w w') := Lib.hid (fun w => by
    have := may_any ck n op y w
    unfold MayP at this
    rw [hcm] at this
    exact this)
  have hu : IntKind.u32.wrap (n : Int) = n := by rw [IntKind.wrap_u32]; omega
  have q0 : ((k : Int) == 1) = true := by rw [beq_iff_eq]; omega
  have q1 : ((ck : Int) == 1) = true := by rw [beq_iff_eq]; omega
  have hlt : (s : Int) < n := by omega
  have A0 := Lib.hid (AP.new w 73 k s m t ck n op y)
  clear hm hm1 hm2 hcm hk hc hn hs
  go_enter Try.func45, Try.ntmps45
  go_wp2_with (first
    | (go_at_call 71; refine (CM.out _).mono ?_; rintro e w2 ⟨rfl, h⟩; have A2 := Lib.hid (A1.out.bl h); clear h; clear a0 a1 a2 a3 af0 af1 af2 af3 b0 b1 b2 b3 z0 z1 z2 z3 zf0 zf1 zf2 zf3; obtain ⟨a0, a1, a2, a3, af0, af1, af2, af3⟩ := four_cells A2.out.m; obtain ⟨b0, b1, b2, b3, _, _, _, _⟩ := four_cells A2.out.c; obtain ⟨z0, z1, z2, z3, zf0, zf1, zf2, zf3⟩ := four_cells A2.out.z)
    | (go_at_call 47; refine (CH.out _).mono ?_; rintro e w1 ⟨rfl, h⟩; have A1 := Lib.hid (A0.out.bl h); clear h; obtain ⟨a0, a1, a2, a3, af0, af1, af2, af3⟩ := four_cells A1.out.m; obtain ⟨b0, b1, b2, b3, _, _, _, _⟩ := four_cells A1.out.c; obtain ⟨z0, z1, z2, z3, zf0, zf1, zf2, zf3⟩ := four_cells A1.out.z))
  refine bodyPost_ret (v := .agg #[.int .u8 k, .int .u32 n, .int .u64 m, .int .u64 t]) (by simp [results, Try.results45, go_sem, *]) rfl ⟨rfl, ?_⟩
  exact ap_set (ap_set (ap_set (ap_set (ap_set0 A2.out.b _ _) 2 _ _) 2 _ _) 2 _ _) 2 _ _

set_option maxRecDepth 100000 in
set_option maxHeartbeats 3200000 in
theorem apply_growN (k s m t ck n op y : Nat) (w : World) (hm1 : m < 18446744073709551616) (hm2 : y < 18446744073709551616) (hm : mayM k s m = true) (hcm : mayC ck n op y = true) (hk : k = 1) (hc : ck = 1) (hn : n ≤ 2048) (hs : ¬ s < n) :
    Calls Try.prog 45 #[.agg #[.int .u8 k, .int .u32 s, .int .u64 m, .int .u64 t], .agg #[.int .u8 ck, .int .u64 n, .int .u8 op, .int .u64 y]] w fun x w' => x = .returned (.agg #[.int .u8 k, .int .u32 s, .int .u64 m, .int .u64 t]) ∧ Bl w w' := by
  have CH : Hid (∀ w, Calls Try.prog 47 #[.agg #[.int .u8 k, .int .u32 s, .int .u64 m, .int .u64 t]] w fun x w' => x = .returned (.int .i64 0) ∧ Bl w w') := Lib.hid (fun w => by
    have := check_any k s m t w
    unfold ChkP at this
    rw [show chk k s m = 0 by unfold chk; rw [if_pos hm]] at this
    exact this)
  have CM : Hid (∀ w, Calls Try.prog 71 #[.agg #[.int .u8 ck, .int .u64 n, .int .u8 op, .int .u64 y]] w fun x w' => x = .returned (.bool true) ∧ Bl w w') := Lib.hid (fun w => by
    have := may_any ck n op y w
    unfold MayP at this
    rw [hcm] at this
    exact this)
  have hu : IntKind.u32.wrap (n : Int) = n := by rw [IntKind.wrap_u32]; omega
  have q0 : ((k : Int) == 1) = true := by rw [beq_iff_eq]; omega
  have q1 : ((ck : Int) == 1) = true := by rw [beq_iff_eq]; omega
  have hlt : (n : Int) ≤ s := by omega
  have A0 := Lib.hid (AP.new w 73 k s m t ck n op y)
  clear hm hm1 hm2 hcm hk hc hn hs
  go_enter Try.func45, Try.ntmps45
  go_wp2_with (first
    | (go_at_call 71; refine (CM.out _).mono ?_; rintro e w2 ⟨rfl, h⟩; have A2 := Lib.hid (A1.out.bl h); clear h; clear a0 a1 a2 a3 af0 af1 af2 af3 b0 b1 b2 b3 z0 z1 z2 z3 zf0 zf1 zf2 zf3; obtain ⟨a0, a1, a2, a3, af0, af1, af2, af3⟩ := four_cells A2.out.m; obtain ⟨b0, b1, b2, b3, _, _, _, _⟩ := four_cells A2.out.c; obtain ⟨z0, z1, z2, z3, zf0, zf1, zf2, zf3⟩ := four_cells A2.out.z)
    | (go_at_call 47; refine (CH.out _).mono ?_; rintro e w1 ⟨rfl, h⟩; have A1 := Lib.hid (A0.out.bl h); clear h; obtain ⟨a0, a1, a2, a3, af0, af1, af2, af3⟩ := four_cells A1.out.m; obtain ⟨b0, b1, b2, b3, _, _, _, _⟩ := four_cells A1.out.c; obtain ⟨z0, z1, z2, z3, zf0, zf1, zf2, zf3⟩ := four_cells A1.out.z))
  refine bodyPost_ret (v := .agg #[.int .u8 k, .int .u32 s, .int .u64 m, .int .u64 t]) (by simp [results, Try.results45, go_sem, *]) rfl ⟨rfl, ?_⟩
  exact ap_set (ap_set (ap_set (ap_set (ap_set0 A2.out.b _ _) 2 _ _) 2 _ _) 2 _ _) 2 _ _

set_option maxRecDepth 100000 in
set_option maxHeartbeats 3200000 in
theorem apply_growD (k s m t ck n op y : Nat) (w : World) (hm1 : m < 18446744073709551616) (hm2 : y < 18446744073709551616) (hm : mayM k s m = true) (hcm : mayC ck n op y = true) (hk : ¬ k = 1) (hc : ck = 1) (hn : n ≤ 2048) :
    Calls Try.prog 45 #[.agg #[.int .u8 k, .int .u32 s, .int .u64 m, .int .u64 t], .agg #[.int .u8 ck, .int .u64 n, .int .u8 op, .int .u64 y]] w fun x w' => x = .returned (.agg #[.int .u8 k, .int .u32 s, .int .u64 m, .int .u64 t]) ∧ Bl w w' := by
  have CH : Hid (∀ w, Calls Try.prog 47 #[.agg #[.int .u8 k, .int .u32 s, .int .u64 m, .int .u64 t]] w fun x w' => x = .returned (.int .i64 0) ∧ Bl w w') := Lib.hid (fun w => by
    have := check_any k s m t w
    unfold ChkP at this
    rw [show chk k s m = 0 by unfold chk; rw [if_pos hm]] at this
    exact this)
  have CM : Hid (∀ w, Calls Try.prog 71 #[.agg #[.int .u8 ck, .int .u64 n, .int .u8 op, .int .u64 y]] w fun x w' => x = .returned (.bool true) ∧ Bl w w') := Lib.hid (fun w => by
    have := may_any ck n op y w
    unfold MayP at this
    rw [hcm] at this
    exact this)
  have hu : IntKind.u32.wrap (n : Int) = n := by rw [IntKind.wrap_u32]; omega
  have q0 : ((k : Int) == 1) = false := by rw [beq_eq_false_iff_ne]; omega
  have q1 : ((ck : Int) == 1) = true := by rw [beq_iff_eq]; omega
  have q2 : ((ck : Int) == 2) = false := by rw [beq_eq_false_iff_ne]; omega
  have q3 : ((ck : Int) == 3) = false := by rw [beq_eq_false_iff_ne]; omega
  have q4 : ((ck : Int) == 4) = false := by rw [beq_eq_false_iff_ne]; omega
  have A0 := Lib.hid (AP.new w 73 k s m t ck n op y)
  clear hm hm1 hm2 hcm hk hc hn
  go_enter Try.func45, Try.ntmps45
  go_wp2_with (first
    | (go_at_call 71; refine (CM.out _).mono ?_; rintro e w2 ⟨rfl, h⟩; have A2 := Lib.hid (A1.out.bl h); clear h; clear a0 a1 a2 a3 af0 af1 af2 af3 b0 b1 b2 b3 z0 z1 z2 z3 zf0 zf1 zf2 zf3; obtain ⟨a0, a1, a2, a3, af0, af1, af2, af3⟩ := four_cells A2.out.m; obtain ⟨b0, b1, b2, b3, _, _, _, _⟩ := four_cells A2.out.c; obtain ⟨z0, z1, z2, z3, zf0, zf1, zf2, zf3⟩ := four_cells A2.out.z)
    | (go_at_call 47; refine (CH.out _).mono ?_; rintro e w1 ⟨rfl, h⟩; have A1 := Lib.hid (A0.out.bl h); clear h; obtain ⟨a0, a1, a2, a3, af0, af1, af2, af3⟩ := four_cells A1.out.m; obtain ⟨b0, b1, b2, b3, _, _, _, _⟩ := four_cells A1.out.c; obtain ⟨z0, z1, z2, z3, zf0, zf1, zf2, zf3⟩ := four_cells A1.out.z))
  refine bodyPost_ret (v := .agg #[.int .u8 k, .int .u32 s, .int .u64 m, .int .u64 t]) (by simp [results, Try.results45, go_sem, *]) rfl ⟨rfl, ?_⟩
  exact ap_set (ap_set (ap_set (ap_set A2.out.b 2 _ _) 2 _ _) 2 _ _) 2 _ _

set_option maxRecDepth 100000 in
set_option maxHeartbeats 3200000 in
theorem apply_cutF (k s m t ck n op y : Nat) (w : World) (hm1 : m < 18446744073709551616) (hm2 : y < 18446744073709551616) (hm : mayM k s m = true) (hcm : mayC ck n op y = true) (hk : k = 1) (hc : ck = 2) (hn : n ≤ 2048) :
    Calls Try.prog 45 #[.agg #[.int .u8 k, .int .u32 s, .int .u64 m, .int .u64 t], .agg #[.int .u8 ck, .int .u64 n, .int .u8 op, .int .u64 y]] w fun x w' => x = .returned (.agg #[.int .u8 k, .int .u32 n, .int .u64 m, .int .u64 t]) ∧ Bl w w' := by
  have CH : Hid (∀ w, Calls Try.prog 47 #[.agg #[.int .u8 k, .int .u32 s, .int .u64 m, .int .u64 t]] w fun x w' => x = .returned (.int .i64 0) ∧ Bl w w') := Lib.hid (fun w => by
    have := check_any k s m t w
    unfold ChkP at this
    rw [show chk k s m = 0 by unfold chk; rw [if_pos hm]] at this
    exact this)
  have CM : Hid (∀ w, Calls Try.prog 71 #[.agg #[.int .u8 ck, .int .u64 n, .int .u8 op, .int .u64 y]] w fun x w' => x = .returned (.bool true) ∧ Bl w w') := Lib.hid (fun w => by
    have := may_any ck n op y w
    unfold MayP at this
    rw [hcm] at this
    exact this)
  have hu : IntKind.u32.wrap (n : Int) = n := by rw [IntKind.wrap_u32]; omega
  have q0 : ((k : Int) == 1) = true := by rw [beq_iff_eq]; omega
  have q1 : ((ck : Int) == 1) = false := by rw [beq_eq_false_iff_ne]; omega
  have q2 : ((ck : Int) == 2) = true := by rw [beq_iff_eq]; omega
  have A0 := Lib.hid (AP.new w 73 k s m t ck n op y)
  clear hm hm1 hm2 hcm hk hc hn
  go_enter Try.func45, Try.ntmps45
  go_wp2_with (first
    | (go_at_call 71; refine (CM.out _).mono ?_; rintro e w2 ⟨rfl, h⟩; have A2 := Lib.hid (A1.out.bl h); clear h; clear a0 a1 a2 a3 af0 af1 af2 af3 b0 b1 b2 b3 z0 z1 z2 z3 zf0 zf1 zf2 zf3; obtain ⟨a0, a1, a2, a3, af0, af1, af2, af3⟩ := four_cells A2.out.m; obtain ⟨b0, b1, b2, b3, _, _, _, _⟩ := four_cells A2.out.c; obtain ⟨z0, z1, z2, z3, zf0, zf1, zf2, zf3⟩ := four_cells A2.out.z)
    | (go_at_call 47; refine (CH.out _).mono ?_; rintro e w1 ⟨rfl, h⟩; have A1 := Lib.hid (A0.out.bl h); clear h; obtain ⟨a0, a1, a2, a3, af0, af1, af2, af3⟩ := four_cells A1.out.m; obtain ⟨b0, b1, b2, b3, _, _, _, _⟩ := four_cells A1.out.c; obtain ⟨z0, z1, z2, z3, zf0, zf1, zf2, zf3⟩ := four_cells A1.out.z))
  refine bodyPost_ret (v := .agg #[.int .u8 k, .int .u32 n, .int .u64 m, .int .u64 t]) (by simp [results, Try.results45, go_sem, *]) rfl ⟨rfl, ?_⟩
  exact ap_set (ap_set (ap_set (ap_set (ap_set0 A2.out.b _ _) 2 _ _) 2 _ _) 2 _ _) 2 _ _

set_option maxRecDepth 100000 in
set_option maxHeartbeats 3200000 in
theorem apply_cutD (k s m t ck n op y : Nat) (w : World) (hm1 : m < 18446744073709551616) (hm2 : y < 18446744073709551616) (hm : mayM k s m = true) (hcm : mayC ck n op y = true) (hk : ¬ k = 1) (hc : ck = 2) (hn : n ≤ 2048) :
    Calls Try.prog 45 #[.agg #[.int .u8 k, .int .u32 s, .int .u64 m, .int .u64 t], .agg #[.int .u8 ck, .int .u64 n, .int .u8 op, .int .u64 y]] w fun x w' => x = .returned (.agg #[.int .u8 k, .int .u32 s, .int .u64 m, .int .u64 t]) ∧ Bl w w' := by
  have CH : Hid (∀ w, Calls Try.prog 47 #[.agg #[.int .u8 k, .int .u32 s, .int .u64 m, .int .u64 t]] w fun x w' => x = .returned (.int .i64 0) ∧ Bl w w') := Lib.hid (fun w => by
    have := check_any k s m t w
    unfold ChkP at this
    rw [show chk k s m = 0 by unfold chk; rw [if_pos hm]] at this
    exact this)
  have CM : Hid (∀ w, Calls Try.prog 71 #[.agg #[.int .u8 ck, .int .u64 n, .int .u8 op, .int .u64 y]] w fun x w' => x = .returned (.bool true) ∧ Bl w w') := Lib.hid (fun w => by
    have := may_any ck n op y w
    unfold MayP at this
    rw [hcm] at this
    exact this)
  have hu : IntKind.u32.wrap (n : Int) = n := by rw [IntKind.wrap_u32]; omega
  have q0 : ((k : Int) == 1) = false := by rw [beq_eq_false_iff_ne]; omega
  have q1 : ((ck : Int) == 1) = false := by rw [beq_eq_false_iff_ne]; omega
  have q2 : ((ck : Int) == 2) = true := by rw [beq_iff_eq]; omega
  have q3 : ((ck : Int) == 3) = false := by rw [beq_eq_false_iff_ne]; omega
  have q4 : ((ck : Int) == 4) = false := by rw [beq_eq_false_iff_ne]; omega
  have A0 := Lib.hid (AP.new w 73 k s m t ck n op y)
  clear hm hm1 hm2 hcm hk hc hn
  go_enter Try.func45, Try.ntmps45
  go_wp2_with (first
    | (go_at_call 71; refine (CM.out _).mono ?_; rintro e w2 ⟨rfl, h⟩; have A2 := Lib.hid (A1.out.bl h); clear h; clear a0 a1 a2 a3 af0 af1 af2 af3 b0 b1 b2 b3 z0 z1 z2 z3 zf0 zf1 zf2 zf3; obtain ⟨a0, a1, a2, a3, af0, af1, af2, af3⟩ := four_cells A2.out.m; obtain ⟨b0, b1, b2, b3, _, _, _, _⟩ := four_cells A2.out.c; obtain ⟨z0, z1, z2, z3, zf0, zf1, zf2, zf3⟩ := four_cells A2.out.z)
    | (go_at_call 47; refine (CH.out _).mono ?_; rintro e w1 ⟨rfl, h⟩; have A1 := Lib.hid (A0.out.bl h); clear h; obtain ⟨a0, a1, a2, a3, af0, af1, af2, af3⟩ := four_cells A1.out.m; obtain ⟨b0, b1, b2, b3, _, _, _, _⟩ := four_cells A1.out.c; obtain ⟨z0, z1, z2, z3, zf0, zf1, zf2, zf3⟩ := four_cells A1.out.z))
  refine bodyPost_ret (v := .agg #[.int .u8 k, .int .u32 s, .int .u64 m, .int .u64 t]) (by simp [results, Try.results45, go_sem, *]) rfl ⟨rfl, ?_⟩
  exact ap_set (ap_set (ap_set (ap_set A2.out.b 2 _ _) 2 _ _) 2 _ _) 2 _ _

set_option maxRecDepth 100000 in
set_option maxHeartbeats 3200000 in
theorem apply_markF (k s m t ck n op y : Nat) (w : World) (hm1 : m < 18446744073709551616) (hm2 : y < 18446744073709551616) (hm : mayM k s m = true) (hcm : mayC ck n op y = true) (hk : k = 1) (hc : ck = 3) :
    Calls Try.prog 45 #[.agg #[.int .u8 k, .int .u32 s, .int .u64 m, .int .u64 t], .agg #[.int .u8 ck, .int .u64 n, .int .u8 op, .int .u64 y]] w fun x w' => x = .returned (.agg #[.int .u8 k, .int .u32 s, .int .u64 (stepI m op y), .int .u64 t]) ∧ Bl w w' := by
  have CH : Hid (∀ w, Calls Try.prog 47 #[.agg #[.int .u8 k, .int .u32 s, .int .u64 m, .int .u64 t]] w fun x w' => x = .returned (.int .i64 0) ∧ Bl w w') := Lib.hid (fun w => by
    have := check_any k s m t w
    unfold ChkP at this
    rw [show chk k s m = 0 by unfold chk; rw [if_pos hm]] at this
    exact this)
  have CM : Hid (∀ w, Calls Try.prog 71 #[.agg #[.int .u8 ck, .int .u64 n, .int .u8 op, .int .u64 y]] w fun x w' => x = .returned (.bool true) ∧ Bl w w') := Lib.hid (fun w => by
    have := may_any ck n op y w
    unfold MayP at this
    rw [hcm] at this
    exact this)
  have CN : Hid (∀ w, Calls Try.prog 76 #[.int .u64 m, .agg #[.int .u8 op, .int .u64 y]] w fun x w' => x = .returned (.tuple #[.int .u64 (stepI m op y), .int .i64 (stepE op)]) ∧ Bl w w') := Lib.hid (fun w => apply_any m op y w (by omega) (by omega) (by omega) (by omega))
  have q0 : ((k : Int) == 1) = true := by rw [beq_iff_eq]; omega
  have q1 : ((ck : Int) == 1) = false := by rw [beq_eq_false_iff_ne]; omega
  have q2 : ((ck : Int) == 2) = false := by rw [beq_eq_false_iff_ne]; omega
  have q3 : ((ck : Int) == 3) = true := by rw [beq_iff_eq]; omega
  have A0 := Lib.hid (AP.new w 73 k s m t ck n op y)
  clear hm hm1 hm2 hcm hk hc
  go_enter Try.func45, Try.ntmps45
  go_wp2_with (first
    | (go_at_call 76; refine (CN.out _).mono ?_; rintro e w3 ⟨rfl, h⟩; have A3 := Lib.hid (A2.out.bl h); clear h; clear a0 a1 a2 a3 af0 af1 af2 af3 b0 b1 b2 b3 z0 z1 z2 z3 zf0 zf1 zf2 zf3; obtain ⟨a0, a1, a2, a3, af0, af1, af2, af3⟩ := four_cells A3.out.m; obtain ⟨b0, b1, b2, b3, _, _, _, _⟩ := four_cells A3.out.c; obtain ⟨z0, z1, z2, z3, zf0, zf1, zf2, zf3⟩ := four_cells A3.out.z)
    | (go_at_call 71; refine (CM.out _).mono ?_; rintro e w2 ⟨rfl, h⟩; have A2 := Lib.hid (A1.out.bl h); clear h; clear a0 a1 a2 a3 af0 af1 af2 af3 b0 b1 b2 b3 z0 z1 z2 z3 zf0 zf1 zf2 zf3; obtain ⟨a0, a1, a2, a3, af0, af1, af2, af3⟩ := four_cells A2.out.m; obtain ⟨b0, b1, b2, b3, _, _, _, _⟩ := four_cells A2.out.c; obtain ⟨z0, z1, z2, z3, zf0, zf1, zf2, zf3⟩ := four_cells A2.out.z)
    | (go_at_call 47; refine (CH.out _).mono ?_; rintro e w1 ⟨rfl, h⟩; have A1 := Lib.hid (A0.out.bl h); clear h; obtain ⟨a0, a1, a2, a3, af0, af1, af2, af3⟩ := four_cells A1.out.m; obtain ⟨b0, b1, b2, b3, _, _, _, _⟩ := four_cells A1.out.c; obtain ⟨z0, z1, z2, z3, zf0, zf1, zf2, zf3⟩ := four_cells A1.out.z))
  refine bodyPost_ret (v := .agg #[.int .u8 k, .int .u32 s, .int .u64 (stepI m op y), .int .u64 t]) (by simp [results, Try.results45, go_sem, *]) rfl ⟨rfl, ?_⟩
  exact ap_set (ap_set (ap_set (ap_set (ap_set0 A3.out.b _ _) 2 _ _) 2 _ _) 2 _ _) 2 _ _

set_option maxRecDepth 100000 in
set_option maxHeartbeats 3200000 in
theorem apply_stampF (k s m t ck n op y : Nat) (w : World) (hm1 : m < 18446744073709551616) (hm2 : y < 18446744073709551616) (hm : mayM k s m = true) (hcm : mayC ck n op y = true) (hk : k = 1) (hc : ck = 4) :
    Calls Try.prog 45 #[.agg #[.int .u8 k, .int .u32 s, .int .u64 m, .int .u64 t], .agg #[.int .u8 ck, .int .u64 n, .int .u8 op, .int .u64 y]] w fun x w' => x = .returned (.agg #[.int .u8 k, .int .u32 s, .int .u64 m, .int .u64 n]) ∧ Bl w w' := by
  have CH : Hid (∀ w, Calls Try.prog 47 #[.agg #[.int .u8 k, .int .u32 s, .int .u64 m, .int .u64 t]] w fun x w' => x = .returned (.int .i64 0) ∧ Bl w w') := Lib.hid (fun w => by
    have := check_any k s m t w
    unfold ChkP at this
    rw [show chk k s m = 0 by unfold chk; rw [if_pos hm]] at this
    exact this)
  have CM : Hid (∀ w, Calls Try.prog 71 #[.agg #[.int .u8 ck, .int .u64 n, .int .u8 op, .int .u64 y]] w fun x w' => x = .returned (.bool true) ∧ Bl w w') := Lib.hid (fun w => by
    have := may_any ck n op y w
    unfold MayP at this
    rw [hcm] at this
    exact this)
  have q0 : ((k : Int) == 1) = true := by rw [beq_iff_eq]; omega
  have q1 : ((ck : Int) == 1) = false := by rw [beq_eq_false_iff_ne]; omega
  have q2 : ((ck : Int) == 2) = false := by rw [beq_eq_false_iff_ne]; omega
  have q3 : ((ck : Int) == 3) = false := by rw [beq_eq_false_iff_ne]; omega
  have q4 : ((ck : Int) == 4) = true := by rw [beq_iff_eq]; omega
  have A0 := Lib.hid (AP.new w 73 k s m t ck n op y)
  clear hm hm1 hm2 hcm hk hc
  go_enter Try.func45, Try.ntmps45
  go_wp2_with (first
    | (go_at_call 71; refine (CM.out _).mono ?_; rintro e w2 ⟨rfl, h⟩; have A2 := Lib.hid (A1.out.bl h); clear h; clear a0 a1 a2 a3 af0 af1 af2 af3 b0 b1 b2 b3 z0 z1 z2 z3 zf0 zf1 zf2 zf3; obtain ⟨a0, a1, a2, a3, af0, af1, af2, af3⟩ := four_cells A2.out.m; obtain ⟨b0, b1, b2, b3, _, _, _, _⟩ := four_cells A2.out.c; obtain ⟨z0, z1, z2, z3, zf0, zf1, zf2, zf3⟩ := four_cells A2.out.z)
    | (go_at_call 47; refine (CH.out _).mono ?_; rintro e w1 ⟨rfl, h⟩; have A1 := Lib.hid (A0.out.bl h); clear h; obtain ⟨a0, a1, a2, a3, af0, af1, af2, af3⟩ := four_cells A1.out.m; obtain ⟨b0, b1, b2, b3, _, _, _, _⟩ := four_cells A1.out.c; obtain ⟨z0, z1, z2, z3, zf0, zf1, zf2, zf3⟩ := four_cells A1.out.z))
  refine bodyPost_ret (v := .agg #[.int .u8 k, .int .u32 s, .int .u64 m, .int .u64 n]) (by simp [results, Try.results45, go_sem, *]) rfl ⟨rfl, ?_⟩
  exact ap_set (ap_set (ap_set (ap_set (ap_set0 A2.out.b _ _) 2 _ _) 2 _ _) 2 _ _) 2 _ _

set_option maxRecDepth 100000 in
set_option maxHeartbeats 3200000 in
theorem apply_markD (k s m t ck n op y : Nat) (w : World) (hm1 : m < 18446744073709551616) (hm2 : y < 18446744073709551616) (hm : mayM k s m = true) (hcm : mayC ck n op y = true) (hk : ¬ k = 1) (hc : ck = 3) :
    Calls Try.prog 45 #[.agg #[.int .u8 k, .int .u32 s, .int .u64 m, .int .u64 t], .agg #[.int .u8 ck, .int .u64 n, .int .u8 op, .int .u64 y]] w fun x w' => x = .returned (.agg #[.int .u8 k, .int .u32 s, .int .u64 (stepI m op y), .int .u64 t]) ∧ Bl w w' := by
  have CH : Hid (∀ w, Calls Try.prog 47 #[.agg #[.int .u8 k, .int .u32 s, .int .u64 m, .int .u64 t]] w fun x w' => x = .returned (.int .i64 0) ∧ Bl w w') := Lib.hid (fun w => by
    have := check_any k s m t w
    unfold ChkP at this
    rw [show chk k s m = 0 by unfold chk; rw [if_pos hm]] at this
    exact this)
  have CM : Hid (∀ w, Calls Try.prog 71 #[.agg #[.int .u8 ck, .int .u64 n, .int .u8 op, .int .u64 y]] w fun x w' => x = .returned (.bool true) ∧ Bl w w') := Lib.hid (fun w => by
    have := may_any ck n op y w
    unfold MayP at this
    rw [hcm] at this
    exact this)
  have CN : Hid (∀ w, Calls Try.prog 76 #[.int .u64 m, .agg #[.int .u8 op, .int .u64 y]] w fun x w' => x = .returned (.tuple #[.int .u64 (stepI m op y), .int .i64 (stepE op)]) ∧ Bl w w') := Lib.hid (fun w => apply_any m op y w (by omega) (by omega) (by omega) (by omega))
  have q0 : ((k : Int) == 1) = false := by rw [beq_eq_false_iff_ne]; omega
  have q1 : ((ck : Int) == 1) = false := by rw [beq_eq_false_iff_ne]; omega
  have q2 : ((ck : Int) == 2) = false := by rw [beq_eq_false_iff_ne]; omega
  have q3 : ((ck : Int) == 3) = true := by rw [beq_iff_eq]; omega
  have A0 := Lib.hid (AP.new w 73 k s m t ck n op y)
  clear hm hm1 hm2 hcm hk hc
  go_enter Try.func45, Try.ntmps45
  go_wp2_with (first
    | (go_at_call 76; refine (CN.out _).mono ?_; rintro e w3 ⟨rfl, h⟩; have A3 := Lib.hid (A2.out.bl h); clear h; clear a0 a1 a2 a3 af0 af1 af2 af3 b0 b1 b2 b3 z0 z1 z2 z3 zf0 zf1 zf2 zf3; obtain ⟨a0, a1, a2, a3, af0, af1, af2, af3⟩ := four_cells A3.out.m; obtain ⟨b0, b1, b2, b3, _, _, _, _⟩ := four_cells A3.out.c; obtain ⟨z0, z1, z2, z3, zf0, zf1, zf2, zf3⟩ := four_cells A3.out.z)
    | (go_at_call 71; refine (CM.out _).mono ?_; rintro e w2 ⟨rfl, h⟩; have A2 := Lib.hid (A1.out.bl h); clear h; clear a0 a1 a2 a3 af0 af1 af2 af3 b0 b1 b2 b3 z0 z1 z2 z3 zf0 zf1 zf2 zf3; obtain ⟨a0, a1, a2, a3, af0, af1, af2, af3⟩ := four_cells A2.out.m; obtain ⟨b0, b1, b2, b3, _, _, _, _⟩ := four_cells A2.out.c; obtain ⟨z0, z1, z2, z3, zf0, zf1, zf2, zf3⟩ := four_cells A2.out.z)
    | (go_at_call 47; refine (CH.out _).mono ?_; rintro e w1 ⟨rfl, h⟩; have A1 := Lib.hid (A0.out.bl h); clear h; obtain ⟨a0, a1, a2, a3, af0, af1, af2, af3⟩ := four_cells A1.out.m; obtain ⟨b0, b1, b2, b3, _, _, _, _⟩ := four_cells A1.out.c; obtain ⟨z0, z1, z2, z3, zf0, zf1, zf2, zf3⟩ := four_cells A1.out.z))
  refine bodyPost_ret (v := .agg #[.int .u8 k, .int .u32 s, .int .u64 (stepI m op y), .int .u64 t]) (by simp [results, Try.results45, go_sem, *]) rfl ⟨rfl, ?_⟩
  exact ap_set (ap_set (ap_set (ap_set (ap_set0 A3.out.b _ _) 2 _ _) 2 _ _) 2 _ _) 2 _ _

set_option maxRecDepth 100000 in
set_option maxHeartbeats 3200000 in
theorem apply_stampD (k s m t ck n op y : Nat) (w : World) (hm1 : m < 18446744073709551616) (hm2 : y < 18446744073709551616) (hm : mayM k s m = true) (hcm : mayC ck n op y = true) (hk : ¬ k = 1) (hc : ck = 4) :
    Calls Try.prog 45 #[.agg #[.int .u8 k, .int .u32 s, .int .u64 m, .int .u64 t], .agg #[.int .u8 ck, .int .u64 n, .int .u8 op, .int .u64 y]] w fun x w' => x = .returned (.agg #[.int .u8 k, .int .u32 s, .int .u64 m, .int .u64 n]) ∧ Bl w w' := by
  have CH : Hid (∀ w, Calls Try.prog 47 #[.agg #[.int .u8 k, .int .u32 s, .int .u64 m, .int .u64 t]] w fun x w' => x = .returned (.int .i64 0) ∧ Bl w w') := Lib.hid (fun w => by
    have := check_any k s m t w
    unfold ChkP at this
    rw [show chk k s m = 0 by unfold chk; rw [if_pos hm]] at this
    exact this)
  have CM : Hid (∀ w, Calls Try.prog 71 #[.agg #[.int .u8 ck, .int .u64 n, .int .u8 op, .int .u64 y]] w fun x w' => x = .returned (.bool true) ∧ Bl w w') := Lib.hid (fun w => by
    have := may_any ck n op y w
    unfold MayP at this
    rw [hcm] at this
    exact this)
  have q0 : ((k : Int) == 1) = false := by rw [beq_eq_false_iff_ne]; omega
  have q1 : ((ck : Int) == 1) = false := by rw [beq_eq_false_iff_ne]; omega
  have q2 : ((ck : Int) == 2) = false := by rw [beq_eq_false_iff_ne]; omega
  have q3 : ((ck : Int) == 3) = false := by rw [beq_eq_false_iff_ne]; omega
  have q4 : ((ck : Int) == 4) = true := by rw [beq_iff_eq]; omega
  have A0 := Lib.hid (AP.new w 73 k s m t ck n op y)
  clear hm hm1 hm2 hcm hk hc
  go_enter Try.func45, Try.ntmps45
  go_wp2_with (first
    | (go_at_call 71; refine (CM.out _).mono ?_; rintro e w2 ⟨rfl, h⟩; have A2 := Lib.hid (A1.out.bl h); clear h; clear a0 a1 a2 a3 af0 af1 af2 af3 b0 b1 b2 b3 z0 z1 z2 z3 zf0 zf1 zf2 zf3; obtain ⟨a0, a1, a2, a3, af0, af1, af2, af3⟩ := four_cells A2.out.m; obtain ⟨b0, b1, b2, b3, _, _, _, _⟩ := four_cells A2.out.c; obtain ⟨z0, z1, z2, z3, zf0, zf1, zf2, zf3⟩ := four_cells A2.out.z)
    | (go_at_call 47; refine (CH.out _).mono ?_; rintro e w1 ⟨rfl, h⟩; have A1 := Lib.hid (A0.out.bl h); clear h; obtain ⟨a0, a1, a2, a3, af0, af1, af2, af3⟩ := four_cells A1.out.m; obtain ⟨b0, b1, b2, b3, _, _, _, _⟩ := four_cells A1.out.c; obtain ⟨z0, z1, z2, z3, zf0, zf1, zf2, zf3⟩ := four_cells A1.out.z))
  refine bodyPost_ret (v := .agg #[.int .u8 k, .int .u32 s, .int .u64 m, .int .u64 n]) (by simp [results, Try.results45, go_sem, *]) rfl ⟨rfl, ?_⟩
  exact ap_set (ap_set (ap_set (ap_set (ap_set0 A2.out.b _ _) 2 _ _) 2 _ _) 2 _ _) 2 _ _

end Go.Proofs.Ytniblmpihnhglaa

/- Walks of layer 7: a slice of one byte as a string. -/
namespace Go.Proofs.Ytniblmpihnhglaa
open Go.RowKit
set_option linter.unusedVariables false

set_option maxRecDepth 100000 in
theorem cv1 {k : Nat} {W w' : World} (hb : Bl (W.alloc (.cells #[.int .u8 k] 5)) w') (hk : k < 256) : (convert 26 9 (.slice (some ⟨W.heap.size, 0, none⟩) 1 1)).run Try.prog w' = .ok (.string (strL (beB k 1))) w' := by
  have hlt : W.heap.size < (W.alloc (.cells #[.int .u8 k] 5)).heap.size := by show _ < (W.heap.push _).size; rw [Array.size_push]; omega
  have hblk := (hb.block _ hlt).trans (heap_alloc_new W (.cells #[.int .u8 k] 5))
  have := run_convert_bytes_arg (P := Try.prog) w' 26 5 Try.underlying26 Try.underlying5 W.heap.size 0 1 1 [(k : Int)] rfl (fun i hi => by
    have h0 : i = 0 := by omega
    subst h0
    rw [cell_of_row _ _ _ _ _ _ hblk]; rfl) 9 Try.underlying9
  rw [this]
  congr 2
  have hb1 : beB k 1 = [UInt8.ofNat k] := by simp [beB, byteAt]
  rw [hb1]
  simp [strOfNums, strL]

theorem cv2 {k : Nat} {W w' : World} (hb : Bl ((W.alloc (.cells #[.int .u8 k] 5)).drew) w') (hk : k < 256) : (convert 26 9 (.slice (some ⟨W.heap.size, 0, none⟩) 1 1)).run Try.prog w' = .ok (.string (strL (beB k 1))) w' := cv1 (Bl.trans (Bl.refl _).drew hb) hk

end Go.Proofs.Ytniblmpihnhglaa

/- Walks of layer 7: PutChange of the reference. -/
namespace Go.Proofs.Ytniblmpihnhglaa
open Go.RowKit
set_option linter.unusedVariables false

abbrev C77 (k n op y : Nat) : Obj := .cells #[.int .u8 k, .int .u64 n, .int .u8 op, .int .u64 y] 77
theorem c77_keep {k n op y : Nat} {w w1 : World} (h : Bl (w.alloc (C77 k n op y)) w1) : w1.heap[w.heap.size]? = some (.cells #[.int .u8 k, .int .u64 n, .int .u8 op, .int .u64 y] 77 (0, 0)) ∧ w.heap.size < w1.heap.size := by
  have hlt : w.heap.size < (w.alloc (C77 k n op y)).heap.size := by show _ < (w.heap.push _).size; rw [Array.size_push]; omega
  exact ⟨(h.block _ hlt).trans (heap_alloc_new _ _), Nat.lt_of_lt_of_le hlt h.size⟩

set_option maxRecDepth 100000 in
set_option maxHeartbeats 1600000 in
theorem rcput_no (k n op y : Nat) (w : World) (hM : mayC k n op y = false) :
    Calls Try.prog 41 #[.agg #[.int .u8 k, .int .u64 n, .int .u8 op, .int .u64 y]] w fun x w' => x = .returned (.tuple #[.string (strL []), .int .i64 4]) ∧ Bl w w' := by
  have CH := Lib.hid (fun w => rmayc_any k n op y w)
  unfold MayP at CH
  rw [hM] at CH
  clear hM
  go_enter Try.func41, Try.ntmps41
  go_wp2_with (go_at_call 72; refine (CH.out _).mono ?_; rintro e w1 ⟨rfl, h⟩; have B1 := Lib.hid h; clear h)
  go_ret2
  exact ⟨rfl, ((Bl.refl w).alloc _).trans B1.out⟩

set_option maxRecDepth 100000 in
set_option maxHeartbeats 1600000 in
theorem rcput_size (k n op y : Nat) (w : World) (hk : k = 1 ∨ k = 2) (hn : n ≤ 2048) (hM : mayC k n op y = true) :
    Calls Try.prog 41 #[.agg #[.int .u8 k, .int .u64 n, .int .u8 op, .int .u64 y]] w fun x w' => x = .returned (.tuple #[.string (strL (beB k 1 ++ beB n 4)), .int .i64 0]) ∧ Bl w w' := by
  have CH := Lib.hid (fun w => rmayc_any k n op y w)
  unfold MayP at CH
  rw [hM] at CH
  clear hM
  have N4 := Lib.hid (fun w => number_any n 4 w (by omega) (by decide) (by decide))
  have z1 : (strL (beB k 1)).size = 1 := by rw [strL_size, beB_length]
  have z4 : (strL (beB n 4)).size = 4 := by rw [strL_size, beB_length]
  have a5 : strL (beB k 1) ++ strL (beB n 4) = strL (beB k 1 ++ beB n 4) := strL_append _ _
  have hcv0 := fun W : World => cv1 (Bl.refl (W.alloc (.cells #[.int .u8 k] 5))) (by omega)
  have e3 : ((k : Int) == 3) = false := by rw [beq_eq_false_iff_ne]; omega
  have e4 : ((k : Int) == 4) = false := by rw [beq_eq_false_iff_ne]; omega
  clear hn hk
  go_enter Try.func41, Try.ntmps41
  go_wp2_with (first
    | (go_at_call 73; refine (N4.out _).mono ?_; rintro e w4 ⟨rfl, h⟩; have B4 := Lib.hid h; clear h)
    | (go_at_call 72; refine (CH.out _).mono ?_; rintro e w1 ⟨rfl, h⟩; have B1 := Lib.hid h; have bx := c77_keep h; obtain ⟨c0, c1, c2, c3, _, _, _, _⟩ := four_cells bx.1; have bz : ∀ v, (w1.alloc (.cells #[v] 5)).heap[w.heap.size]? = some (.cells #[.int .u8 k, .int .u64 n, .int .u8 op, .int .u64 y] 77 (0, 0)) := fun v => (Below.heap_alloc w1 _ _ bx.2).trans bx.1; have d0 := fun v => (four_cells (bz v)).1; have d1 := fun v => (four_cells (bz v)).2.1; have d2 := fun v => (four_cells (bz v)).2.2.1; have d3 := fun v => (four_cells (bz v)).2.2.2.1; have Z := Lib.hid bx.2; clear h bx bz))
  go_ret2
  exact ⟨rfl, Bl.trans (Bl.trans ((Bl.refl w).alloc _) B1.out) (Bl.trans ((Bl.refl w1).alloc _) B4.out)⟩

set_option maxRecDepth 100000 in
set_option maxHeartbeats 1600000 in
theorem rcput_stamp (k n op y : Nat) (w : World) (hk : k = 4) (hn : n < 18446744073709551616) (hM : mayC k n op y = true) :
    Calls Try.prog 41 #[.agg #[.int .u8 k, .int .u64 n, .int .u8 op, .int .u64 y]] w fun x w' => x = .returned (.tuple #[.string (strL (beB k 1 ++ beB n 8)), .int .i64 0]) ∧ Bl w w' := by
  have CH := Lib.hid (fun w => rmayc_any k n op y w)
  unfold MayP at CH
  rw [hM] at CH
  clear hM
  have N4 := Lib.hid (fun w => number_any n 8 w (by omega) (by decide) (by decide))
  have z1 : (strL (beB k 1)).size = 1 := by rw [strL_size, beB_length]
  have z4 : (strL (beB n 8)).size = 8 := by rw [strL_size, beB_length]
  have a5 : strL (beB k 1) ++ strL (beB n 8) = strL (beB k 1 ++ beB n 8) := strL_append _ _
  have hcv0 := fun W : World => cv1 (Bl.refl (W.alloc (.cells #[.int .u8 k] 5))) (by omega)
  have e3 : ((k : Int) == 3) = false := by rw [beq_eq_false_iff_ne]; omega
  have e4 : ((k : Int) == 4) = true := by rw [beq_iff_eq]; omega
  clear hn hk
  go_enter Try.func41, Try.ntmps41
  go_wp2_with (first
    | (go_at_call 73; refine (N4.out _).mono ?_; rintro e w4 ⟨rfl, h⟩; have B4 := Lib.hid h; clear h)
    | (go_at_call 72; refine (CH.out _).mono ?_; rintro e w1 ⟨rfl, h⟩; have B1 := Lib.hid h; have bx := c77_keep h; obtain ⟨c0, c1, c2, c3, _, _, _, _⟩ := four_cells bx.1; have bz : ∀ v, (w1.alloc (.cells #[v] 5)).heap[w.heap.size]? = some (.cells #[.int .u8 k, .int .u64 n, .int .u8 op, .int .u64 y] 77 (0, 0)) := fun v => (Below.heap_alloc w1 _ _ bx.2).trans bx.1; have d0 := fun v => (four_cells (bz v)).1; have d1 := fun v => (four_cells (bz v)).2.1; have d2 := fun v => (four_cells (bz v)).2.2.1; have d3 := fun v => (four_cells (bz v)).2.2.2.1; have Z := Lib.hid bx.2; clear h bx bz))
  go_ret2
  exact ⟨rfl, Bl.trans (Bl.trans ((Bl.refl w).alloc _) B1.out) (Bl.trans ((Bl.refl w1).alloc _) B4.out)⟩

/-- Behind the region's first steps. -/
theorem rest_below {W0 W w' : World} (h : Bl W w') (hw : W = W0.drew ∨ (∃ o, W = (W0.alloc o).drew) := by first | exact .inl rfl | exact .inr ⟨_, rfl⟩) : Bl W0 w' := by
  rcases hw with rfl | ⟨o, rfl⟩
  · exact (Bl.refl _).drew.trans h
  · exact ((Bl.refl _).alloc o).drew.trans h

set_option maxRecDepth 100000 in
set_option maxHeartbeats 3200000 in
theorem rcput_mark (k n op y : Nat) (w : World) (hk : k = 3) (ho : op < 256) (hy : y < 18446744073709551616) (hM : mayC k n op y = true) :
    Calls Try.prog 41 #[.agg #[.int .u8 k, .int .u64 n, .int .u8 op, .int .u64 y]] w fun x w' => x = .returned (.tuple #[.string (strL (beB k 1 ++ beB op 1 ++ beB y 8)), .int .i64 0]) ∧ Bl w w' := by
  have CH := Lib.hid (fun w => rmayc_any k n op y w)
  unfold MayP at CH
  rw [hM] at CH
  clear hM
  have N8 := Lib.hid (fun w => number_any y 8 w hy (by decide) (by decide))
  have z1 : (strL (beB k 1)).size = 1 := by rw [strL_size, beB_length]
  have y1 : (strL (beB op 1)).size = 1 := by rw [strL_size, beB_length]
  have z4 : (strL (beB y 8)).size = 8 := by rw [strL_size, beB_length]
  have a2 : strL (beB k 1) ++ strL (beB op 1) = strL (beB k 1 ++ beB op 1) := strL_append _ _
  have z2 : (strL (beB k 1 ++ beB op 1)).size = 2 := by rw [strL_size, List.length_append, beB_length, beB_length]
  have a10 : strL (beB k 1 ++ beB op 1) ++ strL (beB y 8) = strL (beB k 1 ++ beB op 1 ++ beB y 8) := strL_append _ _
  generalize strL (beB k 1 ++ beB op 1) = S2 at a2 z2 a10
  have hcv3 := fun W : World => cv1 (Bl.refl (W.alloc (.cells #[.int .u8 k] 5))) (by omega)
  have hcv0 := fun W : World => cv1 (Bl.refl (W.alloc (.cells #[.int .u8 op] 5))) ho
  have hcv1 := fun W : World => cv1 ((Bl.refl (W.alloc (.cells #[.int .u8 op] 5))).drew) ho
  have e3 : ((k : Int) == 3) = true := by rw [beq_iff_eq]; omega
  have HK := Lib.hid ho
  clear hy ho hk
  go_enter Try.func41, Try.ntmps41
  go_wp2_with (go_at_call 72; refine (CH.out _).mono ?_; rintro e w1 ⟨rfl, h⟩; have B1 := Lib.hid h; have bx := c77_keep h; obtain ⟨c0, c1, c2, c3, _, _, _, _⟩ := four_cells bx.1; have bz : ∀ v, (w1.alloc (.cells #[v] 5)).heap[w.heap.size]? = some (.cells #[.int .u8 k, .int .u64 n, .int .u8 op, .int .u64 y] 77 (0, 0)) := fun v => (Below.heap_alloc w1 _ _ bx.2).trans bx.1; have d0 := fun v => (four_cells (bz v)).1; have d1 := fun v => (four_cells (bz v)).2.1; have d2 := fun v => (four_cells (bz v)).2.2.1; have d3 := fun v => (four_cells (bz v)).2.2.2.1; have Z := Lib.hid bx.2; clear h bx bz)
  have KS0 : Hid (∀ w', Bl (w1.alloc (.cells #[.int .u8 k] 5)) w' → ((w'.cell? ⟨w.heap.size, 2, none⟩ = some (.int .u8 op) ∧ w'.cell? ⟨w.heap.size, 3, none⟩ = some (.int .u64 y)) ∧ Bl (w1.alloc (.cells #[.int .u8 k] 5)) w')) := Lib.hid (fun w' hb => by
    have hlt : w.heap.size < (w1.alloc (.cells #[.int .u8 k] 5)).heap.size := by have := Z.out; show _ < (w1.heap.push _).size; rw [Array.size_push]; omega
    exact ⟨⟨(hb.cell (p := ⟨w.heap.size, 2, none⟩) hlt).trans (d2 _), (hb.cell (p := ⟨w.heap.size, 3, none⟩) hlt).trans (d3 _)⟩, hb⟩)
  have BW : Hid (Bl w (w1.alloc (.cells #[.int .u8 k] 5))) := Lib.hid ((Bl.trans ((Bl.refl w).alloc _) B1.out).alloc _)
  clear c0 c1 c2 c3 d0 d1 d2 d3 hcv3
  generalize w1.alloc (.cells #[.int .u8 k] 5) = W0 at KS0 BW ⊢
  have KA : Hid (∀ w', Bl W0 w' → ∀ v, (w'.alloc (.cells #[v] 5)).cell? ⟨w.heap.size, 2, none⟩ = some (.int .u8 op) ∧ (w'.alloc (.cells #[v] 5)).cell? ⟨w.heap.size, 3, none⟩ = some (.int .u64 y)) := Lib.hid (fun w' hb v => (KS0.out _ (hb.alloc (.cells #[v] 5))).1)
  have c2 := (KS0.out W0 (Bl.refl W0)).1.1
  have c3 := (KS0.out W0 (Bl.refl W0)).1.2
  have a2 := fun v => (KA.out W0 (Bl.refl W0) v).1
  have a3 := fun v => (KA.out W0 (Bl.refl W0) v).2
  go_region_with
    (go_at_call 73; refine (N8.out _).mono ?_; rintro e w' ⟨rfl, hb⟩; have hb2 := Lib.hid (rest_below (W0 := W0) hb); have k2 := (KS0.out w' hb2.out).1.1; have k3 := (KS0.out w' hb2.out).1.2; have l2 := fun v => (KA.out w' hb2.out v).1; have l3 := fun v => (KA.out w' hb2.out v).2; (try (have hq := cv2 (W := W0) hb HK.out)); clear hb)
  all_goals go_wp2_with fail
  all_goals go_ret2
  all_goals first | exact ⟨rfl, BW.out.trans hb2.out⟩ | exact ⟨rfl, BW.out.trans (hb2.out.alloc _)⟩

theorem rcput_any (k n op y : Nat) (w : World) (hk : k < 256) (hn : n < 18446744073709551616) (ho : op < 256) (hy : y < 18446744073709551616) :
    Calls Try.prog 41 #[.agg #[.int .u8 k, .int .u64 n, .int .u8 op, .int .u64 y]] w (CPutP k n op y w) := by
  unfold CPutP cE
  by_cases hM : mayC k n op y = true
  · rw [if_pos hM, if_pos hM]
    rcases mayC_form hM with ⟨h1, h2⟩ | rfl | rfl
    · have : changeL k n op y = beB k 1 ++ beB n 4 := by unfold changeL; rw [if_neg (by omega), if_neg (by omega)]
      rw [this]
      exact rcput_size k n op y w h1 h2 hM
    · exact rcput_stamp 4 n op y w rfl hn hM
    · have : changeL 3 n op y = beB 3 1 ++ beB op 1 ++ beB y 8 := by unfold changeL; rw [if_pos rfl, List.append_assoc]
      rw [this]
      exact rcput_mark 3 n op y w rfl ho hy hM
  · rw [if_neg hM, if_neg hM]
    exact rcput_no k n op y w (by simpa using hM)
end Go.Proofs.Ytniblmpihnhglaa

/- Walks of layer 7: Apply of the reference. Printed by gen_e15.py. -/
namespace Go.Proofs.Ytniblmpihnhglaa
open Go.RowKit
set_option linter.unusedVariables false


set_option maxRecDepth 100000 in
set_option maxHeartbeats 3200000 in
theorem rapply_bad0 (k s m t ck n op y : Nat) (w : World) (hm1 : m < 18446744073709551616) (hm2 : y < 18446744073709551616) (hm : mayM k s m = false) :
    Calls Try.prog 46 #[.agg #[.int .u8 k, .int .u32 s, .int .u64 m, .int .u64 t], .agg #[.int .u8 ck, .int .u64 n, .int .u8 op, .int .u64 y]] w fun x w' => x = .returned (.agg #[.int .u8 k, .int .u32 s, .int .u64 m, .int .u64 t]) ∧ Bl w w' := by
  have CH : Hid (∀ w, Calls Try.prog 77 #[.agg #[.int .u8 k, .int .u32 s, .int .u64 m, .int .u64 t]] w fun x w' => x = .returned (.bool false) ∧ Bl w w') := Lib.hid (fun w => by
    have := rmay_any k s m t w (by omega) (by omega)
    unfold RMayP at this
    rw [hm] at this
    exact this)
  have A0 := Lib.hid (AP.new w 77 k s m t ck n op y)
  clear hm hm1 hm2
  go_enter Try.func46, Try.ntmps46
  go_wp2_with (first
    | (go_at_call 77; refine (CH.out _).mono ?_; rintro e w1 ⟨rfl, h⟩; have A1 := Lib.hid (A0.out.bl h); clear h; obtain ⟨a0, a1, a2, a3, af0, af1, af2, af3⟩ := four_cells A1.out.m; obtain ⟨b0, b1, b2, b3, _, _, _, _⟩ := four_cells A1.out.c; obtain ⟨z0, z1, z2, z3, zf0, zf1, zf2, zf3⟩ := four_cells A1.out.z))
  refine bodyPost_ret (v := .agg #[.int .u8 k, .int .u32 s, .int .u64 m, .int .u64 t]) (by simp [results, Try.results46, go_sem, *]) rfl ⟨rfl, ?_⟩
  exact ap_set (ap_set (ap_set (ap_set A1.out.b 2 _ _) 2 _ _) 2 _ _) 2 _ _

set_option maxRecDepth 100000 in
set_option maxHeartbeats 3200000 in
theorem rapply_off (k s m t ck n op y : Nat) (w : World) (hm1 : m < 18446744073709551616) (hm2 : y < 18446744073709551616) (hm : mayM k s m = true) (hcm : mayC ck n op y = false) :
    Calls Try.prog 46 #[.agg #[.int .u8 k, .int .u32 s, .int .u64 m, .int .u64 t], .agg #[.int .u8 ck, .int .u64 n, .int .u8 op, .int .u64 y]] w fun x w' => x = .returned (.agg #[.int .u8 k, .int .u32 s, .int .u64 m, .int .u64 t]) ∧ Bl w w' := by
  have CH : Hid (∀ w, Calls Try.prog 77 #[.agg #[.int .u8 k, .int .u32 s, .int .u64 m, .int .u64 t]] w fun x w' => x = .returned (.bool true) ∧ Bl w w') := Lib.hid (fun w => by
    have := rmay_any k s m t w (by omega) (by omega)
    unfold RMayP at this
    rw [hm] at this
    exact this)
  have CM : Hid (∀ w, Calls Try.prog 72 #[.agg #[.int .u8 ck, .int .u64 n, .int .u8 op, .int .u64 y]] w fun x w' => x = .returned (.bool false) ∧ Bl w w') := Lib.hid (fun w => by
    have := rmayc_any ck n op y w
    unfold MayP at this
    rw [hcm] at this
    exact this)
  have A0 := Lib.hid (AP.new w 77 k s m t ck n op y)
  clear hm hm1 hm2 hcm
  go_enter Try.func46, Try.ntmps46
  go_wp2_with (first
    | (go_at_call 72; refine (CM.out _).mono ?_; rintro e w2 ⟨rfl, h⟩; have A2 := Lib.hid (A1.out.bl h); clear h; clear a0 a1 a2 a3 af0 af1 af2 af3 b0 b1 b2 b3 z0 z1 z2 z3 zf0 zf1 zf2 zf3; obtain ⟨a0, a1, a2, a3, af0, af1, af2, af3⟩ := four_cells A2.out.m; obtain ⟨b0, b1, b2, b3, _, _, _, _⟩ := four_cells A2.out.c; obtain ⟨z0, z1, z2, z3, zf0, zf1, zf2, zf3⟩ := four_cells A2.out.z)
    | (go_at_call 77; refine (CH.out _).mono ?_; rintro e w1 ⟨rfl, h⟩; have A1 := Lib.hid (A0.out.bl h); clear h; obtain ⟨a0, a1, a2, a3, af0, af1, af2, af3⟩ := four_cells A1.out.m; obtain ⟨b0, b1, b2, b3, _, _, _, _⟩ := four_cells A1.out.c; obtain ⟨z0, z1, z2, z3, zf0, zf1, zf2, zf3⟩ := four_cells A1.out.z))
  refine bodyPost_ret (v := .agg #[.int .u8 k, .int .u32 s, .int .u64 m, .int .u64 t]) (by simp [results, Try.results46, go_sem, *]) rfl ⟨rfl, ?_⟩
  exact ap_set (ap_set (ap_set (ap_set A2.out.b 2 _ _) 2 _ _) 2 _ _) 2 _ _

set_option maxRecDepth 100000 in
set_option maxHeartbeats 3200000 in
theorem rapply_growY (k s m t ck n op y : Nat) (w : World) (hm1 : m < 18446744073709551616) (hm2 : y < 18446744073709551616) (hm : mayM k s m = true) (hcm : mayC ck n op y = true) (hk : k = 1) (hc : ck = 1) (hn : n ≤ 2048) (hs : s < n) :
    Calls Try.prog 46 #[.agg #[.int .u8 k, .int .u32 s, .int .u64 m, .int .u64 t], .agg #[.int .u8 ck, .int .u64 n, .int .u8 op, .int .u64 y]] w fun x w' => x = .returned (.agg #[.int .u8 k, .int .u32 n, .int .u64 m, .int .u64 t]) ∧ Bl w w' := by
  have CH : Hid (∀ w, Calls Try.prog 77 #[.agg #[.int .u8 k, .int .u32 s, .int .u64 m, .int .u64 t]] w fun x w' => x = .returned (.bool true) ∧ Bl w w') := Lib.hid (fun w => by
    have := rmay_any k s m t w (by omega) (by omega)
    unfold RMayP at this
    rw [hm] at this
    exact this)
  have CM : Hid (∀ w, Calls Try.prog 72 #[.agg #[.int .u8 ck, .int .u64 n, .int .u8 op, .int .u64 y]] w fun x w' => x = .returned (.bool true) ∧ Bl w w') := Lib.hid (fun w => by
    have := rmayc_any ck n op y w
    unfold MayP at this
    rw [hcm] at this
    exact this)
  have hu : IntKind.u32.wrap (n : Int) = n := by rw [IntKind.wrap_u32]; omega
  have q0 : ((k : Int) == 1) = true := by rw [beq_iff_eq]; omega
  have q1 : ((ck : Int) == 1) = true := by rw [beq_iff_eq]; omega
  have hlt : decide ((s : Int) < n) = true := decide_eq_true (by omega)
  have hlt2 : decide (s < n) = true := decide_eq_true (by omega)
  have A0 := Lib.hid (AP.new w 77 k s m t ck n op y)
  clear hm hm1 hm2 hcm hk hc hn hs
  go_enter Try.func46, Try.ntmps46
  go_wp2_with (first
    | (go_at_call 72; refine (CM.out _).mono ?_; rintro e w2 ⟨rfl, h⟩; have A2 := Lib.hid (A1.out.bl h); clear h; clear a0 a1 a2 a3 af0 af1 af2 af3 b0 b1 b2 b3 z0 z1 z2 z3 zf0 zf1 zf2 zf3; obtain ⟨a0, a1, a2, a3, af0, af1, af2, af3⟩ := four_cells A2.out.m; obtain ⟨b0, b1, b2, b3, _, _, _, _⟩ := four_cells A2.out.c; obtain ⟨z0, z1, z2, z3, zf0, zf1, zf2, zf3⟩ := four_cells A2.out.z)
    | (go_at_call 77; refine (CH.out _).mono ?_; rintro e w1 ⟨rfl, h⟩; have A1 := Lib.hid (A0.out.bl h); clear h; obtain ⟨a0, a1, a2, a3, af0, af1, af2, af3⟩ := four_cells A1.out.m; obtain ⟨b0, b1, b2, b3, _, _, _, _⟩ := four_cells A1.out.c; obtain ⟨z0, z1, z2, z3, zf0, zf1, zf2, zf3⟩ := four_cells A1.out.z))
  refine bodyPost_ret (v := .agg #[.int .u8 k, .int .u32 n, .int .u64 m, .int .u64 t]) (by simp [results, Try.results46, go_sem, *]) rfl ⟨rfl, ?_⟩
  exact ap_set (ap_set (ap_set (ap_set (ap_set0 A2.out.b _ _) 2 _ _) 2 _ _) 2 _ _) 2 _ _

set_option maxRecDepth 100000 in
set_option maxHeartbeats 3200000 in
theorem rapply_growN (k s m t ck n op y : Nat) (w : World) (hm1 : m < 18446744073709551616) (hm2 : y < 18446744073709551616) (hm : mayM k s m = true) (hcm : mayC ck n op y = true) (hk : k = 1) (hc : ck = 1) (hn : n ≤ 2048) (hs : ¬ s < n) :
    Calls Try.prog 46 #[.agg #[.int .u8 k, .int .u32 s, .int .u64 m, .int .u64 t], .agg #[.int .u8 ck, .int .u64 n, .int .u8 op, .int .u64 y]] w fun x w' => x = .returned (.agg #[.int .u8 k, .int .u32 s, .int .u64 m, .int .u64 t]) ∧ Bl w w' := by
  have CH : Hid (∀ w, Calls Try.prog 77 #[.agg #[.int .u8 k, .int .u32 s, .int .u64 m, .int .u64 t]] w fun x w' => x = .returned (.bool true) ∧ Bl w w') := Lib.hid (fun w => by
    have := rmay_any k s m t w (by omega) (by omega)
    unfold RMayP at this
    rw [hm] at this
    exact this)
  have CM : Hid (∀ w, Calls Try.prog 72 #[.agg #[.int .u8 ck, .int .u64 n, .int .u8 op, .int .u64 y]] w fun x w' => x = .returned (.bool true) ∧ Bl w w') := Lib.hid (fun w => by
    have := rmayc_any ck n op y w
    unfold MayP at this
    rw [hcm] at this
    exact this)
  have hu : IntKind.u32.wrap (n : Int) = n := by rw [IntKind.wrap_u32]; omega
  have q0 : ((k : Int) == 1) = true := by rw [beq_iff_eq]; omega
  have q1 : ((ck : Int) == 1) = true := by rw [beq_iff_eq]; omega
  have hlt : decide ((s : Int) < n) = false := decide_eq_false (by omega)
  have hlt2 : decide (s < n) = false := decide_eq_false (by omega)
  have A0 := Lib.hid (AP.new w 77 k s m t ck n op y)
  clear hm hm1 hm2 hcm hk hc hn hs
  go_enter Try.func46, Try.ntmps46
  go_wp2_with (first
    | (go_at_call 72; refine (CM.out _).mono ?_; rintro e w2 ⟨rfl, h⟩; have A2 := Lib.hid (A1.out.bl h); clear h; clear a0 a1 a2 a3 af0 af1 af2 af3 b0 b1 b2 b3 z0 z1 z2 z3 zf0 zf1 zf2 zf3; obtain ⟨a0, a1, a2, a3, af0, af1, af2, af3⟩ := four_cells A2.out.m; obtain ⟨b0, b1, b2, b3, _, _, _, _⟩ := four_cells A2.out.c; obtain ⟨z0, z1, z2, z3, zf0, zf1, zf2, zf3⟩ := four_cells A2.out.z)
    | (go_at_call 77; refine (CH.out _).mono ?_; rintro e w1 ⟨rfl, h⟩; have A1 := Lib.hid (A0.out.bl h); clear h; obtain ⟨a0, a1, a2, a3, af0, af1, af2, af3⟩ := four_cells A1.out.m; obtain ⟨b0, b1, b2, b3, _, _, _, _⟩ := four_cells A1.out.c; obtain ⟨z0, z1, z2, z3, zf0, zf1, zf2, zf3⟩ := four_cells A1.out.z))
  refine bodyPost_ret (v := .agg #[.int .u8 k, .int .u32 s, .int .u64 m, .int .u64 t]) (by simp [results, Try.results46, go_sem, *]) rfl ⟨rfl, ?_⟩
  exact ap_set (ap_set (ap_set (ap_set A2.out.b 2 _ _) 2 _ _) 2 _ _) 2 _ _

set_option maxRecDepth 100000 in
set_option maxHeartbeats 3200000 in
theorem rapply_growD (k s m t ck n op y : Nat) (w : World) (hm1 : m < 18446744073709551616) (hm2 : y < 18446744073709551616) (hm : mayM k s m = true) (hcm : mayC ck n op y = true) (hk : ¬ k = 1) (hc : ck = 1) (hn : n ≤ 2048) :
    Calls Try.prog 46 #[.agg #[.int .u8 k, .int .u32 s, .int .u64 m, .int .u64 t], .agg #[.int .u8 ck, .int .u64 n, .int .u8 op, .int .u64 y]] w fun x w' => x = .returned (.agg #[.int .u8 k, .int .u32 s, .int .u64 m, .int .u64 t]) ∧ Bl w w' := by
  have CH : Hid (∀ w, Calls Try.prog 77 #[.agg #[.int .u8 k, .int .u32 s, .int .u64 m, .int .u64 t]] w fun x w' => x = .returned (.bool true) ∧ Bl w w') := Lib.hid (fun w => by
    have := rmay_any k s m t w (by omega) (by omega)
    unfold RMayP at this
    rw [hm] at this
    exact this)
  have CM : Hid (∀ w, Calls Try.prog 72 #[.agg #[.int .u8 ck, .int .u64 n, .int .u8 op, .int .u64 y]] w fun x w' => x = .returned (.bool true) ∧ Bl w w') := Lib.hid (fun w => by
    have := rmayc_any ck n op y w
    unfold MayP at this
    rw [hcm] at this
    exact this)
  have hu : IntKind.u32.wrap (n : Int) = n := by rw [IntKind.wrap_u32]; omega
  have q0 : ((k : Int) == 1) = false := by rw [beq_eq_false_iff_ne]; omega
  have q1 : ((ck : Int) == 1) = true := by rw [beq_iff_eq]; omega
  have A0 := Lib.hid (AP.new w 77 k s m t ck n op y)
  clear hm hm1 hm2 hcm hk hc hn
  go_enter Try.func46, Try.ntmps46
  go_wp2_with (first
    | (go_at_call 72; refine (CM.out _).mono ?_; rintro e w2 ⟨rfl, h⟩; have A2 := Lib.hid (A1.out.bl h); clear h; clear a0 a1 a2 a3 af0 af1 af2 af3 b0 b1 b2 b3 z0 z1 z2 z3 zf0 zf1 zf2 zf3; obtain ⟨a0, a1, a2, a3, af0, af1, af2, af3⟩ := four_cells A2.out.m; obtain ⟨b0, b1, b2, b3, _, _, _, _⟩ := four_cells A2.out.c; obtain ⟨z0, z1, z2, z3, zf0, zf1, zf2, zf3⟩ := four_cells A2.out.z)
    | (go_at_call 77; refine (CH.out _).mono ?_; rintro e w1 ⟨rfl, h⟩; have A1 := Lib.hid (A0.out.bl h); clear h; obtain ⟨a0, a1, a2, a3, af0, af1, af2, af3⟩ := four_cells A1.out.m; obtain ⟨b0, b1, b2, b3, _, _, _, _⟩ := four_cells A1.out.c; obtain ⟨z0, z1, z2, z3, zf0, zf1, zf2, zf3⟩ := four_cells A1.out.z))
  refine bodyPost_ret (v := .agg #[.int .u8 k, .int .u32 s, .int .u64 m, .int .u64 t]) (by simp [results, Try.results46, go_sem, *]) rfl ⟨rfl, ?_⟩
  exact ap_set (ap_set (ap_set (ap_set A2.out.b 2 _ _) 2 _ _) 2 _ _) 2 _ _

set_option maxRecDepth 100000 in
set_option maxHeartbeats 3200000 in
theorem rapply_cutF (k s m t ck n op y : Nat) (w : World) (hm1 : m < 18446744073709551616) (hm2 : y < 18446744073709551616) (hm : mayM k s m = true) (hcm : mayC ck n op y = true) (hk : k = 1) (hc : ck = 2) (hn : n ≤ 2048) :
    Calls Try.prog 46 #[.agg #[.int .u8 k, .int .u32 s, .int .u64 m, .int .u64 t], .agg #[.int .u8 ck, .int .u64 n, .int .u8 op, .int .u64 y]] w fun x w' => x = .returned (.agg #[.int .u8 k, .int .u32 n, .int .u64 m, .int .u64 t]) ∧ Bl w w' := by
  have CH : Hid (∀ w, Calls Try.prog 77 #[.agg #[.int .u8 k, .int .u32 s, .int .u64 m, .int .u64 t]] w fun x w' => x = .returned (.bool true) ∧ Bl w w') := Lib.hid (fun w => by
    have := rmay_any k s m t w (by omega) (by omega)
    unfold RMayP at this
    rw [hm] at this
    exact this)
  have CM : Hid (∀ w, Calls Try.prog 72 #[.agg #[.int .u8 ck, .int .u64 n, .int .u8 op, .int .u64 y]] w fun x w' => x = .returned (.bool true) ∧ Bl w w') := Lib.hid (fun w => by
    have := rmayc_any ck n op y w
    unfold MayP at this
    rw [hcm] at this
    exact this)
  have hu : IntKind.u32.wrap (n : Int) = n := by rw [IntKind.wrap_u32]; omega
  have q0 : ((k : Int) == 1) = true := by rw [beq_iff_eq]; omega
  have q1 : ((ck : Int) == 1) = false := by rw [beq_eq_false_iff_ne]; omega
  have q2 : ((ck : Int) == 2) = true := by rw [beq_iff_eq]; omega
  have A0 := Lib.hid (AP.new w 77 k s m t ck n op y)
  clear hm hm1 hm2 hcm hk hc hn
  go_enter Try.func46, Try.ntmps46
  go_wp2_with (first
    | (go_at_call 72; refine (CM.out _).mono ?_; rintro e w2 ⟨rfl, h⟩; have A2 := Lib.hid (A1.out.bl h); clear h; clear a0 a1 a2 a3 af0 af1 af2 af3 b0 b1 b2 b3 z0 z1 z2 z3 zf0 zf1 zf2 zf3; obtain ⟨a0, a1, a2, a3, af0, af1, af2, af3⟩ := four_cells A2.out.m; obtain ⟨b0, b1, b2, b3, _, _, _, _⟩ := four_cells A2.out.c; obtain ⟨z0, z1, z2, z3, zf0, zf1, zf2, zf3⟩ := four_cells A2.out.z)
    | (go_at_call 77; refine (CH.out _).mono ?_; rintro e w1 ⟨rfl, h⟩; have A1 := Lib.hid (A0.out.bl h); clear h; obtain ⟨a0, a1, a2, a3, af0, af1, af2, af3⟩ := four_cells A1.out.m; obtain ⟨b0, b1, b2, b3, _, _, _, _⟩ := four_cells A1.out.c; obtain ⟨z0, z1, z2, z3, zf0, zf1, zf2, zf3⟩ := four_cells A1.out.z))
  refine bodyPost_ret (v := .agg #[.int .u8 k, .int .u32 n, .int .u64 m, .int .u64 t]) (by simp [results, Try.results46, go_sem, *]) rfl ⟨rfl, ?_⟩
  exact ap_set (ap_set (ap_set (ap_set (ap_set0 A2.out.b _ _) 2 _ _) 2 _ _) 2 _ _) 2 _ _

set_option maxRecDepth 100000 in
set_option maxHeartbeats 3200000 in
theorem rapply_cutD (k s m t ck n op y : Nat) (w : World) (hm1 : m < 18446744073709551616) (hm2 : y < 18446744073709551616) (hm : mayM k s m = true) (hcm : mayC ck n op y = true) (hk : ¬ k = 1) (hc : ck = 2) (hn : n ≤ 2048) :
    Calls Try.prog 46 #[.agg #[.int .u8 k, .int .u32 s, .int .u64 m, .int .u64 t], .agg #[.int .u8 ck, .int .u64 n, .int .u8 op, .int .u64 y]] w fun x w' => x = .returned (.agg #[.int .u8 k, .int .u32 s, .int .u64 m, .int .u64 t]) ∧ Bl w w' := by
  have CH : Hid (∀ w, Calls Try.prog 77 #[.agg #[.int .u8 k, .int .u32 s, .int .u64 m, .int .u64 t]] w fun x w' => x = .returned (.bool true) ∧ Bl w w') := Lib.hid (fun w => by
    have := rmay_any k s m t w (by omega) (by omega)
    unfold RMayP at this
    rw [hm] at this
    exact this)
  have CM : Hid (∀ w, Calls Try.prog 72 #[.agg #[.int .u8 ck, .int .u64 n, .int .u8 op, .int .u64 y]] w fun x w' => x = .returned (.bool true) ∧ Bl w w') := Lib.hid (fun w => by
    have := rmayc_any ck n op y w
    unfold MayP at this
    rw [hcm] at this
    exact this)
  have hu : IntKind.u32.wrap (n : Int) = n := by rw [IntKind.wrap_u32]; omega
  have q0 : ((k : Int) == 1) = false := by rw [beq_eq_false_iff_ne]; omega
  have q1 : ((ck : Int) == 1) = false := by rw [beq_eq_false_iff_ne]; omega
  have q2 : ((ck : Int) == 2) = true := by rw [beq_iff_eq]; omega
  have A0 := Lib.hid (AP.new w 77 k s m t ck n op y)
  clear hm hm1 hm2 hcm hk hc hn
  go_enter Try.func46, Try.ntmps46
  go_wp2_with (first
    | (go_at_call 72; refine (CM.out _).mono ?_; rintro e w2 ⟨rfl, h⟩; have A2 := Lib.hid (A1.out.bl h); clear h; clear a0 a1 a2 a3 af0 af1 af2 af3 b0 b1 b2 b3 z0 z1 z2 z3 zf0 zf1 zf2 zf3; obtain ⟨a0, a1, a2, a3, af0, af1, af2, af3⟩ := four_cells A2.out.m; obtain ⟨b0, b1, b2, b3, _, _, _, _⟩ := four_cells A2.out.c; obtain ⟨z0, z1, z2, z3, zf0, zf1, zf2, zf3⟩ := four_cells A2.out.z)
    | (go_at_call 77; refine (CH.out _).mono ?_; rintro e w1 ⟨rfl, h⟩; have A1 := Lib.hid (A0.out.bl h); clear h; obtain ⟨a0, a1, a2, a3, af0, af1, af2, af3⟩ := four_cells A1.out.m; obtain ⟨b0, b1, b2, b3, _, _, _, _⟩ := four_cells A1.out.c; obtain ⟨z0, z1, z2, z3, zf0, zf1, zf2, zf3⟩ := four_cells A1.out.z))
  refine bodyPost_ret (v := .agg #[.int .u8 k, .int .u32 s, .int .u64 m, .int .u64 t]) (by simp [results, Try.results46, go_sem, *]) rfl ⟨rfl, ?_⟩
  exact ap_set (ap_set (ap_set (ap_set A2.out.b 2 _ _) 2 _ _) 2 _ _) 2 _ _

set_option maxRecDepth 100000 in
set_option maxHeartbeats 3200000 in
theorem rapply_mark (k s m t ck n op y : Nat) (w : World) (hm1 : m < 18446744073709551616) (hm2 : y < 18446744073709551616) (hm : mayM k s m = true) (hcm : mayC ck n op y = true) (hc : ck = 3) :
    Calls Try.prog 46 #[.agg #[.int .u8 k, .int .u32 s, .int .u64 m, .int .u64 t], .agg #[.int .u8 ck, .int .u64 n, .int .u8 op, .int .u64 y]] w fun x w' => x = .returned (.agg #[.int .u8 k, .int .u32 s, .int .u64 (stepI m op y), .int .u64 t]) ∧ Bl w w' := by
  have CH : Hid (∀ w, Calls Try.prog 77 #[.agg #[.int .u8 k, .int .u32 s, .int .u64 m, .int .u64 t]] w fun x w' => x = .returned (.bool true) ∧ Bl w w') := Lib.hid (fun w => by
    have := rmay_any k s m t w (by omega) (by omega)
    unfold RMayP at this
    rw [hm] at this
    exact this)
  have CM : Hid (∀ w, Calls Try.prog 72 #[.agg #[.int .u8 ck, .int .u64 n, .int .u8 op, .int .u64 y]] w fun x w' => x = .returned (.bool true) ∧ Bl w w') := Lib.hid (fun w => by
    have := rmayc_any ck n op y w
    unfold MayP at this
    rw [hcm] at this
    exact this)
  have CN : Hid (∀ w, Calls Try.prog 78 #[.int .u64 m, .int .u8 op, .int .u64 y] w fun x w' => x = .returned (.tuple #[.int .u64 (stepI m op y), .int .i64 (stepE op)]) ∧ Bl w w') := Lib.hid (fun w => rapply_any m op y w (by omega) (by omega) (by omega) (by omega))
  have hu : True := trivial
  have q0 : ((ck : Int) == 1) = false := by rw [beq_eq_false_iff_ne]; omega
  have q1 : ((ck : Int) == 2) = false := by rw [beq_eq_false_iff_ne]; omega
  have q2 : ((ck : Int) == 3) = true := by rw [beq_iff_eq]; omega
  have A0 := Lib.hid (AP.new w 77 k s m t ck n op y)
  clear hm hm1 hm2 hcm hc
  go_enter Try.func46, Try.ntmps46
  go_wp2_with (first
    | (go_at_call 78; refine (CN.out _).mono ?_; rintro e w3 ⟨rfl, h⟩; have A3 := Lib.hid (A2.out.bl h); clear h; clear a0 a1 a2 a3 af0 af1 af2 af3 b0 b1 b2 b3 z0 z1 z2 z3 zf0 zf1 zf2 zf3; obtain ⟨a0, a1, a2, a3, af0, af1, af2, af3⟩ := four_cells A3.out.m; obtain ⟨b0, b1, b2, b3, _, _, _, _⟩ := four_cells A3.out.c; obtain ⟨z0, z1, z2, z3, zf0, zf1, zf2, zf3⟩ := four_cells A3.out.z)
    | (go_at_call 72; refine (CM.out _).mono ?_; rintro e w2 ⟨rfl, h⟩; have A2 := Lib.hid (A1.out.bl h); clear h; clear a0 a1 a2 a3 af0 af1 af2 af3 b0 b1 b2 b3 z0 z1 z2 z3 zf0 zf1 zf2 zf3; obtain ⟨a0, a1, a2, a3, af0, af1, af2, af3⟩ := four_cells A2.out.m; obtain ⟨b0, b1, b2, b3, _, _, _, _⟩ := four_cells A2.out.c; obtain ⟨z0, z1, z2, z3, zf0, zf1, zf2, zf3⟩ := four_cells A2.out.z)
    | (go_at_call 77; refine (CH.out _).mono ?_; rintro e w1 ⟨rfl, h⟩; have A1 := Lib.hid (A0.out.bl h); clear h; obtain ⟨a0, a1, a2, a3, af0, af1, af2, af3⟩ := four_cells A1.out.m; obtain ⟨b0, b1, b2, b3, _, _, _, _⟩ := four_cells A1.out.c; obtain ⟨z0, z1, z2, z3, zf0, zf1, zf2, zf3⟩ := four_cells A1.out.z))
  refine bodyPost_ret (v := .agg #[.int .u8 k, .int .u32 s, .int .u64 (stepI m op y), .int .u64 t]) (by simp [results, Try.results46, go_sem, *]) rfl ⟨rfl, ?_⟩
  exact ap_set (ap_set (ap_set (ap_set (ap_set0 A3.out.b _ _) 2 _ _) 2 _ _) 2 _ _) 2 _ _

set_option maxRecDepth 100000 in
set_option maxHeartbeats 3200000 in
theorem rapply_stamp (k s m t ck n op y : Nat) (w : World) (hm1 : m < 18446744073709551616) (hm2 : y < 18446744073709551616) (hm : mayM k s m = true) (hcm : mayC ck n op y = true) (hc : ck = 4) :
    Calls Try.prog 46 #[.agg #[.int .u8 k, .int .u32 s, .int .u64 m, .int .u64 t], .agg #[.int .u8 ck, .int .u64 n, .int .u8 op, .int .u64 y]] w fun x w' => x = .returned (.agg #[.int .u8 k, .int .u32 s, .int .u64 m, .int .u64 n]) ∧ Bl w w' := by
  have CH : Hid (∀ w, Calls Try.prog 77 #[.agg #[.int .u8 k, .int .u32 s, .int .u64 m, .int .u64 t]] w fun x w' => x = .returned (.bool true) ∧ Bl w w') := Lib.hid (fun w => by
    have := rmay_any k s m t w (by omega) (by omega)
    unfold RMayP at this
    rw [hm] at this
    exact this)
  have CM : Hid (∀ w, Calls Try.prog 72 #[.agg #[.int .u8 ck, .int .u64 n, .int .u8 op, .int .u64 y]] w fun x w' => x = .returned (.bool true) ∧ Bl w w') := Lib.hid (fun w => by
    have := rmayc_any ck n op y w
    unfold MayP at this
    rw [hcm] at this
    exact this)
  have q0 : ((ck : Int) == 1) = false := by rw [beq_eq_false_iff_ne]; omega
  have q1 : ((ck : Int) == 2) = false := by rw [beq_eq_false_iff_ne]; omega
  have q2 : ((ck : Int) == 3) = false := by rw [beq_eq_false_iff_ne]; omega
  have q3 : ((ck : Int) == 4) = true := by rw [beq_iff_eq]; omega
  have A0 := Lib.hid (AP.new w 77 k s m t ck n op y)
  clear hm hm1 hm2 hcm hc
  go_enter Try.func46, Try.ntmps46
  go_wp2_with (first
    | (go_at_call 72; refine (CM.out _).mono ?_; rintro e w2 ⟨rfl, h⟩; have A2 := Lib.hid (A1.out.bl h); clear h; clear a0 a1 a2 a3 af0 af1 af2 af3 b0 b1 b2 b3 z0 z1 z2 z3 zf0 zf1 zf2 zf3; obtain ⟨a0, a1, a2, a3, af0, af1, af2, af3⟩ := four_cells A2.out.m; obtain ⟨b0, b1, b2, b3, _, _, _, _⟩ := four_cells A2.out.c; obtain ⟨z0, z1, z2, z3, zf0, zf1, zf2, zf3⟩ := four_cells A2.out.z)
    | (go_at_call 77; refine (CH.out _).mono ?_; rintro e w1 ⟨rfl, h⟩; have A1 := Lib.hid (A0.out.bl h); clear h; obtain ⟨a0, a1, a2, a3, af0, af1, af2, af3⟩ := four_cells A1.out.m; obtain ⟨b0, b1, b2, b3, _, _, _, _⟩ := four_cells A1.out.c; obtain ⟨z0, z1, z2, z3, zf0, zf1, zf2, zf3⟩ := four_cells A1.out.z))
  refine bodyPost_ret (v := .agg #[.int .u8 k, .int .u32 s, .int .u64 m, .int .u64 n]) (by simp [results, Try.results46, go_sem, *]) rfl ⟨rfl, ?_⟩
  exact ap_set (ap_set (ap_set (ap_set (ap_set0 A2.out.b _ _) 2 _ _) 2 _ _) 2 _ _) 2 _ _

end Go.Proofs.Ytniblmpihnhglaa

