/- append of strings that are read; slices.Concat of two slices of strings. -/
import Derived.Test.YthafpbidfgmacaaDoorT3
import Derived.Deep.AppendLies
import Derived.Maps.AppendAt
import Derived.Shelf.Spec.SlicesGrow
import Derived.Ground.Names8Prog
namespace Go.Proofs
open Go.Shelf
def Tryd.growS_ren : Go.Shelf.Ren := ⟨fun | 4 => 93 | n => n, fun | 22 => 30 | 25 => 9 | 3 => 3 | 4 => 4 | 9 => 9 | 20 => 20 | 0 => 0 | n => n, fun | n => n⟩
theorem Tryd.growS : Go.Proofs.Lays8.n4 Tryd.prog Tryd.growS_ren := {
  mixed := by kernel_rfl
  f4 := ⟨Tryd.f93.name, by decide, Tryd.func93.trans (congrArg some (by kernel_rfl))⟩
  t0 := Tryd.underlying0
  a0 := Tryd.isAgg0
  z0 := Tryd.sizeOf0
  v0 := Tryd.zeroValue0
  t3 := Tryd.underlying3
  a3 := Tryd.isAgg3
  z3 := Tryd.sizeOf3
  v3 := Tryd.zeroValue3
  t4 := Tryd.underlying4
  a4 := Tryd.isAgg4
  z4 := Tryd.sizeOf4
  v4 := Tryd.zeroValue4
  t9 := Tryd.underlying9
  a9 := Tryd.isAgg9
  z9 := Tryd.sizeOf9
  v9 := Tryd.zeroValue9
  t20 := Tryd.underlying20
  a20 := Tryd.isAgg20
  z20 := Tryd.sizeOf20
  v20 := Tryd.zeroValue20
  t22 := Tryd.underlying30
  a22 := Tryd.isAgg30
  z22 := Tryd.sizeOf30
  v22 := Tryd.zeroValue30 }
end Go.Proofs
namespace Go.Proofs.YthafpbidfgmacaaDoor
open Go.RowKit Go.Proofs.YthafpbidfgmacaaDoorW.PrintWords Go.Proofs.YthafpbidfgmacaaDoorW.PrintLast Go.Proofs.YthafpbidfgmacaaDoorW.PrintMore
set_option linter.unusedVariables false
set_option linter.unusedSimpArgs false

set_option maxRecDepth 100000 in
theorem run_append_strs (W : World) (base : Nat) (ty : TypeId) (v : Value) (xs : List ByteArray) (HO : W.ownsRow base 9 1 v xs.length (encs Value.string xs)) (A : Option Addr) (m c : Nat) (ys : List ByteArray) (HR : Kd.C Kd.string W A m ys)
    (hl : (xs.length + m) * 16 ≤ 140737488355328) (hbase : base ≤ W.heap.size) :
    ∃ v1 w1, (Builtin.append_ #[30, 30] ty #[v, .slice A m c]).run Tryd.prog W = .ok v1 w1 ∧ w1.ownsRow base 9 1 v1 (xs ++ ys).length (encs Value.string (xs ++ ys)) ∧ W.grownBy w1 v.ownBlock ∧ (v1.ownBlock = v.ownBlock ∨ v1.ownBlock = some W.heap.size) := by
  obtain ⟨i0, hi, hzz⟩ := Option.map_eq_some_iff.1 info9
  simp only [Prod.mk.injEq] at hzz
  obtain ⟨hz0, hz1, hz2⟩ := hzz
  have hR : ReadsOf Value.string ByteArray.empty W A m ys := Kd.reads_of_C HR
  have hm : ys.length = m := hR.1
  rcases A with _ | ad
  · have h0 : m = 0 := by
      rcases Nat.eq_zero_or_pos m with h0 | h0
      · exact h0
      · obtain ⟨ad, h, _⟩ := hR.2.2 h0
        cases h
    subst h0
    obtain rfl : ys = [] := List.eq_nil_of_length_eq_zero hm
    refine ⟨v, W, ?_, by simpa using HO, World.grownBy.refl W _, .inl rfl⟩
    rcases HO.2 with ⟨rfl, hn⟩ | ⟨g, cap, cur, rfl, _, _, hnc, _⟩
    · simp [Builtin.append_, run_underlying Tryd.underlying30, sizeOf, typeInfo, hi, Builtin.lenOf, Builtin.firstCells]
    · simp [Builtin.append_, run_underlying Tryd.underlying30, sizeOf, typeInfo, hi, Builtin.lenOf, Builtin.firstCells, hnc, storeCells]
  · have hcells : ∀ j u, (encs Value.string ys)[j]? = some u → W.cell? (ad.add j) = some u := by
      intro j u hu
      have hj : j < ys.length := by
        rcases Nat.lt_or_ge j ys.length with h | h
        · exact h
        · simp [encs, List.getElem?_eq_none h] at hu
      obtain ⟨ad', h', hc⟩ := hR.2.2 (by omega)
      injection h' with h'
      subst h'
      have := hc j (by omega)
      simp [encs, List.getElem?_eq_getElem hj] at hu
      subst hu
      rw [this]
      simp [List.getD_eq_getElem?_getD, List.getElem?_eq_getElem hj]
    obtain ⟨v1, w1, hr, h2, h3, _, h5⟩ := run_append_own_at (P := Tryd.prog) W base 30 ty 9 i0 (.string ByteArray.empty) 1 16 Tryd.underlying30 hi hz0 hz1 hz2 rfl (by omega) v xs.length (encs Value.string xs) HO ad m c (encs Value.string ys) (by simp [encs, hm]) hcells
      (by intro u hu; simp only [encs, List.mem_map] at hu; obtain ⟨q, _, rfl⟩ := hu; rfl) (by simp only [maxLen]; omega) hl hbase
    exact ⟨v1, w1, hr, by simpa [encs, hm] using h2, h3, h5⟩
section
variable {ops : Array Oper} {rest : List Oper} {o : Oper} {a : Act} {K : Act → World → Prop} {Q : Exit → Act → World → Prop} {E : Prop}
theorem step_append_strs (W : World) (hgd : o.guard = none) (s x : Operand) (ho : o.op = .call { callee := .builtin .append, args := #[s, x], argTypes := #[30, 30] }) (base : Nat) (v : Value) (xs : List ByteArray) (hs : a.eval s = v)
    (HO : W.ownsRow base 9 1 v xs.length (encs Value.string xs)) (A : Option Addr) (m c : Nat) (ys : List ByteArray) (hx : a.eval x = .slice A m c) (HR : Kd.C Kd.string W A m ys)
    (hl : (xs.length + m) * 16 ≤ 140737488355328) (hbase : base ≤ W.heap.size)
    (h : ∀ v1 w1, w1.ownsRow base 9 1 v1 (xs ++ ys).length (encs Value.string (xs ++ ys)) → W.grownBy w1 v.ownBlock → (v1.ownBlock = v.ownBlock ∨ v1.ownBlock = some W.heap.size) → K (a.put o.dst v1) w1) :
    if Region.wanted o (yielded ops a.tmps) = true then Oper.wp Tryd.prog o a W K Q else E := by
  have hw : Region.wanted o (yielded ops a.tmps) = true := by simp [Region.wanted, hgd]
  rw [if_pos hw]
  obtain ⟨v1, w1, hr, h2, h3, h5⟩ := run_append_strs W base o.type v xs HO A m c ys HR hl hbase
  unfold Oper.wp execOp
  simp only [ho, resolve, invoke, builtin, Sem.run_bind, Sem.run_pure, Result.andThen_ok, List.map_toArray, List.map_cons, List.map_nil, hs, hx, hr]
  exact h v1 w1 h2 h3 h5
theorem list_append_strs (W : World) (hgd : o.guard = none) (s x : Operand) (ho : o.op = .call { callee := .builtin .append, args := #[s, x], argTypes := #[30, 30] }) (base : Nat) (v : Value) (xs : List ByteArray) (hs : a.eval s = v)
    (HO : W.ownsRow base 9 1 v xs.length (encs Value.string xs)) (A : Option Addr) (m c : Nat) (ys : List ByteArray) (hx : a.eval x = .slice A m c) (HR : Kd.C Kd.string W A m ys)
    (hl : (xs.length + m) * 16 ≤ 140737488355328) (hbase : base ≤ W.heap.size)
    (h : ∀ v1 w1, w1.ownsRow base 9 1 v1 (xs ++ ys).length (encs Value.string (xs ++ ys)) → W.grownBy w1 v.ownBlock → (v1.ownBlock = v.ownBlock ∨ v1.ownBlock = some W.heap.size) → wpList Tryd.prog ops Q rest (a.put o.dst v1) w1) :
    wpList Tryd.prog ops Q (o :: rest) a W := by
  obtain ⟨v1, w1, hr, h2, h3, h5⟩ := run_append_strs W base o.type v xs HO A m c ys HR hl hbase
  refine wpList_plain hgd fun K hK => ?_
  unfold Oper.wp execOp
  simp only [ho, resolve, invoke, builtin, Sem.run_bind, Sem.run_pure, Result.andThen_ok, List.map_toArray, List.map_cons, List.map_nil, hs, hx, hr]
  exact hK _ _ (h v1 w1 h2 h3 h5)
end

theorem c_take {w : World} {A : Option Addr} {n m : Nat} {l : List ByteArray} (h : Kd.C Kd.string w A n l) (hm : m ≤ n) : Kd.C Kd.string w A m (l.take m) := by
  have h2 : ReadsOf Value.string ByteArray.empty w A n l := Kd.reads_of_C h
  refine Kd.C_of_reads (d := ByteArray.empty) (h1 := fun _ => rfl) ⟨by rw [List.length_take]; have := h2.1; omega, by have := h2.2.1; omega, fun hn => ?_⟩
  obtain ⟨ad, e, hc⟩ := h2.2.2 (by omega)
  refine ⟨ad, e, fun j hj => ?_⟩
  rw [hc j (by omega), List.getD_eq_getElem?_getD, List.getD_eq_getElem?_getD, List.getElem?_take, if_pos hj]

/-- A row of the call's own, of strings; what lay below stands. -/
def OwnS (w : World) (v : Value) (l : List ByteArray) (W : World) : Prop := W.ownsRow w.heap.size 9 1 v l.length (encs Value.string l) ∧ Below w.heap.size w W
theorem OwnS.nil (w W : World) (h : Below w.heap.size w W) : OwnS w (.slice none 0 0) [] W := ⟨own_nil _ _ _ _, h⟩
theorem OwnS.drew {w W : World} {v : Value} {l : List ByteArray} (h : OwnS w v l W) : OwnS w v l W.drew := ⟨h.1.drew, below_drew h.2⟩
theorem OwnS.step {w W w1 : World} {v v1 : Value} {l l1 : List ByteArray} (h : OwnS w v l W) (h1 : w1.ownsRow w.heap.size 9 1 v1 l1.length (encs Value.string l1)) (hg : W.grownBy w1 v.ownBlock) : OwnS w v1 l1 w1 :=
  ⟨h1, pw_below_grown h.2 _ h.2.size hg (own_base h.1)⟩
/-- The cells of a block of two slices. -/
theorem two_cells {w W : World} {g : Nat} {a b : Value} (hg : w.heap[g]? = some (.cells #[a, b] 30 (0, 0))) (hb : Below w.heap.size w W) : W.cell? ⟨g, 0, none⟩ = some a ∧ W.cell? ⟨g, 1, none⟩ = some b := by
  have hlt : g < w.heap.size := (Array.getElem?_eq_some_iff.1 hg).1
  have h2 : W.heap[g]? = some (.cells #[a, b] 30 (0, 0)) := (hb.block g hlt).trans hg
  exact ⟨by rw [cell_of_row W g 0 _ _ _ h2]; rfl, by rw [cell_of_row W g 1 _ _ _ h2]; rfl⟩
theorem own_empty (W : World) (base : Nat) (arr : Array Value) (cap : Nat) (hb : base ≤ W.heap.size) (hs : arr.size = cap) (hc : cap ≤ maxLen) : (W.alloc (.cells arr 9)).ownsRow base 9 1 (.slice (some ⟨W.heap.size, 0, none⟩) 0 cap) 0 [] := by
  refine ⟨by simp, .inr ⟨W.heap.size, cap, arr, rfl, hb, ?_, Nat.zero_le _, hc, by omega, by simp⟩⟩
  show (W.heap.push _)[W.heap.size]? = _
  simp
theorem grow_nil (n : Nat) (w : World) (hn : n * 16 ≤ 140737488355328) :
    Calls Tryd.prog 93 #[.slice none 0 0, .int .i64 n] w fun e w' => ∃ v, e = .returned v ∧ OwnS w v [] w' := by
  obtain ⟨i0, hi, hzz⟩ := Option.map_eq_some_iff.1 info9
  simp only [Prod.mk.injEq] at hzz
  obtain ⟨hz0, hz1, hz2⟩ := hzz
  by_cases h0 : n = 0
  · subst h0
    exact (Any8.slices_Grow_room Tryd.growS none 0 0 0 w (by omega) (by omega) (by omega) (by omega)).mono fun e w' ⟨he, hw⟩ => ⟨_, he, by rw [hw]; exact OwnS.nil w w (Below.refl _ _)⟩
  · refine (Any8.slices_Grow_grow Tryd.growS i0 (.string ByteArray.empty) hi hz0 (by omega) none 0 0 n [] w (by omega) (by omega) (by rw [hz2]; omega) (by omega) (by simp) (fun _ => rfl) (fun a h => by cases h)).mono ?_
    rintro e w' ⟨rfl, rfl⟩
    refine ⟨_, rfl, own_empty w.drew w.heap.size _ _ (Nat.le_refl _) ?_ (grownCap_le_maxLen w (0 + n) 0 _ (by unfold maxLen; omega)), below_alloc (below_drew (Below.refl _ _)) _⟩
    have := grownCap_ge w (0 + n) 0 (Tryd.growS_ren.t 25)
    have z : ∀ k, (Builtin.zeroCells (Value.string ByteArray.empty).cells k).size = k := fun k => by simp [Builtin.zeroCells, Value.cells]
    rw [Array.size_append, Array.size_append, z, z]
    rw [Nat.zero_add] at this ⊢
    simp
    omega

theorem grow_nil' (n : Nat) (x : Int) (hx : x = n) (w : World) (hn : n * 16 ≤ 140737488355328) :
    Calls Tryd.prog 93 #[.slice none 0 0, .int .i64 x] w fun e w' => ∃ v, e = .returned v ∧ OwnS w v [] w' := by
  rw [hx]
  exact grow_nil n w hn
/-- The sum of the first k lengths; the first k lists joined. -/
def sumL (m n k : Nat) : Nat := if k = 0 then 0 else if k = 1 then m else m + n
def preL (a b : List ByteArray) (k : Nat) : List ByteArray := if k = 0 then [] else if k = 1 then a else a ++ b
set_option maxHeartbeats 4000000 in
theorem concat_two (g : Nat) (A0 : Option Addr) (c0 : Nat) (l0 : List ByteArray) (A1 : Option Addr) (c1 : Nat) (l1 : List ByteArray) (w : World)
    (hg : w.heap[g]? = some (.cells #[.slice A0 l0.length c0, .slice A1 l1.length c1] 30 (0, 0))) (h0 : Kd.C Kd.string w A0 l0.length l0) (h1 : Kd.C Kd.string w A1 l1.length l1) (hsz : (l0.length + l1.length) * 16 ≤ 140737488355328) :
    Calls Tryd.prog 67 #[.slice (some ⟨g, 0, none⟩) 2 2] w fun e w' => ∃ v, e = .returned v ∧ OwnS w v (l0 ++ l1) w' := by
  have HG := Lib.hid (fun (W : World) (hb : Below w.heap.size w W) => two_cells hg hb)
  have H0 := Lib.hid (fun (W : World) (hb : Below w.heap.size w W) => Kd.C_below h0 hb)
  have H1 := Lib.hid (fun (W : World) (hb : Below w.heap.size w W) => Kd.C_below h1 hb)
  have hlim : l0.length + l1.length ≤ 8796093022208 := by omega
  have hl0 : l0.length ≤ 8796093022208 := by omega
  have HZ := Lib.hid hsz
  obtain ⟨m, hm⟩ : ∃ m, m = l0.length := ⟨_, rfl⟩
  obtain ⟨n, hn⟩ : ∃ n, n = l1.length := ⟨_, rfl⟩
  rw [← hm, ← hn] at hlim HG HZ
  rw [← hm] at hl0 H0
  rw [← hn] at H1
  have HM := Lib.hid hm
  have HN := Lib.hid hn
  clear hg h0 h1 hsz hm hn
  go_enter Tryd.func67, Tryd.ntmps67
  go_wp2
  have hw := HG.out w (Below.refl _ _)
  obtain ⟨hw0, hw1⟩ := hw
  go_loop [3, 11] (fun s i => ∃ k : Nat, k ≤ 2 ∧ i = .int .i64 k ∧ s = .int .i64 ((sumL m n k : Nat) : Int)) (fun _ i => 2 - (intOf i).toNat)
  case atStart => exact ⟨0, by omega, rfl, rfl⟩
  case round =>
    obtain ⟨k, hk, rfl, rfl⟩ := hrel
    rcases (by omega : k = 0 ∨ k = 1 ∨ k = 2) with rfl | rfl | rfl
    · simp only [sumL]
      go_wp2
      go_round
      case rel => exact ⟨1, by omega, by go_num, by simp [sumL]⟩
      case measure => simp [intOf]
    · simp only [sumL]
      go_wp2
      go_round
      case rel => exact ⟨2, by omega, by go_num, by simp [sumL]⟩
      case measure => simp [intOf]
    · simp only [sumL]
      have hgr := Lib.hid (fun w => grow_nil' (m + n) (↑m + ↑n) (by omega) w HZ.out)
      go_wp2_with (go_at_call 93; refine (hgr.out _).mono ?_; rintro e w1 ⟨v, rfl, ho⟩)
      have HO : Hid (OwnS w v (preL l0 l1 0) w1) := Lib.hid ho
      clear ho hw0 hw1 hgr
      go_loopw [6, 27] (fun v i wr => ∃ k : Nat, k ≤ 2 ∧ i = .int .i64 k ∧ Hid (OwnS w v (preL l0 l1 k) wr)) (fun _ i _ => 2 - (intOf i).toNat)
      case atStart => exact ⟨0, by omega, rfl, HO⟩
      case round =>
        clear HO
        obtain ⟨k, hk, rfl, HO⟩ := hrel
        obtain ⟨hw0, hw1⟩ := HG.out _ HO.out.2
        rcases (by omega : k = 0 ∨ k = 1 ∨ k = 2) with rfl | rfl | rfl
        · have HS : Hid (((preL l0 l1 0).length + m) * 16 ≤ 140737488355328) := Lib.hid (by have := HZ.out; simp [preL]; omega)
          go_wp2_with (at_builtin; refine list_append_strs _ rfl _ _ rfl w.heap.size _ (preL l0 l1 0) rfl HO.out.1 A0 m c0 l0 rfl (H0.out _ HO.out.2) HS.out HO.out.2.size ?_; intro v1 w2 hown hgrow hat)
          have HP : Hid (OwnS w v1 (preL l0 l1 1) w2) := Lib.hid (HO.out.step hown hgrow)
          clear hown hgrow hat hw0 hw1
          go_wp2
          go_roundw
          case rel => exact ⟨1, by omega, by go_num, HP⟩
          case measure => simp [intOf]
        · have HS : Hid (((preL l0 l1 1).length + n) * 16 ≤ 140737488355328) := Lib.hid (by have := HZ.out; have := HM.out; simp [preL]; omega)
          go_wp2_with (at_builtin; refine list_append_strs _ rfl _ _ rfl w.heap.size _ (preL l0 l1 1) rfl HO.out.1 A1 n c1 l1 rfl (H1.out _ HO.out.2) HS.out HO.out.2.size ?_; intro v1 w2 hown hgrow hat)
          have HP : Hid (OwnS w v1 (preL l0 l1 2) w2) := Lib.hid (HO.out.step hown hgrow)
          clear hown hgrow hat hw0 hw1
          go_wp2
          go_roundw
          case rel => exact ⟨2, by omega, by go_num, HP⟩
          case measure => simp [intOf]
        · go_wp2
          go_ret
          exact ⟨_, rfl, HO.out⟩
end Go.Proofs.YthafpbidfgmacaaDoor
