/- Texts put together by merge.py: T4,T5,T6,T7,T8. -/
import Derived.Test.YthafpbidfgmacaaDoorTA
import Derived.Deep.MidRow
import Derived.Deep.Upon
import Derived.Deep.AppendLies
import Derived.Maps.AppendAt
import Derived.Shelf.Spec.SlicesGrow
import Derived.Ground.Names8Prog
/- The walks of a table's functions: Clear. -/
namespace Go.Proofs.YthafpbidfgmacaaDoor.Hd
open Go.RowKit Go.Proofs.YthafpbidfgmacaaDoor Go.Proofs.YthafpbidfgmacaaDoorW.PrintWords Go.Proofs.YthafpbidfgmacaaDoorW.PrintLast Go.Proofs.YthafpbidfgmacaaDoorW.PrintMore
set_option linter.unusedVariables false
set_option linter.unusedSimpArgs false

theorem info87 : (Tryd.prog.info? 87).map (·.size) = some 9 := by kernel_rfl
def setsA : Array Value → Nat → List Value → Array Value
  | a, _, [] => a
  | a, o, v :: vs => setsA (a.setIfInBounds o v) (o + 1) vs
theorem setCells_heap (t : Nat) (ty : TypeId) : ∀ (vs : List Value) (o : Nat) (w : World) (cs : Array Value), w.heap[t]? = some (.cells cs ty (0, 0)) → (w.setCells t o vs).heap[t]? = some (.cells (setsA cs o vs) ty (0, 0))
  | [], _, _, _, h => h
  | v :: vs, o, w, cs, h => setCells_heap t ty vs (o + 1) _ _ (heap_setCell_row w t o cs ty v h)
theorem setsA_list : ∀ (vs : List Value) (o : Nat) (a : Array Value), o + vs.length ≤ a.size → (setsA a o vs).toList = a.toList.take o ++ vs ++ a.toList.drop (o + vs.length)
  | [], o, a, h => by simp [setsA]
  | v :: vs, o, a, h => by
    simp only [List.length_cons] at h
    rw [setsA, setsA_list vs (o + 1) _ (by rw [Array.size_setIfInBounds]; omega), Array.toList_setIfInBounds]
    have hl : o < a.toList.length := by rw [Array.length_toList]; omega
    rw [List.take_succ_eq_append_getElem (by rw [List.length_set]; exact hl), List.getElem_set_self, List.take_set_of_le (Nat.le_refl _), List.drop_set_of_lt (by omega), List.length_cons]
    simp only [List.append_assoc, List.singleton_append, List.cons_append, List.nil_append]
    rw [show o + 1 + vs.length = o + (vs.length + 1) from by omega]
theorem nine_set (w : World) (t : Nat) (a b : Array Value) (ty : TypeId) (h : w.heap[t]? = some (.cells a ty (0, 0))) (hb : b.size = a.size) : (w.setCells t 0 b.toList).heap[t]? = some (.cells b ty (0, 0)) := by
  rw [setCells_heap t ty _ 0 w a h]
  have e : setsA a 0 b.toList = b := by
    apply Array.toList_inj.1
    rw [setsA_list b.toList 0 a (by rw [Array.length_toList]; omega), List.take_zero, List.drop_of_length_le (by rw [Array.length_toList, Array.length_toList]; omega)]
    simp
  rw [e]
theorem size_alloc (w : World) (o : Obj) : (w.alloc o).heap.size = w.heap.size + 1 := by simp
theorem setCells_facts (t : Nat) : ∀ (l : List Value) (o : Nat) (W : World), (W.setCells t o l).heap.size = W.heap.size ∧ (W.setCells t o l).os = W.os ∧ (W.setCells t o l).tape = W.tape ∧ (W.setCells t o l).output = W.output
  | [], o, W => ⟨rfl, rfl, rfl, rfl⟩
  | x :: r, o, W => by
    obtain ⟨h1, h2, h3, h4⟩ := setCells_facts t r (o + 1) (W.setCell ⟨t, o, none⟩ x)
    rw [World.setCells]
    exact ⟨h1.trans (by simp [World.setCell]), h2.trans rfl, h3.trans rfl, h4.trans rfl⟩
theorem tab_wiped {B : Nat} {w W : World} {t : Nat} {st : St} {F : Nat → Prop} {vs : List Value} (h : TabV B w t true st F vs) (v : Value) (O : Obj)
    (hz : W.heap.size = w.heap.size) (h2 : W.os = w.os) (h3 : W.tape = w.tape) (h4 : W.output = w.output) (hset : W.heap[t]? = some (.cells (.bool true :: List.replicate 8 (Value.pointer none)).toArray 87 (0, 0))) (hfar : ∀ g, g < w.heap.size → g ≠ t → W.heap[g]? = w.heap[g]?) :
    StepP B F t v newS w (.returned v) (W.alloc O) := by
  have hn := size_alloc W O
  refine ⟨rfl, F, ⟨List.replicate 8 (.pointer none), by simp, by simp [newS], ?_, h.ft, fun g hg => ⟨(h.rng g hg).1, ?_⟩, fun d e v he hv => nils_slot _ _ d e v he hv, fun d e a hd _ => nils_inj d e a hd⟩, h2, h3, h4, by omega, fun g hg hn => ?_, fun _ hg => .inl hg⟩
  · rw [Below.heap_alloc _ _ _ (by rw [hz]; exact h.lt)]
    exact hset
  · have := (h.rng g hg).2
    omega
  · rw [Below.heap_alloc _ _ _ (by rw [hz]; exact hg)]
    exact hfar g hg (fun e => hn (by rw [e]; exact h.ft))
theorem tab_wipe {B : Nat} {w : World} {t : Nat} {st : St} {F : Nat → Prop} {vs : List Value} (h : TabV B w t true st F vs) (v : Value) (O : Obj) :
    StepP B F t v newS w (.returned v) ((w.setCells t 0 [.bool true, .pointer none, .pointer none, .pointer none, .pointer none, .pointer none, .pointer none, .pointer none, .pointer none]).alloc O) := by
  obtain ⟨h1, h2, h3, h4⟩ := setCells_facts t [.bool true, .pointer none, .pointer none, .pointer none, .pointer none, .pointer none, .pointer none, .pointer none, .pointer none] 0 w
  exact tab_wiped h v O h1 h2 h3 h4 (nine_set w t _ #[.bool true, .pointer none, .pointer none, .pointer none, .pointer none, .pointer none, .pointer none, .pointer none, .pointer none] 87 h.blk (by simp [h.vl])) (fun g hg hne => World.heap_setCells_other w t 0 _ hg hne)
set_option maxHeartbeats 4000000 in
theorem clear_tab {B : Nat} {w : World} {t : Nat} {st : St} {F : Nat → Prop} (h : Tab B w t true st F) : Calls Tryd.prog 57 #[.pointer (some ⟨t, 0, none⟩)] w (StepP B F t (.tuple #[]) newS w) := by
  have hi := Lib.hid (is_tab h)
  have hn := Lib.hid (new_eq w)
  obtain ⟨vs, h⟩ := h
  have HV := Lib.hid h
  obtain ⟨v1, v2, v3, v4, v5, v6, v7, v8, rfl⟩ := list8 vs h.vl
  have c0 : w.cell? ⟨t, 0, none⟩ = some (.bool true) := by rw [cell_of_row w t 0 _ _ _ h.blk]; rfl
  have f0 := h.frozen 0
  have c1 : w.cell? ⟨t, 1, none⟩ = some v1 := by rw [cell_of_row w t 1 _ _ _ h.blk]; rfl
  have f1 := h.frozen 1
  have c2 : w.cell? ⟨t, 2, none⟩ = some v2 := by rw [cell_of_row w t 2 _ _ _ h.blk]; rfl
  have f2 := h.frozen 2
  have c3 : w.cell? ⟨t, 3, none⟩ = some v3 := by rw [cell_of_row w t 3 _ _ _ h.blk]; rfl
  have f3 := h.frozen 3
  have c4 : w.cell? ⟨t, 4, none⟩ = some v4 := by rw [cell_of_row w t 4 _ _ _ h.blk]; rfl
  have f4 := h.frozen 4
  have c5 : w.cell? ⟨t, 5, none⟩ = some v5 := by rw [cell_of_row w t 5 _ _ _ h.blk]; rfl
  have f5 := h.frozen 5
  have c6 : w.cell? ⟨t, 6, none⟩ = some v6 := by rw [cell_of_row w t 6 _ _ _ h.blk]; rfl
  have f6 := h.frozen 6
  have c7 : w.cell? ⟨t, 7, none⟩ = some v7 := by rw [cell_of_row w t 7 _ _ _ h.blk]; rfl
  have f7 := h.frozen 7
  have c8 : w.cell? ⟨t, 8, none⟩ = some v8 := by rw [cell_of_row w t 8 _ _ _ h.blk]; rfl
  have f8 := h.frozen 8
  have ht := h.lt
  clear h
  go_enter Tryd.func57, Tryd.ntmps57
  go_wp2_with (first | (go_at_call 59; refine hi.out.mono ?_; rintro e w1 ⟨rfl, rfl⟩) | (go_at_call 14; refine hn.out.mono ?_; rintro e w1 ⟨rfl, rfl⟩))
  go_end0
  exact tab_wipe HV.out _ _
end Go.Proofs.YthafpbidfgmacaaDoor.Hd

/- append of strings that are read; slices.Concat of two slices of strings. -/
namespace Go.Proofs
open Go.Shelf
def Tryd.growS_ren : Go.Shelf.Ren := ⟨fun | 4 => 93 | n => n, fun | 22 => 30 | 25 => 9 | 3 => 3 | 4 => 4 | 9 => 9 | 20 => 20 | 0 => 0 | n => n, fun | n => n⟩
theorem Tryd.growS : Go.Proofs.Lays8.n4 Tryd.prog Tryd.growS_ren := {
  mixed := by kernel_rfl
  f4 := ⟨Tryd.f93.name, by decide, Tryd.func93.trans (congrArg some (by kernel_rfl))⟩
  t0 := Tryd.underlying0
  a0 := Tryd.isAgg0
  z0 := Tryd.sizeOf0
  v0 := Tryd.zeroValue0
  t3 := Tryd.underlying3
  a3 := Tryd.isAgg3
  z3 := Tryd.sizeOf3
  v3 := Tryd.zeroValue3
  t4 := Tryd.underlying4
  a4 := Tryd.isAgg4
  z4 := Tryd.sizeOf4
  v4 := Tryd.zeroValue4
  t9 := Tryd.underlying9
  a9 := Tryd.isAgg9
  z9 := Tryd.sizeOf9
  v9 := Tryd.zeroValue9
  t20 := Tryd.underlying20
  a20 := Tryd.isAgg20
  z20 := Tryd.sizeOf20
  v20 := Tryd.zeroValue20
  t22 := Tryd.underlying30
  a22 := Tryd.isAgg30
  z22 := Tryd.sizeOf30
  v22 := Tryd.zeroValue30 }
end Go.Proofs
namespace Go.Proofs.YthafpbidfgmacaaDoor
open Go.RowKit Go.Proofs.YthafpbidfgmacaaDoorW.PrintWords Go.Proofs.YthafpbidfgmacaaDoorW.PrintLast Go.Proofs.YthafpbidfgmacaaDoorW.PrintMore
set_option linter.unusedVariables false
set_option linter.unusedSimpArgs false

set_option maxRecDepth 100000 in
theorem run_append_strs (W : World) (base : Nat) (ty : TypeId) (v : Value) (xs : List ByteArray) (HO : W.ownsRow base 9 1 v xs.length (encs Value.string xs)) (A : Option Addr) (m c : Nat) (ys : List ByteArray) (HR : Kd.C Kd.string W A m ys)
    (hl : (xs.length + m) * 16 ≤ 140737488355328) (hbase : base ≤ W.heap.size) :
    ∃ v1 w1, (Builtin.append_ #[30, 30] ty #[v, .slice A m c]).run Tryd.prog W = .ok v1 w1 ∧ w1.ownsRow base 9 1 v1 (xs ++ ys).length (encs Value.string (xs ++ ys)) ∧ W.grownBy w1 v.ownBlock ∧ (v1.ownBlock = v.ownBlock ∨ v1.ownBlock = some W.heap.size) := by
  obtain ⟨i0, hi, hzz⟩ := Option.map_eq_some_iff.1 info9
  simp only [Prod.mk.injEq] at hzz
  obtain ⟨hz0, hz1, hz2⟩ := hzz
  have hR : ReadsOf Value.string ByteArray.empty W A m ys := Kd.reads_of_C HR
  have hm : ys.length = m := hR.1
  rcases A with _ | ad
  · have h0 : m = 0 := by
      rcases Nat.eq_zero_or_pos m with h0 | h0
      · exact h0
      · obtain ⟨ad, h, _⟩ := hR.2.2 h0
        cases h
    subst h0
    obtain rfl : ys = [] := List.eq_nil_of_length_eq_zero hm
    refine ⟨v, W, ?_, by simpa using HO, World.grownBy.refl W _, .inl rfl⟩
    rcases HO.2 with ⟨rfl, hn⟩ | ⟨g, cap, cur, rfl, _, _, hnc, _⟩
    · simp [Builtin.append_, run_underlying Tryd.underlying30, sizeOf, typeInfo, hi, Builtin.lenOf, Builtin.firstCells]
    · simp [Builtin.append_, run_underlying Tryd.underlying30, sizeOf, typeInfo, hi, Builtin.lenOf, Builtin.firstCells, hnc, storeCells]
  · have hcells : ∀ j u, (encs Value.string ys)[j]? = some u → W.cell? (ad.add j) = some u := by
      intro j u hu
      have hj : j < ys.length := by
        rcases Nat.lt_or_ge j ys.length with h | h
        · exact h
        · simp [encs, List.getElem?_eq_none h] at hu
      obtain ⟨ad', h', hc⟩ := hR.2.2 (by omega)
      injection h' with h'
      subst h'
      have := hc j (by omega)
      simp [encs, List.getElem?_eq_getElem hj] at hu
      subst hu
      rw [this]
      simp [List.getD_eq_getElem?_getD, List.getElem?_eq_getElem hj]
    obtain ⟨v1, w1, hr, h2, h3, _, h5⟩ := run_append_own_at (P := Tryd.prog) W base 30 ty 9 i0 (.string ByteArray.empty) 1 16 Tryd.underlying30 hi hz0 hz1 hz2 rfl (by omega) v xs.length (encs Value.string xs) HO ad m c (encs Value.string ys) (by simp [encs, hm]) hcells
      (by intro u hu; simp only [encs, List.mem_map] at hu; obtain ⟨q, _, rfl⟩ := hu; rfl) (by simp only [maxLen]; omega) hl hbase
    exact ⟨v1, w1, hr, by simpa [encs, hm] using h2, h3, h5⟩
section
variable {ops : Array Oper} {rest : List Oper} {o : Oper} {a : Act} {K : Act → World → Prop} {Q : Exit → Act → World → Prop} {E : Prop}
theorem step_append_strs (W : World) (hgd : o.guard = none) (s x : Operand) (ho : o.op = .call { callee := .builtin .append, args := #[s, x], argTypes := #[30, 30] }) (base : Nat) (v : Value) (xs : List ByteArray) (hs : a.eval s = v)
    (HO : W.ownsRow base 9 1 v xs.length (encs Value.string xs)) (A : Option Addr) (m c : Nat) (ys : List ByteArray) (hx : a.eval x = .slice A m c) (HR : Kd.C Kd.string W A m ys)
    (hl : (xs.length + m) * 16 ≤ 140737488355328) (hbase : base ≤ W.heap.size)
    (h : ∀ v1 w1, w1.ownsRow base 9 1 v1 (xs ++ ys).length (encs Value.string (xs ++ ys)) → W.grownBy w1 v.ownBlock → (v1.ownBlock = v.ownBlock ∨ v1.ownBlock = some W.heap.size) → K (a.put o.dst v1) w1) :
    if Region.wanted o (yielded ops a.tmps) = true then Oper.wp Tryd.prog o a W K Q else E := by
  have hw : Region.wanted o (yielded ops a.tmps) = true := by simp [Region.wanted, hgd]
  rw [if_pos hw]
  obtain ⟨v1, w1, hr, h2, h3, h5⟩ := run_append_strs W base o.type v xs HO A m c ys HR hl hbase
  unfold Oper.wp execOp
  simp only [ho, resolve, invoke, builtin, Sem.run_bind, Sem.run_pure, Result.andThen_ok, List.map_toArray, List.map_cons, List.map_nil, hs, hx, hr]
  exact h v1 w1 h2 h3 h5
theorem list_append_strs (W : World) (hgd : o.guard = none) (s x : Operand) (ho : o.op = .call { callee := .builtin .append, args := #[s, x], argTypes := #[30, 30] }) (base : Nat) (v : Value) (xs : List ByteArray) (hs : a.eval s = v)
    (HO : W.ownsRow base 9 1 v xs.length (encs Value.string xs)) (A : Option Addr) (m c : Nat) (ys : List ByteArray) (hx : a.eval x = .slice A m c) (HR : Kd.C Kd.string W A m ys)
    (hl : (xs.length + m) * 16 ≤ 140737488355328) (hbase : base ≤ W.heap.size)
    (h : ∀ v1 w1, w1.ownsRow base 9 1 v1 (xs ++ ys).length (encs Value.string (xs ++ ys)) → W.grownBy w1 v.ownBlock → (v1.ownBlock = v.ownBlock ∨ v1.ownBlock = some W.heap.size) → wpList Tryd.prog ops Q rest (a.put o.dst v1) w1) :
    wpList Tryd.prog ops Q (o :: rest) a W := by
  obtain ⟨v1, w1, hr, h2, h3, h5⟩ := run_append_strs W base o.type v xs HO A m c ys HR hl hbase
  refine wpList_plain hgd fun K hK => ?_
  unfold Oper.wp execOp
  simp only [ho, resolve, invoke, builtin, Sem.run_bind, Sem.run_pure, Result.andThen_ok, List.map_toArray, List.map_cons, List.map_nil, hs, hx, hr]
  exact hK _ _ (h v1 w1 h2 h3 h5)
end

theorem c_take {w : World} {A : Option Addr} {n m : Nat} {l : List ByteArray} (h : Kd.C Kd.string w A n l) (hm : m ≤ n) : Kd.C Kd.string w A m (l.take m) := by
  have h2 : ReadsOf Value.string ByteArray.empty w A n l := Kd.reads_of_C h
  refine Kd.C_of_reads (d := ByteArray.empty) (h1 := fun _ => rfl) ⟨by rw [List.length_take]; have := h2.1; omega, by have := h2.2.1; omega, fun hn => ?_⟩
  obtain ⟨ad, e, hc⟩ := h2.2.2 (by omega)
  refine ⟨ad, e, fun j hj => ?_⟩
  rw [hc j (by omega), List.getD_eq_getElem?_getD, List.getD_eq_getElem?_getD, List.getElem?_take, if_pos hj]

/-- A row of the call's own, of strings; what lay below stands. -/
def OwnS (w : World) (v : Value) (l : List ByteArray) (W : World) : Prop := W.ownsRow w.heap.size 9 1 v l.length (encs Value.string l) ∧ Below w.heap.size w W
theorem OwnS.nil (w W : World) (h : Below w.heap.size w W) : OwnS w (.slice none 0 0) [] W := ⟨own_nil _ _ _ _, h⟩
theorem OwnS.drew {w W : World} {v : Value} {l : List ByteArray} (h : OwnS w v l W) : OwnS w v l W.drew := ⟨h.1.drew, below_drew h.2⟩
theorem OwnS.step {w W w1 : World} {v v1 : Value} {l l1 : List ByteArray} (h : OwnS w v l W) (h1 : w1.ownsRow w.heap.size 9 1 v1 l1.length (encs Value.string l1)) (hg : W.grownBy w1 v.ownBlock) : OwnS w v1 l1 w1 :=
  ⟨h1, pw_below_grown h.2 _ h.2.size hg (own_base h.1)⟩
/-- The cells of a block of two slices. -/
theorem two_cells {w W : World} {g : Nat} {a b : Value} (hg : w.heap[g]? = some (.cells #[a, b] 30 (0, 0))) (hb : Below w.heap.size w W) : W.cell? ⟨g, 0, none⟩ = some a ∧ W.cell? ⟨g, 1, none⟩ = some b := by
  have hlt : g < w.heap.size := (Array.getElem?_eq_some_iff.1 hg).1
  have h2 : W.heap[g]? = some (.cells #[a, b] 30 (0, 0)) := (hb.block g hlt).trans hg
  exact ⟨by rw [cell_of_row W g 0 _ _ _ h2]; rfl, by rw [cell_of_row W g 1 _ _ _ h2]; rfl⟩
theorem own_empty (W : World) (base : Nat) (arr : Array Value) (cap : Nat) (hb : base ≤ W.heap.size) (hs : arr.size = cap) (hc : cap ≤ maxLen) : (W.alloc (.cells arr 9)).ownsRow base 9 1 (.slice (some ⟨W.heap.size, 0, none⟩) 0 cap) 0 [] := by
  refine ⟨by simp, .inr ⟨W.heap.size, cap, arr, rfl, hb, ?_, Nat.zero_le _, hc, by omega, by simp⟩⟩
  show (W.heap.push _)[W.heap.size]? = _
  simp
theorem grow_nil (n : Nat) (w : World) (hn : n * 16 ≤ 140737488355328) :
    Calls Tryd.prog 93 #[.slice none 0 0, .int .i64 n] w fun e w' => ∃ v, e = .returned v ∧ OwnS w v [] w' := by
  obtain ⟨i0, hi, hzz⟩ := Option.map_eq_some_iff.1 info9
  simp only [Prod.mk.injEq] at hzz
  obtain ⟨hz0, hz1, hz2⟩ := hzz
  by_cases h0 : n = 0
  · subst h0
    exact (Any8.slices_Grow_room Tryd.growS none 0 0 0 w (by omega) (by omega) (by omega) (by omega)).mono fun e w' ⟨he, hw⟩ => ⟨_, he, by rw [hw]; exact OwnS.nil w w (Below.refl _ _)⟩
  · refine (Any8.slices_Grow_grow Tryd.growS i0 (.string ByteArray.empty) hi hz0 (by omega) none 0 0 n [] w (by omega) (by omega) (by rw [hz2]; omega) (by omega) (by simp) (fun _ => rfl) (fun a h => by cases h)).mono ?_
    rintro e w' ⟨rfl, rfl⟩
    refine ⟨_, rfl, own_empty w.drew w.heap.size _ _ (Nat.le_refl _) ?_ (grownCap_le_maxLen w (0 + n) 0 _ (by unfold maxLen; omega)), below_alloc (below_drew (Below.refl _ _)) _⟩
    have := grownCap_ge w (0 + n) 0 (Tryd.growS_ren.t 25)
    have z : ∀ k, (Builtin.zeroCells (Value.string ByteArray.empty).cells k).size = k := fun k => by simp [Builtin.zeroCells, Value.cells]
    rw [Array.size_append, Array.size_append, z, z]
    rw [Nat.zero_add] at this ⊢
    simp
    omega

theorem grow_nil' (n : Nat) (x : Int) (hx : x = n) (w : World) (hn : n * 16 ≤ 140737488355328) :
    Calls Tryd.prog 93 #[.slice none 0 0, .int .i64 x] w fun e w' => ∃ v, e = .returned v ∧ OwnS w v [] w' := by
  rw [hx]
  exact grow_nil n w hn
/-- The sum of the first k lengths; the first k lists joined. -/
def sumL (m n k : Nat) : Nat := if k = 0 then 0 else if k = 1 then m else m + n
def preL (a b : List ByteArray) (k : Nat) : List ByteArray := if k = 0 then [] else if k = 1 then a else a ++ b
set_option maxHeartbeats 4000000 in
theorem concat_two (g : Nat) (A0 : Option Addr) (c0 : Nat) (l0 : List ByteArray) (A1 : Option Addr) (c1 : Nat) (l1 : List ByteArray) (w : World)
    (hg : w.heap[g]? = some (.cells #[.slice A0 l0.length c0, .slice A1 l1.length c1] 30 (0, 0))) (h0 : Kd.C Kd.string w A0 l0.length l0) (h1 : Kd.C Kd.string w A1 l1.length l1) (hsz : (l0.length + l1.length) * 16 ≤ 140737488355328) :
    Calls Tryd.prog 67 #[.slice (some ⟨g, 0, none⟩) 2 2] w fun e w' => ∃ v, e = .returned v ∧ OwnS w v (l0 ++ l1) w' := by
  have HG := Lib.hid (fun (W : World) (hb : Below w.heap.size w W) => two_cells hg hb)
  have H0 := Lib.hid (fun (W : World) (hb : Below w.heap.size w W) => Kd.C_below h0 hb)
  have H1 := Lib.hid (fun (W : World) (hb : Below w.heap.size w W) => Kd.C_below h1 hb)
  have hlim : l0.length + l1.length ≤ 8796093022208 := by omega
  have hl0 : l0.length ≤ 8796093022208 := by omega
  have HZ := Lib.hid hsz
  obtain ⟨m, hm⟩ : ∃ m, m = l0.length := ⟨_, rfl⟩
  obtain ⟨n, hn⟩ : ∃ n, n = l1.length := ⟨_, rfl⟩
  rw [← hm, ← hn] at hlim HG HZ
  rw [← hm] at hl0 H0
  rw [← hn] at H1
  have HM := Lib.hid hm
  have HN := Lib.hid hn
  clear hg h0 h1 hsz hm hn
  go_enter Tryd.func67, Tryd.ntmps67
  go_wp2
  have hw := HG.out w (Below.refl _ _)
  obtain ⟨hw0, hw1⟩ := hw
  go_loop [3, 11] (fun s i => ∃ k : Nat, k ≤ 2 ∧ i = .int .i64 k ∧ s = .int .i64 ((sumL m n k : Nat) : Int)) (fun _ i => 2 - (intOf i).toNat)
  case atStart => exact ⟨0, by omega, rfl, rfl⟩
  case round =>
    obtain ⟨k, hk, rfl, rfl⟩ := hrel
    rcases (by omega : k = 0 ∨ k = 1 ∨ k = 2) with rfl | rfl | rfl
    · simp only [sumL]
      go_wp2
      go_round
      case rel => exact ⟨1, by omega, by go_num, by simp [sumL]⟩
      case measure => simp [intOf]
    · simp only [sumL]
      go_wp2
      go_round
      case rel => exact ⟨2, by omega, by go_num, by simp [sumL]⟩
      case measure => simp [intOf]
    · simp only [sumL]
      have hgr := Lib.hid (fun w => grow_nil' (m + n) (↑m + ↑n) (by omega) w HZ.out)
      go_wp2_with (go_at_call 93; refine (hgr.out _).mono ?_; rintro e w1 ⟨v, rfl, ho⟩)
      have HO : Hid (OwnS w v (preL l0 l1 0) w1) := Lib.hid ho
      clear ho hw0 hw1 hgr
      go_loopw [6, 27] (fun v i wr => ∃ k : Nat, k ≤ 2 ∧ i = .int .i64 k ∧ Hid (OwnS w v (preL l0 l1 k) wr)) (fun _ i _ => 2 - (intOf i).toNat)
      case atStart => exact ⟨0, by omega, rfl, HO⟩
      case round =>
        clear HO
        obtain ⟨k, hk, rfl, HO⟩ := hrel
        obtain ⟨hw0, hw1⟩ := HG.out _ HO.out.2
        rcases (by omega : k = 0 ∨ k = 1 ∨ k = 2) with rfl | rfl | rfl
        · have HS : Hid (((preL l0 l1 0).length + m) * 16 ≤ 140737488355328) := Lib.hid (by have := HZ.out; simp [preL]; omega)
          go_wp2_with (at_builtin; refine list_append_strs _ rfl _ _ rfl w.heap.size _ (preL l0 l1 0) rfl HO.out.1 A0 m c0 l0 rfl (H0.out _ HO.out.2) HS.out HO.out.2.size ?_; intro v1 w2 hown hgrow hat)
          have HP : Hid (OwnS w v1 (preL l0 l1 1) w2) := Lib.hid (HO.out.step hown hgrow)
          clear hown hgrow hat hw0 hw1
          go_wp2
          go_roundw
          case rel => exact ⟨1, by omega, by go_num, HP⟩
          case measure => simp [intOf]
        · have HS : Hid (((preL l0 l1 1).length + n) * 16 ≤ 140737488355328) := Lib.hid (by have := HZ.out; have := HM.out; simp [preL]; omega)
          go_wp2_with (at_builtin; refine list_append_strs _ rfl _ _ rfl w.heap.size _ (preL l0 l1 1) rfl HO.out.1 A1 n c1 l1 rfl (H1.out _ HO.out.2) HS.out HO.out.2.size ?_; intro v1 w2 hown hgrow hat)
          have HP : Hid (OwnS w v1 (preL l0 l1 2) w2) := Lib.hid (HO.out.step hown hgrow)
          clear hown hgrow hat hw0 hw1
          go_wp2
          go_roundw
          case rel => exact ⟨2, by omega, by go_num, HP⟩
          case measure => simp [intOf]
        · go_wp2
          go_ret
          exact ⟨_, rfl, HO.out⟩
end Go.Proofs.YthafpbidfgmacaaDoor

/- The walk of a table's Moved: what memory says. -/
namespace Go.Proofs.YthafpbidfgmacaaDoor.Hd
open Go.RowKit Go.Proofs.YthafpbidfgmacaaDoor Go.Proofs.YthafpbidfgmacaaDoorW.PrintWords Go.Proofs.YthafpbidfgmacaaDoorW.PrintLast Go.Proofs.YthafpbidfgmacaaDoorW.PrintMore
set_option linter.unusedVariables false
set_option linter.unusedSimpArgs false

theorem join_len (sep : List UInt8) (n : Nat) : ∀ xs : List (List UInt8), (∀ x ∈ xs, x.length ≤ n) → (Lib.join xs sep).length ≤ xs.length * (n + sep.length)
  | [], _ => by simp [Lib.join_nil]
  | x :: r, h => by
    rw [Lib.join_cons, List.length_append, List.length_cons]
    have h1 := h x (by simp)
    have h2 : ∀ r : List (List UInt8), (∀ y ∈ r, y.length ≤ n) → (Lib.joinTail sep r).length ≤ r.length * (n + sep.length) := by
      intro r
      induction r with
      | nil => intro _; simp [Lib.joinTail]
      | cons y r ih =>
        intro hr
        have e : Lib.joinTail sep (y :: r) = (sep ++ y) ++ Lib.joinTail sep r := by simp [Lib.joinTail]
        rw [e, List.length_append, List.length_append, List.length_cons]
        have := ih (fun z hz => hr z (by simp [hz]))
        have := hr y (by simp)
        rw [Nat.succ_mul]
        omega
    have := h2 r (fun y hy => h y (by simp [hy]))
    rw [Nat.succ_mul]
    omega
theorem fits_of (l : List ByteArray) (n : Nat) (hn : n ≤ 100) (hl : l.length ≤ 100) (h : ∀ x ∈ l, x.size ≤ n) : fits l := by
  refine ⟨by omega, ?_⟩
  rw [← Q.size_len, Q.joinB_data]
  have := join_len [0] n (l.map (·.data.toList)) (by
    intro x hx
    obtain ⟨y, hy, rfl⟩ := List.mem_map.1 hx
    rw [Q.size_len]
    exact h y hy)
  rw [List.length_map] at this
  have h3 : l.length * (n + [(0 : UInt8)].length) ≤ 100 * 101 := Nat.mul_le_mul hl (by simp; omega)
  simp only [Array.toList] at *
  omega
theorem name_size {s : ByteArray} (h : Q.nameB s = true) : s.size ≤ 16 := by
  unfold Q.nameB at h
  simp only [Bool.and_eq_true, decide_eq_true_eq] at h
  exact h.2.1
theorem fits_moved {a b l : List ByteArray} (hb : okP b = true) (hl : okP l = true) (k : Nat) : fits (b ++ l.drop k) := by
  obtain ⟨_, hb6, hbn⟩ := okP_len hb
  obtain ⟨_, hl6, hln⟩ := okP_len hl
  refine fits_of _ 16 (by omega) (by rw [List.length_append, List.length_drop]; omega) (fun x hx => ?_)
  rcases List.mem_append.1 hx with h | h
  · exact name_size (List.all_eq_true.1 hbn x h)
  · exact name_size (List.all_eq_true.1 hln x (List.mem_of_mem_drop h))

section
variable {B : Nat} {w w' W : World} {t : Nat} {st : St} {F F' : Nat → Prop} {vs : List Value} {d g : Nat} {s : ByteArray} {l : List ByteArray}
/-- What lies elsewhere than in one entry's block stands. -/
theorem TabV.but (h : TabV B w t true st F vs) (hv : vs[d]? = some (.pointer (some ⟨g, 0, none⟩))) {x y : Value} (hg : w.heap[g]? = some (.cells #[x, y] 90 (0, 0))) (hk : ∀ k, F k → k ≠ g → w'.heap[k]? = w.heap[k]?) (j : Nat) (hj : j ≠ d) (e : Option Ent) (v : Value) (he : st[j]? = some e) (hvj : vs[j]? = some v) : Slot w' F e v := by
  have hs := h.slot j e v he hvj
  cases e with
  | none => exact hs
  | some p =>
    obtain ⟨s1, l1⟩ := p
    obtain ⟨h0, g1, b, o, c, rfl, hg1, fg, fb, hc, hr⟩ := hs
    have hne : g1 ≠ g := fun e => hj (h.inj j d _ hvj (by rw [e]; exact hv))
    exact ⟨h0, g1, b, o, c, rfl, (hk g1 fg hne).trans hg1, fg, fb, hc, hr.keep (hk b fb (hr.ne hg (by decide)))⟩
theorem TabV.tab_ne (h : TabV B w t true st F vs) {x y : Value} (hg : w.heap[g]? = some (.cells #[x, y] 90 (0, 0))) : t ≠ g := type_ne h.blk hg (by decide)
theorem tab_row (h : TabV B w t true st F vs) (hB : B ≤ w.heap.size) (hd : st[d]? = some (some (s, l))) (hv : vs[d]? = some (.pointer (some ⟨g, 0, none⟩))) {y : Value} (hg : w.heap[g]? = some (.cells #[.string s, y] 90 (0, 0))) (fg : F g)
    (hW : Below w.heap.size w W) {l' : List ByteArray} (hl : okP l' = true) {v : Value} {b0 : Nat} (hb0 : w.heap.size ≤ b0) (ho : W.ownsRow b0 9 1 v l'.length (encs Value.string l')) (hw' : Below W.heap.size (W.setCell ⟨g, 1, none⟩ v) w') :
    ∃ F', TabV B w' t true (st.set d (some (s, l'))) F' vs ∧ Fr F F' w w' := by
  obtain ⟨hl1, hl6, _⟩ := okP_len hl
  rcases ho.2 with ⟨_, hn⟩ | ⟨b, c, cur, rfl, hb, hh, hc, hm, hcs, hx⟩
  · omega
  have hbW : b < W.heap.size := (Array.getElem?_eq_some_iff.1 hh).1
  have hsz : w.heap.size ≤ W.heap.size := hW.size
  have hgl : g < w.heap.size := (Array.getElem?_eq_some_iff.1 hg).1
  have hrow : RowS W b 0 l' := by
    intro j x hj
    have hjl := (List.getElem?_eq_some_iff.1 hj).1
    rw [Nat.zero_add, cell_of_row W b j _ _ _ hh]
    have e : (encs Value.string l')[j]? = some (.string x) := by simp [encs, hj]
    rw [← hx] at e
    have e2 := List.getElem?_take (l := cur.toList) (i := l'.length * 1) (j := j)
    rw [if_pos (by omega)] at e2
    rw [e2] at e
    simpa using e
  have hfar : ∀ k, k < W.heap.size → k ≠ g → w'.heap[k]? = W.heap[k]? := fun k hk hne => (hw'.block k hk).trans (Below.heap_setCell W _ _ k hne)
  have hold : ∀ k, k < w.heap.size → k ≠ g → w'.heap[k]? = w.heap[k]? := fun k hk hne => (hfar k (by omega) hne).trans (hW.block k hk)
  have hg' : w'.heap[g]? = some (.cells #[.string s, .slice (some ⟨b, 0, none⟩) l'.length c] 90 (0, 0)) := by
    rw [hw'.block g (by omega), heap_setCell_row W g 1 _ _ _ ((hW.block g hgl).trans hg)]
    rfl
  have hsz' : W.heap.size ≤ w'.heap.size := by have := hw'.size; simpa [World.setCell] using this
  refine ⟨fun k => F k ∨ k = b, ⟨h.vl, by rw [List.length_set, h.sl], (hold t h.lt (h.tab_ne hg)).trans h.blk, .inl h.ft, fun k hk => ?_, fun j e v he hvj => ?_, h.inj⟩, ⟨hw'.os.trans hW.os, hw'.tape.trans hW.tape, hw'.output.trans hW.output, by omega, fun k hk hn => hold k hk (fun e => hn (by rw [e]; exact fg)), fun k hk => ?_⟩⟩
  · rcases hk with hk | hk
    · have := h.rng k hk; omega
    · omega
  · by_cases hj : j = d
    · subst hj
      rw [hv] at hvj
      obtain rfl := Option.some.inj hvj
      rw [List.getElem?_set_self (by have := (List.getElem?_eq_some_iff.1 hd).1; exact this)] at he
      obtain rfl := Option.some.inj he
      exact ⟨hl, g, b, 0, c, rfl, hg', .inl fg, .inr rfl, hc, Row9.keep ⟨hrow, _, hh⟩ (hfar b hbW (type_ne hh ((hW.block g hgl).trans hg) (by decide)))⟩
    · rw [List.getElem?_set_ne (fun e => hj e.symm)] at he
      exact (h.but hv hg (fun k fk hne => hold k (h.rng k fk).2 hne) j hj e v he hvj).keep (fun _ _ => rfl) (fun _ h => .inl h)
  · rcases hk with hk | hk
    · exact .inl hk
    · exact .inr (by omega)
theorem tab_gone (h : TabV B w t true st F vs) (hB : B ≤ w.heap.size) (hd : d < 8) (hv : vs[d]? = some (.pointer (some ⟨g, 0, none⟩))) {x y : Value} (hg : w.heap[g]? = some (.cells #[x, y] 90 (0, 0))) (fg : F g)
    (hW : Below w.heap.size w W) {v : Value} (hw' : Below W.heap.size (W.setCell ⟨g, 1, none⟩ v) w') :
    TabV B (w'.setCell ⟨t, 1 + d, none⟩ (.pointer none)) t true (st.set d none) F (vs.set d (.pointer none)) ∧ Fr F F w (w'.setCell ⟨t, 1 + d, none⟩ (.pointer none)) := by
  have hsz : w.heap.size ≤ W.heap.size := hW.size
  have hgl : g < w.heap.size := (Array.getElem?_eq_some_iff.1 hg).1
  have hfar : ∀ k, k < W.heap.size → k ≠ g → w'.heap[k]? = W.heap[k]? := fun k hk hne => (hw'.block k hk).trans (Below.heap_setCell W _ _ k hne)
  have hold : ∀ k, k < w.heap.size → k ≠ g → w'.heap[k]? = w.heap[k]? := fun k hk hne => (hfar k (by omega) hne).trans (hW.block k hk)
  have hsz' : W.heap.size ≤ w'.heap.size := by have := hw'.size; simpa [World.setCell] using this
  have hz : (w'.setCell ⟨t, 1 + d, none⟩ (.pointer none)).heap.size = w'.heap.size := by simp [World.setCell]
  have htb : w'.heap[t]? = some (.cells (.bool true :: vs).toArray 87 (0, 0)) := (hold t h.lt (h.tab_ne hg)).trans h.blk
  have hall : ∀ k, k < w.heap.size → k ≠ g → k ≠ t → (w'.setCell ⟨t, 1 + d, none⟩ (.pointer none)).heap[k]? = w.heap[k]? := fun k hk h1 h2 => (Below.heap_setCell w' _ _ k h2).trans (hold k hk h1)
  refine ⟨⟨by rw [List.length_set, h.vl], by rw [List.length_set, h.sl], ?_, h.ft, fun k hk => ?_, fun j e v he hvj => ?_, fun j k a hj hk => ?_⟩, ⟨hw'.os.trans hW.os, hw'.tape.trans hW.tape, hw'.output.trans hW.output, by omega, fun k hk hn => hall k hk (fun e => hn (by rw [e]; exact fg)) (fun e => hn (by rw [e]; exact h.ft)), fun k hk => .inl hk⟩⟩
  · rw [show 1 + d = d + 1 from Nat.add_comm _ _, heap_setCell_row w' t (d + 1) _ _ _ htb]
    simp
  · have := h.rng k hk
    omega
  · by_cases hj : j = d
    · subst hj
      rw [List.getElem?_set_self (by rw [h.sl]; exact hd)] at he
      rw [List.getElem?_set_self (by rw [h.vl]; exact hd)] at hvj
      obtain rfl := Option.some.inj he
      obtain rfl := Option.some.inj hvj
      rfl
    · rw [List.getElem?_set_ne (fun e => hj e.symm)] at he hvj
      have hs := h.slot j e v he hvj
      cases e with
      | none => exact hs
      | some p =>
        obtain ⟨s1, l1⟩ := p
        obtain ⟨h0, g1, b, o, c, rfl, hg1, f1, fb, hc, hr⟩ := hs
        have hne : g1 ≠ g := fun e => hj (h.inj j d _ hvj (by rw [e]; exact hv))
        exact ⟨h0, g1, b, o, c, rfl, (hall g1 (h.rng g1 f1).2 hne (type_ne hg1 h.blk (by decide))).trans hg1, f1, fb, hc, hr.keep (hall b (h.rng b fb).2 (hr.ne hg (by decide)) (hr.ne h.blk (by decide)))⟩
  · by_cases h1 : d = j
    · subst h1
      rw [List.getElem?_set_self (by rw [h.vl]; exact hd)] at hj
      cases hj
    · by_cases h2 : d = k
      · subst h2
        rw [List.getElem?_set_self (by rw [h.vl]; exact hd)] at hk
        cases hk
      · rw [List.getElem?_set_ne h1] at hj
        rw [List.getElem?_set_ne h2] at hk
        exact h.inj j k a hj hk
end

/-- A table whose first k entries are moved. -/
def stK (st : St) (a b : List ByteArray) (k : Nat) : St := (st.take k).map (movedE a b) ++ st.drop k
theorem stK_zero (st : St) (a b : List ByteArray) : stK st a b 0 = st := by simp [stK]
theorem stK_all (st : St) (a b : List ByteArray) (h : st.length = 8) : stK st a b 8 = st.map (movedE a b) := by
  unfold stK
  rw [List.take_of_length_le (by omega), List.drop_of_length_le (by omega), List.append_nil]
theorem stK_at (st : St) (a b : List ByteArray) (k : Nat) : (stK st a b k)[k]? = st[k]? := by
  unfold stK
  rcases Nat.lt_or_ge k st.length with h | h
  · rw [List.getElem?_append_right (by simp; omega), List.length_map, List.length_take, List.getElem?_drop]
    congr 1
    omega
  · rw [List.getElem?_eq_none (by simp; omega), List.getElem?_eq_none (by omega)]
theorem stK_succ (st : St) (a b : List ByteArray) (k : Nat) (e : Option Ent) (h : st[k]? = some e) : stK st a b (k + 1) = (stK st a b k).set k (movedE a b e) := by
  obtain ⟨hl, he⟩ := List.getElem?_eq_some_iff.1 h
  unfold stK
  rw [List.take_succ_eq_append_getElem hl, List.map_append, List.drop_eq_getElem_cons hl, he]
  rw [List.set_append_right _ _ (by simp; omega)]
  simp [Nat.min_eq_left (Nat.le_of_lt hl)]
theorem stK_same (st : St) (a b : List ByteArray) (k : Nat) (e : Option Ent) (h : st[k]? = some e) (hm : movedE a b e = e) : stK st a b (k + 1) = stK st a b k := by
  rw [stK_succ st a b k e h, hm]
  have := stK_at st a b k
  rw [h] at this
  exact List.ext_getElem? fun j => by
    by_cases hj : k = j
    · subst hj
      rw [List.getElem?_set_self (List.getElem?_eq_some_iff.1 this).1, this]
    · rw [List.getElem?_set_ne hj]
end Go.Proofs.YthafpbidfgmacaaDoor.Hd

/- The walk of a table's Moved. -/
namespace Go.Proofs.YthafpbidfgmacaaDoor.Hd
open Go.RowKit Go.Proofs.YthafpbidfgmacaaDoor Go.Proofs.YthafpbidfgmacaaDoorW.PrintWords Go.Proofs.YthafpbidfgmacaaDoorW.PrintLast Go.Proofs.YthafpbidfgmacaaDoorW.PrintMore
set_option linter.unusedVariables false
set_option linter.unusedSimpArgs false

theorem index8_0 (v1 v2 v3 v4 v5 v6 v7 v8 : Value) (W : World) : (Instr.index 85 (.agg #[v1, v2, v3, v4, v5, v6, v7, v8]) (.int .i64 0)).run Tryd.prog W = .ok v1 W := by kernel_rfl
theorem index8_1 (v1 v2 v3 v4 v5 v6 v7 v8 : Value) (W : World) : (Instr.index 85 (.agg #[v1, v2, v3, v4, v5, v6, v7, v8]) (.int .i64 1)).run Tryd.prog W = .ok v2 W := by kernel_rfl
theorem index8_2 (v1 v2 v3 v4 v5 v6 v7 v8 : Value) (W : World) : (Instr.index 85 (.agg #[v1, v2, v3, v4, v5, v6, v7, v8]) (.int .i64 2)).run Tryd.prog W = .ok v3 W := by kernel_rfl
theorem index8_3 (v1 v2 v3 v4 v5 v6 v7 v8 : Value) (W : World) : (Instr.index 85 (.agg #[v1, v2, v3, v4, v5, v6, v7, v8]) (.int .i64 3)).run Tryd.prog W = .ok v4 W := by kernel_rfl
theorem index8_4 (v1 v2 v3 v4 v5 v6 v7 v8 : Value) (W : World) : (Instr.index 85 (.agg #[v1, v2, v3, v4, v5, v6, v7, v8]) (.int .i64 4)).run Tryd.prog W = .ok v5 W := by kernel_rfl
theorem index8_5 (v1 v2 v3 v4 v5 v6 v7 v8 : Value) (W : World) : (Instr.index 85 (.agg #[v1, v2, v3, v4, v5, v6, v7, v8]) (.int .i64 5)).run Tryd.prog W = .ok v6 W := by kernel_rfl
theorem index8_6 (v1 v2 v3 v4 v5 v6 v7 v8 : Value) (W : World) : (Instr.index 85 (.agg #[v1, v2, v3, v4, v5, v6, v7, v8]) (.int .i64 6)).run Tryd.prog W = .ok v7 W := by kernel_rfl
theorem index8_7 (v1 v2 v3 v4 v5 v6 v7 v8 : Value) (W : World) : (Instr.index 85 (.agg #[v1, v2, v3, v4, v5, v6, v7, v8]) (.int .i64 7)).run Tryd.prog W = .ok v8 W := by kernel_rfl
theorem run_index8 (v1 v2 v3 v4 v5 v6 v7 v8 v : Value) (k : Nat) (h : [v1, v2, v3, v4, v5, v6, v7, v8][k]? = some v) (W : World) :
    (Instr.index 85 (.agg #[v1, v2, v3, v4, v5, v6, v7, v8]) (.int .i64 (k : Int))).run Tryd.prog W = .ok v W := by
  have hk : k < 8 := (List.getElem?_eq_some_iff.1 h).1
  rcases (by omega : k = 0 ∨ k = 1 ∨ k = 2 ∨ k = 3 ∨ k = 4 ∨ k = 5 ∨ k = 6 ∨ k = 7) with rfl | rfl | rfl | rfl | rfl | rfl | rfl | rfl
  · obtain rfl := Option.some.inj h
    exact index8_0 v1 v2 v3 v4 v5 v6 v7 v8 W
  · obtain rfl := Option.some.inj h
    exact index8_1 v1 v2 v3 v4 v5 v6 v7 v8 W
  · obtain rfl := Option.some.inj h
    exact index8_2 v1 v2 v3 v4 v5 v6 v7 v8 W
  · obtain rfl := Option.some.inj h
    exact index8_3 v1 v2 v3 v4 v5 v6 v7 v8 W
  · obtain rfl := Option.some.inj h
    exact index8_4 v1 v2 v3 v4 v5 v6 v7 v8 W
  · obtain rfl := Option.some.inj h
    exact index8_5 v1 v2 v3 v4 v5 v6 v7 v8 W
  · obtain rfl := Option.some.inj h
    exact index8_6 v1 v2 v3 v4 v5 v6 v7 v8 W
  · obtain rfl := Option.some.inj h
    exact index8_7 v1 v2 v3 v4 v5 v6 v7 v8 W
/-- Some more blocks than F are a table's; a row outside stands. -/
theorem row_fr {F F' : Nat → Prop} {w W : World} {b o : Nat} {l : List ByteArray} (h : RowS w b o l) (hl : 0 < l.length) (hn : ¬ F b) (hf : Fr F F' w W) : RowS W b o l := h.keep (hf.keep b (h.lt hl) hn)
def MovedP (B : Nat) (F : Nat → Prop) (t : Nat) (st : St) (a b : List ByteArray) (w : World) (e : Ending) (w' : World) : Prop := StepP B F t (.tuple #[]) (movedS st a b) w e w'
theorem movedP_not {B : Nat} {F : Nat → Prop} {t : Nat} {st : St} {a b : List ByteArray} {w w' : World} (hn : ¬ (okP a = true ∧ okP b = true)) (h : Tab B w t true st F) (hb : Below w.heap.size w w') : MovedP B F t st a b w (.returned (.tuple #[])) w' := by
  unfold MovedP movedS
  rw [if_neg hn]
  exact ⟨rfl, F, h.below hb, Fr.of_below hb⟩

set_option maxHeartbeats 4000000 in
theorem moved_not {B : Nat} {w : World} {t : Nat} {st : St} {F : Nat → Prop} (h : Tab B w t true st F) (A1 : Option Addr) (c1 : Nat) (l1 : List ByteArray) (A2 : Option Addr) (c2 : Nat) (l2 : List ByteArray)
    (hr1 : Kd.C Kd.string w A1 l1.length l1) (hc1 : l1.length ≤ c1) (hf1 : fits l1) (hr2 : Kd.C Kd.string w A2 l2.length l2) (hc2 : l2.length ≤ c2) (hf2 : fits l2) (hn : ¬ (okP l1 = true ∧ okP l2 = true)) :
    Calls Tryd.prog 18 #[.pointer (some ⟨t, 0, none⟩), .slice A1 l1.length c1, .slice A2 l2.length c2] w (MovedP B F t st l1 l2 w) := by
  have hi := Lib.hid (is_tab h)
  have hT := Lib.hid h
  have hq1 := Lib.hid (right_calls A1 c1 l1 w hr1 hc1 hf1)
  have hq2 := Lib.hid (fun (W : World) (hb : Below w.heap.size w W) => right_calls A2 c2 l2 W (Kd.C_below hr2 hb) hc2 hf2)
  have HN := Lib.hid hn
  generalize l1.length = n1 at *
  generalize l2.length = n2 at *
  clear h hr1 hr2 hf1 hf2
  by_cases h1 : okP l1 = true
  · have h2 : okP l2 = false := by simpa [h1] using hn
    rw [h1] at hq1
    rw [h2] at hq2
    clear h1 h2 hn
    go_enter Tryd.func18, Tryd.ntmps18
    go_wp2_with (first | (go_at_call 59; refine hi.out.mono ?_; rintro e w1 ⟨rfl, rfl⟩) | (go_at_call_of 60 (Value.slice A1 n1 c1); refine hq1.out.mono ?_; rintro e w1 ⟨rfl, hb⟩) | (go_at_call_of 60 (Value.slice A2 n2 c2); refine (hq2.out _ hb).mono ?_; rintro e w2 ⟨rfl, hb2⟩))
    refine bodyPost_ret (results_none rfl _ _ _) rfl ?_
    exact movedP_not HN.out hT.out (Below.trans hb (hb2.mono hb.size))
  · have h1' : okP l1 = false := by simpa using h1
    rw [h1'] at hq1
    clear h1 h1' hn
    go_enter Tryd.func18, Tryd.ntmps18
    go_wp2_with (first | (go_at_call 59; refine hi.out.mono ?_; rintro e w1 ⟨rfl, rfl⟩) | (go_at_call_of 60 (Value.slice A1 n1 c1); refine hq1.out.mono ?_; rintro e w1 ⟨rfl, hb⟩))
    refine bodyPost_ret (results_none rfl _ _ _) rfl ?_
    exact movedP_not HN.out hT.out hb
end Go.Proofs.YthafpbidfgmacaaDoor.Hd

/- The walk of a table's Moved, where both paths may be opened. -/
namespace Go.Proofs.YthafpbidfgmacaaDoor.Hd
open Go.RowKit Go.Proofs.YthafpbidfgmacaaDoor Go.Proofs.YthafpbidfgmacaaDoorW.PrintWords Go.Proofs.YthafpbidfgmacaaDoorW.PrintLast Go.Proofs.YthafpbidfgmacaaDoorW.PrintMore
set_option linter.unusedVariables false
set_option linter.unusedSimpArgs false

/-- What holds of the table when k entries are moved. -/
def MvR (B : Nat) (t : Nat) (st : St) (vs : List Value) (F : Nat → Prop) (a b : List ByteArray) (w : World) (k : Nat) (W : World) : Prop :=
  ∃ F' us, TabV B W t true (stK st a b k) F' us ∧ (∀ j, k ≤ j → us[j]? = vs[j]?) ∧ Fr F F' w W
theorem MvR.same {B t : Nat} {st : St} {vs : List Value} {F : Nat → Prop} {a b : List ByteArray} {w W W' : World} {k : Nat} {e : Option Ent} (h : MvR B t st vs F a b w k W) (he : st[k]? = some e) (hm : movedE a b e = e) (hb : Below W.heap.size W W') : MvR B t st vs F a b w (k + 1) W' := by
  obtain ⟨F', us, hT, hu, hf⟩ := h
  exact ⟨F', us, by rw [stK_same st a b k e he hm]; exact hT.keep (fun g hg => hb.block g (hT.rng g hg).2) hb.size, fun j hj => hu j (by omega), hf.post hb⟩
theorem MvR.row {B t : Nat} {st : St} {vs us : List Value} {F F' : Nat → Prop} {a b l L : List ByteArray} {w wr W w' : World} {k g b0 : Nat} {s : ByteArray} {v y : Value} (hT : TabV B wr t true (stK st a b k) F' us) (hu : ∀ j, k ≤ j → us[j]? = vs[j]?) (hf : Fr F F' w wr) (hB : B ≤ w.heap.size)
    (he : st[k]? = some (some (s, l))) (hv : us[k]? = some (.pointer (some ⟨g, 0, none⟩))) (hg : wr.heap[g]? = some (.cells #[.string s, y] 90 (0, 0))) (fg : F' g) (hW : Below wr.heap.size wr W) (hm : movedE a b (some (s, l)) = some (s, L)) (hl : okP L = true)
    (hb0 : wr.heap.size ≤ b0) (ho : W.ownsRow b0 9 1 v L.length (encs Value.string L)) (hw' : Below (W.setCell ⟨g, 1, none⟩ v).heap.size (W.setCell ⟨g, 1, none⟩ v) w') : MvR B t st vs F a b w (k + 1) w' := by
  have hz : (W.setCell ⟨g, 1, none⟩ v).heap.size = W.heap.size := by simp [World.setCell]
  rw [hz] at hw'
  obtain ⟨F'', h1, h2⟩ := tab_row hT (Nat.le_trans hB hf.size) (by rw [stK_at]; exact he) hv hg fg hW hl hb0 ho hw'
  exact ⟨F'', us, by rw [stK_succ st a b k _ he, hm]; exact h1, fun j hj => hu j (by omega), hf.trans h2⟩
theorem MvR.gone {B t : Nat} {st : St} {vs us : List Value} {F F' : Nat → Prop} {a b l : List ByteArray} {w wr W w' : World} {k g : Nat} {s : ByteArray} {v x y : Value} (hT : TabV B wr t true (stK st a b k) F' us) (hu : ∀ j, k ≤ j → us[j]? = vs[j]?) (hf : Fr F F' w wr) (hB : B ≤ w.heap.size)
    (he : st[k]? = some (some (s, l))) (hv : us[k]? = some (.pointer (some ⟨g, 0, none⟩))) (hg : wr.heap[g]? = some (.cells #[x, y] 90 (0, 0))) (fg : F' g) (hW : Below wr.heap.size wr W) (hm : movedE a b (some (s, l)) = none)
    (hw' : Below (W.setCell ⟨g, 1, none⟩ v).heap.size (W.setCell ⟨g, 1, none⟩ v) w') : MvR B t st vs F a b w (k + 1) (w'.setCell ⟨t, 1 + k, none⟩ (.pointer none)) := by
  have hz : (W.setCell ⟨g, 1, none⟩ v).heap.size = W.heap.size := by simp [World.setCell]
  rw [hz] at hw'
  have hk : k < 8 := by
    have h1 := (List.getElem?_eq_some_iff.1 hv).1
    rw [hT.vl] at h1
    exact h1
  obtain ⟨h1, h2⟩ := tab_gone hT (Nat.le_trans hB hf.size) hk hv hg fg hW hw'
  exact ⟨F', us.set k (.pointer none), by rw [stK_succ st a b k _ he, hm]; exact h1, fun j hj => by rw [List.getElem?_set_ne (by omega)]; exact hu j (by omega), hf.trans h2⟩
theorem own_row {W : World} {base g c : Nat} {l : List ByteArray} (h0 : 0 < l.length) (ho : W.ownsRow base 9 1 (.slice (some ⟨g, 0, none⟩) l.length c) l.length (encs Value.string l)) : base ≤ g ∧ l.length ≤ c ∧ Row9 W g 0 l := by
  rcases ho.2 with ⟨hv, hn⟩ | ⟨b, c', cur, hv, hb, hh, hc, hm, hcs, hx⟩
  · omega
  · injection hv with hv _ hc'
    injection hv with hv
    injection hv with hv
    subst hv
    subst hc'
    refine ⟨hb, hc, fun j x hj => ?_, cur, hh⟩
    have hjl := (List.getElem?_eq_some_iff.1 hj).1
    rw [Nat.zero_add, cell_of_row W g j _ _ _ hh]
    have e : (encs Value.string l)[j]? = some (.string x) := by simp [encs, hj]
    rw [← hx] at e
    have e2 := List.getElem?_take (l := cur.toList) (i := l.length * 1) (j := j)
    rw [if_pos (by omega)] at e2
    rw [e2] at e
    simpa using e
theorem gone_block {B t : Nat} {st : St} {us : List Value} {F' : Nat → Prop} {wr W w' : World} {g : Nat} {v x y : Value} (hT : TabV B wr t true st F' us) (hg : wr.heap[g]? = some (.cells #[x, y] 90 (0, 0))) (hW : Below wr.heap.size wr W) (hw' : Below (W.setCell ⟨g, 1, none⟩ v).heap.size (W.setCell ⟨g, 1, none⟩ v) w') : w'.heap[t]? = wr.heap[t]? := by
  have hz : (W.setCell ⟨g, 1, none⟩ v).heap.size = W.heap.size := by simp [World.setCell]
  rw [hz] at hw'
  exact (hw'.block t (Nat.lt_of_lt_of_le hT.lt hW.size)).trans ((Below.heap_setCell W _ _ t (hT.tab_ne hg)).trans (hW.block t hT.lt))
theorem gone_cell {B t : Nat} {st : St} {us : List Value} {F' : Nat → Prop} {wr W w' : World} {g j : Nat} {v x y u : Value} (hT : TabV B wr t true st F' us) (hg : wr.heap[g]? = some (.cells #[x, y] 90 (0, 0))) (hW : Below wr.heap.size wr W) (hw' : Below (W.setCell ⟨g, 1, none⟩ v).heap.size (W.setCell ⟨g, 1, none⟩ v) w') (hc : wr.cell? ⟨t, j, none⟩ = some u) : w'.cell? ⟨t, j, none⟩ = some u :=
  (World.cell?_of_block (w := wr) (gone_block hT hg hW hw')).trans hc
theorem gone_frozen {B t : Nat} {st : St} {us : List Value} {F' : Nat → Prop} {wr W w' : World} {g j : Nat} {v x y : Value} (hT : TabV B wr t true st F' us) (hg : wr.heap[g]? = some (.cells #[x, y] 90 (0, 0))) (hW : Below wr.heap.size wr W) (hw' : Below (W.setCell ⟨g, 1, none⟩ v).heap.size (W.setCell ⟨g, 1, none⟩ v) w') (hc : wr.frozen? ⟨t, j, none⟩ = false) : w'.frozen? ⟨t, j, none⟩ = false :=
  (World.frozen?_of_block (w := wr) (gone_block hT hg hW hw')).trans hc
theorem right_own {wr w4 : World} {g g3 c3 n3 : Nat} {L : List ByteArray} (hg : g < wr.heap.size) (h0 : 0 < L.length) (hn : n3 = L.length) (hf : fits L) (ho : w4.ownsRow (wr.heap.size + 1) 9 1 (.slice (some ⟨g3, 0, none⟩) L.length c3) L.length (encs Value.string L)) (v : Value) :
    Calls Tryd.prog 60 #[.slice (some ⟨g3, 0, none⟩) n3 c3] (w4.setCell ⟨g, 1, none⟩ v) fun e w' => e = .returned (.bool (okP L)) ∧ Below (w4.setCell ⟨g, 1, none⟩ v).heap.size (w4.setCell ⟨g, 1, none⟩ v) w' := by
  obtain ⟨h1, h2, h3⟩ := own_row h0 ho
  rw [hn]
  exact right_calls (some ⟨g3, 0, none⟩) c3 L _ (RowS.reads (h3.1.keep (Below.heap_setCell w4 _ _ g3 (fun e => by
    have e' : g3 = g := e
    omega))) (by have := hf.1; omega)) h2 hf
theorem movedE_snap {a b : List ByteArray} {s : ByteArray} {l : List ByteArray} (h : s.toList ≠ []) : movedE a b (some (s, l)) = some (s, l) := by
  exact if_neg (fun e => h e.1)
theorem movedE_short {a b : List ByteArray} {s : ByteArray} {l : List ByteArray} (h : l.length < a.length) : movedE a b (some (s, l)) = some (s, l) := by
  exact if_neg (fun e => by omega)
theorem movedE_ne {a b : List ByteArray} {s : ByteArray} {l : List ByteArray} (h : l.take a.length ≠ a) : movedE a b (some (s, l)) = some (s, l) := by
  exact if_neg (fun e => h e.2.2)
theorem movedE_yes {a b : List ByteArray} {s : ByteArray} {l : List ByteArray} (h0 : s.toList = []) (h1 : a.length ≤ l.length) (h2 : l.take a.length = a) (h3 : okP (b ++ l.drop a.length) = true) : movedE a b (some (s, l)) = some (s, b ++ l.drop a.length) := by
  exact (if_pos ⟨h0, h1, h2⟩).trans (if_pos h3)
theorem movedE_gone {a b : List ByteArray} {s : ByteArray} {l : List ByteArray} (h0 : s.toList = []) (h1 : a.length ≤ l.length) (h2 : l.take a.length = a) (h3 : okP (b ++ l.drop a.length) = false) : movedE a b (some (s, l)) = none := by
  exact (if_pos ⟨h0, h1, h2⟩).trans (if_neg (by rw [h3]; decide))
theorem row_take {w : World} {b o : Nat} {l : List ByteArray} (h : RowS w b o l) : ∀ j, j < l.length → w.cell? ⟨b, o + j, none⟩ = some (.string (l.getD j ByteArray.empty)) := fun j hj => by
  rw [h j l[j] (List.getElem?_eq_getElem hj), List.getD_eq_getElem?_getD, List.getElem?_eq_getElem hj]
  rfl
theorem equal_rows {w : World} {b1 o1 n c b2 o2 d : Nat} {l a : List ByteArray} (h1 : RowS w b1 o1 l) (h2 : RowS w b2 o2 a) (hn : n ≤ l.length) (hl : l.length ≤ 1000) (ha : a.length ≤ 1000) :
    Calls Tryd.prog 66 #[.slice (some ⟨b1, o1, none⟩) n c, .slice (some ⟨b2, o2, none⟩) a.length d] w fun e w' => e = .returned (.bool (decide (l.take n = a))) ∧ ∃ q, w' = w.drewN q := by
  have := Tryd.slices_Equal_string b1 o1 n c b2 o2 a.length d l a w hn (Nat.le_refl _) (by omega) (by omega) (row_take h1) (row_take h2)
  rw [List.take_length] at this
  exact this
theorem movedP_all {B t : Nat} {st : St} {vs : List Value} {F : Nat → Prop} {a b : List ByteArray} {w W : World} (ha : okP a = true) (hb : okP b = true) (hl : st.length = 8) (h : MvR B t st vs F a b w 8 W) : MovedP B F t st a b w (.returned (.tuple #[])) W := by
  obtain ⟨F', us, hT, _, hf⟩ := h
  unfold MovedP movedS
  rw [if_pos ⟨ha, hb⟩]
  rw [stK_all st a b hl] at hT
  exact ⟨rfl, F', ⟨us, hT⟩, hf⟩
theorem cat_calls (W0 : World) (A2 : Option Addr) (c2 : Nat) (l2 : List ByteArray) (A3 : Option Addr) (c3 : Nat) (r : List ByteArray) (h2 : Kd.C Kd.string W0 A2 l2.length l2) (h3 : Kd.C Kd.string W0 A3 r.length r) (h2l : l2.length ≤ 1000) (hrl : r.length ≤ 1000) (hne : 0 < l2.length) :
    Calls Tryd.prog 67 #[.slice (some ⟨W0.heap.size, 0, none⟩) 2 2] (W0.alloc (.cells #[.slice A2 l2.length c2, .slice A3 r.length c3] 30)) fun e w' => ∃ g c, e = .returned (.slice (some ⟨g, 0, none⟩) (l2 ++ r).length c) ∧
      w'.ownsRow (W0.heap.size + 1) 9 1 (.slice (some ⟨g, 0, none⟩) (l2 ++ r).length c) (l2 ++ r).length (encs Value.string (l2 ++ r)) ∧ Below W0.heap.size W0 w' := by
  have hb : Below W0.heap.size W0 (W0.alloc (.cells #[.slice A2 l2.length c2, .slice A3 r.length c3] 30)) := below_alloc (Below.refl _ _) _
  refine (concat_two W0.heap.size A2 c2 l2 A3 c3 r _ (heap_alloc_new W0 _) (Kd.C_below h2 hb) (Kd.C_below h3 hb) (by omega)).mono ?_
  rintro e w' ⟨v, rfl, ho, hb2⟩
  obtain ⟨g, c, rfl⟩ := own_form (by rw [List.length_append]; omega) ho
  refine ⟨g, c, rfl, ?_, Below.trans hb (hb2.mono hb.size)⟩
  have : (W0.alloc (.cells #[.slice A2 l2.length c2, .slice A3 r.length c3] 30)).heap.size = W0.heap.size + 1 := by simp
  rw [this] at ho
  exact ho
theorem slice_from (b o n c n1 : Nat) (l : List ByteArray) (hn : n = l.length) (h1 : n1 ≤ n) (h2 : n ≤ c) (hl : l.length ≤ 1000) :
    ∃ A3 : Option Addr, (∀ W, (Instr.sliceAt 30 (.slice (some ⟨b, o, none⟩) n c) (some (.int .i64 (n1 : Int))) none none).run Tryd.prog W = .ok (.slice A3 (n - n1) (c - n1)) W) ∧ (∀ W, RowS W b o l → Kd.C Kd.string W A3 (n - n1) (l.drop n1)) := by
  refine ⟨if c = n1 then some ⟨b, o, none⟩ else some ⟨b, o + n1, none⟩, fun W => ?_, fun W hr => ?_⟩
  · have hel : Tryd.prog.elem 30 = 9 := by kernel_rfl
    have ht : Tryd.prog.underlying 30 = some (.slice (Tryd.prog.elem 30)) := by rw [hel]; exact Tryd.underlying30
    rw [run_sliceAt_slice (h := ht), run_slice_l (ht := ht) (kl := .i64) (l := (n1 : Int)) (h0 := by omega) (h1 := by omega), hel, Tryd.sizeOf9]
    show Result.ok (sliced (some ⟨b, o, none⟩) ((n1 : Int)).toNat n c 1) W = _
    rw [Int.toNat_natCast]
    unfold sliced
    by_cases hc : c = n1
    · rw [if_pos hc, if_pos hc]
    · rw [if_neg hc, if_neg hc, Option.map_some, add_none, Nat.mul_one]
  · have hdl : (l.drop n1).length = n - n1 := by rw [List.length_drop]; omega
    by_cases hc : c = n1
    · have h0 : n - n1 = 0 := by omega
      have hz : l.drop n1 = [] := List.length_eq_zero_iff.1 (by omega)
      rw [if_pos hc, hz, h0]
      exact Kd.C_of_reads (d := ByteArray.empty) (h1 := fun _ => rfl) ⟨rfl, by omega, fun h => absurd h (by decide)⟩
    · rw [if_neg hc]
      have : RowS W b (o + n1) (l.drop n1) := fun j x hx => by
        rw [List.getElem?_drop] at hx
        rw [Nat.add_assoc]
        exact hr _ _ hx
      have hh := this.reads (by omega)
      rw [hdl] at hh
      exact hh
set_option maxHeartbeats 8000000 in
theorem moved_yes {B : Nat} {w : World} {t : Nat} {st : St} {F : Nat → Prop} (h : Tab B w t true st F) (hB : B ≤ w.heap.size) (b1 o1 c1 : Nat) (l1 : List ByteArray) (b2 o2 c2 : Nat) (l2 : List ByteArray)
    (hr1 : RowS w b1 o1 l1) (hc1 : l1.length ≤ c1) (hr2 : RowS w b2 o2 l2) (hc2 : l2.length ≤ c2) (hF1 : ¬ F b1) (hF2 : ¬ F b2) (ho1 : okP l1 = true) (ho2 : okP l2 = true) :
    Calls Tryd.prog 18 #[.pointer (some ⟨t, 0, none⟩), .slice (some ⟨b1, o1, none⟩) l1.length c1, .slice (some ⟨b2, o2, none⟩) l2.length c2] w (MovedP B F t st l1 l2 w) := by
  have hi := Lib.hid (is_tab h)
  obtain ⟨p1, p2, p3⟩ := okP_len ho1
  obtain ⟨q1, q2, q3⟩ := okP_len ho2
  have hf1 : fits l1 := fits_of _ 16 (by omega) (by omega) (fun x hx => name_size (List.all_eq_true.1 p3 x hx))
  have hf2 : fits l2 := fits_of _ 16 (by omega) (by omega) (fun x hx => name_size (List.all_eq_true.1 q3 x hx))
  have hq1 := Lib.hid (right_calls _ c1 l1 w (hr1.reads (by omega)) hc1 hf1)
  have hq2 := Lib.hid (fun (W : World) (hb : Below w.heap.size w W) => right_calls _ c2 l2 W (Kd.C_below (hr2.reads (by omega)) hb) hc2 hf2)
  rw [ho1] at hq1
  rw [ho2] at hq2
  have HR1 := Lib.hid (fun (F' : Nat → Prop) (W : World) (hf : Fr F F' w W) => row_fr hr1 (by omega) hF1 hf)
  have HR2 := Lib.hid (fun (F' : Nat → Prop) (W : World) (hf : Fr F F' w W) => row_fr hr2 (by omega) hF2 hf)
  have HO1 := Lib.hid ho1
  have HO2 := Lib.hid ho2
  obtain ⟨vs, h⟩ := h
  have HV := Lib.hid h
  obtain ⟨v1, v2, v3, v4, v5, v6, v7, v8, rfl⟩ := list8 vs h.vl
  have HC : Hid (∀ W, Below w.heap.size w W → W.cell? ⟨t, 1, none⟩ = some v1 ∧ W.cell? ⟨t, 2, none⟩ = some v2 ∧ W.cell? ⟨t, 3, none⟩ = some v3 ∧ W.cell? ⟨t, 4, none⟩ = some v4 ∧ W.cell? ⟨t, 5, none⟩ = some v5 ∧ W.cell? ⟨t, 6, none⟩ = some v6 ∧ W.cell? ⟨t, 7, none⟩ = some v7 ∧ W.cell? ⟨t, 8, none⟩ = some v8) := fun W hW => by
    have hb := (hW.block t h.lt).trans h.blk
    exact ⟨by rw [cell_of_row W t 1 _ _ _ hb]; rfl, by rw [cell_of_row W t 2 _ _ _ hb]; rfl, by rw [cell_of_row W t 3 _ _ _ hb]; rfl, by rw [cell_of_row W t 4 _ _ _ hb]; rfl, by rw [cell_of_row W t 5 _ _ _ hb]; rfl, by rw [cell_of_row W t 6 _ _ _ hb]; rfl, by rw [cell_of_row W t 7 _ _ _ hb]; rfl, by rw [cell_of_row W t 8 _ _ _ hb]; rfl⟩
  have HBs := Lib.hid hB
  obtain ⟨n1, hn1⟩ : ∃ n, n = l1.length := ⟨_, rfl⟩
  obtain ⟨n2, hn2⟩ : ∃ n, n = l2.length := ⟨_, rfl⟩
  rw [← hn1] at hq1 p1 p2 hc1 ⊢
  rw [← hn2] at hq2 q1 q2 hc2 ⊢
  have HN1 := Lib.hid hn1
  have HN2 := Lib.hid hn2
  clear h hr1 hr2 hf1 hf2 ho1 ho2 p3 q3 hn1 hn2 hF1 hF2
  go_enter Tryd.func18, Tryd.ntmps18
  go_wp2_with (first | (go_at_call 59; refine hi.out.mono ?_; rintro e w1 ⟨rfl, rfl⟩) | (go_at_call_of 60 (Value.slice (some ⟨b1, o1, none⟩) n1 c1); refine hq1.out.mono ?_; rintro e w1 ⟨rfl, hb⟩) | (go_at_call_of 60 (Value.slice (some ⟨b2, o2, none⟩) n2 c2); refine (hq2.out _ hb).mono ?_; rintro e w2 ⟨rfl, hb2⟩; have HW : Hid (Below w.heap.size w w2) := Below.trans hb (hb2.mono hb.size); clear hb hb2; obtain ⟨e1, e2, e3, e4, e5, e6, e7, e8⟩ := HC.out _ HW.out))
  clear e1 e2 e3 e4 e5 e6 e7 e8 HC hi hq1 hq2
  go_loopw [25] (fun i wr => ∃ k : Nat, k ≤ 8 ∧ i = .int .i64 k ∧ Hid (MvR B t st [v1, v2, v3, v4, v5, v6, v7, v8] F l1 l2 w k wr)) (fun i _ => 8 - (intOf i).toNat)
  case atStart => exact ⟨0, by omega, rfl, F, _, by rw [stK_zero]; exact HV.out.keep (fun g hg => HW.out.block g (HV.out.rng g hg).2) HW.out.size, fun _ _ => rfl, Fr.of_below HW.out⟩
  case round =>
    obtain ⟨k, hk, rfl, HM⟩ := hrel
    by_cases hlt : k < 8
    · obtain ⟨F', us, hT, hu, hf⟩ := HM.out
      obtain ⟨e, v, he, hv, hs, hcell⟩ := hT.at_ k hlt
      rw [stK_at] at he
      have hvs : [v1, v2, v3, v4, v5, v6, v7, v8][k]? = some v := (hu k (Nat.le_refl _)).symm.trans hv
      have hix := run_index8 v1 v2 v3 v4 v5 v6 v7 v8 v k hvs
      have b0 : (0 : Int) ≤ (k : Int) := by omega
      have b8 : (k : Int) < 8 := by omega
      have HE := Lib.hid he
      have HTV := Lib.hid hT
      have HU := Lib.hid hu
      have HFr := Lib.hid hf
      have HVk := Lib.hid hv
      have HCell := Lib.hid hcell
      have HFz := Lib.hid (hT.frozen (1 + k))
      clear he hT hu hf hv hvs hcell
      cases e with
      | none =>
        obtain rfl := Slot.isNil hs
        clear hs hlt
        go_wp2
        go_roundw
        case rel => exact ⟨k + 1, by omega, by go_num, HM.out.same HE.out rfl (Below.refl _ _)⟩
        case measure => simp [intOf]; omega
      | some x =>
        obtain ⟨s, l⟩ := x
        obtain ⟨hok, g, b, o, c, rfl, hg, fg, fb, hc, hrow⟩ := hs
        obtain ⟨hl1, hl6, hln⟩ := okP_len hok
        have g0 : wr.cell? ⟨g, 0, none⟩ = some (.string s) := by rw [cell_of_row wr g 0 _ _ _ hg]; rfl
        have g1 : wr.cell? ⟨g, 1, none⟩ = some (.slice (some ⟨b, o, none⟩) l.length c) := by rw [cell_of_row wr g 1 _ _ _ hg]; rfl
        have HG := Lib.hid hg
        have HOk := Lib.hid hok
        have HRow := Lib.hid hrow
        clear hg hok hrow hln
        obtain ⟨n, hn⟩ : ∃ n, n = l.length := ⟨_, rfl⟩
        rw [← hn] at g1 hl1 hl6 hc
        have HN := Lib.hid hn
        clear hn hlt
        by_cases hsn : s.toList = []
        · have s1 : s.toList.isEmpty = true := by rw [hsn]; rfl
          have s2 : (!s.toList.isEmpty) = false := by rw [s1]; rfl
          have HSn := Lib.hid hsn
          clear hsn
          by_cases hsh : n < n1
          · have hd : decide (n < n1) = true := decide_eq_true hsh
            go_wp2
            go_roundw
            case rel => exact ⟨k + 1, by omega, by go_num, HM.out.same HE.out (movedE_short (by rw [← HN.out, ← HN1.out]; exact hsh)) (Below.refl _ _)⟩
            case measure => simp [intOf]; omega
          · have hd : decide (n < n1) = false := decide_eq_false hsh
            have hle : n1 ≤ n := by omega
            have heq := equal_rows (w := wr) (n := n1) (c := c) (d := c1) HRow.out.1 (HR1.out _ _ HFr.out) (by rw [← HN.out]; exact hle) (by rw [← HN.out]; omega) (by rw [← HN1.out]; omega)
            rw [← HN1.out] at heq
            have s3 : (n1 : Int) ≤ (c : Int) := by omega
            have s4 : (0 : Int) ≤ (n1 : Int) := by omega
            by_cases htk : l.take n1 = l1
            · rw [decide_eq_true htk] at heq
              have HEq := Lib.hid heq
              have HTk := Lib.hid htk
              have s5 : (n1 : Int) ≤ (n : Int) := by omega
              clear heq htk
              obtain ⟨A3, hsl, hrd⟩ := slice_from b o n c n1 l HN.out hle hc (by rw [← HN.out]; omega)
              have HRd := Lib.hid hrd
              clear hrd
              have HM2 := Lib.hid (fits_moved (a := l1) HO2.out HOk.out n1)
              obtain ⟨n3, hn3⟩ : ∃ n, n = (l2 ++ l.drop n1).length := ⟨_, rfl⟩
              have HN3 := Lib.hid hn3
              have HB3 : Hid (0 < (l2 ++ l.drop n1).length) := Lib.hid (by rw [List.length_append, ← HN2.out]; omega)
              clear hn3
              have HCat : Hid (∀ q, Calls Tryd.prog 67 #[.slice (some ⟨(wr.drewN q).heap.size, 0, none⟩) 2 2] ((wr.drewN q).alloc (.cells #[.slice (some ⟨b2, o2, none⟩) n2 c2, .slice A3 (n - n1) (c - n1)] 30)) fun e w' =>
                  ∃ g c, e = .returned (.slice (some ⟨g, 0, none⟩) n3 c) ∧ w'.ownsRow (wr.heap.size + 1) 9 1 (.slice (some ⟨g, 0, none⟩) (l2 ++ l.drop n1).length c) (l2 ++ l.drop n1).length (encs Value.string (l2 ++ l.drop n1)) ∧ Below wr.heap.size wr w') := fun q => by
                have hdl : (l.drop n1).length = n - n1 := by rw [List.length_drop, ← HN.out]
                have := cat_calls (wr.drewN q) (some ⟨b2, o2, none⟩) c2 l2 A3 (c - n1) (l.drop n1) (RowS.reads (HR2.out _ (wr.drewN q) (HFr.out.post (below_drewN (Below.refl _ _) q))) (by rw [← HN2.out]; omega)) (by rw [hdl]; exact HRd.out _ HRow.out.1) (by rw [← HN2.out]; omega) (by rw [hdl]; omega) (by rw [← HN2.out]; omega)
                rw [hdl, ← HN2.out] at this
                refine this.mono ?_
                rintro e w' ⟨g, c, rfl, ho, hb⟩
                exact ⟨g, c, by rw [HN3.out], ho, Below.trans (below_drewN (Below.refl _ _) q) hb⟩
              have hgl : g < wr.heap.size := (Array.getElem?_eq_some_iff.1 HG.out).1
              have htl : t < wr.heap.size := HTV.out.lt
              have gz : wr.frozen? ⟨g, 1, none⟩ = false := by simp [World.frozen?, HG.out]
              by_cases hokL : okP (l2 ++ l.drop n1) = true
              · have HOkL := Lib.hid hokL
                clear hokL
                go_wp2_with (first | (go_at_call 66; refine HEq.out.mono ?_; rintro e w3 ⟨rfl, q, rfl⟩) | (go_at_call 67; refine (HCat.out _).mono ?_; rintro e w4 ⟨g3, c3, rfl, ho, hb⟩; have k1 : w4.cell? ⟨g, 1, none⟩ = some (.slice (some ⟨b, o, none⟩) n c) := (hb.cell (p := ⟨g, 1, none⟩) hgl).trans g1; have k2 : w4.frozen? ⟨g, 1, none⟩ = false := (hb.frozen (p := ⟨g, 1, none⟩) hgl).trans gz; have HO4 := Lib.hid ho; have HB4 := Lib.hid hb; clear ho hb) | (go_at_call 60; refine (right_own hgl HB3.out HN3.out HM2.out HO4.out _).mono ?_; rw [HOkL.out]; rintro e w5 ⟨rfl, hb5⟩; have HB5 := Lib.hid hb5; clear hb5))
                go_roundw
                case rel => exact ⟨k + 1, by omega, by go_num, MvR.row HTV.out HU.out HFr.out HBs.out HE.out HVk.out HG.out fg HB4.out (HN1.out ▸ movedE_yes (b := l2) (l := l) HSn.out (by rw [← HN1.out, ← HN.out]; exact hle) (by rw [← HN1.out]; exact HTk.out) (by rw [← HN1.out]; exact HOkL.out)) HOkL.out (Nat.le_succ _) HO4.out (by have h := HB5.out; rw [HN3.out] at h; exact h)⟩
                case measure => simp [intOf]; omega
              · have hokF : okP (l2 ++ l.drop n1) = false := by simpa using hokL
                have HOkL := Lib.hid hokF
                clear hokL hokF
                go_wp2_with (first | (go_at_call 66; refine HEq.out.mono ?_; rintro e w3 ⟨rfl, q, rfl⟩) | (go_at_call 67; refine (HCat.out _).mono ?_; rintro e w4 ⟨g3, c3, rfl, ho, hb⟩; have k1 : w4.cell? ⟨g, 1, none⟩ = some (.slice (some ⟨b, o, none⟩) n c) := (hb.cell (p := ⟨g, 1, none⟩) hgl).trans g1; have k2 : w4.frozen? ⟨g, 1, none⟩ = false := (hb.frozen (p := ⟨g, 1, none⟩) hgl).trans gz; have HO4 := Lib.hid ho; have HB4 := Lib.hid hb; clear ho hb) | (go_at_call 60; refine (right_own hgl HB3.out HN3.out HM2.out HO4.out _).mono ?_; rw [HOkL.out]; rintro e w5 ⟨rfl, hb5⟩; have k3 : w5.cell? ⟨t, 1 + k, none⟩ = some (.pointer (some ⟨g, 0, none⟩)) := gone_cell HTV.out HG.out HB4.out hb5 HCell.out; have k4 : w5.frozen? ⟨t, 1 + k, none⟩ = false := gone_frozen HTV.out HG.out HB4.out hb5 HFz.out; have HB5 := Lib.hid hb5; clear hb5))
                go_roundw
                case rel => exact ⟨k + 1, by omega, by go_num, MvR.gone HTV.out HU.out HFr.out HBs.out HE.out HVk.out HG.out fg HB4.out (movedE_gone (b := l2) (l := l) HSn.out (by rw [← HN1.out, ← HN.out]; exact hle) (by rw [← HN1.out]; exact HTk.out) (by rw [← HN1.out]; exact HOkL.out)) HB5.out⟩
                case measure => simp [intOf]; omega
            · rw [decide_eq_false htk] at heq
              have HEq := Lib.hid heq
              have HTk := Lib.hid htk
              clear heq htk
              go_wp2_with (first | (go_at_call 66; refine HEq.out.mono ?_; rintro e w3 ⟨rfl, q, rfl⟩))
              go_roundw
              case rel => exact ⟨k + 1, by omega, by go_num, HM.out.same HE.out (movedE_ne (by rw [← HN1.out]; exact HTk.out)) (below_drewN (Below.refl _ _) _)⟩
              case measure => simp [intOf]; omega
        · have s1 : s.toList.isEmpty = false := by simpa using hsn
          have s2 : (!s.toList.isEmpty) = true := by rw [s1]; rfl
          have HSn := Lib.hid hsn
          clear hsn
          go_wp2
          go_roundw
          case rel => exact ⟨k + 1, by omega, by go_num, HM.out.same HE.out (movedE_snap HSn.out) (Below.refl _ _)⟩
          case measure => simp [intOf]; omega
    · obtain rfl : k = 8 := by omega
      go_wp2
      go_end0
      exact movedP_all HO1.out HO2.out HV.out.sl HM.out
end Go.Proofs.YthafpbidfgmacaaDoor.Hd

