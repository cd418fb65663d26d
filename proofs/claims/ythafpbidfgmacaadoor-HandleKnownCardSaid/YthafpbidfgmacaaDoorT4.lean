/- The walks of a table's functions: Clear. -/
import Derived.Test.YthafpbidfgmacaaDoorT3
import Derived.Deep.MidRow
import Derived.Deep.Upon
namespace Go.Proofs.YthafpbidfgmacaaDoor.Hd
open Go.RowKit Go.Proofs.YthafpbidfgmacaaDoor Go.Proofs.YthafpbidfgmacaaDoorW.PrintWords Go.Proofs.YthafpbidfgmacaaDoorW.PrintLast Go.Proofs.YthafpbidfgmacaaDoorW.PrintMore
set_option linter.unusedVariables false
set_option linter.unusedSimpArgs false

theorem info87 : (Tryd.prog.info? 87).map (·.size) = some 9 := by kernel_rfl
def setsA : Array Value → Nat → List Value → Array Value
  | a, _, [] => a
  | a, o, v :: vs => setsA (a.setIfInBounds o v) (o + 1) vs
theorem setCells_heap (t : Nat) (ty : TypeId) : ∀ (vs : List Value) (o : Nat) (w : World) (cs : Array Value), w.heap[t]? = some (.cells cs ty (0, 0)) → (w.setCells t o vs).heap[t]? = some (.cells (setsA cs o vs) ty (0, 0))
  | [], _, _, _, h => h
  | v :: vs, o, w, cs, h => setCells_heap t ty vs (o + 1) _ _ (heap_setCell_row w t o cs ty v h)
theorem setsA_list : ∀ (vs : List Value) (o : Nat) (a : Array Value), o + vs.length ≤ a.size → (setsA a o vs).toList = a.toList.take o ++ vs ++ a.toList.drop (o + vs.length)
  | [], o, a, h => by simp [setsA]
  | v :: vs, o, a, h => by
    simp only [List.length_cons] at h
    rw [setsA, setsA_list vs (o + 1) _ (by rw [Array.size_setIfInBounds]; omega), Array.toList_setIfInBounds]
    have hl : o < a.toList.length := by rw [Array.length_toList]; omega
    rw [List.take_succ_eq_append_getElem (by rw [List.length_set]; exact hl), List.getElem_set_self, List.take_set_of_le (Nat.le_refl _), List.drop_set_of_lt (by omega), List.length_cons]
    simp only [List.append_assoc, List.singleton_append, List.cons_append, List.nil_append]
    rw [show o + 1 + vs.length = o + (vs.length + 1) from by omega]
theorem nine_set (w : World) (t : Nat) (a b : Array Value) (ty : TypeId) (h : w.heap[t]? = some (.cells a ty (0, 0))) (hb : b.size = a.size) : (w.setCells t 0 b.toList).heap[t]? = some (.cells b ty (0, 0)) := by
  rw [setCells_heap t ty _ 0 w a h]
  have e : setsA a 0 b.toList = b := by
    apply Array.toList_inj.1
    rw [setsA_list b.toList 0 a (by rw [Array.length_toList]; omega), List.take_zero, List.drop_of_length_le (by rw [Array.length_toList, Array.length_toList]; omega)]
    simp
  rw [e]
theorem size_alloc (w : World) (o : Obj) : (w.alloc o).heap.size = w.heap.size + 1 := by simp
theorem setCells_facts (t : Nat) : ∀ (l : List Value) (o : Nat) (W : World), (W.setCells t o l).heap.size = W.heap.size ∧ (W.setCells t o l).os = W.os ∧ (W.setCells t o l).tape = W.tape ∧ (W.setCells t o l).output = W.output
  | [], o, W => ⟨rfl, rfl, rfl, rfl⟩
  | x :: r, o, W => by
    obtain ⟨h1, h2, h3, h4⟩ := setCells_facts t r (o + 1) (W.setCell ⟨t, o, none⟩ x)
    rw [World.setCells]
    exact ⟨h1.trans (by simp [World.setCell]), h2.trans rfl, h3.trans rfl, h4.trans rfl⟩
theorem tab_wiped {B : Nat} {w W : World} {t : Nat} {st : St} {F : Nat → Prop} {vs : List Value} (h : TabV B w t true st F vs) (v : Value) (O : Obj)
    (hz : W.heap.size = w.heap.size) (h2 : W.os = w.os) (h3 : W.tape = w.tape) (h4 : W.output = w.output) (hset : W.heap[t]? = some (.cells (.bool true :: List.replicate 8 (Value.pointer none)).toArray 87 (0, 0))) (hfar : ∀ g, g < w.heap.size → g ≠ t → W.heap[g]? = w.heap[g]?) :
    StepP B F t v newS w (.returned v) (W.alloc O) := by
  have hn := size_alloc W O
  refine ⟨rfl, F, ⟨List.replicate 8 (.pointer none), by simp, by simp [newS], ?_, h.ft, fun g hg => ⟨(h.rng g hg).1, ?_⟩, fun d e v he hv => nils_slot _ _ d e v he hv, fun d e a hd _ => nils_inj d e a hd⟩, h2, h3, h4, by omega, fun g hg hn => ?_, fun _ hg => .inl hg⟩
  · rw [Below.heap_alloc _ _ _ (by rw [hz]; exact h.lt)]
    exact hset
  · have := (h.rng g hg).2
    omega
  · rw [Below.heap_alloc _ _ _ (by rw [hz]; exact hg)]
    exact hfar g hg (fun e => hn (by rw [e]; exact h.ft))
theorem tab_wipe {B : Nat} {w : World} {t : Nat} {st : St} {F : Nat → Prop} {vs : List Value} (h : TabV B w t true st F vs) (v : Value) (O : Obj) :
    StepP B F t v newS w (.returned v) ((w.setCells t 0 [.bool true, .pointer none, .pointer none, .pointer none, .pointer none, .pointer none, .pointer none, .pointer none, .pointer none]).alloc O) := by
  obtain ⟨h1, h2, h3, h4⟩ := setCells_facts t [.bool true, .pointer none, .pointer none, .pointer none, .pointer none, .pointer none, .pointer none, .pointer none, .pointer none] 0 w
  exact tab_wiped h v O h1 h2 h3 h4 (nine_set w t _ #[.bool true, .pointer none, .pointer none, .pointer none, .pointer none, .pointer none, .pointer none, .pointer none, .pointer none] 87 h.blk (by simp [h.vl])) (fun g hg hne => World.heap_setCells_other w t 0 _ hg hne)
set_option maxHeartbeats 4000000 in
theorem clear_tab {B : Nat} {w : World} {t : Nat} {st : St} {F : Nat → Prop} (h : Tab B w t true st F) : Calls Tryd.prog 57 #[.pointer (some ⟨t, 0, none⟩)] w (StepP B F t (.tuple #[]) newS w) := by
  have hi := Lib.hid (is_tab h)
  have hn := Lib.hid (new_eq w)
  obtain ⟨vs, h⟩ := h
  have HV := Lib.hid h
  obtain ⟨v1, v2, v3, v4, v5, v6, v7, v8, rfl⟩ := list8 vs h.vl
  have c0 : w.cell? ⟨t, 0, none⟩ = some (.bool true) := by rw [cell_of_row w t 0 _ _ _ h.blk]; rfl
  have f0 := h.frozen 0
  have c1 : w.cell? ⟨t, 1, none⟩ = some v1 := by rw [cell_of_row w t 1 _ _ _ h.blk]; rfl
  have f1 := h.frozen 1
  have c2 : w.cell? ⟨t, 2, none⟩ = some v2 := by rw [cell_of_row w t 2 _ _ _ h.blk]; rfl
  have f2 := h.frozen 2
  have c3 : w.cell? ⟨t, 3, none⟩ = some v3 := by rw [cell_of_row w t 3 _ _ _ h.blk]; rfl
  have f3 := h.frozen 3
  have c4 : w.cell? ⟨t, 4, none⟩ = some v4 := by rw [cell_of_row w t 4 _ _ _ h.blk]; rfl
  have f4 := h.frozen 4
  have c5 : w.cell? ⟨t, 5, none⟩ = some v5 := by rw [cell_of_row w t 5 _ _ _ h.blk]; rfl
  have f5 := h.frozen 5
  have c6 : w.cell? ⟨t, 6, none⟩ = some v6 := by rw [cell_of_row w t 6 _ _ _ h.blk]; rfl
  have f6 := h.frozen 6
  have c7 : w.cell? ⟨t, 7, none⟩ = some v7 := by rw [cell_of_row w t 7 _ _ _ h.blk]; rfl
  have f7 := h.frozen 7
  have c8 : w.cell? ⟨t, 8, none⟩ = some v8 := by rw [cell_of_row w t 8 _ _ _ h.blk]; rfl
  have f8 := h.frozen 8
  have ht := h.lt
  clear h
  go_enter Tryd.func57, Tryd.ntmps57
  go_wp2_with (first | (go_at_call 59; refine hi.out.mono ?_; rintro e w1 ⟨rfl, rfl⟩) | (go_at_call 14; refine hn.out.mono ?_; rintro e w1 ⟨rfl, rfl⟩))
  go_end0
  exact tab_wipe HV.out _ _
end Go.Proofs.YthafpbidfgmacaaDoor.Hd
