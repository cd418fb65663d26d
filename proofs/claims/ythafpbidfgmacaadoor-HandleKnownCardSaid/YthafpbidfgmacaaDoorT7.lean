/- The walk of a table's Moved. -/
import Derived.Test.YthafpbidfgmacaaDoorT6
namespace Go.Proofs.YthafpbidfgmacaaDoor.Hd
open Go.RowKit Go.Proofs.YthafpbidfgmacaaDoor Go.Proofs.YthafpbidfgmacaaDoorW.PrintWords Go.Proofs.YthafpbidfgmacaaDoorW.PrintLast Go.Proofs.YthafpbidfgmacaaDoorW.PrintMore
set_option linter.unusedVariables false
set_option linter.unusedSimpArgs false

theorem index8_0 (v1 v2 v3 v4 v5 v6 v7 v8 : Value) (W : World) : (Instr.index 85 (.agg #[v1, v2, v3, v4, v5, v6, v7, v8]) (.int .i64 0)).run Tryd.prog W = .ok v1 W := by kernel_rfl
theorem index8_1 (v1 v2 v3 v4 v5 v6 v7 v8 : Value) (W : World) : (Instr.index 85 (.agg #[v1, v2, v3, v4, v5, v6, v7, v8]) (.int .i64 1)).run Tryd.prog W = .ok v2 W := by kernel_rfl
theorem index8_2 (v1 v2 v3 v4 v5 v6 v7 v8 : Value) (W : World) : (Instr.index 85 (.agg #[v1, v2, v3, v4, v5, v6, v7, v8]) (.int .i64 2)).run Tryd.prog W = .ok v3 W := by kernel_rfl
theorem index8_3 (v1 v2 v3 v4 v5 v6 v7 v8 : Value) (W : World) : (Instr.index 85 (.agg #[v1, v2, v3, v4, v5, v6, v7, v8]) (.int .i64 3)).run Tryd.prog W = .ok v4 W := by kernel_rfl
theorem index8_4 (v1 v2 v3 v4 v5 v6 v7 v8 : Value) (W : World) : (Instr.index 85 (.agg #[v1, v2, v3, v4, v5, v6, v7, v8]) (.int .i64 4)).run Tryd.prog W = .ok v5 W := by kernel_rfl
theorem index8_5 (v1 v2 v3 v4 v5 v6 v7 v8 : Value) (W : World) : (Instr.index 85 (.agg #[v1, v2, v3, v4, v5, v6, v7, v8]) (.int .i64 5)).run Tryd.prog W = .ok v6 W := by kernel_rfl
theorem index8_6 (v1 v2 v3 v4 v5 v6 v7 v8 : Value) (W : World) : (Instr.index 85 (.agg #[v1, v2, v3, v4, v5, v6, v7, v8]) (.int .i64 6)).run Tryd.prog W = .ok v7 W := by kernel_rfl
theorem index8_7 (v1 v2 v3 v4 v5 v6 v7 v8 : Value) (W : World) : (Instr.index 85 (.agg #[v1, v2, v3, v4, v5, v6, v7, v8]) (.int .i64 7)).run Tryd.prog W = .ok v8 W := by kernel_rfl
theorem run_index8 (v1 v2 v3 v4 v5 v6 v7 v8 v : Value) (k : Nat) (h : [v1, v2, v3, v4, v5, v6, v7, v8][k]? = some v) (W : World) :
    (Instr.index 85 (.agg #[v1, v2, v3, v4, v5, v6, v7, v8]) (.int .i64 (k : Int))).run Tryd.prog W = .ok v W := by
  have hk : k < 8 := (List.getElem?_eq_some_iff.1 h).1
  rcases (by omega : k = 0 ∨ k = 1 ∨ k = 2 ∨ k = 3 ∨ k = 4 ∨ k = 5 ∨ k = 6 ∨ k = 7) with rfl | rfl | rfl | rfl | rfl | rfl | rfl | rfl
  · obtain rfl := Option.some.inj h
    exact index8_0 v1 v2 v3 v4 v5 v6 v7 v8 W
  · obtain rfl := Option.some.inj h
    exact index8_1 v1 v2 v3 v4 v5 v6 v7 v8 W
  · obtain rfl := Option.some.inj h
    exact index8_2 v1 v2 v3 v4 v5 v6 v7 v8 W
  · obtain rfl := Option.some.inj h
    exact index8_3 v1 v2 v3 v4 v5 v6 v7 v8 W
  · obtain rfl := Option.some.inj h
    exact index8_4 v1 v2 v3 v4 v5 v6 v7 v8 W
  · obtain rfl := Option.some.inj h
    exact index8_5 v1 v2 v3 v4 v5 v6 v7 v8 W
  · obtain rfl := Option.some.inj h
    exact index8_6 v1 v2 v3 v4 v5 v6 v7 v8 W
  · obtain rfl := Option.some.inj h
    exact index8_7 v1 v2 v3 v4 v5 v6 v7 v8 W
/-- Some more blocks than F are a table's; a row outside stands. -/
theorem row_fr {F F' : Nat → Prop} {w W : World} {b o : Nat} {l : List ByteArray} (h : RowS w b o l) (hl : 0 < l.length) (hn : ¬ F b) (hf : Fr F F' w W) : RowS W b o l := h.keep (hf.keep b (h.lt hl) hn)
def MovedP (B : Nat) (F : Nat → Prop) (t : Nat) (st : St) (a b : List ByteArray) (w : World) (e : Ending) (w' : World) : Prop := StepP B F t (.tuple #[]) (movedS st a b) w e w'
theorem movedP_not {B : Nat} {F : Nat → Prop} {t : Nat} {st : St} {a b : List ByteArray} {w w' : World} (hn : ¬ (okP a = true ∧ okP b = true)) (h : Tab B w t true st F) (hb : Below w.heap.size w w') : MovedP B F t st a b w (.returned (.tuple #[])) w' := by
  unfold MovedP movedS
  rw [if_neg hn]
  exact ⟨rfl, F, h.below hb, Fr.of_below hb⟩

set_option maxHeartbeats 4000000 in
theorem moved_not {B : Nat} {w : World} {t : Nat} {st : St} {F : Nat → Prop} (h : Tab B w t true st F) (A1 : Option Addr) (c1 : Nat) (l1 : List ByteArray) (A2 : Option Addr) (c2 : Nat) (l2 : List ByteArray)
    (hr1 : Kd.C Kd.string w A1 l1.length l1) (hc1 : l1.length ≤ c1) (hf1 : fits l1) (hr2 : Kd.C Kd.string w A2 l2.length l2) (hc2 : l2.length ≤ c2) (hf2 : fits l2) (hn : ¬ (okP l1 = true ∧ okP l2 = true)) :
    Calls Tryd.prog 18 #[.pointer (some ⟨t, 0, none⟩), .slice A1 l1.length c1, .slice A2 l2.length c2] w (MovedP B F t st l1 l2 w) := by
  have hi := Lib.hid (is_tab h)
  have hT := Lib.hid h
  have hq1 := Lib.hid (right_calls A1 c1 l1 w hr1 hc1 hf1)
  have hq2 := Lib.hid (fun (W : World) (hb : Below w.heap.size w W) => right_calls A2 c2 l2 W (Kd.C_below hr2 hb) hc2 hf2)
  have HN := Lib.hid hn
  generalize l1.length = n1 at *
  generalize l2.length = n2 at *
  clear h hr1 hr2 hf1 hf2
  by_cases h1 : okP l1 = true
  · have h2 : okP l2 = false := by simpa [h1] using hn
    rw [h1] at hq1
    rw [h2] at hq2
    clear h1 h2 hn
    go_enter Tryd.func18, Tryd.ntmps18
    go_wp2_with (first | (go_at_call 59; refine hi.out.mono ?_; rintro e w1 ⟨rfl, rfl⟩) | (go_at_call_of 60 (Value.slice A1 n1 c1); refine hq1.out.mono ?_; rintro e w1 ⟨rfl, hb⟩) | (go_at_call_of 60 (Value.slice A2 n2 c2); refine (hq2.out _ hb).mono ?_; rintro e w2 ⟨rfl, hb2⟩))
    refine bodyPost_ret (results_none rfl _ _ _) rfl ?_
    exact movedP_not HN.out hT.out (Below.trans hb (hb2.mono hb.size))
  · have h1' : okP l1 = false := by simpa using h1
    rw [h1'] at hq1
    clear h1 h1' hn
    go_enter Tryd.func18, Tryd.ntmps18
    go_wp2_with (first | (go_at_call 59; refine hi.out.mono ?_; rintro e w1 ⟨rfl, rfl⟩) | (go_at_call_of 60 (Value.slice A1 n1 c1); refine hq1.out.mono ?_; rintro e w1 ⟨rfl, hb⟩))
    refine bodyPost_ret (results_none rfl _ _ _) rfl ?_
    exact movedP_not HN.out hT.out hb
end Go.Proofs.YthafpbidfgmacaaDoor.Hd
