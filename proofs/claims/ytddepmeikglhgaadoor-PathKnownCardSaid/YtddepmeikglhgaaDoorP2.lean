/- Contracts of slices.Clone, path.Up, for lists of strings as the printed contracts read them; append of strings that are read. -/
import Derived.Test.YtddepmeikglhgaaDoorP1
import Derived.Deep.RegionHeld3
import Derived.Deep.AppendLies
import Derived.Maps.AppendAt
import Derived.Deep.DrawnRows
namespace Go.Proofs.YtddepmeikglhgaaDoor
open Go.RowKit Go.Proofs.YtddepmeikglhgaaDoorW.PrintWords Go.Proofs.YtddepmeikglhgaaDoorW.PrintLast Go.Proofs.YtddepmeikglhgaaDoorW.PrintMore
set_option linter.unusedVariables false

theorem run_append_strs (W : World) (base : Nat) (ty : TypeId) (v : Value) (xs : List ByteArray) (HO : W.ownsRow base 9 1 v xs.length (encs Value.string xs)) (A : Option Addr) (m c : Nat) (ys : List ByteArray) (HR : Kd.C Kd.string W A m ys)
    (hl : (xs.length + m) * 16 ≤ 140737488355328) (hbase : base ≤ W.heap.size) :
    ∃ v1 w1, (Builtin.append_ #[23, 23] ty #[v, .slice A m c]).run Tryd.prog W = .ok v1 w1 ∧ w1.ownsRow base 9 1 v1 (xs ++ ys).length (encs Value.string (xs ++ ys)) ∧ W.grownBy w1 v.ownBlock ∧ (v1.ownBlock = v.ownBlock ∨ v1.ownBlock = some W.heap.size) := by
  obtain ⟨i0, hi, hzz⟩ := Option.map_eq_some_iff.1 info9
  simp only [Prod.mk.injEq] at hzz
  obtain ⟨hz0, hz1, hz2⟩ := hzz
  have hR : ReadsOf Value.string ByteArray.empty W A m ys := Kd.reads_of_C HR
  have hm : ys.length = m := hR.1
  rcases A with _ | ad
  · have h0 : m = 0 := by
      rcases Nat.eq_zero_or_pos m with h0 | h0
      · exact h0
      · obtain ⟨ad, h, _⟩ := hR.2.2 h0
        cases h
    subst h0
    obtain rfl : ys = [] := List.eq_nil_of_length_eq_zero hm
    refine ⟨v, W, ?_, by simpa using HO, World.grownBy.refl W _, .inl rfl⟩
    rcases HO.2 with ⟨rfl, hn⟩ | ⟨g, cap, cur, rfl, _, _, hnc, _⟩
    · simp [Builtin.append_, run_underlying Tryd.underlying23, sizeOf, typeInfo, hi, Builtin.lenOf, Builtin.firstCells]
    · simp [Builtin.append_, run_underlying Tryd.underlying23, sizeOf, typeInfo, hi, Builtin.lenOf, Builtin.firstCells, hnc, storeCells]
  · have hcells : ∀ j u, (encs Value.string ys)[j]? = some u → W.cell? (ad.add j) = some u := by
      intro j u hu
      have hj : j < ys.length := by
        rcases Nat.lt_or_ge j ys.length with h | h
        · exact h
        · simp [encs, List.getElem?_eq_none h] at hu
      obtain ⟨ad', h', hc⟩ := hR.2.2 (by omega)
      injection h' with h'
      subst h'
      have := hc j (by omega)
      simp [encs, List.getElem?_eq_getElem hj] at hu
      subst hu
      rw [this]
      simp [List.getD_eq_getElem?_getD, List.getElem?_eq_getElem hj]
    obtain ⟨v1, w1, hr, h2, h3, _, h5⟩ := run_append_own_at (P := Tryd.prog) W base 23 ty 9 i0 (.string ByteArray.empty) 1 16 Tryd.underlying23 hi hz0 hz1 hz2 rfl (by omega) v xs.length (encs Value.string xs) HO ad m c (encs Value.string ys) (by simp [encs, hm]) hcells
      (by intro u hu; simp only [encs, List.mem_map] at hu; obtain ⟨q, _, rfl⟩ := hu; rfl) (by simp only [maxLen]; omega) hl hbase
    exact ⟨v1, w1, hr, by simpa [encs, hm] using h2, h3, h5⟩
section
variable {ops : Array Oper} {rest : List Oper} {o : Oper} {a : Act} {K : Act → World → Prop} {Q : Exit → Act → World → Prop} {E : Prop}
theorem step_append_strs (W : World) (hgd : o.guard = none) (s x : Operand) (ho : o.op = .call { callee := .builtin .append, args := #[s, x], argTypes := #[23, 23] }) (base : Nat) (v : Value) (xs : List ByteArray) (hs : a.eval s = v)
    (HO : W.ownsRow base 9 1 v xs.length (encs Value.string xs)) (A : Option Addr) (m c : Nat) (ys : List ByteArray) (hx : a.eval x = .slice A m c) (HR : Kd.C Kd.string W A m ys)
    (hl : (xs.length + m) * 16 ≤ 140737488355328) (hbase : base ≤ W.heap.size)
    (h : ∀ v1 w1, w1.ownsRow base 9 1 v1 (xs ++ ys).length (encs Value.string (xs ++ ys)) → W.grownBy w1 v.ownBlock → (v1.ownBlock = v.ownBlock ∨ v1.ownBlock = some W.heap.size) → K (a.put o.dst v1) w1) :
    if Region.wanted o (yielded ops a.tmps) = true then Oper.wp Tryd.prog o a W K Q else E := by
  have hw : Region.wanted o (yielded ops a.tmps) = true := by simp [Region.wanted, hgd]
  rw [if_pos hw]
  obtain ⟨v1, w1, hr, h2, h3, h5⟩ := run_append_strs W base o.type v xs HO A m c ys HR hl hbase
  unfold Oper.wp execOp
  simp only [ho, resolve, invoke, builtin, Sem.run_bind, Sem.run_pure, Result.andThen_ok, List.map_toArray, List.map_cons, List.map_nil, hs, hx, hr]
  exact h v1 w1 h2 h3 h5
theorem list_append_strs (W : World) (hgd : o.guard = none) (s x : Operand) (ho : o.op = .call { callee := .builtin .append, args := #[s, x], argTypes := #[23, 23] }) (base : Nat) (v : Value) (xs : List ByteArray) (hs : a.eval s = v)
    (HO : W.ownsRow base 9 1 v xs.length (encs Value.string xs)) (A : Option Addr) (m c : Nat) (ys : List ByteArray) (hx : a.eval x = .slice A m c) (HR : Kd.C Kd.string W A m ys)
    (hl : (xs.length + m) * 16 ≤ 140737488355328) (hbase : base ≤ W.heap.size)
    (h : ∀ v1 w1, w1.ownsRow base 9 1 v1 (xs ++ ys).length (encs Value.string (xs ++ ys)) → W.grownBy w1 v.ownBlock → (v1.ownBlock = v.ownBlock ∨ v1.ownBlock = some W.heap.size) → wpList Tryd.prog ops Q rest (a.put o.dst v1) w1) :
    wpList Tryd.prog ops Q (o :: rest) a W := by
  obtain ⟨v1, w1, hr, h2, h3, h5⟩ := run_append_strs W base o.type v xs HO A m c ys HR hl hbase
  refine wpList_plain hgd fun K hK => ?_
  unfold Oper.wp execOp
  simp only [ho, resolve, invoke, builtin, Sem.run_bind, Sem.run_pure, Result.andThen_ok, List.map_toArray, List.map_cons, List.map_nil, hs, hx, hr]
  exact hK _ _ (h v1 w1 h2 h3 h5)
end

def cloneF (l : List ByteArray) : Option (List ByteArray) := if l.length * 16 ≤ 140737488355328 then some l else none
theorem clone_calls (A0 : Option Addr) (c0 : Nat) (l0 : List ByteArray) (r : List ByteArray) (w : World) (hr0 : Kd.C Kd.string w A0 l0.length l0) (hc0 : l0.length ≤ c0) (h : cloneF l0 = some r) :
    Calls Tryd.prog 39 #[.slice A0 l0.length c0] w fun e w' => ∃ v0_ : Value, e = .returned (v0_) ∧ Kd.R Kd.string 9 w' w.heap.size (fun _ => True) v0_ r ∧ Below w.heap.size w w' := by
  unfold cloneF at h
  split at h
  · rename_i hb
    cases h
    by_cases hn : 0 < l0.length
    · obtain ⟨b, o, rfl, hlt, hc⟩ := c_cells hr0 hn
      refine (Tryd.slices_Clone_string b o l0.length c0 l0 w (Nat.le_refl _) hb (fun j hj => ?_)).mono ?_
      · rw [hc j l0[j] (List.getElem?_eq_getElem hj), List.getD_eq_getElem?_getD, List.getElem?_eq_getElem hj]
        rfl
      · rintro e w' ⟨v', he, ho, _, hB⟩
        rw [List.take_length] at ho
        exact ⟨v', he, Kd.R_of_own ho (fun _ _ => trivial), hB⟩
    · have h0 : l0 = [] := List.length_eq_zero_iff.1 (by omega)
      subst h0
      cases A0 with
      | none => exact (Tryd.slices_Clone_string_nil 0 c0 w).mono fun e w' ⟨he, hw⟩ => ⟨_, he, Kd.R_nil _ _ _ _ _, by rw [hw]; exact Below.refl _ _⟩
      | some a => exact (Tryd.slices_Clone_string_zero a c0 w).mono fun e w' ⟨v', he, ho, _, hB⟩ => ⟨v', he, Kd.R_of_own ho (fun _ _ => trivial), hB⟩
  · cases h

def upF (l : List ByteArray) : Option (List ByteArray × ByteArray) := if l.length * 16 ≤ 140737488355328 then some (l.dropLast, l.getLastD ByteArray.empty) else none
theorem c_take {w : World} {A : Option Addr} {n m : Nat} {l : List ByteArray} (h : Kd.C Kd.string w A n l) (hm : m ≤ n) : Kd.C Kd.string w A m (l.take m) := by
  have h2 : ReadsOf Value.string ByteArray.empty w A n l := Kd.reads_of_C h
  refine Kd.C_of_reads (d := ByteArray.empty) (h1 := fun _ => rfl) ⟨by rw [List.length_take]; have := h2.1; omega, by have := h2.2.1; omega, fun hn => ?_⟩
  obtain ⟨ad, e, hc⟩ := h2.2.2 (by omega)
  refine ⟨ad, e, fun j hj => ?_⟩
  rw [hc j (by omega), List.getD_eq_getElem?_getD, List.getD_eq_getElem?_getD, List.getElem?_take, if_pos hj]
set_option maxHeartbeats 2000000 in
theorem up_calls (A0 : Option Addr) (c0 : Nat) (l0 : List ByteArray) (r1 : List ByteArray) (r2 : ByteArray) (w : World) (hr0 : Kd.C Kd.string w A0 l0.length l0) (hc0 : l0.length ≤ c0) (h : upF l0 = some (r1, r2)) :
    Calls Tryd.prog 19 #[.slice A0 l0.length c0] w fun e w' => ∃ v0_ : Value, e = .returned (.tuple #[v0_, .string r2]) ∧ Kd.R Kd.string 9 w' w.heap.size (fun _ => True) v0_ r1 ∧ Below w.heap.size w w' := by
  unfold upF at h
  split at h
  · rename_i hb
    simp only [Option.some.injEq, Prod.mk.injEq] at h
    obtain ⟨rfl, rfl⟩ := h
    by_cases hn : 0 < l0.length
    · obtain ⟨n, hl⟩ : ∃ n, l0.length = n + 1 := ⟨l0.length - 1, by omega⟩
      have hT := c_take (m := n) hr0 (by omega)
      obtain ⟨b, o, rfl, hlt, hc⟩ := c_cells hr0 hn
      have hx := hc n l0[n] (List.getElem?_eq_getElem (by omega))
      have e1 : l0.dropLast = l0.take n := by rw [List.dropLast_eq_take, hl]; rfl
      have e2 : l0.getLastD ByteArray.empty = l0[n] := by
        rw [List.getLastD_eq_getLast?, List.getLast?_eq_getElem?, show l0.length - 1 = n by omega, List.getElem?_eq_getElem (by omega)]
        rfl
      rw [e1, e2]
      have HT : Hid (Kd.C Kd.string w (some ⟨b, o, none⟩) n (l0.take n)) := Lib.hid hT
      have hlen : (l0.take n).length = n := by rw [List.length_take]; omega
      generalize l0[n] = x at hx ⊢
      generalize l0.take n = ys at HT hlen ⊢
      have HL := Lib.hid hlen
      clear hT hr0 hc e1 e2 hlen
      rw [hl] at hb hc0 ⊢
      clear hl hn
      have g0 : ((((n + 1 : Nat) : Int)) == 0) = false := beq_eq_false_iff_ne.2 (by omega)
      have g1 : ((n : Int) + 1 == 0) = false := beq_eq_false_iff_ne.2 (by omega)
      have w1 : IntKind.i64.wrap (((n + 1 : Nat) : Int) - 1) = (n : Int) := by rw [IntKind.wrap_i64]; omega
      have w2 : IntKind.i64.wrap ((n : Int) + 1 - 1) = (n : Int) := by rw [IntKind.wrap_i64]; omega
      have b0 : (0 : Int) ≤ (n : Int) := by omega
      have b1 : (n : Int) ≤ (c0 : Int) := by omega
      have b2 : (n : Int) < ((n + 1 : Nat) : Int) := by omega
      have b3 : (n : Int) < (n : Int) + 1 := by omega
      have b4 : (n : Int) ≤ 9223372036854775807 := by omega
      have HN := Lib.hid hb
      clear hb w1 w2
      go_enter Tryd.func19, Tryd.ntmps19
      go_wp2_with fail
      go_region_held3 (fun w' => w'.cell? ⟨b, o + n, none⟩ = some (.string x)) (first | go_keep | (rw [hgrow.cell_far _ (by simpa using hlt) (by simp [Value.ownBlock])]; assumption))
        ((refine step_append_strs _ (by rfl) _ _ (by rfl) w.heap.size (.slice none 0 0) [] (by rfl) (own_nil _ _ _ _) (some ⟨b, o, none⟩) n n ys (by rfl) (HT.out) (by have := HN.out; simp; omega) (by simp) ?_; intro v1 w1 hown hgrow hat))
      go_wp2
      go_ret2
      exact ⟨_, rfl, Kd.R_of_own (by simpa using hown) (fun _ _ => trivial), pw_below_grown (below_drew (Below.refl _ _)) none (Nat.le_refl _) hgrow (fun k hk => by cases hk)⟩
    · have h0 : l0 = [] := List.length_eq_zero_iff.1 (by omega)
      subst h0
      go_enter Tryd.func19, Tryd.ntmps19
      go_wp2
      go_ret2
      exact ⟨_, rfl, Kd.R_nil _ _ _ _ _, Below.refl _ _⟩
  · cases h
end Go.Proofs.YtddepmeikglhgaaDoor
