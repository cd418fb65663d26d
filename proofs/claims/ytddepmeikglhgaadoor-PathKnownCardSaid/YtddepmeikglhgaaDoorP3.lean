/- slices.Concat of two slices of strings; path.Move. -/
import Derived.Test.YtddepmeikglhgaaDoorP2
import Derived.Shelf.Spec.SlicesGrow
import Derived.Ground.Names8Prog
namespace Go.Proofs
open Go.Shelf
def Tryd.growS_ren : Go.Shelf.Ren := ⟨fun | 4 => 52 | n => n, fun | 22 => 23 | 25 => 9 | 3 => 3 | 4 => 4 | 9 => 9 | 20 => 20 | 0 => 0 | n => n, fun | n => n⟩
theorem Tryd.growS : Go.Proofs.Lays8.n4 Tryd.prog Tryd.growS_ren := {
  mixed := by kernel_rfl
  f4 := ⟨Tryd.f52.name, by decide, Tryd.func52.trans (congrArg some (by kernel_rfl))⟩
  t0 := Tryd.underlying0
  a0 := Tryd.isAgg0
  z0 := Tryd.sizeOf0
  v0 := Tryd.zeroValue0
  t3 := Tryd.underlying3
  a3 := Tryd.isAgg3
  z3 := Tryd.sizeOf3
  v3 := Tryd.zeroValue3
  t4 := Tryd.underlying4
  a4 := Tryd.isAgg4
  z4 := Tryd.sizeOf4
  v4 := Tryd.zeroValue4
  t9 := Tryd.underlying9
  a9 := Tryd.isAgg9
  z9 := Tryd.sizeOf9
  v9 := Tryd.zeroValue9
  t20 := Tryd.underlying20
  a20 := Tryd.isAgg20
  z20 := Tryd.sizeOf20
  v20 := Tryd.zeroValue20
  t22 := Tryd.underlying23
  a22 := Tryd.isAgg23
  z22 := Tryd.sizeOf23
  v22 := Tryd.zeroValue23 }
end Go.Proofs
namespace Go.Proofs.YtddepmeikglhgaaDoor
open Go.RowKit Go.Proofs.YtddepmeikglhgaaDoorW.PrintWords Go.Proofs.YtddepmeikglhgaaDoorW.PrintLast Go.Proofs.YtddepmeikglhgaaDoorW.PrintMore
set_option linter.unusedVariables false

/-- A row of the call's own, of strings; what lay below stands. -/
def OwnS (w : World) (v : Value) (l : List ByteArray) (W : World) : Prop := W.ownsRow w.heap.size 9 1 v l.length (encs Value.string l) ∧ Below w.heap.size w W
theorem OwnS.nil (w W : World) (h : Below w.heap.size w W) : OwnS w (.slice none 0 0) [] W := ⟨own_nil _ _ _ _, h⟩
theorem OwnS.drew {w W : World} {v : Value} {l : List ByteArray} (h : OwnS w v l W) : OwnS w v l W.drew := ⟨h.1.drew, below_drew h.2⟩
theorem OwnS.step {w W w1 : World} {v v1 : Value} {l l1 : List ByteArray} (h : OwnS w v l W) (h1 : w1.ownsRow w.heap.size 9 1 v1 l1.length (encs Value.string l1)) (hg : W.grownBy w1 v.ownBlock) : OwnS w v1 l1 w1 :=
  ⟨h1, pw_below_grown h.2 _ h.2.size hg (own_base h.1)⟩
/-- The cells of a block of two slices. -/
theorem two_cells {w W : World} {g : Nat} {a b : Value} (hg : w.heap[g]? = some (.cells #[a, b] 23 (0, 0))) (hb : Below w.heap.size w W) : W.cell? ⟨g, 0, none⟩ = some a ∧ W.cell? ⟨g, 1, none⟩ = some b := by
  have hlt : g < w.heap.size := (Array.getElem?_eq_some_iff.1 hg).1
  have h2 : W.heap[g]? = some (.cells #[a, b] 23 (0, 0)) := (hb.block g hlt).trans hg
  exact ⟨by rw [cell_of_row W g 0 _ _ _ h2]; rfl, by rw [cell_of_row W g 1 _ _ _ h2]; rfl⟩
theorem own_empty (W : World) (base : Nat) (arr : Array Value) (cap : Nat) (hb : base ≤ W.heap.size) (hs : arr.size = cap) (hc : cap ≤ maxLen) : (W.alloc (.cells arr 9)).ownsRow base 9 1 (.slice (some ⟨W.heap.size, 0, none⟩) 0 cap) 0 [] := by
  refine ⟨by simp, .inr ⟨W.heap.size, cap, arr, rfl, hb, ?_, Nat.zero_le _, hc, by omega, by simp⟩⟩
  show (W.heap.push _)[W.heap.size]? = _
  simp
theorem grow_nil (n : Nat) (w : World) (hn : n * 16 ≤ 140737488355328) :
    Calls Tryd.prog 52 #[.slice none 0 0, .int .i64 n] w fun e w' => ∃ v, e = .returned v ∧ OwnS w v [] w' := by
  obtain ⟨i0, hi, hzz⟩ := Option.map_eq_some_iff.1 info9
  simp only [Prod.mk.injEq] at hzz
  obtain ⟨hz0, hz1, hz2⟩ := hzz
  by_cases h0 : n = 0
  · subst h0
    exact (Any8.slices_Grow_room Tryd.growS none 0 0 0 w (by omega) (by omega) (by omega) (by omega)).mono fun e w' ⟨he, hw⟩ => ⟨_, he, by rw [hw]; exact OwnS.nil w w (Below.refl _ _)⟩
  · refine (Any8.slices_Grow_grow Tryd.growS i0 (.string ByteArray.empty) hi hz0 (by omega) none 0 0 n [] w (by omega) (by omega) (by rw [hz2]; omega) (by omega) (by simp) (fun _ => rfl) (fun a h => by cases h)).mono ?_
    rintro e w' ⟨rfl, rfl⟩
    refine ⟨_, rfl, own_empty w.drew w.heap.size _ _ (Nat.le_refl _) ?_ (grownCap_le_maxLen w (0 + n) 0 _ (by unfold maxLen; omega)), below_alloc (below_drew (Below.refl _ _)) _⟩
    have := grownCap_ge w (0 + n) 0 (Tryd.growS_ren.t 25)
    have z : ∀ k, (Builtin.zeroCells (Value.string ByteArray.empty).cells k).size = k := fun k => by simp [Builtin.zeroCells, Value.cells]
    rw [Array.size_append, Array.size_append, z, z]
    rw [Nat.zero_add] at this ⊢
    simp
    omega

theorem grow_nil' (n : Nat) (x : Int) (hx : x = n) (w : World) (hn : n * 16 ≤ 140737488355328) :
    Calls Tryd.prog 52 #[.slice none 0 0, .int .i64 x] w fun e w' => ∃ v, e = .returned v ∧ OwnS w v [] w' := by
  rw [hx]
  exact grow_nil n w hn
/-- The sum of the first k lengths; the first k lists joined. -/
def sumL (m n k : Nat) : Nat := if k = 0 then 0 else if k = 1 then m else m + n
def preL (a b : List ByteArray) (k : Nat) : List ByteArray := if k = 0 then [] else if k = 1 then a else a ++ b
set_option maxHeartbeats 4000000 in
theorem concat_two (g : Nat) (A0 : Option Addr) (c0 : Nat) (l0 : List ByteArray) (A1 : Option Addr) (c1 : Nat) (l1 : List ByteArray) (w : World)
    (hg : w.heap[g]? = some (.cells #[.slice A0 l0.length c0, .slice A1 l1.length c1] 23 (0, 0))) (h0 : Kd.C Kd.string w A0 l0.length l0) (h1 : Kd.C Kd.string w A1 l1.length l1) (hsz : (l0.length + l1.length) * 16 ≤ 140737488355328) :
    Calls Tryd.prog 40 #[.slice (some ⟨g, 0, none⟩) 2 2] w fun e w' => ∃ v, e = .returned v ∧ OwnS w v (l0 ++ l1) w' := by
  have HG := Lib.hid (fun (W : World) (hb : Below w.heap.size w W) => two_cells hg hb)
  have H0 := Lib.hid (fun (W : World) (hb : Below w.heap.size w W) => Kd.C_below h0 hb)
  have H1 := Lib.hid (fun (W : World) (hb : Below w.heap.size w W) => Kd.C_below h1 hb)
  have hlim : l0.length + l1.length ≤ 8796093022208 := by omega
  have hl0 : l0.length ≤ 8796093022208 := by omega
  have HZ := Lib.hid hsz
  obtain ⟨m, hm⟩ : ∃ m, m = l0.length := ⟨_, rfl⟩
  obtain ⟨n, hn⟩ : ∃ n, n = l1.length := ⟨_, rfl⟩
  rw [← hm, ← hn] at hlim HG HZ
  rw [← hm] at hl0 H0
  rw [← hn] at H1
  have HM := Lib.hid hm
  have HN := Lib.hid hn
  clear hg h0 h1 hsz hm hn
  go_enter Tryd.func40, Tryd.ntmps40
  go_wp2
  have hw := HG.out w (Below.refl _ _)
  obtain ⟨hw0, hw1⟩ := hw
  go_loop [3, 11] (fun s i => ∃ k : Nat, k ≤ 2 ∧ i = .int .i64 k ∧ s = .int .i64 ((sumL m n k : Nat) : Int)) (fun _ i => 2 - (intOf i).toNat)
  case atStart => exact ⟨0, by omega, rfl, rfl⟩
  case round =>
    obtain ⟨k, hk, rfl, rfl⟩ := hrel
    rcases (by omega : k = 0 ∨ k = 1 ∨ k = 2) with rfl | rfl | rfl
    · simp only [sumL]
      go_wp2
      go_round
      case rel => exact ⟨1, by omega, by go_num, by simp [sumL]⟩
      case measure => simp [intOf]
    · simp only [sumL]
      go_wp2
      go_round
      case rel => exact ⟨2, by omega, by go_num, by simp [sumL]⟩
      case measure => simp [intOf]
    · simp only [sumL]
      have hgr := Lib.hid (fun w => grow_nil' (m + n) (↑m + ↑n) (by omega) w HZ.out)
      go_wp2_with (go_at_call 52; refine (hgr.out _).mono ?_; rintro e w1 ⟨v, rfl, ho⟩)
      have HO : Hid (OwnS w v (preL l0 l1 0) w1) := Lib.hid ho
      clear ho hw0 hw1 hgr
      go_loopw [6, 27] (fun v i wr => ∃ k : Nat, k ≤ 2 ∧ i = .int .i64 k ∧ Hid (OwnS w v (preL l0 l1 k) wr)) (fun _ i _ => 2 - (intOf i).toNat)
      case atStart => exact ⟨0, by omega, rfl, HO⟩
      case round =>
        clear HO
        obtain ⟨k, hk, rfl, HO⟩ := hrel
        obtain ⟨hw0, hw1⟩ := HG.out _ HO.out.2
        rcases (by omega : k = 0 ∨ k = 1 ∨ k = 2) with rfl | rfl | rfl
        · have HS : Hid (((preL l0 l1 0).length + m) * 16 ≤ 140737488355328) := Lib.hid (by have := HZ.out; simp [preL]; omega)
          go_wp2_with (at_builtin; refine list_append_strs _ rfl _ _ rfl w.heap.size _ (preL l0 l1 0) rfl HO.out.1 A0 m c0 l0 rfl (H0.out _ HO.out.2) HS.out HO.out.2.size ?_; intro v1 w2 hown hgrow hat)
          have HP : Hid (OwnS w v1 (preL l0 l1 1) w2) := Lib.hid (HO.out.step hown hgrow)
          clear hown hgrow hat hw0 hw1
          go_wp2
          go_roundw
          case rel => exact ⟨1, by omega, by go_num, HP⟩
          case measure => simp [intOf]
        · have HS : Hid (((preL l0 l1 1).length + n) * 16 ≤ 140737488355328) := Lib.hid (by have := HZ.out; have := HM.out; simp [preL]; omega)
          go_wp2_with (at_builtin; refine list_append_strs _ rfl _ _ rfl w.heap.size _ (preL l0 l1 1) rfl HO.out.1 A1 n c1 l1 rfl (H1.out _ HO.out.2) HS.out HO.out.2.size ?_; intro v1 w2 hown hgrow hat)
          have HP : Hid (OwnS w v1 (preL l0 l1 2) w2) := Lib.hid (HO.out.step hown hgrow)
          clear hown hgrow hat hw0 hw1
          go_wp2
          go_roundw
          case rel => exact ⟨2, by omega, by go_num, HP⟩
          case measure => simp [intOf]
        · go_wp2
          go_ret
          exact ⟨_, rfl, HO.out⟩
end Go.Proofs.YtddepmeikglhgaaDoor
