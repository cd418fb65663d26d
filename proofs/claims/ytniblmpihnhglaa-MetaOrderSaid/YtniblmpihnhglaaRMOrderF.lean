-- Printed by a copy of the print program over stub bodies; what stood in the stubs' place is hand-made (post.py)
import Derived.Test.YtniblmpihnhglaaRM0
import Derived.Test.YtniblmpihnhglaaRMS
namespace Go.Proofs.Ytniblmpihnhglaa.Q
open Go.RowKit Go.Proofs.YtniblmpihnhglaaW.PrintWords Go.Proofs.YtniblmpihnhglaaW.PrintLast Go.Proofs.YtniblmpihnhglaaW.PrintMore
attribute [local go_sem] max2_int min2_int max_two min_two max_three min_three max_four min_four   -- for this text's walks alone
set_option linter.unusedVariables false
set_option linter.unusedSimpArgs false

/-! ### rillbedlaw07_MetaOrder: function 10 -/
mutual
def rillbedlaw07_MetaOrder.j0 : Nat → Bool → Int → Int → Int → Int → Int → Int → Int → Int → Int → Int → Int → Int → Int → Int → Int → Int → Option (Bool)
  | 0, _, _, _, _, _, _, _, _, _, _, _, _, _, _, _, _, _ => none
  | k + 1, x24, x106000, x106001, x106002, x106003, x107000, x107001, x107002, x107003, x108000, x108001, x108002, x108003, x113000, x113001, x113002, x113003 => if x24 = true then (some false) else ((meta_Apply.f x113000 x113001 x113002 x113003 x108000 x108001 x108002 x108003).bind fun bt115 => ((meta_Apply.f x106000 x106001 x106002 x106003 x108000 x108001 x108002 x108003).bind fun bt119 => ((meta_Apply.f bt119.1 bt119.2.1 bt119.2.2.1 bt119.2.2.2 x107000 x107001 x107002 x107003).bind fun bt123 => ((rillbedlaw07_part.f x107000 x107001 x107002 x107003).bind fun t129 => ((rillbedlaw07_part.f x108000 x108001 x108002 x108003).bind fun t130 => (if t129 = t130 then (if x107000 = 1 then (if x108000 = 1 then (rillbedlaw07_MetaOrder.j1 k (!(bt115.1 == bt123.1) || (!(bt115.2.1 == bt123.2.1) || (!(bt115.2.2.1 == bt123.2.2.1) || (!(bt115.2.2.2 == bt123.2.2.2))))) x106000 x106001 x106002 x106003 x107000 x107001 x107002 x107003 x113000 x113001 x113002 x113003) else (rillbedlaw07_MetaOrder.j1 k false x106000 x106001 x106002 x106003 x107000 x107001 x107002 x107003 x113000 x113001 x113002 x113003)) else (rillbedlaw07_MetaOrder.j1 k false x106000 x106001 x106002 x106003 x107000 x107001 x107002 x107003 x113000 x113001 x113002 x113003)) else (rillbedlaw07_MetaOrder.j1 k (!(bt115.1 == bt123.1) || (!(bt115.2.1 == bt123.2.1) || (!(bt115.2.2.1 == bt123.2.2.1) || (!(bt115.2.2.2 == bt123.2.2.2))))) x106000 x106001 x106002 x106003 x107000 x107001 x107002 x107003 x113000 x113001 x113002 x113003)))))))
def rillbedlaw07_MetaOrder.j1 : Nat → Bool → Int → Int → Int → Int → Int → Int → Int → Int → Int → Int → Int → Int → Option (Bool)
  | 0, _, _, _, _, _, _, _, _, _, _, _, _, _ => none
  | k + 1, x52, x106000, x106001, x106002, x106003, x107000, x107001, x107002, x107003, x113000, x113001, x113002, x113003 => if x52 = true then (some false) else ((rillbedlaw07_part.f x107000 x107001 x107002 x107003).bind fun t131 => (if t131 = 2 then (rillbedlaw07_MetaOrder.j2 k false x106000 x106001 x106002 x106003 x107000 x107001 x107002 x107003 x113000 x113001 x113002 x113003) else ((meta_Apply.f x113000 x113001 x113002 x113003 x107000 x107001 x107002 x107003).bind fun bt132 => (rillbedlaw07_MetaOrder.j2 k (!(bt132.1 == x113000) || (!(bt132.2.1 == x113001) || (!(bt132.2.2.1 == x113002) || (!(bt132.2.2.2 == x113003))))) x106000 x106001 x106002 x106003 x107000 x107001 x107002 x107003 x113000 x113001 x113002 x113003))))
def rillbedlaw07_MetaOrder.j2 : Nat → Bool → Int → Int → Int → Int → Int → Int → Int → Int → Int → Int → Int → Int → Option (Bool)
  | 0, _, _, _, _, _, _, _, _, _, _, _, _, _ => none
  | k + 1, x62, x106000, x106001, x106002, x106003, x107000, x107001, x107002, x107003, x113000, x113001, x113002, x113003 => if x62 = true then (some false) else ((rillbedlaw07_part.f x107000 x107001 x107002 x107003).bind fun t136 => (if t136 = 1 then ((rillbedlaw07_part.f x107000 x107001 x107002 x107003).bind fun t137 => (if t137 = 2 then ((rillbedlaw07_part.f x107000 x107001 x107002 x107003).bind fun t138 => (if t138 = 3 then ((rillbedlaw07_awake.f).bind fun t139 => (some t139)) else (if x113003 = x106003 then ((rillbedlaw07_awake.f).bind fun t140 => (some t140)) else (some false)))) else (if x113002 = x106002 then ((rillbedlaw07_part.f x107000 x107001 x107002 x107003).bind fun t141 => (if t141 = 3 then ((rillbedlaw07_awake.f).bind fun t142 => (some t142)) else (if x113003 = x106003 then ((rillbedlaw07_awake.f).bind fun t143 => (some t143)) else (some false)))) else (some false)))) else (if x113001 = x106001 then ((rillbedlaw07_part.f x107000 x107001 x107002 x107003).bind fun t144 => (if t144 = 2 then ((rillbedlaw07_part.f x107000 x107001 x107002 x107003).bind fun t145 => (if t145 = 3 then ((rillbedlaw07_awake.f).bind fun t146 => (some t146)) else (if x113003 = x106003 then ((rillbedlaw07_awake.f).bind fun t147 => (some t147)) else (some false)))) else (if x113002 = x106002 then ((rillbedlaw07_part.f x107000 x107001 x107002 x107003).bind fun t148 => (if t148 = 3 then ((rillbedlaw07_awake.f).bind fun t149 => (some t149)) else (if x113003 = x106003 then ((rillbedlaw07_awake.f).bind fun t150 => (some t150)) else (some false)))) else (some false)))) else (some false))))
end
def rillbedlaw07_MetaOrder.f (k : Nat) (a0_0 : Int) (a0_1 : Int) (a0_2 : Int) (a0_3 : Int) (a1_0 : Int) (a1_1 : Int) (a1_2 : Int) (a1_3 : Int) (a2_0 : Int) (a2_1 : Int) (a2_2 : Int) (a2_3 : Int) : Option (Bool) := (meta_Apply.f a0_0 a0_1 a0_2 a0_3 a1_0 a1_1 a1_2 a1_3).bind fun bt108 => ((meta_Check.f bt108.1 bt108.2.1 bt108.2.2.1 bt108.2.2.2).bind fun t113 => ((meta_Check.f a0_0 a0_1 a0_2 a0_3).bind fun t114 => (if t113 = t114 then (rillbedlaw07_MetaOrder.j0 k (bt108.1 != a0_0) a0_0 a0_1 a0_2 a0_3 a1_0 a1_1 a1_2 a1_3 a2_0 a2_1 a2_2 a2_3 bt108.1 bt108.2.1 bt108.2.2.1 bt108.2.2.2) else (rillbedlaw07_MetaOrder.j0 k true a0_0 a0_1 a0_2 a0_3 a1_0 a1_1 a1_2 a1_3 a2_0 a2_1 a2_2 a2_3 bt108.1 bt108.2.1 bt108.2.2.1 bt108.2.2.2))))
theorem rillbedlaw07_MetaOrder.mono_l : ∀ k, (∀ y0 y1 y2 y3 y4 y5 y6 y7 y8 y9 y10 y11 y12 y13 y14 y15 y16, LeO (rillbedlaw07_MetaOrder.j0 k y0 y1 y2 y3 y4 y5 y6 y7 y8 y9 y10 y11 y12 y13 y14 y15 y16) (rillbedlaw07_MetaOrder.j0 (k + 1) y0 y1 y2 y3 y4 y5 y6 y7 y8 y9 y10 y11 y12 y13 y14 y15 y16)) ∧ (∀ y0 y1 y2 y3 y4 y5 y6 y7 y8 y9 y10 y11 y12, LeO (rillbedlaw07_MetaOrder.j1 k y0 y1 y2 y3 y4 y5 y6 y7 y8 y9 y10 y11 y12) (rillbedlaw07_MetaOrder.j1 (k + 1) y0 y1 y2 y3 y4 y5 y6 y7 y8 y9 y10 y11 y12)) ∧ (∀ y0 y1 y2 y3 y4 y5 y6 y7 y8 y9 y10 y11 y12, LeO (rillbedlaw07_MetaOrder.j2 k y0 y1 y2 y3 y4 y5 y6 y7 y8 y9 y10 y11 y12) (rillbedlaw07_MetaOrder.j2 (k + 1) y0 y1 y2 y3 y4 y5 y6 y7 y8 y9 y10 y11 y12))
  | 0 => ⟨fun _ _ _ _ _ _ _ _ _ _ _ _ _ _ _ _ _ r h => by simp [rillbedlaw07_MetaOrder.j0] at h, fun _ _ _ _ _ _ _ _ _ _ _ _ _ r h => by simp [rillbedlaw07_MetaOrder.j1] at h, fun _ _ _ _ _ _ _ _ _ _ _ _ _ r h => by simp [rillbedlaw07_MetaOrder.j2] at h⟩
  | k + 1 => by
    obtain ⟨ih0, ih1, ih2⟩ := rillbedlaw07_MetaOrder.mono_l k
    refine ⟨?_, ?_, ?_⟩
    · intro y0 y1 y2 y3 y4 y5 y6 y7 y8 y9 y10 y11 y12 y13 y14 y15 y16
      unfold rillbedlaw07_MetaOrder.j0
      repeat' first
      | (with_reducible exact ih0 _ _ _ _ _ _ _ _ _ _ _ _ _ _ _ _ _)
      | (with_reducible exact ih1 _ _ _ _ _ _ _ _ _ _ _ _ _)
      | (with_reducible exact ih2 _ _ _ _ _ _ _ _ _ _ _ _ _)
      | (with_reducible exact LeO.refl _)
      | (with_reducible exact LeO.none _)
      | (with_reducible refine LeO.ite ?_ ?_)
      | (with_reducible refine LeO.bind ?_ (fun _ => ?_))
      | exact ih0 _ _ _ _ _ _ _ _ _ _ _ _ _ _ _ _ _
      | exact ih1 _ _ _ _ _ _ _ _ _ _ _ _ _
      | exact ih2 _ _ _ _ _ _ _ _ _ _ _ _ _
      | exact LeO.none _
      | refine LeO.ite ?_ ?_
      | refine LeO.bind ?_ (fun _ => ?_)
    · intro y0 y1 y2 y3 y4 y5 y6 y7 y8 y9 y10 y11 y12
      unfold rillbedlaw07_MetaOrder.j1
      repeat' first
      | (with_reducible exact ih0 _ _ _ _ _ _ _ _ _ _ _ _ _ _ _ _ _)
      | (with_reducible exact ih1 _ _ _ _ _ _ _ _ _ _ _ _ _)
      | (with_reducible exact ih2 _ _ _ _ _ _ _ _ _ _ _ _ _)
      | (with_reducible exact LeO.refl _)
      | (with_reducible exact LeO.none _)
      | (with_reducible refine LeO.ite ?_ ?_)
      | (with_reducible refine LeO.bind ?_ (fun _ => ?_))
      | exact ih0 _ _ _ _ _ _ _ _ _ _ _ _ _ _ _ _ _
      | exact ih1 _ _ _ _ _ _ _ _ _ _ _ _ _
      | exact ih2 _ _ _ _ _ _ _ _ _ _ _ _ _
      | exact LeO.none _
      | refine LeO.ite ?_ ?_
      | refine LeO.bind ?_ (fun _ => ?_)
    · intro y0 y1 y2 y3 y4 y5 y6 y7 y8 y9 y10 y11 y12
      unfold rillbedlaw07_MetaOrder.j2
      repeat' first
      | (with_reducible exact ih0 _ _ _ _ _ _ _ _ _ _ _ _ _ _ _ _ _)
      | (with_reducible exact ih1 _ _ _ _ _ _ _ _ _ _ _ _ _)
      | (with_reducible exact ih2 _ _ _ _ _ _ _ _ _ _ _ _ _)
      | (with_reducible exact LeO.refl _)
      | (with_reducible exact LeO.none _)
      | (with_reducible refine LeO.ite ?_ ?_)
      | (with_reducible refine LeO.bind ?_ (fun _ => ?_))
      | exact ih0 _ _ _ _ _ _ _ _ _ _ _ _ _ _ _ _ _
      | exact ih1 _ _ _ _ _ _ _ _ _ _ _ _ _
      | exact ih2 _ _ _ _ _ _ _ _ _ _ _ _ _
      | exact LeO.none _
      | refine LeO.ite ?_ ?_
      | refine LeO.bind ?_ (fun _ => ?_)
theorem rillbedlaw07_MetaOrder.mono : ∀ a0 a1 a2 a3 a4 a5 a6 a7 a8 a9 a10 a11 k, LeO (rillbedlaw07_MetaOrder.f k a0 a1 a2 a3 a4 a5 a6 a7 a8 a9 a10 a11) (rillbedlaw07_MetaOrder.f (k + 1) a0 a1 a2 a3 a4 a5 a6 a7 a8 a9 a10 a11) := by
  intro a0 a1 a2 a3 a4 a5 a6 a7 a8 a9 a10 a11 k
  obtain ⟨ih0, ih1, ih2⟩ := rillbedlaw07_MetaOrder.mono_l k
  unfold rillbedlaw07_MetaOrder.f
  repeat' first
      | (with_reducible exact ih0 _ _ _ _ _ _ _ _ _ _ _ _ _ _ _ _ _)
      | (with_reducible exact ih1 _ _ _ _ _ _ _ _ _ _ _ _ _)
      | (with_reducible exact ih2 _ _ _ _ _ _ _ _ _ _ _ _ _)
      | (with_reducible exact LeO.refl _)
      | (with_reducible exact LeO.none _)
      | (with_reducible refine LeO.ite ?_ ?_)
      | (with_reducible refine LeO.bind ?_ (fun _ => ?_))
      | exact ih0 _ _ _ _ _ _ _ _ _ _ _ _ _ _ _ _ _
      | exact ih1 _ _ _ _ _ _ _ _ _ _ _ _ _
      | exact ih2 _ _ _ _ _ _ _ _ _ _ _ _ _
      | exact LeO.none _
      | refine LeO.ite ?_ ?_
      | refine LeO.bind ?_ (fun _ => ?_)
def rillbedlaw07_MetaOrder.T2 : Bool × List (List Nat × List Nat) := (true, [([], []), ([0], [0]), ([], []), ([2, 1], [2]), ([1, 3], [1, 3]), ([4, 3], [4]), ([5], [5]), ([6, 5], [5, 6]), ([5], [5]), ([8, 5], [5, 8]), ([7, 9, 5], [5, 7, 9]), ([5, 10], [5, 10])])
def rillbedlaw07_MetaOrder.B2 : List Nat := [0, 1, 0, 7, 15, 31, 63, 127, 63, 319, 1023, 2047]
theorem rillbedlaw07_MetaOrder.tab2 : rtab .any (opsOf Try.f10 2) = rillbedlaw07_MetaOrder.T2 := by kernel_rfl
theorem rillbedlaw07_MetaOrder.bits2 : waitsOk rillbedlaw07_MetaOrder.T2.2 rillbedlaw07_MetaOrder.B2 = true := by kernel_rfl
def rillbedlaw07_MetaOrder.T4 : Bool × List (List Nat × List Nat) := (true, [([], []), ([], []), ([0, 1], [0, 1]), ([], []), ([], []), ([3, 4, 2], [3, 4]), ([], []), ([5, 6, 5], [5, 6]), ([], []), ([], []), ([8, 2, 7, 0, 1, 2, 8, 9], [2, 8]), ([9, 7, 10, 0, 1, 2, 3, 4, 5, 6, 7, 8, 9, 10], [7, 9])])
def rillbedlaw07_MetaOrder.B4 : List Nat := [0, 0, 3, 0, 0, 31, 0, 127, 0, 0, 1023, 2047]
theorem rillbedlaw07_MetaOrder.tab4 : rtab .any (opsOf Try.f10 4) = rillbedlaw07_MetaOrder.T4 := by kernel_rfl
theorem rillbedlaw07_MetaOrder.bits4 : waitsOk rillbedlaw07_MetaOrder.T4.2 rillbedlaw07_MetaOrder.B4 = true := by kernel_rfl
def rillbedlaw07_MetaOrder.T5 : Bool × List (List Nat × List Nat) := (true, [([], []), ([0], [0]), ([], []), ([2, 1], [2]), ([1, 3], [1, 3]), ([4, 3], [4]), ([5], [5]), ([6, 5], [5, 6]), ([7, 5], [5, 7]), ([8, 5, 5], [5, 8]), ([9], [9]), ([10, 9], [9, 10]), ([11, 9], [9, 11]), ([9, 12, 5], [5, 9, 12]), ([5, 13], [5, 13]), ([14, 9], [14]), ([15], [15]), ([15], [15]), ([16, 17, 15], [15, 16, 17]), ([15, 18], [15, 18])])
def rillbedlaw07_MetaOrder.B5 : List Nat := [0, 1, 0, 7, 15, 31, 63, 127, 255, 511, 1023, 2047, 4095, 8191, 16383, 32767, 65535, 65535, 262143, 524287]
theorem rillbedlaw07_MetaOrder.tab5 : rtab .any (opsOf Try.f10 5) = rillbedlaw07_MetaOrder.T5 := by kernel_rfl
theorem rillbedlaw07_MetaOrder.bits5 : waitsOk rillbedlaw07_MetaOrder.T5.2 rillbedlaw07_MetaOrder.B5 = true := by kernel_rfl
def rillbedlaw07_MetaOrder.T7 : Bool × List (List Nat × List Nat) := (true, [([], []), ([0], [0]), ([1], [1]), ([2, 1], [2]), ([3], [3]), ([3], [3]), ([4, 5, 3, 3], [3, 4, 5]), ([3], [3]), ([6, 7, 3], [3, 6, 7]), ([3, 8], [3, 8])])
def rillbedlaw07_MetaOrder.B7 : List Nat := [0, 1, 3, 7, 15, 15, 63, 15, 255, 511]
theorem rillbedlaw07_MetaOrder.tab7 : rtab .any (opsOf Try.f10 7) = rillbedlaw07_MetaOrder.T7 := by kernel_rfl
theorem rillbedlaw07_MetaOrder.bits7 : waitsOk rillbedlaw07_MetaOrder.T7.2 rillbedlaw07_MetaOrder.B7 = true := by kernel_rfl

end Go.Proofs.Ytniblmpihnhglaa.Q
