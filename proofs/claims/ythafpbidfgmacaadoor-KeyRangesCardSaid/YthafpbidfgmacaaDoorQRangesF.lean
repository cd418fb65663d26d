-- Printed by a copy of the print program over stub bodies; what stood in the stubs' place is hand-made (post.py)
import Derived.Test.YthafpbidfgmacaaDoorQ0
import Derived.Test.YthafpbidfgmacaaDoorQA
import Derived.Test.YthafpbidfgmacaaDoorQC
import Derived.Test.YthafpbidfgmacaaDoorQD
import Derived.Test.YthafpbidfgmacaaDoorQE
import Derived.Test.YthafpbidfgmacaaDoorQH
import Derived.Test.YthafpbidfgmacaaDoorQM
import Derived.Test.YthafpbidfgmacaaDoorQkeyBlock
import Derived.Test.YthafpbidfgmacaaDoorQrillbedlaw06few
import Derived.Test.YthafpbidfgmacaaDoorQrillbedlaw06works
namespace Go.Proofs.YthafpbidfgmacaaDoor.Q
open Go.RowKit Go.Proofs.YthafpbidfgmacaaDoorW.PrintWords Go.Proofs.YthafpbidfgmacaaDoorW.PrintLast Go.Proofs.YthafpbidfgmacaaDoorW.PrintMore
attribute [local go_sem] max2_int min2_int max_two min_two max_three min_three max_four min_four   -- for this text's walks alone
set_option linter.unusedVariables false
set_option linter.unusedSimpArgs false

/-! ### rillbedlaw06_KeyRanges: function 6 -/
mutual
def rillbedlaw06_KeyRanges.j0 : Nat → List ByteArray → List ByteArray → Bool → Int → Int → Option (Bool)
  | 0, _, _, _, _, _ => none
  | k + 1, x0, x1, x32, x308000, x308001 => if x32 = true then ((rillbedlaw06_works.f k).bind fun t312 => (some t312)) else ((key_Subtree.f k x0).bind fun bt313 => ((rillbedlaw06_begins.f k x1 x0).bind fun t319 => ((rillbedlaw06_begins.f k x1 x0).bind fun t320 => (if t320 = true then ((rillbedlaw06_begins.f k x0 x1).bind fun t321 => (rillbedlaw06_KeyRanges.j1 k x0 x1 (wrap64 (Int.tmod x308000 32)) (wrap64 (Int.tmod x308001 32)) t319 t321 bt313.1 bt313.2.1 bt313.2.2.1 bt313.2.2.2)) else (rillbedlaw06_KeyRanges.j1 k x0 x1 (wrap64 (Int.tmod x308000 32)) (wrap64 (Int.tmod x308001 32)) t319 false bt313.1 bt313.2.1 bt313.2.2.1 bt313.2.2.2)))))
def rillbedlaw06_KeyRanges.j1 : Nat → List ByteArray → List ByteArray → Int → Int → Bool → Bool → ByteArray → ByteArray → ByteArray → ByteArray → Option (Bool)
  | 0, _, _, _, _, _, _, _, _, _, _ => none
  | k + 1, x0, x1, x7, x8, x11, x12, x318000, x318001, x319000, x319001 => (key_Block.f k x0 x7).bind fun t322 => ((key_Block.f k x1 x8).bind fun t323 => ((key_Meta.f k x1).bind fun t324 => ((rillbedlaw06_in.f t324 x318000 x318001).bind fun t325 => (if (t325 != x11) = true then (rillbedlaw06_KeyRanges.j2 k x0 x1 x7 x8 x11 x12 t322 t323 true x318000 x318001 x319000 x319001) else ((key_Meta.f k x1).bind fun t326 => ((key_Below.f k x0).bind fun bt327 => ((rillbedlaw06_in.f t326 bt327.1 bt327.2).bind fun t329 => (if x11 = true then (if (t329 != (!x12)) = true then (rillbedlaw06_KeyRanges.j2 k x0 x1 x7 x8 x11 x12 t322 t323 true x318000 x318001 x319000 x319001) else ((key_Meta.f k x0).bind fun t330 => ((key_Meta.f k x1).bind fun t331 => (if ((t330.toList == t331.toList) != x12) = true then (rillbedlaw06_KeyRanges.j2 k x0 x1 x7 x8 x11 x12 t322 t323 true x318000 x318001 x319000 x319001) else ((key_Meta.f k x1).bind fun t332 => ((strings_Join.f x1 (⟨#[47]⟩ : ByteArray)).bind fun t333 => ((rillbedlaw06_takes.f k t332 109 t333 0).bind fun t334 => (if t334 = true then (if x12 = true then (rillbedlaw06_KeyRanges.j2 k x0 x1 x7 x8 x11 x12 t322 t323 false x318000 x318001 x319000 x319001) else ((key_Meta.f k x1).bind fun t335 => ((key_Meta.f k x0).bind fun t336 => (rillbedlaw06_KeyRanges.j2 k x0 x1 x7 x8 x11 x12 t322 t323 (Op.bytesLess t335.toList t336.toList) x318000 x318001 x319000 x319001)))) else (rillbedlaw06_KeyRanges.j2 k x0 x1 x7 x8 x11 x12 t322 t323 true x318000 x318001 x319000 x319001))))))))) else (if (t329 != false) = true then (rillbedlaw06_KeyRanges.j2 k x0 x1 x7 x8 x11 x12 t322 t323 true x318000 x318001 x319000 x319001) else ((key_Meta.f k x0).bind fun t337 => ((key_Meta.f k x1).bind fun t338 => (if ((t337.toList == t338.toList) != x12) = true then (rillbedlaw06_KeyRanges.j2 k x0 x1 x7 x8 x11 x12 t322 t323 true x318000 x318001 x319000 x319001) else ((key_Meta.f k x1).bind fun t339 => ((strings_Join.f x1 (⟨#[47]⟩ : ByteArray)).bind fun t340 => ((rillbedlaw06_takes.f k t339 109 t340 0).bind fun t341 => (if t341 = true then (rillbedlaw06_KeyRanges.j2 k x0 x1 x7 x8 x11 x12 t322 t323 false x318000 x318001 x319000 x319001) else (rillbedlaw06_KeyRanges.j2 k x0 x1 x7 x8 x11 x12 t322 t323 true x318000 x318001 x319000 x319001)))))))))))))))))
def rillbedlaw06_KeyRanges.j2 : Nat → List ByteArray → List ByteArray → Int → Int → Bool → Bool → ByteArray → ByteArray → Bool → ByteArray → ByteArray → ByteArray → ByteArray → Option (Bool)
  | 0, _, _, _, _, _, _, _, _, _, _, _, _, _ => none
  | k + 1, x0, x1, x7, x8, x11, x12, x13, x14, x113, x318000, x318001, x319000, x319001 => if x113 = true then (some false) else (if (x1.length : Int) = 0 then (if x14.toList = ([] : List UInt8) then ((rillbedlaw06_works.f k).bind fun t342 => (some t342)) else (some false)) else ((rillbedlaw06_in.f x14 x319000 x319001).bind fun t343 => (if (t343 != x11) = true then (some false) else ((rillbedlaw06_in.f x14 x318000 x318001).bind fun t344 => (if t344 = true then (some false) else ((key_Meta.f k x1).bind fun t345 => ((rillbedlaw06_in.f t345 x319000 x319001).bind fun t346 => (if t346 = true then (some false) else ((strings_Join.f x1 (⟨#[47]⟩ : ByteArray)).bind fun t347 => ((rillbedlaw06_takes.f k x14 100 t347 x8).bind fun t348 => (if t348 = true then ((key_Blocks.f k x0).bind fun bt349 => ((rillbedlaw06_in.f x14 bt349.1 bt349.2).bind fun t351 => (if (t351 != x12) = true then (some false) else (if (x0.length : Int) = 0 then ((rillbedlaw06_works.f k).bind fun t352 => (some t352)) else (if x12 = true then (if ((Op.bytesLess x13.toList x14.toList) == (decide (x7 < x8))) = true then ((rillbedlaw06_works.f k).bind fun t353 => (some t353)) else (some false)) else (if x13.toList = x14.toList then (some false) else ((rillbedlaw06_works.f k).bind fun t354 => (some t354)))))))) else (some false))))))))))))
end
def rillbedlaw06_KeyRanges.f (k : Nat) (l0 : List ByteArray) (l1 : List ByteArray) (a2_0 : Int) (a2_1 : Int) : Option (Bool) := (rillbedlaw06_few.f k l0).bind fun t308 => (if t308 = true then ((rillbedlaw06_few.f k l1).bind fun t309 => (if t309 = true then ((key_Meta.f k l0).bind fun t310 => (if t310.toList = ([] : List UInt8) then (rillbedlaw06_KeyRanges.j0 k l0 l1 true a2_0 a2_1) else ((key_Meta.f k l1).bind fun t311 => (rillbedlaw06_KeyRanges.j0 k l0 l1 (t311.toList == ([] : List UInt8)) a2_0 a2_1)))) else (rillbedlaw06_KeyRanges.j0 k l0 l1 true a2_0 a2_1))) else (rillbedlaw06_KeyRanges.j0 k l0 l1 true a2_0 a2_1))
theorem rillbedlaw06_KeyRanges.mono_l : ∀ k, (∀ y0 y1 y2 y3 y4, LeO (rillbedlaw06_KeyRanges.j0 k y0 y1 y2 y3 y4) (rillbedlaw06_KeyRanges.j0 (k + 1) y0 y1 y2 y3 y4)) ∧ (∀ y0 y1 y2 y3 y4 y5 y6 y7 y8 y9, LeO (rillbedlaw06_KeyRanges.j1 k y0 y1 y2 y3 y4 y5 y6 y7 y8 y9) (rillbedlaw06_KeyRanges.j1 (k + 1) y0 y1 y2 y3 y4 y5 y6 y7 y8 y9)) ∧ (∀ y0 y1 y2 y3 y4 y5 y6 y7 y8 y9 y10 y11 y12, LeO (rillbedlaw06_KeyRanges.j2 k y0 y1 y2 y3 y4 y5 y6 y7 y8 y9 y10 y11 y12) (rillbedlaw06_KeyRanges.j2 (k + 1) y0 y1 y2 y3 y4 y5 y6 y7 y8 y9 y10 y11 y12))
  | 0 => ⟨fun _ _ _ _ _ r h => by simp [rillbedlaw06_KeyRanges.j0] at h, fun _ _ _ _ _ _ _ _ _ _ r h => by simp [rillbedlaw06_KeyRanges.j1] at h, fun _ _ _ _ _ _ _ _ _ _ _ _ _ r h => by simp [rillbedlaw06_KeyRanges.j2] at h⟩
  | k + 1 => by
    obtain ⟨ih0, ih1, ih2⟩ := rillbedlaw06_KeyRanges.mono_l k
    refine ⟨?_, ?_, ?_⟩
    · intro y0 y1 y2 y3 y4
      unfold rillbedlaw06_KeyRanges.j0
      repeat' first
      | (with_reducible exact ih0 _ _ _ _ _)
      | (with_reducible exact ih1 _ _ _ _ _ _ _ _ _ _)
      | (with_reducible exact ih2 _ _ _ _ _ _ _ _ _ _ _ _ _)
      | (with_reducible exact key_Below.mono _ _)
      | (with_reducible exact key_Block.mono _ _ _)
      | (with_reducible exact key_Blocks.mono _ _)
      | (with_reducible exact key_Meta.mono _ _)
      | (with_reducible exact key_Subtree.mono _ _)
      | (with_reducible exact rillbedlaw06_begins.mono _ _ _)
      | (with_reducible exact rillbedlaw06_few.mono _ _)
      | (with_reducible exact rillbedlaw06_takes.mono _ _ _ _ _)
      | (with_reducible exact rillbedlaw06_works.mono _)
      | (with_reducible exact LeO.refl _)
      | (with_reducible exact LeO.none _)
      | (with_reducible refine LeO.ite ?_ ?_)
      | (with_reducible refine LeO.bind ?_ (fun _ => ?_))
      | exact ih0 _ _ _ _ _
      | exact ih1 _ _ _ _ _ _ _ _ _ _
      | exact ih2 _ _ _ _ _ _ _ _ _ _ _ _ _
      | exact key_Below.mono _ _
      | exact key_Block.mono _ _ _
      | exact key_Blocks.mono _ _
      | exact key_Meta.mono _ _
      | exact key_Subtree.mono _ _
      | exact rillbedlaw06_begins.mono _ _ _
      | exact rillbedlaw06_few.mono _ _
      | exact rillbedlaw06_takes.mono _ _ _ _ _
      | exact rillbedlaw06_works.mono _
      | exact LeO.none _
      | refine LeO.ite ?_ ?_
      | refine LeO.bind ?_ (fun _ => ?_)
    · intro y0 y1 y2 y3 y4 y5 y6 y7 y8 y9
      unfold rillbedlaw06_KeyRanges.j1
      repeat' first
      | (with_reducible exact ih0 _ _ _ _ _)
      | (with_reducible exact ih1 _ _ _ _ _ _ _ _ _ _)
      | (with_reducible exact ih2 _ _ _ _ _ _ _ _ _ _ _ _ _)
      | (with_reducible exact key_Below.mono _ _)
      | (with_reducible exact key_Block.mono _ _ _)
      | (with_reducible exact key_Blocks.mono _ _)
      | (with_reducible exact key_Meta.mono _ _)
      | (with_reducible exact key_Subtree.mono _ _)
      | (with_reducible exact rillbedlaw06_begins.mono _ _ _)
      | (with_reducible exact rillbedlaw06_few.mono _ _)
      | (with_reducible exact rillbedlaw06_takes.mono _ _ _ _ _)
      | (with_reducible exact rillbedlaw06_works.mono _)
      | (with_reducible exact LeO.refl _)
      | (with_reducible exact LeO.none _)
      | (with_reducible refine LeO.ite ?_ ?_)
      | (with_reducible refine LeO.bind ?_ (fun _ => ?_))
      | exact ih0 _ _ _ _ _
      | exact ih1 _ _ _ _ _ _ _ _ _ _
      | exact ih2 _ _ _ _ _ _ _ _ _ _ _ _ _
      | exact key_Below.mono _ _
      | exact key_Block.mono _ _ _
      | exact key_Blocks.mono _ _
      | exact key_Meta.mono _ _
      | exact key_Subtree.mono _ _
      | exact rillbedlaw06_begins.mono _ _ _
      | exact rillbedlaw06_few.mono _ _
      | exact rillbedlaw06_takes.mono _ _ _ _ _
      | exact rillbedlaw06_works.mono _
      | exact LeO.none _
      | refine LeO.ite ?_ ?_
      | refine LeO.bind ?_ (fun _ => ?_)
    · intro y0 y1 y2 y3 y4 y5 y6 y7 y8 y9 y10 y11 y12
      unfold rillbedlaw06_KeyRanges.j2
      repeat' first
      | (with_reducible exact ih0 _ _ _ _ _)
      | (with_reducible exact ih1 _ _ _ _ _ _ _ _ _ _)
      | (with_reducible exact ih2 _ _ _ _ _ _ _ _ _ _ _ _ _)
      | (with_reducible exact key_Below.mono _ _)
      | (with_reducible exact key_Block.mono _ _ _)
      | (with_reducible exact key_Blocks.mono _ _)
      | (with_reducible exact key_Meta.mono _ _)
      | (with_reducible exact key_Subtree.mono _ _)
      | (with_reducible exact rillbedlaw06_begins.mono _ _ _)
      | (with_reducible exact rillbedlaw06_few.mono _ _)
      | (with_reducible exact rillbedlaw06_takes.mono _ _ _ _ _)
      | (with_reducible exact rillbedlaw06_works.mono _)
      | (with_reducible exact LeO.refl _)
      | (with_reducible exact LeO.none _)
      | (with_reducible refine LeO.ite ?_ ?_)
      | (with_reducible refine LeO.bind ?_ (fun _ => ?_))
      | exact ih0 _ _ _ _ _
      | exact ih1 _ _ _ _ _ _ _ _ _ _
      | exact ih2 _ _ _ _ _ _ _ _ _ _ _ _ _
      | exact key_Below.mono _ _
      | exact key_Block.mono _ _ _
      | exact key_Blocks.mono _ _
      | exact key_Meta.mono _ _
      | exact key_Subtree.mono _ _
      | exact rillbedlaw06_begins.mono _ _ _
      | exact rillbedlaw06_few.mono _ _
      | exact rillbedlaw06_takes.mono _ _ _ _ _
      | exact rillbedlaw06_works.mono _
      | exact LeO.none _
      | refine LeO.ite ?_ ?_
      | refine LeO.bind ?_ (fun _ => ?_)
theorem rillbedlaw06_KeyRanges.mono : ∀ a0 a1 a2 a3 k, LeO (rillbedlaw06_KeyRanges.f k a0 a1 a2 a3) (rillbedlaw06_KeyRanges.f (k + 1) a0 a1 a2 a3) := by
  intro a0 a1 a2 a3 k
  obtain ⟨ih0, ih1, ih2⟩ := rillbedlaw06_KeyRanges.mono_l k
  unfold rillbedlaw06_KeyRanges.f
  repeat' first
      | (with_reducible exact ih0 _ _ _ _ _)
      | (with_reducible exact ih1 _ _ _ _ _ _ _ _ _ _)
      | (with_reducible exact ih2 _ _ _ _ _ _ _ _ _ _ _ _ _)
      | (with_reducible exact key_Below.mono _ _)
      | (with_reducible exact key_Block.mono _ _ _)
      | (with_reducible exact key_Blocks.mono _ _)
      | (with_reducible exact key_Meta.mono _ _)
      | (with_reducible exact key_Subtree.mono _ _)
      | (with_reducible exact rillbedlaw06_begins.mono _ _ _)
      | (with_reducible exact rillbedlaw06_few.mono _ _)
      | (with_reducible exact rillbedlaw06_takes.mono _ _ _ _ _)
      | (with_reducible exact rillbedlaw06_works.mono _)
      | (with_reducible exact LeO.refl _)
      | (with_reducible exact LeO.none _)
      | (with_reducible refine LeO.ite ?_ ?_)
      | (with_reducible refine LeO.bind ?_ (fun _ => ?_))
      | exact ih0 _ _ _ _ _
      | exact ih1 _ _ _ _ _ _ _ _ _ _
      | exact ih2 _ _ _ _ _ _ _ _ _ _ _ _ _
      | exact key_Below.mono _ _
      | exact key_Block.mono _ _ _
      | exact key_Blocks.mono _ _
      | exact key_Meta.mono _ _
      | exact key_Subtree.mono _ _
      | exact rillbedlaw06_begins.mono _ _ _
      | exact rillbedlaw06_few.mono _ _
      | exact rillbedlaw06_takes.mono _ _ _ _ _
      | exact rillbedlaw06_works.mono _
      | exact LeO.none _
      | refine LeO.ite ?_ ?_
      | refine LeO.bind ?_ (fun _ => ?_)
def rillbedlaw06_KeyRanges.T3 : Bool × List (List Nat × List Nat) := (true, [([], []), ([0], [0]), ([1], [1]), ([2], [2]), ([], []), ([4], [4]), ([5], [5]), ([6], [6]), ([3, 0, 1, 2, 3], [3]), ([7, 8, 0, 1, 2, 3, 4, 5, 6, 7, 8], [7])])
def rillbedlaw06_KeyRanges.B3 : List Nat := [0, 1, 3, 7, 0, 16, 48, 112, 15, 511]
theorem rillbedlaw06_KeyRanges.tab3 : rtab .any (opsOf Tryd.f6 3) = rillbedlaw06_KeyRanges.T3 := by kernel_rfl
theorem rillbedlaw06_KeyRanges.bits3 : waitsOk rillbedlaw06_KeyRanges.T3.2 rillbedlaw06_KeyRanges.B3 = true := by kernel_rfl
def rillbedlaw06_KeyRanges.T7 : Bool × List (List Nat × List Nat) := (true, [([], []), ([0], [0]), ([], []), ([1, 2, 1], [1, 2]), ([], []), ([3, 4], [3, 4]), ([5, 3], [5]), ([6], [6]), ([7, 6, 6], [6, 7]), ([6], [6]), ([9, 8, 6], [6, 9]), ([8, 10, 10, 6], [6, 8, 10]), ([6], [6]), ([12, 11, 6], [6, 12]), ([13], [13]), ([14, 13], [13, 14]), ([13, 15, 6], [6, 13, 15]), ([11, 16, 6], [6, 11, 16]), ([6, 17], [6, 17]), ([18, 13], [18]), ([19], [19]), ([20, 19, 19], [19, 20]), ([19], [19]), ([22, 21, 19], [19, 22]), ([21, 23, 19], [19, 21, 23]), ([19], [19]), ([24, 25, 19], [19, 24, 25]), ([19, 26], [19, 26]), ([27, 23], [27]), ([28], [28]), ([29, 28, 28], [28, 29]), ([28], [28]), ([31, 30, 28], [28, 31]), ([30, 32, 32, 28], [28, 30, 32]), ([33, 28], [28, 33]), ([28, 34], [28, 34]), ([35, 33], [35]), ([36], [36]), ([37, 36, 36], [36, 37]), ([38], [38]), ([39, 38], [38, 39]), ([38, 40, 36], [36, 38, 40]), ([41, 38, 36], [36, 41]), ([42], [42]), ([43, 42, 42], [42, 43]), ([42], [42]), ([45, 44, 42], [42, 45]), ([44, 46, 42], [42, 44, 46]), ([42, 47, 36], [36, 42, 47]), ([36, 48], [36, 48])])
def rillbedlaw06_KeyRanges.B7 : List Nat := [0, 1, 0, 7, 0, 31, 63, 127, 255, 127, 1023, 2047, 127, 8191, 16383, 32767, 65535, 131071, 262143, 524287, 1048575, 2097151, 1048575, 8388607, 16777215, 1048575, 67108863, 134217727, 268435455, 536870911, 1073741823, 536870911, 4294967295, 8589934591, 17179869183, 34359738367, 68719476735, 137438953471, 274877906943, 549755813887, 1099511627775, 2199023255551, 4398046511103, 8796093022207, 17592186044415, 8796093022207, 70368744177663, 140737488355327, 281474976710655, 562949953421311]
theorem rillbedlaw06_KeyRanges.tab7 : rtab .any (opsOf Tryd.f6 7) = rillbedlaw06_KeyRanges.T7 := by kernel_rfl
theorem rillbedlaw06_KeyRanges.bits7 : waitsOk rillbedlaw06_KeyRanges.T7.2 rillbedlaw06_KeyRanges.B7 = true := by kernel_rfl
def rillbedlaw06_KeyRanges.T11 : Bool × List (List Nat × List Nat) := (true, [([], []), ([], []), ([0, 1], [0, 1]), ([], []), ([2, 3], [2, 3]), ([4, 2], [4]), ([5], [5]), ([5], [5]), ([6, 7, 5, 5], [5, 6, 7]), ([5, 8], [5, 8]), ([9, 8], [9]), ([10], [10]), ([11, 10, 10], [10, 11]), ([10], [10]), ([12, 13, 12, 10], [10, 12, 13]), ([10, 14], [10, 14]), ([15, 14], [15]), ([16], [16]), ([16], [16]), ([18, 16, 16], [16, 18]), ([16], [16]), ([17, 19, 20, 19, 16], [16, 17, 19, 20]), ([21, 16], [16, 21]), ([16, 22], [16, 22]), ([23, 21], [23]), ([24], [24]), ([24], [24]), ([26, 24, 24], [24, 26]), ([25, 27, 27, 24], [24, 25, 27]), ([24], [24]), ([28, 29, 24], [24, 28, 29]), ([24, 30], [24, 30])])
def rillbedlaw06_KeyRanges.B11 : List Nat := [0, 0, 3, 0, 15, 31, 63, 63, 255, 511, 1023, 2047, 4095, 2047, 16383, 32767, 65535, 131071, 131071, 393215, 131071, 2097151, 4194303, 8388607, 16777215, 33554431, 33554431, 100663295, 268435455, 33554431, 1073741823, 2147483647]
theorem rillbedlaw06_KeyRanges.tab11 : rtab .any (opsOf Tryd.f6 11) = rillbedlaw06_KeyRanges.T11 := by kernel_rfl
theorem rillbedlaw06_KeyRanges.bits11 : waitsOk rillbedlaw06_KeyRanges.T11.2 rillbedlaw06_KeyRanges.B11 = true := by kernel_rfl
abbrev KeyRanges.m0 : Array Bool := #[false, false, false, false, false, false, false, false, false, false, false, false, false, false, false, false, false, false, false, false, false, false, false, false, false, false, false, false, false, false, false, false, false, false, false, false, false, false, false, false, false, false, false, false, false, false, false, false, false, false]
abbrev KeyRanges.m1 : Array Bool := #[true, false, false, false, false, false, false, false, false, false, false, false, false, false, false, false, false, false, false, false, false, false, false, false, false, false, false, false, false, false, false, false, false, false, false, false, false, false, false, false, false, false, false, false, false, false, false, false, false, false]
abbrev KeyRanges.m2 : Array Bool := #[true, false, false, false, true, false, false, false, false, false, false, false, false, false, false, false, false, false, false, false, false, false, false, false, false, false, false, false, false, false, false, false, false, false, false, false, false, false, false, false, false, false, false, false, false, false, false, false, false, false]
abbrev KeyRanges.m3 : Array Bool := #[true, false, true, false, true, false, false, false, false, false, false, false, false, false, false, false, false, false, false, false, false, false, false, false, false, false, false, false, false, false, false, false, false, false, false, false, false, false, false, false, false, false, false, false, false, false, false, false, false, false]
abbrev KeyRanges.m4 : Array Bool := #[true, true, true, false, true, false, false, false, false, false, false, false, false, false, false, false, false, false, false, false, false, false, false, false, false, false, false, false, false, false, false, false, false, false, false, false, false, false, false, false, false, false, false, false, false, false, false, false, false, false]
abbrev KeyRanges.m5 : Array Bool := #[true, true, true, true, true, false, false, false, false, false, false, false, false, false, false, false, false, false, false, false, false, false, false, false, false, false, false, false, false, false, false, false, false, false, false, false, false, false, false, false, false, false, false, false, false, false, false, false, false, false]
abbrev KeyRanges.m6 : Array Bool := #[true, true, true, true, true, true, false, false, false, false, false, false, false, false, false, false, false, false, false, false, false, false, false, false, false, false, false, false, false, false, false, false, false, false, false, false, false, false, false, false, false, false, false, false, false, false, false, false, false, false]
abbrev KeyRanges.m7 : Array Bool := #[true, true, true, true, true, true, true, false, false, false, false, false, false, false, false, false, false, false, false, false, false, false, false, false, false, false, false, false, false, false, false, false, false, false, false, false, false, false, false, false, false, false, false, false, false, false, false, false, false, false]
abbrev KeyRanges.m8 : Array Bool := #[true, true, true, true, true, true, true, true, false, false, false, false, false, false, false, false, false, false, false, false, false, false, false, false, false, false, false, false, false, false, false, false, false, false, false, false, false, false, false, false, false, false, false, false, false, false, false, false, false, false]
abbrev KeyRanges.m9 : Array Bool := #[true, true, true, true, true, true, true, true, false, true, false, false, false, false, false, false, false, false, false, false, false, false, false, false, false, false, false, false, false, false, false, false, false, false, false, false, false, false, false, false, false, false, false, false, false, false, false, false, false, false]
abbrev KeyRanges.m10 : Array Bool := #[true, true, true, true, true, true, true, true, false, true, false, false, true, false, false, false, false, false, false, false, false, false, false, false, false, false, false, false, false, false, false, false, false, false, false, false, false, false, false, false, false, false, false, false, false, false, false, false, false, false]
abbrev KeyRanges.m11 : Array Bool := #[true, true, true, true, true, true, true, true, true, true, false, false, true, false, false, false, false, false, false, false, false, false, false, false, false, false, false, false, false, false, false, false, false, false, false, false, false, false, false, false, false, false, false, false, false, false, false, false, false, false]
abbrev KeyRanges.m12 : Array Bool := #[true, true, true, true, true, true, true, true, true, true, true, false, true, false, false, false, false, false, false, false, false, false, false, false, false, false, false, false, false, false, false, false, false, false, false, false, false, false, false, false, false, false, false, false, false, false, false, false, false, false]
abbrev KeyRanges.m13 : Array Bool := #[true, true, true, true, true, true, true, true, true, true, true, true, true, false, false, false, false, false, false, false, false, false, false, false, false, false, false, false, false, false, false, false, false, false, false, false, false, false, false, false, false, false, false, false, false, false, false, false, false, false]
abbrev KeyRanges.m14 : Array Bool := #[true, true, true, true, true, true, true, true, true, true, true, true, true, true, false, false, false, false, false, false, false, false, false, false, false, false, false, false, false, false, false, false, false, false, false, false, false, false, false, false, false, false, false, false, false, false, false, false, false, false]
abbrev KeyRanges.m15 : Array Bool := #[true, true, true, true, true, true, true, true, true, true, true, true, true, true, true, false, false, false, false, false, false, false, false, false, false, false, false, false, false, false, false, false, false, false, false, false, false, false, false, false, false, false, false, false, false, false, false, false, false, false]
abbrev KeyRanges.m16 : Array Bool := #[true, true, true, true, true, true, true, true, true, true, true, true, true, true, true, true, false, false, false, false, false, false, false, false, false, false, false, false, false, false, false, false, false, false, false, false, false, false, false, false, false, false, false, false, false, false, false, false, false, false]
abbrev KeyRanges.m17 : Array Bool := #[true, true, true, true, true, true, true, true, true, true, true, true, true, true, true, true, true, false, false, false, false, false, false, false, false, false, false, false, false, false, false, false, false, false, false, false, false, false, false, false, false, false, false, false, false, false, false, false, false, false]
abbrev KeyRanges.m18 : Array Bool := #[true, true, true, true, true, true, true, true, true, true, true, true, true, true, true, true, true, true, false, false, false, false, false, false, false, false, false, false, false, false, false, false, false, false, false, false, false, false, false, false, false, false, false, false, false, false, false, false, false, false]
abbrev KeyRanges.m19 : Array Bool := #[true, true, true, true, true, true, true, true, true, true, true, true, true, true, true, true, true, true, true, false, false, false, false, false, false, false, false, false, false, false, false, false, false, false, false, false, false, false, false, false, false, false, false, false, false, false, false, false, false, false]
abbrev KeyRanges.m20 : Array Bool := #[true, true, true, true, true, true, true, true, true, true, true, true, true, true, true, true, true, true, true, true, false, false, false, false, false, false, false, false, false, false, false, false, false, false, false, false, false, false, false, false, false, false, false, false, false, false, false, false, false, false]
abbrev KeyRanges.m21 : Array Bool := #[true, true, true, true, true, true, true, true, true, true, true, true, true, true, true, true, true, true, true, true, true, false, false, false, false, false, false, false, false, false, false, false, false, false, false, false, false, false, false, false, false, false, false, false, false, false, false, false, false, false]
abbrev KeyRanges.m22 : Array Bool := #[true, true, true, true, true, true, true, true, true, true, true, true, true, true, true, true, true, true, true, true, true, false, true, false, false, false, false, false, false, false, false, false, false, false, false, false, false, false, false, false, false, false, false, false, false, false, false, false, false, false]
abbrev KeyRanges.m23 : Array Bool := #[true, true, true, true, true, true, true, true, true, true, true, true, true, true, true, true, true, true, true, true, true, false, true, false, false, true, false, false, false, false, false, false, false, false, false, false, false, false, false, false, false, false, false, false, false, false, false, false, false, false]
abbrev KeyRanges.m24 : Array Bool := #[true, true, true, true, true, true, true, true, true, true, true, true, true, true, true, true, true, true, true, true, true, true, true, false, false, true, false, false, false, false, false, false, false, false, false, false, false, false, false, false, false, false, false, false, false, false, false, false, false, false]
abbrev KeyRanges.m25 : Array Bool := #[true, true, true, true, true, true, true, true, true, true, true, true, true, true, true, true, true, true, true, true, true, true, true, true, false, true, false, false, false, false, false, false, false, false, false, false, false, false, false, false, false, false, false, false, false, false, false, false, false, false]
abbrev KeyRanges.m26 : Array Bool := #[true, true, true, true, true, true, true, true, true, true, true, true, true, true, true, true, true, true, true, true, true, true, true, true, true, true, false, false, false, false, false, false, false, false, false, false, false, false, false, false, false, false, false, false, false, false, false, false, false, false]
abbrev KeyRanges.m27 : Array Bool := #[true, true, true, true, true, true, true, true, true, true, true, true, true, true, true, true, true, true, true, true, true, true, true, true, true, true, true, false, false, false, false, false, false, false, false, false, false, false, false, false, false, false, false, false, false, false, false, false, false, false]
abbrev KeyRanges.m28 : Array Bool := #[true, true, true, true, true, true, true, true, true, true, true, true, true, true, true, true, true, true, true, true, true, true, true, true, true, true, true, true, false, false, false, false, false, false, false, false, false, false, false, false, false, false, false, false, false, false, false, false, false, false]
abbrev KeyRanges.m29 : Array Bool := #[true, true, true, true, true, true, true, true, true, true, true, true, true, true, true, true, true, true, true, true, true, true, true, true, true, true, true, true, true, false, false, false, false, false, false, false, false, false, false, false, false, false, false, false, false, false, false, false, false, false]
abbrev KeyRanges.m30 : Array Bool := #[true, true, true, true, true, true, true, true, true, true, true, true, true, true, true, true, true, true, true, true, true, true, true, true, true, true, true, true, true, true, false, false, false, false, false, false, false, false, false, false, false, false, false, false, false, false, false, false, false, false]
abbrev KeyRanges.m31 : Array Bool := #[true, true, true, true, true, true, true, true, true, true, true, true, true, true, true, true, true, true, true, true, true, true, true, true, true, true, true, true, true, true, false, true, false, false, false, false, false, false, false, false, false, false, false, false, false, false, false, false, false, false]
abbrev KeyRanges.m32 : Array Bool := #[true, true, true, true, true, true, true, true, true, true, true, true, true, true, true, true, true, true, true, true, true, true, true, true, true, true, true, true, true, true, true, true, false, false, false, false, false, false, false, false, false, false, false, false, false, false, false, false, false, false]
abbrev KeyRanges.m33 : Array Bool := #[true, true, true, true, true, true, true, true, true, true, true, true, true, true, true, true, true, true, true, true, true, true, true, true, true, true, true, true, true, true, true, true, true, false, false, false, false, false, false, false, false, false, false, false, false, false, false, false, false, false]
abbrev KeyRanges.m34 : Array Bool := #[true, true, true, true, true, true, true, true, true, true, true, true, true, true, true, true, true, true, true, true, true, true, true, true, true, true, true, true, true, true, true, true, true, true, false, false, false, false, false, false, false, false, false, false, false, false, false, false, false, false]
abbrev KeyRanges.m35 : Array Bool := #[true, true, true, true, true, true, true, true, true, true, true, true, true, true, true, true, true, true, true, true, true, true, true, true, true, true, true, true, true, true, true, true, true, true, true, false, false, false, false, false, false, false, false, false, false, false, false, false, false, false]
abbrev KeyRanges.m36 : Array Bool := #[true, true, true, true, true, true, true, true, true, true, true, true, true, true, true, true, true, true, true, true, true, true, true, true, true, true, true, true, true, true, true, true, true, true, true, true, false, false, false, false, false, false, false, false, false, false, false, false, false, false]
abbrev KeyRanges.m37 : Array Bool := #[true, true, true, true, true, true, true, true, true, true, true, true, true, true, true, true, true, true, true, true, true, true, true, true, true, true, true, true, true, true, true, true, true, true, true, true, true, false, false, false, false, false, false, false, false, false, false, false, false, false]
abbrev KeyRanges.m38 : Array Bool := #[true, true, true, true, true, true, true, true, true, true, true, true, true, true, true, true, true, true, true, true, true, true, true, true, true, true, true, true, true, true, true, true, true, true, true, true, true, true, false, false, false, false, false, false, false, false, false, false, false, false]
abbrev KeyRanges.m39 : Array Bool := #[true, true, true, true, true, true, true, true, true, true, true, true, true, true, true, true, true, true, true, true, true, true, true, true, true, true, true, true, true, true, true, true, true, true, true, true, true, true, true, false, false, false, false, false, false, false, false, false, false, false]
abbrev KeyRanges.m40 : Array Bool := #[true, true, true, true, true, true, true, true, true, true, true, true, true, true, true, true, true, true, true, true, true, true, true, true, true, true, true, true, true, true, true, true, true, true, true, true, true, true, true, true, false, false, false, false, false, false, false, false, false, false]
abbrev KeyRanges.m41 : Array Bool := #[true, true, true, true, true, true, true, true, true, true, true, true, true, true, true, true, true, true, true, true, true, true, true, true, true, true, true, true, true, true, true, true, true, true, true, true, true, true, true, true, true, false, false, false, false, false, false, false, false, false]
abbrev KeyRanges.m42 : Array Bool := #[true, true, true, true, true, true, true, true, true, true, true, true, true, true, true, true, true, true, true, true, true, true, true, true, true, true, true, true, true, true, true, true, true, true, true, true, true, true, true, true, true, true, false, false, false, false, false, false, false, false]
abbrev KeyRanges.m43 : Array Bool := #[true, true, true, true, true, true, true, true, true, true, true, true, true, true, true, true, true, true, true, true, true, true, true, true, true, true, true, true, true, true, true, true, true, true, true, true, true, true, true, true, true, true, true, false, false, false, false, false, false, false]
abbrev KeyRanges.m44 : Array Bool := #[true, true, true, true, true, true, true, true, true, true, true, true, true, true, true, true, true, true, true, true, true, true, true, true, true, true, true, true, true, true, true, true, true, true, true, true, true, true, true, true, true, true, true, true, false, false, false, false, false, false]
abbrev KeyRanges.m45 : Array Bool := #[true, true, true, true, true, true, true, true, true, true, true, true, true, true, true, true, true, true, true, true, true, true, true, true, true, true, true, true, true, true, true, true, true, true, true, true, true, true, true, true, true, true, true, true, true, false, false, false, false, false]
abbrev KeyRanges.m46 : Array Bool := #[true, true, true, true, true, true, true, true, true, true, true, true, true, true, true, true, true, true, true, true, true, true, true, true, true, true, true, true, true, true, true, true, true, true, true, true, true, true, true, true, true, true, true, true, true, true, false, false, false, false]
abbrev KeyRanges.m47 : Array Bool := #[true, true, true, true, true, true, true, true, true, true, true, true, true, true, true, true, true, true, true, true, true, true, true, true, true, true, true, true, true, true, true, true, true, true, true, true, true, true, true, true, true, true, true, true, true, true, true, false, false, false]
abbrev KeyRanges.m48 : Array Bool := #[true, true, true, true, true, true, true, true, true, true, true, true, true, true, true, true, true, true, true, true, true, true, true, true, true, true, true, true, true, true, true, true, true, true, true, true, true, true, true, true, true, true, true, true, true, true, true, true, false, false]
abbrev KeyRanges.m49 : Array Bool := #[true, true, true, true, true, true, true, true, true, true, true, true, true, true, true, true, true, true, true, true, true, true, true, true, true, true, true, true, true, true, true, true, true, true, true, true, true, true, true, true, true, true, true, true, true, true, true, true, true, false]
abbrev KeyRanges.m50 : Array Bool := #[true, true, true, true, true, true, true, true, true, true, true, true, true, true, true, true, true, true, true, true, true, true, true, true, true, true, true, true, true, true, true, true, true, true, true, true, true, true, true, true, true, true, true, true, true, true, true, true, true, true]
abbrev KeyRanges.m51 : Array Bool := #[true, true, true, true, true, true, true, true, true, true, true, true, true, true, true, true, true, true, true, true, true, true, true, true, true, true, true, true, true, true, true, true, true, true, true, true, true, true, true, true, true, true, true, true, false, true, false, false, false, false]
abbrev KeyRanges.m52 : Array Bool := #[false, false, false, false, false, false, false, false, false, false, false, false, false, false, false, false, false, false, false, false, false, false, false, false, false, false, false, false, false, false, false, false]
abbrev KeyRanges.m53 : Array Bool := #[true, false, false, false, false, false, false, false, false, false, false, false, false, false, false, false, false, false, false, false, false, false, false, false, false, false, false, false, false, false, false, false]
abbrev KeyRanges.m54 : Array Bool := #[true, false, false, true, false, false, false, false, false, false, false, false, false, false, false, false, false, false, false, false, false, false, false, false, false, false, false, false, false, false, false, false]
abbrev KeyRanges.m55 : Array Bool := #[true, true, false, true, false, false, false, false, false, false, false, false, false, false, false, false, false, false, false, false, false, false, false, false, false, false, false, false, false, false, false, false]
abbrev KeyRanges.m56 : Array Bool := #[true, true, true, true, false, false, false, false, false, false, false, false, false, false, false, false, false, false, false, false, false, false, false, false, false, false, false, false, false, false, false, false]
abbrev KeyRanges.m57 : Array Bool := #[true, true, true, true, true, false, false, false, false, false, false, false, false, false, false, false, false, false, false, false, false, false, false, false, false, false, false, false, false, false, false, false]
abbrev KeyRanges.m58 : Array Bool := #[true, true, true, true, true, true, false, false, false, false, false, false, false, false, false, false, false, false, false, false, false, false, false, false, false, false, false, false, false, false, false, false]
abbrev KeyRanges.m59 : Array Bool := #[true, true, true, true, true, true, true, false, false, false, false, false, false, false, false, false, false, false, false, false, false, false, false, false, false, false, false, false, false, false, false, false]
abbrev KeyRanges.m60 : Array Bool := #[true, true, true, true, true, true, true, true, false, false, false, false, false, false, false, false, false, false, false, false, false, false, false, false, false, false, false, false, false, false, false, false]
abbrev KeyRanges.m61 : Array Bool := #[true, true, true, true, true, true, true, true, true, false, false, false, false, false, false, false, false, false, false, false, false, false, false, false, false, false, false, false, false, false, false, false]
abbrev KeyRanges.m62 : Array Bool := #[true, true, true, true, true, true, true, true, true, true, false, false, false, false, false, false, false, false, false, false, false, false, false, false, false, false, false, false, false, false, false, false]
abbrev KeyRanges.m63 : Array Bool := #[true, true, true, true, true, true, true, true, true, true, true, false, false, false, false, false, false, false, false, false, false, false, false, false, false, false, false, false, false, false, false, false]
abbrev KeyRanges.m64 : Array Bool := #[true, true, true, true, true, true, true, true, true, true, true, true, false, false, false, false, false, false, false, false, false, false, false, false, false, false, false, false, false, false, false, false]
abbrev KeyRanges.m65 : Array Bool := #[true, true, true, true, true, true, true, true, true, true, true, true, false, true, false, false, false, false, false, false, false, false, false, false, false, false, false, false, false, false, false, false]
abbrev KeyRanges.m66 : Array Bool := #[true, true, true, true, true, true, true, true, true, true, true, true, true, true, false, false, false, false, false, false, false, false, false, false, false, false, false, false, false, false, false, false]
abbrev KeyRanges.m67 : Array Bool := #[true, true, true, true, true, true, true, true, true, true, true, true, true, true, true, false, false, false, false, false, false, false, false, false, false, false, false, false, false, false, false, false]
abbrev KeyRanges.m68 : Array Bool := #[true, true, true, true, true, true, true, true, true, true, true, true, true, true, true, true, false, false, false, false, false, false, false, false, false, false, false, false, false, false, false, false]
abbrev KeyRanges.m69 : Array Bool := #[true, true, true, true, true, true, true, true, true, true, true, true, true, true, true, true, true, false, false, false, false, false, false, false, false, false, false, false, false, false, false, false]
abbrev KeyRanges.m70 : Array Bool := #[true, true, true, true, true, true, true, true, true, true, true, true, true, true, true, true, true, true, false, false, false, false, false, false, false, false, false, false, false, false, false, false]
abbrev KeyRanges.m71 : Array Bool := #[true, true, true, true, true, true, true, true, true, true, true, true, true, true, true, true, true, true, true, false, false, false, false, false, false, false, false, false, false, false, false, false]
abbrev KeyRanges.m72 : Array Bool := #[true, true, true, true, true, true, true, true, true, true, true, true, true, true, true, true, true, true, true, false, true, false, false, false, false, false, false, false, false, false, false, false]
abbrev KeyRanges.m73 : Array Bool := #[true, true, true, true, true, true, true, true, true, true, true, true, true, true, true, true, true, true, true, true, true, false, false, false, false, false, false, false, false, false, false, false]
abbrev KeyRanges.m74 : Array Bool := #[true, true, true, true, true, true, true, true, true, true, true, true, true, true, true, true, true, true, true, true, true, true, false, false, false, false, false, false, false, false, false, false]
abbrev KeyRanges.m75 : Array Bool := #[true, true, true, true, true, true, true, true, true, true, true, true, true, true, true, true, true, true, true, true, true, true, true, false, false, false, false, false, false, false, false, false]
abbrev KeyRanges.m76 : Array Bool := #[true, true, true, true, true, true, true, true, true, true, true, true, true, true, true, true, true, true, true, true, true, true, true, true, false, false, false, false, false, false, false, false]
abbrev KeyRanges.m77 : Array Bool := #[true, true, true, true, true, true, true, true, true, true, true, true, true, true, true, true, true, true, true, true, true, true, true, true, true, false, false, false, false, false, false, false]
abbrev KeyRanges.m78 : Array Bool := #[true, true, true, true, true, true, true, true, true, true, true, true, true, true, true, true, true, true, true, true, true, true, true, true, true, true, false, false, false, false, false, false]
abbrev KeyRanges.m79 : Array Bool := #[true, true, true, true, true, true, true, true, true, true, true, true, true, true, true, true, true, true, true, true, true, true, true, true, true, true, true, false, false, false, false, false]
abbrev KeyRanges.m80 : Array Bool := #[true, true, true, true, true, true, true, true, true, true, true, true, true, true, true, true, true, true, true, true, true, true, true, true, true, true, true, false, false, true, false, false]
abbrev KeyRanges.m81 : Array Bool := #[true, true, true, true, true, true, true, true, true, true, true, true, true, true, true, true, true, true, true, true, true, true, true, true, true, true, true, true, false, true, false, false]
abbrev KeyRanges.m82 : Array Bool := #[true, true, true, true, true, true, true, true, true, true, true, true, true, true, true, true, true, true, true, true, true, true, true, true, true, true, true, true, true, true, false, false]
abbrev KeyRanges.m83 : Array Bool := #[true, true, true, true, true, true, true, true, true, true, true, true, true, true, true, true, true, true, true, true, true, true, true, true, true, true, true, true, true, true, true, false]
abbrev KeyRanges.m84 : Array Bool := #[true, true, true, true, true, true, true, true, true, true, true, true, true, true, true, true, true, true, true, true, true, true, true, true, true, true, true, true, true, true, true, true]

end Go.Proofs.YthafpbidfgmacaaDoor.Q
