-- Printed by a copy of the print program over stub bodies; what stood in the stubs' place is hand-made (post.py)
import Derived.Test.YthafpbidfgmacaaDoorQ0
import Derived.Test.YthafpbidfgmacaaDoorQA
import Derived.Test.YthafpbidfgmacaaDoorQC
import Derived.Test.YthafpbidfgmacaaDoorQD
import Derived.Test.YthafpbidfgmacaaDoorQE
import Derived.Test.YthafpbidfgmacaaDoorQM
import Derived.Test.YthafpbidfgmacaaDoorQkeyBlock
import Derived.Test.YthafpbidfgmacaaDoorQkeyMove
import Derived.Test.YthafpbidfgmacaaDoorQrillbedlaw06works
import Derived.Test.YthafpbidfgmacaaDoorQstringsRepeat
namespace Go.Proofs.YthafpbidfgmacaaDoor.Q
open Go.RowKit Go.Proofs.YthafpbidfgmacaaDoorW.PrintWords Go.Proofs.YthafpbidfgmacaaDoorW.PrintLast Go.Proofs.YthafpbidfgmacaaDoorW.PrintMore
attribute [local go_sem] max2_int min2_int max_two min_two max_three min_three max_four min_four   -- for this text's walks alone
set_option linter.unusedVariables false
set_option linter.unusedSimpArgs false

/-! ### rillbedlaw06_KeyKnown: function 4 -/
mutual
def rillbedlaw06_KeyKnown.j0 : Nat → List ByteArray → Bool → Option (Bool)
  | 0, _, _ => none
  | k + 1, x1, x64 => if x64 = true then (some false) else ((key_Below.f k x1).bind fun bt338 => ((rillbedlaw06_is.f bt338.1 bt338.2 (⟨#[109, 97, 0]⟩ : ByteArray) (⟨#[109, 97, 1]⟩ : ByteArray)).bind fun t340 => (if t340 = true then ((key_Below.f k ([] : List ByteArray)).bind fun bt341 => ((rillbedlaw06_is.f bt341.1 bt341.2 (⟨#[109, 0]⟩ : ByteArray) (⟨#[110]⟩ : ByteArray)).bind fun t343 => (if t343 = true then ((key_Blocks.f k x1).bind fun bt344 => ((rillbedlaw06_is.f bt344.1 bt344.2 (⟨#[100, 97, 0, 0]⟩ : ByteArray) (⟨#[100, 97, 0, 1]⟩ : ByteArray)).bind fun t346 => (if t346 = true then ((key_Past.f k x1).bind fun t347 => (if t347.toList = ([109, 97, 1] : List UInt8) then ((key_Past.f k ([] : List ByteArray)).bind fun t348 => (rillbedlaw06_KeyKnown.j1 k x1 (t348.toList != ([110] : List UInt8)))) else (rillbedlaw06_KeyKnown.j1 k x1 true))) else (rillbedlaw06_KeyKnown.j1 k x1 true)))) else (rillbedlaw06_KeyKnown.j1 k x1 true)))) else (rillbedlaw06_KeyKnown.j1 k x1 true))))
def rillbedlaw06_KeyKnown.j1 : Nat → List ByteArray → Bool → Option (Bool)
  | 0, _, _ => none
  | k + 1, x1, x88 => if x88 = true then (some false) else ((rillbedlaw06_names.f (⟨#[99, 47, 100]⟩ : ByteArray)).bind fun t349 => ((key_Move.f k (⟨#[109, 97, 0, 98]⟩ : ByteArray) x1 t349).bind fun t352 => (if t352.toList = ([109, 99, 0, 100, 0, 98] : List UInt8) then ((rillbedlaw06_names.f (⟨#[99, 47, 100]⟩ : ByteArray)).bind fun t353 => ((key_Move.f k (⟨#[109, 97, 98]⟩ : ByteArray) x1 t353).bind fun t356 => (if t356.toList = ([109, 97, 98] : List UInt8) then ((rillbedlaw06_names.f (⟨#[99, 47, 100]⟩ : ByteArray)).bind fun t357 => ((key_Move.f k (⟨#[100, 97, 0, 0, 0, 1]⟩ : ByteArray) x1 t357).bind fun t360 => (if t360.toList = ([100, 99, 0, 100, 0, 0, 0, 1] : List UInt8) then ((key_Move.f k (⟨#[109, 97]⟩ : ByteArray) x1 ([] : List ByteArray)).bind fun t361 => (if t361.toList = ([109, 97] : List UInt8) then ((key_Move.f k (⟨#[]⟩ : ByteArray) x1 x1).bind fun t362 => (if t362.toList = ([] : List UInt8) then ((rillbedlaw06_names.f (⟨#[99]⟩ : ByteArray)).bind fun t363 => ((key_Move.f k (⟨#[120, 97]⟩ : ByteArray) x1 t363).bind fun t366 => (rillbedlaw06_KeyKnown.j2 k x1 (t366.toList != ([120, 97] : List UInt8))))) else (rillbedlaw06_KeyKnown.j2 k x1 true))) else (rillbedlaw06_KeyKnown.j2 k x1 true))) else (rillbedlaw06_KeyKnown.j2 k x1 true)))) else (rillbedlaw06_KeyKnown.j2 k x1 true)))) else (rillbedlaw06_KeyKnown.j2 k x1 true))))
def rillbedlaw06_KeyKnown.j2 : Nat → List ByteArray → Bool → Option (Bool)
  | 0, _, _ => none
  | k + 1, x1, x121 => if x121 = true then (some false) else ((strings_Repeat.f (⟨#[120]⟩ : ByteArray) 17).bind fun t367 => (rillbedlaw06_KeyKnown.l0 k x1 (([(⟨#[]⟩ : ByteArray), (⟨#[46]⟩ : ByteArray), (⟨#[46, 46]⟩ : ByteArray), (⟨#[97, 47, 98]⟩ : ByteArray), (⟨#[97, 0, 98]⟩ : ByteArray), t367] : List ByteArray)) 0))
def rillbedlaw06_KeyKnown.l0 : Nat → List ByteArray → List ByteArray → Int → Option (Bool)
  | 0, _, _, _ => none
  | k + 1, x1, x6, x7 => if x7 < (x6.length : Int) then (if 0 ≤ x7 then ((some (([rdOf ByteArray.empty x6 x7] : List ByteArray) : List ByteArray)).bind fun y372 => ((key_Meta.f k y372).bind fun t375 => (if t375.toList = ([] : List UInt8) then ((key_Past.f k y372).bind fun t376 => (if t376.toList = ([] : List UInt8) then ((key_Below.f k y372).bind fun bt377 => ((rillbedlaw06_is.f bt377.1 bt377.2 (⟨#[]⟩ : ByteArray) (⟨#[]⟩ : ByteArray)).bind fun t379 => (if t379 = true then ((key_Blocks.f k y372).bind fun bt380 => ((rillbedlaw06_is.f bt380.1 bt380.2 (⟨#[]⟩ : ByteArray) (⟨#[]⟩ : ByteArray)).bind fun t382 => (if t382 = true then ((key_Block.f k y372 0).bind fun t383 => (if t383.toList = ([] : List UInt8) then ((key_Move.f k (⟨#[109, 97]⟩ : ByteArray) x1 y372).bind fun t384 => (if t384.toList = ([109, 97] : List UInt8) then (rillbedlaw06_KeyKnown.l0 k x1 x6 (wrap64 (x7 + 1))) else (some false))) else (some false))) else (some false)))) else (some false)))) else (some false))) else (some false)))) else (none)) else ((rillbedlaw06_takes.f k (⟨#[109]⟩ : ByteArray) 109 (⟨#[]⟩ : ByteArray) 0).bind fun t385 => (if t385 = true then ((rillbedlaw06_takes.f k (⟨#[100, 97, 0, 0, 0, 1]⟩ : ByteArray) 100 (⟨#[97]⟩ : ByteArray) 1).bind fun t386 => (if t386 = true then ((rillbedlaw06_none.f k (⟨#[109, 97, 0, 0, 98]⟩ : ByteArray)).bind fun t387 => (if t387 = true then ((rillbedlaw06_none.f k (⟨#[100, 97]⟩ : ByteArray)).bind fun t388 => (if t388 = true then ((rillbedlaw06_none.f k (⟨#[]⟩ : ByteArray)).bind fun t389 => (if t389 = true then ((rillbedlaw06_none.f k (⟨#[100, 0, 0, 0, 1]⟩ : ByteArray)).bind fun t390 => (if t390 = true then ((rillbedlaw06_none.f k (⟨#[100, 97, 0, 0, 0, 32]⟩ : ByteArray)).bind fun t391 => (if t391 = true then ((rillbedlaw06_none.f k (⟨#[109, 47]⟩ : ByteArray)).bind fun t392 => (if t392 = true then ((rillbedlaw06_names.f (⟨#[49, 47, 50, 47, 51, 47, 52, 47, 53, 47, 54, 47, 55]⟩ : ByteArray)).bind fun t393 => ((key_Meta.f k t393).bind fun t396 => (if t396.toList = ([] : List UInt8) then ((rillbedlaw06_names.f (⟨#[49, 47, 50, 47, 51, 47, 52, 47, 53, 47, 54]⟩ : ByteArray)).bind fun t397 => ((key_Meta.f k t397).bind fun t400 => (if t400.toList = ([] : List UInt8) then (some false) else ((strings_Repeat.f (⟨#[120]⟩ : ByteArray) 16).bind fun t401 => ((key_Meta.f k (([t401] : List ByteArray))).bind fun t405 => (if t405.toList = ([] : List UInt8) then (some false) else ((rillbedlaw06_works.f k).bind fun t406 => (some t406)))))))) else (some false)))) else (some false))) else (some false))) else (some false))) else (some false))) else (some false))) else (some false))) else (some false))) else (some false)))
end
def rillbedlaw06_KeyKnown.f (k : Nat)  : Option (Bool) := (rillbedlaw06_names.f (⟨#[97]⟩ : ByteArray)).bind fun t310 => ((key_Subtree.f k t310).bind fun bt313 => ((key_Subtree.f k ([] : List ByteArray)).bind fun bt319 => ((rillbedlaw06_works.f k).bind fun t325 => (if t325 = true then ((key_Meta.f k t310).bind fun t326 => (if t326.toList = ([109, 97] : List UInt8) then ((rillbedlaw06_names.f (⟨#[97, 47, 98]⟩ : ByteArray)).bind fun t327 => ((key_Block.f k t327 258).bind fun t330 => (if t330.toList = ([] : List UInt8) then ((key_Block.f k ([] : List ByteArray) 0).bind fun t331 => (if t331.toList = ([] : List UInt8) then ((key_Block.f k t310 (-1)).bind fun t332 => (if t332.toList = ([] : List UInt8) then ((key_Block.f k t310 32).bind fun t333 => (if t333.toList = ([] : List UInt8) then ((rillbedlaw06_is.f bt313.1 bt313.2.1 (⟨#[109, 97]⟩ : ByteArray) (⟨#[109, 97, 1]⟩ : ByteArray)).bind fun t334 => (if t334 = true then ((rillbedlaw06_is.f bt313.2.2.1 bt313.2.2.2 (⟨#[100, 97]⟩ : ByteArray) (⟨#[100, 97, 1]⟩ : ByteArray)).bind fun t335 => (if t335 = true then ((rillbedlaw06_is.f bt319.1 bt319.2.1 (⟨#[109]⟩ : ByteArray) (⟨#[110]⟩ : ByteArray)).bind fun t336 => (if t336 = true then ((rillbedlaw06_is.f bt319.2.2.1 bt319.2.2.2 (⟨#[100]⟩ : ByteArray) (⟨#[101]⟩ : ByteArray)).bind fun t337 => (rillbedlaw06_KeyKnown.j0 k t310 (!t337))) else (rillbedlaw06_KeyKnown.j0 k t310 true))) else (rillbedlaw06_KeyKnown.j0 k t310 true))) else (rillbedlaw06_KeyKnown.j0 k t310 true))) else (rillbedlaw06_KeyKnown.j0 k t310 true))) else (rillbedlaw06_KeyKnown.j0 k t310 true))) else (rillbedlaw06_KeyKnown.j0 k t310 true))) else (rillbedlaw06_KeyKnown.j0 k t310 true)))) else (rillbedlaw06_KeyKnown.j0 k t310 true))) else (rillbedlaw06_KeyKnown.j0 k t310 true)))))
theorem rillbedlaw06_KeyKnown.mono_l : ∀ k, (∀ y0 y1, LeO (rillbedlaw06_KeyKnown.j0 k y0 y1) (rillbedlaw06_KeyKnown.j0 (k + 1) y0 y1)) ∧ (∀ y0 y1, LeO (rillbedlaw06_KeyKnown.j1 k y0 y1) (rillbedlaw06_KeyKnown.j1 (k + 1) y0 y1)) ∧ (∀ y0 y1, LeO (rillbedlaw06_KeyKnown.j2 k y0 y1) (rillbedlaw06_KeyKnown.j2 (k + 1) y0 y1)) ∧ (∀ y0 y1 y2, LeO (rillbedlaw06_KeyKnown.l0 k y0 y1 y2) (rillbedlaw06_KeyKnown.l0 (k + 1) y0 y1 y2))
  | 0 => ⟨fun _ _ r h => by simp [rillbedlaw06_KeyKnown.j0] at h, fun _ _ r h => by simp [rillbedlaw06_KeyKnown.j1] at h, fun _ _ r h => by simp [rillbedlaw06_KeyKnown.j2] at h, fun _ _ _ r h => by simp [rillbedlaw06_KeyKnown.l0] at h⟩
  | k + 1 => by
    obtain ⟨ih0, ih1, ih2, ih3⟩ := rillbedlaw06_KeyKnown.mono_l k
    refine ⟨?_, ?_, ?_, ?_⟩
    · intro y0 y1
      unfold rillbedlaw06_KeyKnown.j0
      repeat' first
      | (with_reducible exact ih0 _ _)
      | (with_reducible exact ih1 _ _)
      | (with_reducible exact ih2 _ _)
      | (with_reducible exact ih3 _ _ _)
      | (with_reducible exact key_Below.mono _ _)
      | (with_reducible exact key_Block.mono _ _ _)
      | (with_reducible exact key_Blocks.mono _ _)
      | (with_reducible exact key_Meta.mono _ _)
      | (with_reducible exact key_Move.mono _ _ _ _)
      | (with_reducible exact key_Past.mono _ _)
      | (with_reducible exact key_Subtree.mono _ _)
      | (with_reducible exact rillbedlaw06_none.mono _ _)
      | (with_reducible exact rillbedlaw06_takes.mono _ _ _ _ _)
      | (with_reducible exact rillbedlaw06_works.mono _)
      | (with_reducible exact LeO.refl _)
      | (with_reducible exact LeO.none _)
      | (with_reducible refine LeO.ite ?_ ?_)
      | (with_reducible refine LeO.bind ?_ (fun _ => ?_))
      | exact ih0 _ _
      | exact ih1 _ _
      | exact ih2 _ _
      | exact ih3 _ _ _
      | exact key_Below.mono _ _
      | exact key_Block.mono _ _ _
      | exact key_Blocks.mono _ _
      | exact key_Meta.mono _ _
      | exact key_Move.mono _ _ _ _
      | exact key_Past.mono _ _
      | exact key_Subtree.mono _ _
      | exact rillbedlaw06_none.mono _ _
      | exact rillbedlaw06_takes.mono _ _ _ _ _
      | exact rillbedlaw06_works.mono _
      | exact LeO.none _
      | refine LeO.ite ?_ ?_
      | refine LeO.bind ?_ (fun _ => ?_)
    · intro y0 y1
      unfold rillbedlaw06_KeyKnown.j1
      repeat' first
      | (with_reducible exact ih0 _ _)
      | (with_reducible exact ih1 _ _)
      | (with_reducible exact ih2 _ _)
      | (with_reducible exact ih3 _ _ _)
      | (with_reducible exact key_Below.mono _ _)
      | (with_reducible exact key_Block.mono _ _ _)
      | (with_reducible exact key_Blocks.mono _ _)
      | (with_reducible exact key_Meta.mono _ _)
      | (with_reducible exact key_Move.mono _ _ _ _)
      | (with_reducible exact key_Past.mono _ _)
      | (with_reducible exact key_Subtree.mono _ _)
      | (with_reducible exact rillbedlaw06_none.mono _ _)
      | (with_reducible exact rillbedlaw06_takes.mono _ _ _ _ _)
      | (with_reducible exact rillbedlaw06_works.mono _)
      | (with_reducible exact LeO.refl _)
      | (with_reducible exact LeO.none _)
      | (with_reducible refine LeO.ite ?_ ?_)
      | (with_reducible refine LeO.bind ?_ (fun _ => ?_))
      | exact ih0 _ _
      | exact ih1 _ _
      | exact ih2 _ _
      | exact ih3 _ _ _
      | exact key_Below.mono _ _
      | exact key_Block.mono _ _ _
      | exact key_Blocks.mono _ _
      | exact key_Meta.mono _ _
      | exact key_Move.mono _ _ _ _
      | exact key_Past.mono _ _
      | exact key_Subtree.mono _ _
      | exact rillbedlaw06_none.mono _ _
      | exact rillbedlaw06_takes.mono _ _ _ _ _
      | exact rillbedlaw06_works.mono _
      | exact LeO.none _
      | refine LeO.ite ?_ ?_
      | refine LeO.bind ?_ (fun _ => ?_)
    · intro y0 y1
      unfold rillbedlaw06_KeyKnown.j2
      repeat' first
      | (with_reducible exact ih0 _ _)
      | (with_reducible exact ih1 _ _)
      | (with_reducible exact ih2 _ _)
      | (with_reducible exact ih3 _ _ _)
      | (with_reducible exact key_Below.mono _ _)
      | (with_reducible exact key_Block.mono _ _ _)
      | (with_reducible exact key_Blocks.mono _ _)
      | (with_reducible exact key_Meta.mono _ _)
      | (with_reducible exact key_Move.mono _ _ _ _)
      | (with_reducible exact key_Past.mono _ _)
      | (with_reducible exact key_Subtree.mono _ _)
      | (with_reducible exact rillbedlaw06_none.mono _ _)
      | (with_reducible exact rillbedlaw06_takes.mono _ _ _ _ _)
      | (with_reducible exact rillbedlaw06_works.mono _)
      | (with_reducible exact LeO.refl _)
      | (with_reducible exact LeO.none _)
      | (with_reducible refine LeO.ite ?_ ?_)
      | (with_reducible refine LeO.bind ?_ (fun _ => ?_))
      | exact ih0 _ _
      | exact ih1 _ _
      | exact ih2 _ _
      | exact ih3 _ _ _
      | exact key_Below.mono _ _
      | exact key_Block.mono _ _ _
      | exact key_Blocks.mono _ _
      | exact key_Meta.mono _ _
      | exact key_Move.mono _ _ _ _
      | exact key_Past.mono _ _
      | exact key_Subtree.mono _ _
      | exact rillbedlaw06_none.mono _ _
      | exact rillbedlaw06_takes.mono _ _ _ _ _
      | exact rillbedlaw06_works.mono _
      | exact LeO.none _
      | refine LeO.ite ?_ ?_
      | refine LeO.bind ?_ (fun _ => ?_)
    · intro y0 y1 y2
      unfold rillbedlaw06_KeyKnown.l0
      repeat' first
      | (with_reducible exact ih0 _ _)
      | (with_reducible exact ih1 _ _)
      | (with_reducible exact ih2 _ _)
      | (with_reducible exact ih3 _ _ _)
      | (with_reducible exact key_Below.mono _ _)
      | (with_reducible exact key_Block.mono _ _ _)
      | (with_reducible exact key_Blocks.mono _ _)
      | (with_reducible exact key_Meta.mono _ _)
      | (with_reducible exact key_Move.mono _ _ _ _)
      | (with_reducible exact key_Past.mono _ _)
      | (with_reducible exact key_Subtree.mono _ _)
      | (with_reducible exact rillbedlaw06_none.mono _ _)
      | (with_reducible exact rillbedlaw06_takes.mono _ _ _ _ _)
      | (with_reducible exact rillbedlaw06_works.mono _)
      | (with_reducible exact LeO.refl _)
      | (with_reducible exact LeO.none _)
      | (with_reducible refine LeO.ite ?_ ?_)
      | (with_reducible refine LeO.bind ?_ (fun _ => ?_))
      | exact ih0 _ _
      | exact ih1 _ _
      | exact ih2 _ _
      | exact ih3 _ _ _
      | exact key_Below.mono _ _
      | exact key_Block.mono _ _ _
      | exact key_Blocks.mono _ _
      | exact key_Meta.mono _ _
      | exact key_Move.mono _ _ _ _
      | exact key_Past.mono _ _
      | exact key_Subtree.mono _ _
      | exact rillbedlaw06_none.mono _ _
      | exact rillbedlaw06_takes.mono _ _ _ _ _
      | exact rillbedlaw06_works.mono _
      | exact LeO.none _
      | refine LeO.ite ?_ ?_
      | refine LeO.bind ?_ (fun _ => ?_)
theorem rillbedlaw06_KeyKnown.mono : ∀ k, LeO (rillbedlaw06_KeyKnown.f k ) (rillbedlaw06_KeyKnown.f (k + 1) ) := by
  intro  k
  obtain ⟨ih0, ih1, ih2, ih3⟩ := rillbedlaw06_KeyKnown.mono_l k
  unfold rillbedlaw06_KeyKnown.f
  repeat' first
      | (with_reducible exact ih0 _ _)
      | (with_reducible exact ih1 _ _)
      | (with_reducible exact ih2 _ _)
      | (with_reducible exact ih3 _ _ _)
      | (with_reducible exact key_Below.mono _ _)
      | (with_reducible exact key_Block.mono _ _ _)
      | (with_reducible exact key_Blocks.mono _ _)
      | (with_reducible exact key_Meta.mono _ _)
      | (with_reducible exact key_Move.mono _ _ _ _)
      | (with_reducible exact key_Past.mono _ _)
      | (with_reducible exact key_Subtree.mono _ _)
      | (with_reducible exact rillbedlaw06_none.mono _ _)
      | (with_reducible exact rillbedlaw06_takes.mono _ _ _ _ _)
      | (with_reducible exact rillbedlaw06_works.mono _)
      | (with_reducible exact LeO.refl _)
      | (with_reducible exact LeO.none _)
      | (with_reducible refine LeO.ite ?_ ?_)
      | (with_reducible refine LeO.bind ?_ (fun _ => ?_))
      | exact ih0 _ _
      | exact ih1 _ _
      | exact ih2 _ _
      | exact ih3 _ _ _
      | exact key_Below.mono _ _
      | exact key_Block.mono _ _ _
      | exact key_Blocks.mono _ _
      | exact key_Meta.mono _ _
      | exact key_Move.mono _ _ _ _
      | exact key_Past.mono _ _
      | exact key_Subtree.mono _ _
      | exact rillbedlaw06_none.mono _ _
      | exact rillbedlaw06_takes.mono _ _ _ _ _
      | exact rillbedlaw06_works.mono _
      | exact LeO.none _
      | refine LeO.ite ?_ ?_
      | refine LeO.bind ?_ (fun _ => ?_)

end Go.Proofs.YthafpbidfgmacaaDoor.Q
