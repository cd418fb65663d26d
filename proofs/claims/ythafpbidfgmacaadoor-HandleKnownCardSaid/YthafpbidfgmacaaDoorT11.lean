/- The state of a walk over tables; the walks of given, works, opens, right (of the laws over descriptors). -/
import Derived.Test.YthafpbidfgmacaaDoorT10
namespace Go.Proofs.YthafpbidfgmacaaDoor.Hd
open Go.RowKit Go.Proofs.YthafpbidfgmacaaDoor Go.Proofs.YthafpbidfgmacaaDoorW.PrintWords Go.Proofs.YthafpbidfgmacaaDoorW.PrintLast Go.Proofs.YthafpbidfgmacaaDoorW.PrintMore
set_option linter.unusedVariables false
set_option linter.unusedSimpArgs false

/-- Ws: the world in which the call began; W0: that of the last step of a table; w: now. -/
structure Stt (Ws W0 : World) (L : List Tb) (w : World) : Prop where
  tabs : Tabs Ws.heap.size W0 L
  bel : Below Ws.heap.size Ws W0
  cur : Below W0.heap.size W0 w
/-- A row of strings that a call made after W0, or nil. -/
structure RowI (W0 : World) (A : Option Addr) (c : Nat) (l : List ByteArray) (w : World) : Prop where
  reads : Kd.C Kd.string w A l.length l
  cap : l.length ≤ c
  new : ∀ a, A = some a → W0.heap.size ≤ a.block
section
variable {Ws W0 w w' : World} {L L' : List Tb} {i t : Nat} {st st' : St}
theorem Stt.start (Ws : World) : Stt Ws Ws [] Ws := ⟨Tabs.nil _ _, Below.refl _ _, Below.refl _ _⟩
theorem Stt.later (h : Stt Ws W0 L w) (hb : Below w.heap.size w w') : Stt Ws W0 L w' := ⟨h.tabs, h.bel, Below.trans h.cur (hb.mono h.cur.size)⟩
theorem Stt.all (h : Stt Ws W0 L w) : Below Ws.heap.size Ws w := Below.trans h.bel (h.cur.mono h.bel.size)
theorem Stt.anew (h : Stt Ws W0 L w) (hT : Tabs Ws.heap.size w' L') (hb : Below Ws.heap.size w w') : Stt Ws w' L' w' := ⟨hT, Below.trans h.all hb, Below.refl _ _⟩
theorem RowI.later {A : Option Addr} {c : Nat} {l : List ByteArray} (h : RowI W0 A c l w) (hb : Below w.heap.size w w') : RowI W0 A c l w' := ⟨Kd.C_below h.reads hb, h.cap, h.new⟩
theorem RowI.nil (W0 w : World) : RowI W0 none 0 [] w := ⟨Kd.C_of_reads (d := ByteArray.empty) (h1 := fun _ => rfl) ⟨rfl, by decide, fun h => absurd h (by decide)⟩, Nat.le_refl _, fun a h => by cases h⟩

theorem Stt.names (h : Stt Ws W0 L w) {s : ByteArray} {l : List ByteArray} (hl : namesL s = l) (hs : s.size < 4294967281) :
    Calls Tryd.prog 55 #[.string s] w fun e w' => ∃ A c, e = .returned (.slice A l.length c) ∧ RowI W0 A c l w' ∧ Stt Ws W0 L w' ∧ Below w.heap.size w w' := by
  subst hl
  refine (names_calls s w hs).mono ?_
  rintro e w' ⟨v, rfl, A, c, rfl, hc, hC, hf, hb⟩
  exact ⟨A, c, rfl, ⟨hC, hc, fun a ha => Nat.le_trans h.cur.size (hf a ha)⟩, h.later hb, hb⟩
theorem Stt.new_ (h : Stt Ws W0 L w) : Calls Tryd.prog 14 #[] w fun e w' => ∃ t, e = .returned (.pointer (some ⟨t, 0, none⟩)) ∧ Stt Ws w' (L ++ [(t, true, newS)]) w' := by
  refine (Tabs.new h.tabs h.cur h.bel.size).mono ?_
  rintro e w' ⟨he, hT, hb⟩
  exact ⟨_, he, h.anew hT (hb.mono h.all.size)⟩
theorem Stt.open_ (h : Stt Ws W0 L w) (hi : L[i]? = some (t, true, st)) {s : ByteArray} {A : Option Addr} {c : Nat} {l : List ByteArray} {d er : Int} (hr : RowI W0 A c l w) (hf : fits l) (ho : openS st s l = (st', d, er)) (hL : L.set i (t, true, st') = L') :
    Calls Tryd.prog 15 #[.pointer (some ⟨t, 0, none⟩), .string s, .slice A l.length c] w fun e w' => e = .returned (.tuple #[.int .i64 d, .int .i64 er]) ∧ Stt Ws w' L' w' := by
  subst hL
  refine (Tabs.open_ h.tabs h.cur h.bel.size hi hr.reads hr.cap hf ho).mono ?_
  rintro e w' ⟨he, hT, hb⟩
  exact ⟨he, h.anew hT hb⟩
theorem Stt.moved (h : Stt Ws W0 L w) (hi : L[i]? = some (t, true, st)) {A1 : Option Addr} {c1 : Nat} {l1 : List ByteArray} {A2 : Option Addr} {c2 : Nat} {l2 : List ByteArray} (hr1 : RowI W0 A1 c1 l1 w) (hf1 : fits l1) (hr2 : RowI W0 A2 c2 l2 w) (hf2 : fits l2) (ho : movedS st l1 l2 = st') (hL : L.set i (t, true, st') = L') :
    Calls Tryd.prog 18 #[.pointer (some ⟨t, 0, none⟩), .slice A1 l1.length c1, .slice A2 l2.length c2] w fun e w' => e = .returned (.tuple #[]) ∧ Stt Ws w' L' w' := by
  subst hL
  refine (Tabs.moved h.tabs h.cur h.bel.size hi hr1.reads hr1.cap hf1 hr2.reads hr2.cap hf2 hr1.new hr2.new ho).mono ?_
  rintro e w' ⟨he, hT, hb⟩
  exact ⟨he, h.anew hT hb⟩
theorem Stt.close (h : Stt Ws W0 L w) (hi : L[i]? = some (t, true, st)) {d er : Int} (ho : closeS st d = (st', er)) (hL : L.set i (t, true, st') = L') :
    Calls Tryd.prog 17 #[.pointer (some ⟨t, 0, none⟩), .int .i64 d] w fun e w' => e = .returned (.int .i64 er) ∧ Stt Ws w' L' w' := by
  subst hL
  refine (Tabs.close h.tabs h.cur h.bel.size hi ho).mono ?_
  rintro e w' ⟨he, hT, hb⟩
  exact ⟨he, h.anew hT hb⟩
theorem Stt.clear (h : Stt Ws W0 L w) (hi : L[i]? = some (t, true, st)) (hL : L.set i (t, true, newS) = L') :
    Calls Tryd.prog 57 #[.pointer (some ⟨t, 0, none⟩)] w fun e w' => e = .returned (.tuple #[]) ∧ Stt Ws w' L' w' := by
  subst hL
  refine (Tabs.clear h.tabs h.cur h.bel.size hi).mono ?_
  rintro e w' ⟨he, hT, hb⟩
  exact ⟨he, h.anew hT hb⟩
theorem Stt.count (h : Stt Ws W0 L w) (hi : L[i]? = some (t, true, st)) {n : Nat} (hn : countS st = n) :
    Calls Tryd.prog 52 #[.pointer (some ⟨t, 0, none⟩)] w fun e w' => e = .returned (.int .i64 (n : Int)) ∧ w = w' := Tabs.count h.tabs h.cur hi hn
theorem Stt.tells (h : Stt Ws W0 L w) (hi : L[i]? = some (t, true, st)) {d : Int} {s p : ByteArray} {r : Bool} (hr : tellsB st d s p = r) :
    Calls Tryd.prog 22 #[.pointer (some ⟨t, 0, none⟩), .int .i64 d, .string s, .string p] w fun e w' => e = .returned (.bool r) ∧ Stt Ws W0 L w' :=
  (Tabs.tells h.tabs h.cur hi hr).mono fun _ _ ⟨he, hb⟩ => ⟨he, h.later hb⟩
theorem Stt.of_ (h : Stt Ws W0 L w) (hi : L[i]? = some (t, true, st)) {d er : Int} (hr : ofS st d = (⟨#[]⟩, [], er)) : Calls Tryd.prog 24 #[.pointer (some ⟨t, 0, none⟩), .int .i64 d] w fun e w' => ∃ A c, e = .returned (.tuple #[.string ⟨#[]⟩, .slice A 0 c, .int .i64 er]) ∧ Stt Ws W0 L w' := by
  refine (Tabs.of_ h.tabs h.cur hi d).mono ?_
  rintro e w' ⟨v, he, hR, hb⟩
  rw [hr] at he hR
  obtain ⟨A, c, rfl⟩ := Kd.R_slice hR
  exact ⟨A, c, he, h.later hb⟩
end

def nA : ByteArray := ⟨#[97]⟩
def nB : ByteArray := ⟨#[98]⟩
def nS : ByteArray := ⟨#[115]⟩
def n0 : ByteArray := ⟨#[]⟩
def sGiven1 : St := [some (n0, [nA]), none, none, none, none, none, none, none]
def sGiven2 : St := [some (n0, [nA]), some (nS, [nA]), none, none, none, none, none, none]
def sGiven : St := [some (n0, [nA]), some (nS, [nA]), some (n0, [nA, nB]), none, none, none, none, none]
def sGiven0 : St := [none, some (nS, [nA]), some (n0, [nA, nB]), none, none, none, none, none]
theorem names_A : namesL ⟨#[97]⟩ = [nA] := by decide +kernel
theorem names_AB : namesL ⟨#[97, 47, 98]⟩ = [nA, nB] := by decide +kernel
theorem open_g1 : openS newS ⟨#[]⟩ [nA] = (sGiven1, 0, 0) := by decide +kernel
theorem open_g2 : openS sGiven1 ⟨#[115]⟩ [nA] = (sGiven2, 1, 0) := by decide +kernel
theorem open_g3 : openS sGiven2 ⟨#[]⟩ [nA, nB] = (sGiven, 2, 0) := by decide +kernel
theorem fits_A : fits [nA] := ⟨by decide, by decide +kernel⟩
theorem fits_AB : fits [nA, nB] := ⟨by decide, by decide +kernel⟩
end Go.Proofs.YthafpbidfgmacaaDoor.Hd
