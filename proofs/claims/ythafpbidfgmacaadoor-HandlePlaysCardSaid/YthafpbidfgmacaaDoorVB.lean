/- Texts put together by merge.py: V11,V12,V13,V14,V15,V17. -/
import Derived.Test.YthafpbidfgmacaaDoorVA
import Derived.Test.YthafpbidfgmacaaDoorUA
import Derived.Test.YthafpbidfgmacaaDoorWLast
/- The walk of the law's alike. -/
namespace Go.Proofs.YthafpbidfgmacaaDoor.Hd
open Go.RowKit Go.Proofs.YthafpbidfgmacaaDoor Go.Proofs.YthafpbidfgmacaaDoorW.PrintWords Go.Proofs.YthafpbidfgmacaaDoorW.PrintLast Go.Proofs.YthafpbidfgmacaaDoorW.PrintMore
set_option linter.unusedVariables false
set_option linter.unusedSimpArgs false

/-- A row of strings of the call's own that is being overwritten. -/
def Spo (w : World) (b n : Nat) (W : World) : Prop := w.heap.size ≤ b ∧ Below w.heap.size w W ∧ ∃ cur : Array Value, W.heap[b]? = some (.cells cur 9 (0, 0)) ∧ n ≤ cur.size
section
variable {w W : World} {b n k : Nat}
theorem Spo.at_ (h : Spo w b n W) (hk : k < n) : ∃ x, W.cell? ⟨b, k, none⟩ = some x ∧ W.frozen? ⟨b, k, none⟩ = false := by
  obtain ⟨h1, h2, cur, h3, h4⟩ := h
  exact ⟨cur[k], by rw [cell_of_row W b k _ _ _ h3]; exact Array.getElem?_eq_getElem (by omega), by simp [World.frozen?, h3]⟩
theorem Spo.set (h : Spo w b n W) (u : Value) : Spo w b n (W.setCell ⟨b, k, none⟩ u) := by
  obtain ⟨h1, h2, cur, h3, h4⟩ := h
  refine ⟨h1, h2.setCell (p := ⟨b, k, none⟩) h1 u, _, heap_setCell_row W b k _ _ u h3, by simpa using h4⟩
end
theorem Spo.later {w W W' : World} {b n : Nat} (h : Spo w b n W) (hb : Below W.heap.size W W') : Spo w b n W' := by
  obtain ⟨h1, h2, cur, h3, h4⟩ := h
  exact ⟨h1, Below.trans h2 (hb.mono h2.size), cur, (hb.block b (Array.getElem?_eq_some_iff.1 h3).1).trans h3, h4⟩
theorem spo_of {w W : World} {v : Value} {l : List ByteArray} (h : Kd.R Kd.string 9 W w.heap.size (fun _ => True) v l) (hb : Below w.heap.size w W) (h0 : 0 < l.length) : ∃ b c, v = .slice (some ⟨b, 0, none⟩) l.length c ∧ l.length ≤ c ∧ Kd.C Kd.string W (some ⟨b, 0, none⟩) l.length l ∧ Spo w b l.length W := by
  obtain ⟨A, c, rfl, hc, hC⟩ := Kd.R_reads h
  obtain ⟨inner, ho⟩ := Kd.R_own h
  rcases ho.2 with ⟨_, hn⟩ | ⟨g, cap, cur, hv, hg, hh, hle, hm, hsz, hx⟩
  · omega
  · injection hv with h1 h2 h3
    subst h1
    have hsz' : cur.size = cap := by
      rw [hsz]
      exact Nat.mul_one cap
    exact ⟨g, c, rfl, hc, hC, hg, hb, cur, hh, by omega⟩
theorem nil_of {w W : World} {v : Value} (h : Kd.R Kd.string 9 W w.heap.size (fun _ => True) v []) : ∃ A c, v = .slice A 0 c ∧ Kd.C Kd.string W A 0 [] := by
  obtain ⟨A, c, rfl, hc, hC⟩ := Kd.R_reads h
  exact ⟨A, c, rfl, hC⟩
theorem RS.of_none {st : St} {es : List REnt} (h : RS st es) {d : Int} (hd : findI es d < 0) : ofS st d = (⟨#[]⟩, [], 12) := by
  unfold ofS
  rw [h.none_ hd]
theorem RS.of_some {st : St} {es : List REnt} (h : RS st es) {d : Int} {i : Nat} {e : REnt} (he : es[i]? = some e) (hd : (e.d : Int) = d) : ofS st d = (e.s, e.l, 0) := by
  unfold ofS
  rw [h.some_ he hd]
theorem rsame_calls (A0 : Option Addr) (c0 : Nat) (A1 : Option Addr) (c1 : Nat) (l : List ByteArray) (w : World) (hr0 : Kd.C Kd.string w A0 l.length l) (hc0 : l.length ≤ c0) (hr1 : Kd.C Kd.string w A1 l.length l) (hc1 : l.length ≤ c1) (hl : l.length ≤ 1000) :
    Calls Tryd.prog 40 #[.slice A0 l.length c0, .slice A1 l.length c1] w fun e w' => e = .returned (.bool true) ∧ Below w.heap.size w w' :=
  (Q.rillbedref06_Same.calls 2000 A0 c0 l A1 c1 l _ w hr0 hc0 hr1 hc1 (Q.same_ref l l hl 2000 (by omega))).mono fun e w' ⟨he, hd⟩ => ⟨by rw [he]; simp, by obtain ⟨q, rfl⟩ := hd; exact below_drewN (Below.refl _ _) q⟩
/-- What the two must tell. -/
def Tells (w : World) (s : ByteArray) (l : List ByteArray) (er : Int) (t r : Nat) (d : Int) : Prop :=
  Calls Tryd.prog 24 #[.pointer (some ⟨t, 0, none⟩), .int .i64 d] w (OfP w (s, l, er)) ∧ ∀ W, Below w.heap.size w W → Calls Tryd.prog 90 #[.pointer (some ⟨r, 0, none⟩), .int .i64 d] W (OfRP W s l er)
theorem tells_of {B : Nat} {w : World} {t r : Nat} {st : St} {es : List REnt} {F G : Nat → Prop} (hT : Tab B w t true st F) (hR : RTab B w r es G) (hrs : RS st es) (d : Int) : ∃ s l er, l.length ≤ 6 ∧ Tells w s l er t r d := by
  by_cases hneg : findI es d < 0
  · refine ⟨⟨#[]⟩, [], 12, by simp, ?_, fun W hb => ?_⟩
    · have := of_tab hT d
      rw [hrs.of_none hneg] at this
      exact this
    · refine (rof_calls (hR.below hb) d).mono ?_
      rintro e w' (⟨_, h⟩ | ⟨i, en, hi, _⟩)
      · exact h
      · omega
  · obtain ⟨i, en, hi, he, hd⟩ := findI_some hneg
    refine ⟨en.s, en.l, 0, (okP_len (hrs.ok en (List.mem_of_getElem? he))).2.1, ?_, fun W hb => ?_⟩
    · have := of_tab hT d
      rw [hrs.of_some he hd] at this
      exact this
    · refine (rof_calls (hR.below hb) d).mono ?_
      rintro e w' (⟨h, _⟩ | ⟨j, en', hj, he', h⟩)
      · exact absurd h hneg
      · have : i = j := by omega
        subst this
        rw [he] at he'
        obtain rfl := Option.some.inj he'
        exact h
set_option maxRecDepth 100000 in
set_option maxHeartbeats 8000000 in
theorem alike_calls {w : World} {t r : Nat} {s : ByteArray} {l : List ByteArray} {er : Int} {d : Int} (hl : l.length ≤ 6) (h : Tells w s l er t r d) : Calls Tryd.prog 53 #[.pointer (some ⟨t, 0, none⟩), .pointer (some ⟨r, 0, none⟩), .int .i64 d] w fun e w' => e = .returned (.bool true) ∧ Below w.heap.size w w' := by
  have H1 := Lib.hid h.1
  have H2 := Lib.hid h.2
  have HL := Lib.hid hl
  rcases Nat.eq_zero_or_pos l.length with h0 | h0
  · obtain rfl : l = [] := List.length_eq_zero_iff.1 h0
    clear h hl h0
    go_enter Tryd.func53, Tryd.ntmps53
    go_wp2_with (first
      | (go_at_call 24; refine H1.out.mono ?_; rintro e w1 ⟨v, rfl, hR, hb⟩; obtain ⟨A, c, rfl, hC⟩ := nil_of hR; have HC := Lib.hid hC; have HB := Lib.hid hb; clear hR hC hb)
      | (go_at_call 90; refine (H2.out _ HB.out).mono ?_; rintro e w2 ⟨A2, c2, rfl, hc2, hC2, q, rfl⟩; have HC2 := Lib.hid hC2; clear hC2 hc2)
      | (go_at_call 40; refine (rsame_calls _ _ _ _ [] _ (Kd.C_below HC.out (below_drewN (Below.refl _ _) q)) (Nat.zero_le _) (Kd.C_below HC2.out (below_drewN (Below.refl _ _) q)) (Nat.zero_le _) (by simp)).mono ?_; rintro e w3 ⟨rfl, hb⟩; have HB3 := Lib.hid hb; clear hb))
    have HW := Lib.hid (Below.trans HB.out ((Below.trans (below_drewN (Below.refl w1.heap.size w1) q) HB3.out).mono HB.out.size))
    go_loop [14] (fun i => i = .int .i64 0) (fun i => 0)
    case atStart => exact rfl
    case round =>
      obtain rfl := hrel
      go_wp2
      go_ret
      exact ⟨rfl, HW.out⟩
  · have h0' := h0
    obtain ⟨n, hn⟩ : ∃ n, n = l.length := ⟨_, rfl⟩
    have HN := Lib.hid hn
    have HL0 := Lib.hid h0
    rw [← hn] at hl h0'
    clear h h0 hn
    go_enter Tryd.func53, Tryd.ntmps53
    go_wp2_with (first
      | (go_at_call 24; refine H1.out.mono ?_; rintro e w1 ⟨v, rfl, hR, hb⟩; obtain ⟨b, c, rfl, hc, hC, hs⟩ := spo_of hR hb HL0.out; have HC := Lib.hid (And.intro hc hC); have HB := Lib.hid hb; have HS := Lib.hid hs; clear hR hC hb hc hs)
      | (go_at_call 90; refine (H2.out _ HB.out).mono ?_; rintro e w2 ⟨A2, c2, rfl, hc2, hC2, q, rfl⟩; have HC2 := Lib.hid (And.intro hc2 hC2); clear hC2 hc2)
      | (go_at_call 40; refine (rsame_calls _ _ _ _ l _ (Kd.C_below HC.out.2 (below_drewN (Below.refl _ _) q)) HC.out.1 (Kd.C_below HC2.out.2 (below_drewN (Below.refl _ _) q)) HC2.out.1 (by have := HL.out; omega)).mono ?_; rintro e w3 ⟨rfl, hb⟩; have HB3 := Lib.hid hb; clear hb))
    have HS3 : Hid (Spo w b l.length w3) := Lib.hid ((HS.out.later (below_drewN (Below.refl _ _) q)).later HB3.out)
    clear HS HB HC HC2 HB3 H1 H2
    go_loopw [14] (fun i wr => ∃ k : Nat, k ≤ l.length ∧ i = .int .i64 k ∧ Hid (Spo w b l.length wr)) (fun i _ => l.length - (intOf i).toNat)
    case atStart => exact ⟨0, by omega, rfl, HS3⟩
    case round =>
      obtain ⟨k, hk, rfl, HK⟩ := hrel
      have hl6 : l.length ≤ 6 := HL.out
      by_cases hlt : k < l.length
      · have dlt : decide (k < l.length) = true := decide_eq_true hlt
        have b0 : (0 : Int) ≤ (k : Int) := by omega
        have b1 : (k : Int) < (l.length : Int) := by omega
        obtain ⟨x, hx, hfz⟩ := HK.out.at_ hlt
        go_wp2
        go_roundw
        case rel => exact ⟨k + 1, by omega, by go_num, HK.out.set _⟩
        case measure => simp [intOf]; omega
      · obtain rfl : k = l.length := by omega
        have dlt : decide (l.length < l.length) = false := decide_eq_false (by omega)
        go_wp2
        go_ret
        exact ⟨rfl, HK.out.2.1⟩
end Go.Proofs.YthafpbidfgmacaaDoor.Hd

/- The table and the document's list, side by side. -/
namespace Go.Proofs.YthafpbidfgmacaaDoor.Hd
open Go.RowKit Go.Proofs.YthafpbidfgmacaaDoor Go.Proofs.YthafpbidfgmacaaDoorW.PrintWords Go.Proofs.YthafpbidfgmacaaDoorW.PrintLast Go.Proofs.YthafpbidfgmacaaDoorW.PrintMore
set_option linter.unusedVariables false
set_option linter.unusedSimpArgs false

theorem rmoved_calls {B : Nat} {w : World} {r : Nat} {es : List REnt} {F : Nat → Prop} {st : St} (h : RTab B w r es F) (hB : B ≤ w.heap.size) (hrs : RS st es) (A1 : Option Addr) (c1 : Nat) (l1 : List ByteArray) (A2 : Option Addr) (c2 : Nat) (l2 : List ByteArray) (hr1 : Kd.C Kd.string w A1 l1.length l1) (hc1 : l1.length ≤ c1) (hr2 : Kd.C Kd.string w A2 l2.length l2) (hc2 : l2.length ≤ c2) :
    Calls Tryd.prog 89 #[.pointer (some ⟨r, 0, none⟩), .slice A1 l1.length c1, .slice A2 l2.length c2] w (RMovedP B r F st l1 l2 w) := by
  by_cases hn : okP l1 = true ∧ okP l2 = true
  · exact rmoved_yes h hB hrs A1 c1 l1 A2 c2 l2 hr1 hc1 hr2 hc2 hn.1 hn.2
  · exact rmoved_not h hrs A1 c1 l1 A2 c2 l2 hr1 hc1 hr2 hc2 hn
structure Two (w0 : World) (t r : Nat) (st : St) (es : List REnt) (F G : Nat → Prop) (W : World) : Prop where
  tab : Tab w0.heap.size W t true st F
  lst : RTab w0.heap.size W r es G
  dis : ∀ g, F g → ¬ G g
  bel : Below w0.heap.size w0 W
section
variable {w0 W W' w2 : World} {t r : Nat} {st st' : St} {es es' : List REnt} {F F' G G' : Nat → Prop}
theorem Two.keep (k : Two w0 t r st es F G W) (hk : ∀ g, F g ∨ G g → W'.heap[g]? = W.heap[g]?) (hs : W.heap.size ≤ W'.heap.size) (hb : Below w0.heap.size w0 W') : Two w0 t r st es F G W' :=
  ⟨k.tab.keep (fun g hg => hk g (.inl hg)) hs, k.lst.keep (fun g hg => hk g (.inr hg)) hs, k.dis, hb⟩
theorem Two.later (k : Two w0 t r st es F G W) (hb : Below W.heap.size W W') : Two w0 t r st es F G W' :=
  k.keep (fun g hg => hb.block g (hg.elim (fun h => (k.tab.rng g h).2) (fun h => (k.lst.rng g h).2))) hb.size (Below.trans k.bel (hb.mono k.bel.size))
theorem fr_below {B : Nat} (hf : Fr F F' W W') (hF : ∀ g, F g → B ≤ g) (hB : B ≤ W.heap.size) : Below B W W' := Below.mk hf.os hf.tape hf.output hf.size (fun g hg => hf.keep g (by omega) (fun e => by have := hF g e; omega))
theorem Two.tabStep (k : Two w0 t r st es F G W) (hT : Tab w0.heap.size W' t true st' F') (hf : Fr F F' W W') : Two w0 t r st' es F' G W' :=
  ⟨hT, k.lst.other hf (fun g hg hf' => k.dis g hf' hg), fun g hg hG => k.lst.apart hf (fun g hg hf' => k.dis g hf' hg) g hG hg, Below.trans k.bel (fr_below hf (fun g hg => (k.tab.rng g hg).1) k.bel.size)⟩
theorem Two.lstStep (k : Two w0 t r st es F G W) (hR : RTab w0.heap.size W' r es' G') (hf : Fr G G' W W') : Two w0 t r st es' F G' W' :=
  ⟨k.tab.keep (fun g hg => hf.keep g (k.tab.rng g hg).2 (k.dis g hg)) hf.size, hR, fun g hg hG => by
    rcases hf.sub g hG with h1 | h1
    · exact k.dis g hg h1
    · have := (k.tab.rng g hg).2
      omega, Below.trans k.bel (fr_below hf (fun g hg => (k.lst.rng g hg).1) k.bel.size)⟩
end
/-- The end of an act. -/
def OneP (w0 : World) (t r : Nat) (e : Ending) (w' : World) : Prop := e = .returned (.bool true) ∧ ∃ st es F G, RS st es ∧ Two w0 t r st es F G w'
theorem strs_own {W : World} {base : Nat} {v : Value} {l : List ByteArray} (ho : W.ownsRow base 9 1 v l.length (encs Value.string l)) : ∃ A c, v = .slice A l.length c ∧ l.length ≤ c ∧ Kd.C Kd.string W A l.length l ∧ (0 < l.length → ∃ b, A = some ⟨b, 0, none⟩ ∧ base ≤ b ∧ ∃ cur : Array Value, W.heap[b]? = some (.cells cur 9 (0, 0)) ∧ l.length ≤ cur.size) := by
  have hR : Kd.R Kd.string 9 W base (fun _ => True) v l := Kd.R_of_own ho (fun _ _ => trivial)
  obtain ⟨A, c, rfl, hc, hC⟩ := Kd.R_reads hR
  refine ⟨A, c, rfl, hc, hC, fun h0 => ?_⟩
  rcases ho.2 with ⟨_, hn⟩ | ⟨g, cap, cur, hv, hg, hh, hle, hm, hsz, hx⟩
  · omega
  · injection hv with h1 h2 h3
    exact ⟨g, h1, hg, cur, hh, by omega⟩
/-- While the law's own copy is overwritten. -/
structure OpI (w0 : World) (t r : Nat) (st : St) (es : List REnt) (F G : Nat → Prop) (A : Option Addr) (n bx : Nat) (box : Obj) (W : World) : Prop where
  two : Two w0 t r st es F G W
  bx_ : W.heap[bx]? = some box
  own : 0 < n → ∃ b, A = some ⟨b, 0, none⟩ ∧ ¬ F b ∧ ¬ G b ∧ w0.heap.size ≤ b ∧ b ≠ bx ∧ ∃ cur : Array Value, W.heap[b]? = some (.cells cur 9 (0, 0)) ∧ n ≤ cur.size
theorem OpI.at_ {w0 W : World} {t r : Nat} {st : St} {es : List REnt} {F G : Nat → Prop} {A : Option Addr} {n bx : Nat} {box : Obj} (h : OpI w0 t r st es F G A n bx box W) {k : Nat} (hk : k < n) : ∃ b x, A = some ⟨b, 0, none⟩ ∧ W.cell? ⟨b, k, none⟩ = some x ∧ W.frozen? ⟨b, k, none⟩ = false := by
  obtain ⟨b, hA, _, _, _, _, cur, h3, h4⟩ := h.own (by omega)
  exact ⟨b, cur[k], hA, by rw [cell_of_row W b k _ _ _ h3]; exact Array.getElem?_eq_getElem (by omega), by simp [World.frozen?, h3]⟩
theorem OpI.set {w0 W : World} {t r : Nat} {st : St} {es : List REnt} {F G : Nat → Prop} {b n bx k : Nat} {box : Obj} (h : OpI w0 t r st es F G (some ⟨b, 0, none⟩) n bx box W) (hk : k < n) (u : Value) : OpI w0 t r st es F G (some ⟨b, 0, none⟩) n bx box (W.setCell ⟨b, k, none⟩ u) := by
  obtain ⟨b', hA, h1, h2, h5, h6, cur, h3, h4⟩ := h.own (by omega)
  obtain rfl : b = b' := by injection hA with hA; injection hA
  have hset : ∀ g, g ≠ b → (W.setCell ⟨b, k, none⟩ u).heap[g]? = W.heap[g]? := fun g hne => Below.heap_setCell W _ _ g hne
  refine ⟨h.two.keep (fun g hg => hset g (fun e => by subst e; exact hg.elim h1 h2)) (by simp [World.setCell]) (h.two.bel.setCell (p := ⟨b, k, none⟩) h5 u), (hset bx (fun e => h6 e.symm)).trans h.bx_, fun _ => ⟨b, rfl, h1, h2, h5, h6, _, heap_setCell_row W b k _ _ u h3, by simpa using h4⟩⟩
end Go.Proofs.YthafpbidfgmacaaDoor.Hd

/- The walk of the law's one: Close, Moved, Clear. -/
namespace Go.Proofs.YthafpbidfgmacaaDoor.Hd
open Go.RowKit Go.Proofs.YthafpbidfgmacaaDoor Go.Proofs.YthafpbidfgmacaaDoorW.PrintWords Go.Proofs.YthafpbidfgmacaaDoorW.PrintLast Go.Proofs.YthafpbidfgmacaaDoorW.PrintMore
set_option linter.unusedVariables false
set_option linter.unusedSimpArgs false

theorem box6_cells {W : World} {g : Nat} {x0 x1 x2 x3 x4 x5 : Value} (h : W.heap[g]? = some (.cells #[x0, x1, x2, x3, x4, x5] 32 (0, 0))) : W.cell? ⟨g, 0, none⟩ = some x0 ∧ W.cell? ⟨g, 1, none⟩ = some x1 ∧ W.cell? ⟨g, 2, none⟩ = some x2 ∧ W.cell? ⟨g, 3, none⟩ = some x3 ∧ W.cell? ⟨g, 4, none⟩ = some x4 :=
  ⟨by rw [cell_of_row W g 0 _ _ _ h]; rfl, by rw [cell_of_row W g 1 _ _ _ h]; rfl, by rw [cell_of_row W g 2 _ _ _ h]; rfl, by rw [cell_of_row W g 3 _ _ _ h]; rfl, by rw [cell_of_row W g 4 _ _ _ h]; rfl⟩
section
variable {w0 W W' : World} {t r : Nat} {st st' : St} {es es' : List REnt} {F F' G G' : Nat → Prop} {A1 A2 : Option Addr} {c1 c2 : Nat} {xa xb : List ByteArray} {er xd : Int}
theorem Two.close_ (T : Two w0 t r st es F G W) (h : closeS st xd = (st', er)) : Calls Tryd.prog 17 #[.pointer (some ⟨t, 0, none⟩), .int .i64 xd] W fun e w' => e = .returned (.int .i64 er) ∧ ∃ F', Two w0 t r st' es F' G w' ∧ Fr F F' W w' := by
  have := close_tab T.tab xd
  rw [h] at this
  exact this.mono fun e w' ⟨he, F', hT, hf⟩ => ⟨he, F', T.tabStep hT hf, hf⟩
theorem Two.rclose_ (T : Two w0 t r st' es F G W) (rs : RS st es) (h : closeS st xd = (st', er)) : Calls Tryd.prog 88 #[.pointer (some ⟨r, 0, none⟩), .int .i64 xd] W fun e w' => e = .returned (.int .i64 er) ∧ ∃ es' G', RS st' es' ∧ Two w0 t r st' es' F G' w' := by
  have := rclose_calls T.lst T.bel.size rs xd
  unfold RCloseP RStep at this
  rw [h] at this
  exact this.mono fun e w' ⟨he, es', G', hr, hR, hf⟩ => ⟨he, es', G', hr, T.lstStep hR hf⟩
theorem arg_apart (hr : ActR w0 A1 c1 xa) (hF : ∀ g, F g → w0.heap.size ≤ g) : 0 < xa.length → ∀ a, A1 = some a → ¬ F a.block := fun h0 a ha hf => by
  obtain ⟨b, o, hB, hlt, _⟩ := c_cells hr.2.1 h0
  rw [ha] at hB
  obtain rfl := Option.some.inj hB
  have := hF _ hf
  have h2 : b < w0.heap.size := hlt
  have h3 : w0.heap.size ≤ b := this
  omega
theorem Two.moved_ (T : Two w0 t r st es F G W) (r1 : ActR w0 A1 c1 xa) (r2 : ActR w0 A2 c2 xb) (hs1 : shortB xa = true) (hs2 : shortB xb = true) : Calls Tryd.prog 18 #[.pointer (some ⟨t, 0, none⟩), .slice A1 xa.length c1, .slice A2 xb.length c2] W fun e w' => e = .returned (.tuple #[]) ∧ ∃ F', Two w0 t r (movedS st xa xb) es F' G w' ∧ Fr F F' W w' :=
  (moved_tab' T.tab T.bel.size A1 c1 xa A2 c2 xb (Kd.C_below r1.2.1 T.bel) r1.1 (fits_short hs1) (Kd.C_below r2.2.1 T.bel) r2.1 (fits_short hs2) (arg_apart r1 (fun g hg => (T.tab.rng g hg).1)) (arg_apart r2 (fun g hg => (T.tab.rng g hg).1))).mono fun e w' ⟨he, F', hT, hf⟩ => ⟨he, F', T.tabStep hT hf, hf⟩
theorem Two.rmoved_ (T : Two w0 t r st' es F G W) (rs : RS st es) (r1 : ActR w0 A1 c1 xa) (r2 : ActR w0 A2 c2 xb) : Calls Tryd.prog 89 #[.pointer (some ⟨r, 0, none⟩), .slice A1 xa.length c1, .slice A2 xb.length c2] W fun e w' => e = .returned (.tuple #[]) ∧ ∃ es' G', RS (movedS st xa xb) es' ∧ Two w0 t r st' es' F G' w' :=
  (rmoved_calls T.lst T.bel.size rs A1 c1 xa A2 c2 xb (Kd.C_below r1.2.1 T.bel) r1.1 (Kd.C_below r2.2.1 T.bel) r2.1).mono fun e w' ⟨he, es', G', hr, hR, hf⟩ => ⟨he, es', G', hr, T.lstStep hR hf⟩
theorem Two.clear_ (T : Two w0 t r st es F G W) : Calls Tryd.prog 57 #[.pointer (some ⟨t, 0, none⟩)] W fun e w' => e = .returned (.tuple #[]) ∧ ∃ F', Two w0 t r newS es F' G w' :=
  (clear_tab T.tab).mono fun e w' ⟨he, F', hT, hf⟩ => ⟨he, F', T.tabStep hT hf⟩
theorem Two.rclear (T : Two w0 t r st es F G W) : ∃ G', Two w0 t r st [] F G' (W.setCell ⟨r, 0, none⟩ (.slice none 0 0)) := by
  obtain ⟨v, xs, hV⟩ := T.lst
  obtain ⟨G', hR, hf⟩ := rtab_set hV T.bel.size (Below.refl _ _) (es' := []) (F' := fun _ => False) (v3 := .slice none 0 0) (xs' := []) ⟨own_nil _ _ _ _, fun i e he => by simp at he⟩ (fun g h => h.elim) (fun k hk => by simp [Value.ownBlock] at hk) (by simp)
  exact ⟨G', T.lstStep hR hf⟩
theorem Two.vc (T : Two w0 t r st es F G W) : ∃ v, W.cell? ⟨r, 0, none⟩ = some v ∧ W.frozen? ⟨r, 0, none⟩ = false ∧ r < W.heap.size := by
  obtain ⟨v, xs, hV⟩ := T.lst
  exact ⟨v, vc_of hV.blk⟩
theorem box_fr {o : Obj} (T : Two w0 t r st es F G W) (hf : Fr F F' (W.alloc o) W') : W'.heap[W.heap.size]? = (W.alloc o).heap[W.heap.size]? := hf.keep _ (by simp) (fun e => by have := (T.tab.rng _ e).2; omega)
end
section
variable {w0 W : World} {t r : Nat} {st : St} {es : List REnt} {F G : Nat → Prop}
set_option maxRecDepth 100000 in
set_option maxHeartbeats 8000000 in
theorem one_close (T : Two w0 t r st es F G W) (rs : RS st es) (xw : Int) (zw1 : 0 ≤ xw) (zw2 : xw ≤ 255) (xs : ByteArray) (A1 : Option Addr) (n1 c1 : Nat) (A2 : Option Addr) (n2 c2 : Nat) (xd xk : Int) (hm : xw % 6 = 3) :
    Calls Tryd.prog 51 #[.pointer (some ⟨t, 0, none⟩), .pointer (some ⟨r, 0, none⟩), .agg #[.int .u8 xw, .string xs, .slice A1 n1 c1, .slice A2 n2 c2, .int .i64 xd, .int .i64 xk]] W (OneP w0 t r) := by
  have m0 : (xw % 6 == 0) = false := beq_eq_false_iff_ne.2 (by omega)
  have m1 : (xw % 6 == 1) = false := beq_eq_false_iff_ne.2 (by omega)
  have m2 : (xw % 6 == 2) = false := beq_eq_false_iff_ne.2 (by omega)
  have m3 : (xw % 6 == 3) = true := beq_iff_eq.2 (by omega)
  obtain ⟨st', er, hcl⟩ : ∃ a b, closeS st xd = (a, b) := ⟨_, _, rfl⟩
  have HT := Lib.hid T
  have HRs := Lib.hid rs
  have HCl := Lib.hid hcl
  clear T rs hcl hm
  go_enter Tryd.func51, Tryd.ntmps51
  go_wp2_with (first
    | (go_at_call 17; refine (Two.close_ (HT.out.later (below_alloc (Below.refl _ _) _)) HCl.out).mono ?_; rintro e w1 ⟨rfl, F', hT1, hf1⟩; obtain ⟨x0, x1, x2, x3, x4⟩ := box6_cells ((box_fr HT.out hf1).trans (heap_alloc_new W _)); have HT1 := Lib.hid hT1; clear hT1 hf1)
    | (go_at_call 88; refine (Two.rclose_ HT1.out HRs.out HCl.out).mono ?_; rintro e w2 ⟨rfl, es', G', hr, hT2⟩; have HT2 := Lib.hid hT2; have HR2 := Lib.hid hr; clear hr hT2))
  go_ret
  exact ⟨rfl, _, _, _, _, HR2.out, HT2.out⟩
set_option maxRecDepth 100000 in
set_option maxHeartbeats 8000000 in
theorem one_moved (T : Two w0 t r st es F G W) (rs : RS st es) (xw : Int) (zw1 : 0 ≤ xw) (zw2 : xw ≤ 255) (xs : ByteArray) (A1 : Option Addr) (c1 : Nat) (xa : List ByteArray) (A2 : Option Addr) (c2 : Nat) (xb : List ByteArray) (r1 : ActR w0 A1 c1 xa) (r2 : ActR w0 A2 c2 xb) (hs1 : shortB xa = true) (hs2 : shortB xb = true) (xd xk : Int) (hm : xw % 6 = 4) :
    Calls Tryd.prog 51 #[.pointer (some ⟨t, 0, none⟩), .pointer (some ⟨r, 0, none⟩), .agg #[.int .u8 xw, .string xs, .slice A1 xa.length c1, .slice A2 xb.length c2, .int .i64 xd, .int .i64 xk]] W (OneP w0 t r) := by
  have m0 : (xw % 6 == 0) = false := beq_eq_false_iff_ne.2 (by omega)
  have m1 : (xw % 6 == 1) = false := beq_eq_false_iff_ne.2 (by omega)
  have m2 : (xw % 6 == 2) = false := beq_eq_false_iff_ne.2 (by omega)
  have m3 : (xw % 6 == 3) = false := beq_eq_false_iff_ne.2 (by omega)
  have m4 : (xw % 6 == 4) = true := beq_iff_eq.2 (by omega)
  have HT := Lib.hid T
  have HRs := Lib.hid rs
  have HA := Lib.hid (And.intro r1 r2)
  have HSh := Lib.hid (And.intro hs1 hs2)
  clear T rs hm r1 r2 hs1 hs2
  go_enter Tryd.func51, Tryd.ntmps51
  go_wp2_with (first
    | (go_at_call 18; refine (Two.moved_ (HT.out.later (below_alloc (Below.refl _ _) _)) HA.out.1 HA.out.2 HSh.out.1 HSh.out.2).mono ?_; rintro e w1 ⟨rfl, F', hT1, hf1⟩; obtain ⟨x0, x1, x2, x3, x4⟩ := box6_cells ((box_fr HT.out hf1).trans (heap_alloc_new W _)); have HT1 := Lib.hid hT1; clear hT1 hf1)
    | (go_at_call 89; refine (Two.rmoved_ HT1.out HRs.out HA.out.1 HA.out.2).mono ?_; rintro e w2 ⟨rfl, es', G', hr, hT2⟩; have HT2 := Lib.hid hT2; have HR2 := Lib.hid hr; clear hr hT2))
  go_ret
  exact ⟨rfl, _, _, _, _, HR2.out, HT2.out⟩
set_option maxRecDepth 100000 in
set_option maxHeartbeats 8000000 in
theorem one_clear (T : Two w0 t r st es F G W) (rs : RS st es) (xw : Int) (zw1 : 0 ≤ xw) (zw2 : xw ≤ 255) (xs : ByteArray) (A1 : Option Addr) (n1 c1 : Nat) (A2 : Option Addr) (n2 c2 : Nat) (xd xk : Int) (hm : xw % 6 = 5) :
    Calls Tryd.prog 51 #[.pointer (some ⟨t, 0, none⟩), .pointer (some ⟨r, 0, none⟩), .agg #[.int .u8 xw, .string xs, .slice A1 n1 c1, .slice A2 n2 c2, .int .i64 xd, .int .i64 xk]] W (OneP w0 t r) := by
  have m0 : (xw % 6 == 0) = false := beq_eq_false_iff_ne.2 (by omega)
  have m1 : (xw % 6 == 1) = false := beq_eq_false_iff_ne.2 (by omega)
  have m2 : (xw % 6 == 2) = false := beq_eq_false_iff_ne.2 (by omega)
  have m3 : (xw % 6 == 3) = false := beq_eq_false_iff_ne.2 (by omega)
  have m4 : (xw % 6 == 4) = false := beq_eq_false_iff_ne.2 (by omega)
  have HT := Lib.hid T
  have HRs := Lib.hid rs
  clear T rs hm
  by_cases hd : xd = 0
  · subst hd
    go_enter Tryd.func51, Tryd.ntmps51
    go_wp2_with (first
      | (go_at_call 57; refine (Two.clear_ (HT.out.later (below_alloc (Below.refl _ _) _))).mono ?_; rintro e w1 ⟨rfl, F', hT1⟩; obtain ⟨v, y0, y1, y2⟩ := hT1.vc; have HT1 := Lib.hid hT1; clear hT1))
    go_ret
    obtain ⟨G', hT2⟩ := HT1.out.rclear
    exact ⟨rfl, _, _, _, _, RS.start, hT2⟩
  · have hz : (xd == 0) = false := beq_eq_false_iff_ne.2 hd
    clear hd
    go_enter Tryd.func51, Tryd.ntmps51
    go_wp2
    go_ret
    exact ⟨rfl, _, _, _, _, HRs.out, HT.out.later (below_alloc (Below.refl _ _) _)⟩
end
end Go.Proofs.YthafpbidfgmacaaDoor.Hd

/- The walk of the law's one: Open. -/
namespace Go.Proofs.YthafpbidfgmacaaDoor.Hd
open Go.RowKit Go.Proofs.YthafpbidfgmacaaDoor Go.Proofs.YthafpbidfgmacaaDoorW.PrintWords Go.Proofs.YthafpbidfgmacaaDoorW.PrintLast Go.Proofs.YthafpbidfgmacaaDoorW.PrintMore
set_option linter.unusedVariables false
set_option linter.unusedSimpArgs false

section
variable {w0 W W' w1 w2 : World} {t r : Nat} {st st' : St} {es es' : List REnt} {F F' G G' : Nat → Prop} {A1 A2 : Option Addr} {c1 c2 : Nat} {xa xb : List ByteArray} {er kk : Int} {xs : ByteArray}
theorem Two.open_ (T : Two w0 t r st es F G W) (hr : Kd.C Kd.string W A1 xa.length xa) (hc : xa.length ≤ c1) (hs : shortB xa = true) (h : openS st xs xa = (st', kk, er)) : Calls Tryd.prog 15 #[.pointer (some ⟨t, 0, none⟩), .string xs, .slice A1 xa.length c1] W fun e w' => e = .returned (.tuple #[.int .i64 kk, .int .i64 er]) ∧ ∃ F', Two w0 t r st' es F' G w' ∧ Fr F F' W w' := by
  have := open_tab T.tab T.bel.size xs A1 c1 xa hr hc (fits_short hs)
  unfold OpenP at this
  rw [h] at this
  exact this.mono fun e w' ⟨he, F', hT, hf⟩ => ⟨he, F', T.tabStep hT hf, hf⟩
theorem Two.ropen_ (T : Two w0 t r st' es F G W) (rs : RS st es) (r1 : ActR w0 A1 c1 xa) (hs : shortB xa = true) (h : openS st xs xa = (st', kk, er)) : Calls Tryd.prog 87 #[.pointer (some ⟨r, 0, none⟩), .string xs, .slice A1 xa.length c1] W fun e w' => e = .returned (.tuple #[.int .i64 kk, .int .i64 er]) ∧ ∃ es' G', RS st' es' ∧ Two w0 t r st' es' F G' w' := by
  have := ropen_calls T.lst T.bel.size rs xs A1 c1 xa (Kd.C_below r1.2.1 T.bel) r1.1 (by have := (shortB_of hs).1; omega)
  unfold ROpenP RStep at this
  rw [h] at this
  exact this.mono fun e w' ⟨he, es', G', hr, hR, hf⟩ => ⟨he, es', G', hr, T.lstStep hR hf⟩
theorem op_start {o : Obj} {n : Nat} {A : Option Addr} (T : Two w0 t r st es F G W) (hb : Below (W.alloc o).heap.size (W.alloc o) w1) (hA : 0 < n → ∃ b, A = some ⟨b, 0, none⟩ ∧ (W.alloc o).heap.size ≤ b ∧ ∃ cur : Array Value, w1.heap[b]? = some (.cells cur 9 (0, 0)) ∧ n ≤ cur.size) (T2 : Two w0 t r st' es F' G w2) (hf : Fr F F' w1 w2) (ho : (W.alloc o).heap[W.heap.size]? = some o) : OpI w0 t r st' es F' G A n W.heap.size o w2 := by
  have hz : (W.alloc o).heap.size = W.heap.size + 1 := by simp
  have hz1 := hb.size
  have hW0 := T.bel.size
  refine ⟨T2, ?_, fun h0 => ?_⟩
  · rw [hf.keep _ (by omega) (fun e => by have := (T.tab.rng _ e).2; omega), hb.block _ (by omega)]
    exact ho
  · obtain ⟨b, hA', hb0, cur, hc, hn⟩ := hA h0
    have hbl := (Array.getElem?_eq_some_iff.1 hc).1
    have hFb : ¬ F b := fun e => by have := (T.tab.rng _ e).2; omega
    refine ⟨b, hA', fun e => ?_, fun e => by have := (T.lst.rng _ e).2; omega, by omega, by omega, cur, (hf.keep b hbl hFb).trans hc, hn⟩
    rcases hf.sub b e with h1 | h1
    · exact hFb h1
    · omega
theorem strs_room {l : List ByteArray} (h : shortB l = true) : (([] : List ByteArray).length + l.length) * 16 ≤ 140737488355328 := by
  have := (shortB_of h).1
  simp
  omega
end
set_option maxRecDepth 100000 in
set_option maxHeartbeats 8000000 in
theorem one_open {w0 W : World} {t r : Nat} {st : St} {es : List REnt} {F G : Nat → Prop} (T : Two w0 t r st es F G W) (rs : RS st es) (xw : Int) (zw1 : 0 ≤ xw) (zw2 : xw ≤ 255) (xs : ByteArray) (A1 : Option Addr) (c1 : Nat) (xa : List ByteArray) (A2 : Option Addr) (n2 c2 : Nat) (r1 : ActR w0 A1 c1 xa) (hs1 : shortB xa = true) (xd xk : Int) (hm : xw % 6 = 0 ∨ xw % 6 = 1 ∨ xw % 6 = 2) :
    Calls Tryd.prog 51 #[.pointer (some ⟨t, 0, none⟩), .pointer (some ⟨r, 0, none⟩), .agg #[.int .u8 xw, .string xs, .slice A1 xa.length c1, .slice A2 n2 c2, .int .i64 xd, .int .i64 xk]] W (OneP w0 t r) := by
  obtain ⟨st', kk, er, hcl⟩ : ∃ a b c, openS st xs xa = (a, b, c) := ⟨_, _, _, rfl⟩
  have HT := Lib.hid T
  have HRs := Lib.hid rs
  have HCl := Lib.hid hcl
  have HA := Lib.hid r1
  have HSh := Lib.hid hs1
  have hlen := (shortB_of hs1).1
  clear T rs hcl r1 hs1
  have mm : (xw % 6 == 0) = true ∨ ((xw % 6 == 0) = false ∧ (xw % 6 == 1) = true) ∨ ((xw % 6 == 0) = false ∧ (xw % 6 == 1) = false ∧ (xw % 6 == 2) = true) := by
    rcases hm with h | h | h <;> rw [h] <;> decide
  clear hm
  go_enter Tryd.func51, Tryd.ntmps51
  rcases mm with m0 | ⟨m0, m1⟩ | ⟨m0, m1, m2⟩
  all_goals
    go_wp2_with (first
      | (at_builtin; refine list_append_strs _ rfl (.const (.slice none 0 0)) (.tmp 30) rfl _ (.slice none 0 0) [] rfl (own_nil _ _ _ _) A1 xa.length c1 xa rfl (Kd.C_below HA.out.2.1 (HT.out.later (below_alloc (Below.refl _ _) _)).bel) (strs_room HSh.out) (Nat.le_refl _) ?_; intro v1 w1 hown hgrow hat; have HB1 := Lib.hid (pw_below_grown (Below.refl _ _) none (Nat.le_refl _) hgrow (fun k hk => by cases hk)); rw [List.nil_append] at hown; obtain ⟨Ao, co, rfl, hco, hCo, hAo⟩ := strs_own hown; obtain ⟨y0, y1, y2, y3, y4⟩ := box6_cells ((HB1.out.block _ (alloc_lt W _)).trans (heap_alloc_new W _)); have HCo := Lib.hid (And.intro hco hCo); have HAo := Lib.hid hAo; clear hown hgrow hat hco hCo hAo)
      | (go_at_call 15; refine (Two.open_ ((HT.out.later (below_alloc (Below.refl _ _) _)).later HB1.out) HCo.out.2 HCo.out.1 HSh.out HCl.out).mono ?_; rintro e w2 ⟨rfl, F', hT2, hf2⟩; have HI : Hid (OpI w0 t r st' es F' G Ao xa.length W.heap.size _ w2) := Lib.hid (op_start HT.out HB1.out HAo.out hT2 hf2 (heap_alloc_new W _)); clear hT2 hf2 y0 y1 y2 y3 y4))
    clear HT HB1 HAo HCo
    generalize W.heap.size = bx at HI ⊢
    go_loopw [10] (fun i wr => ∃ k : Nat, k ≤ xa.length ∧ i = .int .i64 k ∧ Hid (OpI w0 t r st' es F' G Ao xa.length bx (.cells #[.int .u8 xw, .string xs, .slice A1 xa.length c1, .slice A2 n2 c2, .int .i64 xd, .int .i64 xk] 32) wr)) (fun i _ => xa.length - (intOf i).toNat)
    case atStart => exact ⟨0, by omega, rfl, HI⟩
    case round =>
      clear HI
      obtain ⟨k, hk, rfl, HK⟩ := hrel
      by_cases hlt : k < xa.length
      · have dlt : decide (k < xa.length) = true := decide_eq_true hlt
        have b0 : (0 : Int) ≤ (k : Int) := by omega
        have b1 : (k : Int) < (xa.length : Int) := by omega
        obtain ⟨b, x, rfl, hx, hfz⟩ := HK.out.at_ hlt
        have HLt := Lib.hid hlt
        go_wp2
        go_roundw
        case rel => exact ⟨k + 1, by omega, by go_num, HK.out.set HLt.out _⟩
        case measure => simp [intOf]; omega
      · obtain rfl : k = xa.length := by omega
        have dlt : decide (xa.length < xa.length) = false := decide_eq_false (by omega)
        obtain ⟨y0, y1, y2, y3, y4⟩ := box6_cells HK.out.bx_
        go_wp2_with (go_at_call 87; refine (Two.ropen_ HK.out.two HRs.out HA.out HSh.out HCl.out).mono ?_; rintro e w3 ⟨rfl, es', G', hr, hT3⟩; have HT3 := Lib.hid hT3; have HR3 := Lib.hid hr; clear hr hT3)
        go_ret
        exact ⟨rfl, _, _, _, _, HR3.out, HT3.out⟩
end Go.Proofs.YthafpbidfgmacaaDoor.Hd

/- HandlePlays: the walk. -/
namespace Go.Proofs.YthafpbidfgmacaaDoor.Hd
open Go.RowKit Go.Proofs.YthafpbidfgmacaaDoor Go.Proofs.YthafpbidfgmacaaDoorW.PrintWords Go.Proofs.YthafpbidfgmacaaDoorW.PrintLast Go.Proofs.YthafpbidfgmacaaDoorW.PrintMore
set_option linter.unusedVariables false
set_option linter.unusedSimpArgs false

def TwoE (w0 : World) (t r : Nat) (W : World) : Prop := ∃ st es F G, RS st es ∧ Two w0 t r st es F G W
theorem TwoE.later {w0 W W' : World} {t r : Nat} (h : TwoE w0 t r W) (hb : Below W.heap.size W W') : TwoE w0 t r W' := by
  obtain ⟨st, es, F, G, hr, hT⟩ := h
  exact ⟨st, es, F, G, hr, hT.later hb⟩
theorem TwoE.bel {w0 W : World} {t r : Nat} (h : TwoE w0 t r W) : Below w0.heap.size w0 W := by
  obtain ⟨st, es, F, G, hr, hT⟩ := h
  exact hT.bel
theorem TwoE.alike {w0 W : World} {t r : Nat} (h : TwoE w0 t r W) (d : Int) : Calls Tryd.prog 53 #[.pointer (some ⟨t, 0, none⟩), .pointer (some ⟨r, 0, none⟩), .int .i64 d] W fun e w' => e = .returned (.bool true) ∧ Below W.heap.size W w' := by
  obtain ⟨st, es, F, G, hr, hT⟩ := h
  obtain ⟨s, l, er, hl, hTl⟩ := tells_of hT.tab hT.lst hr d
  exact alike_calls hl hTl
theorem TwoE.facts {w0 W : World} {t r : Nat} (h : TwoE w0 t r W) : ∃ A n cap, W.cell? ⟨r, 0, none⟩ = some (.slice A n cap) ∧ Calls Tryd.prog 52 #[.pointer (some ⟨t, 0, none⟩)] W fun e w' => e = .returned (.int .i64 (n : Int)) ∧ W = w' := by
  obtain ⟨st, es, F, G, hr, hT⟩ := h
  have hc := count_tab hT.tab
  rw [hr.count] at hc
  obtain ⟨v, xs, hV⟩ := hT.lst
  obtain ⟨A, cap, rfl, _⟩ := hV.slice
  exact ⟨A, es.length, cap, hV.vcell, hc⟩
theorem one_calls {w0 W : World} {t r : Nat} (h : TwoE w0 t r W) (xw : Int) (zw1 : 0 ≤ xw) (zw2 : xw ≤ 255) (xs : ByteArray) (A1 : Option Addr) (c1 : Nat) (xa : List ByteArray) (A2 : Option Addr) (c2 : Nat) (xb : List ByteArray) (r1 : ActR w0 A1 c1 xa) (r2 : ActR w0 A2 c2 xb) (hs1 : shortB xa = true) (hs2 : shortB xb = true) (xd xk : Int) :
    Calls Tryd.prog 51 #[.pointer (some ⟨t, 0, none⟩), .pointer (some ⟨r, 0, none⟩), .agg #[.int .u8 xw, .string xs, .slice A1 xa.length c1, .slice A2 xb.length c2, .int .i64 xd, .int .i64 xk]] W fun e w' => e = .returned (.bool true) ∧ TwoE w0 t r w' := by
  obtain ⟨st, es, F, G, hr, hT⟩ := h
  have hm : (xw % 6 = 0 ∨ xw % 6 = 1 ∨ xw % 6 = 2) ∨ xw % 6 = 3 ∨ xw % 6 = 4 ∨ xw % 6 = 5 := by omega
  have hp : ∀ e w', OneP w0 t r e w' → e = .returned (.bool true) ∧ TwoE w0 t r w' := fun e w' ⟨he, st, es, F, G, hr, hT⟩ => ⟨he, st, es, F, G, hr, hT⟩
  rcases hm with h | h | h | h
  · exact (one_open hT hr xw zw1 zw2 xs A1 c1 xa A2 _ c2 r1 hs1 xd xk h).mono hp
  · exact (one_close hT hr xw zw1 zw2 xs A1 _ c1 A2 _ c2 xd xk h).mono hp
  · exact (one_moved hT hr xw zw1 zw2 xs A1 c1 xa A2 c2 xb r1 r2 hs1 hs2 xd xk h).mono hp
  · exact (one_clear hT hr xw zw1 zw2 xs A1 _ c1 A2 _ c2 xd xk h).mono hp
theorem two_start {w w1 : World} (hT : Tab w.heap.size w1 w.heap.size true newS (fun g => g = w.heap.size)) (hb : Below w.heap.size w w1) : TwoE w w.heap.size w1.heap.size (w1.alloc (.cells #[.slice none 0 0] 79)) := by
  obtain ⟨v, xs, hV⟩ := rtab_new w1
  have hlt := (hT.rng _ rfl).2
  refine ⟨newS, [], _, _, RS.start, hT.alloc _, ⟨v, xs, hV.blk, ⟨own_mono hV.row.own hb.size, hV.row.cell⟩, hV.fr, hV.fv, fun g hg => ⟨Nat.le_trans hb.size (hV.rng g hg).1, (hV.rng g hg).2⟩, hV.small⟩, fun g hg hg' => ?_, Below.trans hb ((below_alloc (Below.refl w1.heap.size w1) _).mono hb.size)⟩
  have h1 : g = w.heap.size := hg
  have h2 : g = w1.heap.size := hg'
  omega
set_option maxRecDepth 100000 in
set_option maxHeartbeats 4000000 in
theorem plays_no (v : Value) (n : Nat) (f : Nat → Act) (w : World) (ha : Acts w v n f) (hF : fewB n f = false) : Calls Tryd.prog 10 #[v] w fun e w' => e = .returned (.bool true) ∧ Below w.heap.size w w' := by
  have hf := Lib.hid (few_calls v n f w ha)
  rw [hF] at hf
  clear ha hF
  go_enter Tryd.func10, Tryd.ntmps10
  go_wp2_with (first | (go_at_call 12; refine hf.out.mono ?_; rintro e w' ⟨rfl, rfl⟩) | (go_at_call 13; refine (works_calls _).mono ?_; rintro e w2 ⟨rfl, hb⟩))
  go_ret
  exact ⟨rfl, hb⟩
set_option maxRecDepth 100000 in
set_option maxHeartbeats 8000000 in
theorem plays_empty (A : Option Addr) (c : Nat) (f : Nat → Act) (w : World) : Calls Tryd.prog 10 #[.slice A 0 c] w fun e w' => e = .returned (.bool true) ∧ Below w.heap.size w w' := by
  have hf := Lib.hid (few_calls _ 0 f w (.inl ⟨rfl, A, c, rfl⟩))
  have hF : fewB 0 f = true := by simp [fewB]
  rw [hF] at hf
  have hn := Lib.hid (new_calls w)
  clear hF
  go_enter Tryd.func10, Tryd.ntmps10
  go_wp2_with (first | (go_at_call 12; refine hf.out.mono ?_; rintro e w' ⟨rfl, rfl⟩) | (go_at_call 14; refine hn.out.mono ?_; rintro e w1 ⟨rfl, hT, hb⟩; have HK : Hid (TwoE w w.heap.size w1.heap.size _) := Lib.hid (two_start hT hb); clear hT hb))
  have HB := Lib.hid HK.out.bel
  clear HK hf hn
  go_loopw [5] (fun i wr => i = .int .i64 0 ∧ Hid (Below w.heap.size w wr)) (fun i _ => 0)
  case atStart => exact ⟨rfl, HB⟩
  case round =>
    clear HB
    obtain ⟨rfl, HW⟩ := hrel
    go_wp2_with (go_at_call 13; refine (works_calls _).mono ?_; rintro e w2 ⟨rfl, hb⟩)
    go_ret
    exact ⟨rfl, Below.trans HW.out (hb.mono HW.out.size)⟩
end Go.Proofs.YthafpbidfgmacaaDoor.Hd

/- HandlePlays: the walk, where there are acts. -/
namespace Go.Proofs.YthafpbidfgmacaaDoor.Hd
open Go.RowKit Go.Proofs.YthafpbidfgmacaaDoor Go.Proofs.YthafpbidfgmacaaDoorW.PrintWords Go.Proofs.YthafpbidfgmacaaDoorW.PrintLast Go.Proofs.YthafpbidfgmacaaDoorW.PrintMore
set_option linter.unusedVariables false
set_option linter.unusedSimpArgs false

set_option maxRecDepth 100000 in
set_option maxHeartbeats 8000000 in
theorem plays_some (b o n c : Nat) (f : Nat → Act) (w : World) (hc : n ≤ c) (hm : c ≤ maxLen) (ha : ∀ i, i < n → ActAt w b (o + i * 6) (f i)) (hF : fewB n f = true) : Calls Tryd.prog 10 #[.slice (some ⟨b, o, none⟩) n c] w fun e w' => e = .returned (.bool true) ∧ Below w.heap.size w w' := by
  have hf := Lib.hid (few_calls _ n f w (.inr ⟨b, o, c, rfl, hc, hm, ha⟩))
  rw [hF] at hf
  have hn := Lib.hid (new_calls w)
  have HA := Lib.hid ha
  obtain ⟨hn60, hok⟩ := fewB_of hF
  have HOk := Lib.hid hok
  unfold maxLen at hm
  clear ha hF hok
  go_enter Tryd.func10, Tryd.ntmps10
  go_wp2_with (first | (go_at_call 12; refine hf.out.mono ?_; rintro e w' ⟨rfl, rfl⟩) | (go_at_call 14; refine hn.out.mono ?_; rintro e w1 ⟨rfl, hT, hb⟩; have HK : Hid (TwoE w w.heap.size w1.heap.size _) := Lib.hid (two_start hT hb); clear hT hb))
  clear hf hn
  obtain ⟨t, ht⟩ : ∃ t, t = w.heap.size := ⟨_, rfl⟩
  obtain ⟨r, hr⟩ : ∃ h, h = w1.heap.size := ⟨_, rfl⟩
  rw [← hr] at HK
  have HK2 : Hid (TwoE w t r _) := Lib.hid (by rw [ht]; exact HK.out)
  rw [← ht, ← hr]
  clear HK hr ht
  go_loopw [5] (fun i wr => ∃ k : Nat, k ≤ n ∧ i = .int .i64 k ∧ Hid (TwoE w t r wr)) (fun i _ => n - (intOf i).toNat)
  case atStart => exact ⟨0, by omega, rfl, HK2⟩
  case round =>
    clear HK2
    obtain ⟨k, hk, rfl, HK⟩ := hrel
    by_cases hlt : k < n
    · obtain ⟨⟨xw, xs, xa, xb, xd, xk⟩, hx⟩ : ∃ x, f k = x := ⟨_, rfl⟩
      have hat := HA.out k hlt
      have hokx := HOk.out k hlt
      rw [hx] at hat hokx
      obtain ⟨z1, z2, z3, A1, c1, A2, c2, ⟨q0, q1, q2, q3, q4, q5⟩, r1, r2⟩ := hat
      simp only at z1 z2 z3 q0 q1 q2 q3 q4 q5 r1 r2
      have hbl := (cell_spot q0).2
      have HQ : Hid (∀ W, Below w.heap.size w W → W.cell? ⟨b, o + k * 6, none⟩ = some (.int .u8 xw) ∧ W.cell? ⟨b, o + k * 6 + 1, none⟩ = some (.string xs) ∧ W.cell? ⟨b, o + k * 6 + 2, none⟩ = some (.slice A1 xa.length c1) ∧ W.cell? ⟨b, o + k * 6 + 3, none⟩ = some (.slice A2 xb.length c2) ∧ W.cell? ⟨b, o + k * 6 + 4, none⟩ = some (.int .i64 xd) ∧ W.cell? ⟨b, o + k * 6 + 5, none⟩ = some (.int .i64 xk)) := fun W hb => ⟨(hb.cell (p := ⟨b, o + k * 6, none⟩) hbl).trans q0, (hb.cell (p := ⟨b, o + k * 6 + 1, none⟩) hbl).trans q1, (hb.cell (p := ⟨b, o + k * 6 + 2, none⟩) hbl).trans q2, (hb.cell (p := ⟨b, o + k * 6 + 3, none⟩) hbl).trans q3, (hb.cell (p := ⟨b, o + k * 6 + 4, none⟩) hbl).trans q4, (hb.cell (p := ⟨b, o + k * 6 + 5, none⟩) hbl).trans q5⟩
      clear q0 q1 q2 q3 q4 q5
      obtain ⟨q0, q1, q2, q3, q4, q5⟩ := HQ.out wr HK.out.bel
      have hok3 := hokx
      unfold okAct at hok3
      simp only [Bool.and_eq_true, decide_eq_true_eq] at hok3
      have HOne := Lib.hid (fun (W : World) (hb : Below wr.heap.size wr W) => one_calls (HK.out.later hb) xw z1.1 z1.2 xs A1 c1 xa A2 c2 xb r1 r2 hok3.1 hok3.2.1 xd xk)
      have d1 : decide (k < n) = true := decide_eq_true hlt
      have b0 : (0 : Int) ≤ (k : Int) := by omega
      have b1 : (k : Int) < (n : Int) := by omega
      clear hx hokx r1 r2 z1 z2 z3 hlt hbl hok3
      obtain ⟨na, hna⟩ : ∃ m, m = xa.length := ⟨_, rfl⟩
      obtain ⟨nb, hnb⟩ : ∃ m, m = xb.length := ⟨_, rfl⟩
      rw [← hna, ← hnb] at HOne HQ
      rw [← hna] at q2
      rw [← hnb] at q3
      clear hna hnb
      go_wp2_with fail
      go_cut [48] (fun s48 wx => s48 = .bool false ∧ Hid (TwoE w t r wx))
      case first =>
        refine start_ (n := 29) (S := (fun w' => w'.cell? ⟨b, o + k * 6, none⟩ = some (.int .u8 xw) ∧ w'.cell? ⟨b, o + k * 6 + 1, none⟩ = some (.string xs) ∧ w'.cell? ⟨b, o + k * 6 + 2, none⟩ = some (.slice A1 na c1) ∧ w'.cell? ⟨b, o + k * 6 + 3, none⟩ = some (.slice A2 nb c2) ∧ w'.cell? ⟨b, o + k * 6 + 4, none⟩ = some (.int .i64 xd) ∧ w'.cell? ⟨b, o + k * 6 + 5, none⟩ = some (.int .i64 xk))) (ds := []) #[false, false, false, false, false, false, false, false, false, false, false, false, false, false, false, false, false, false, false, false, false, false, false, false, false, false, false, false, false] (by kernel_rfl) rfl rfl ⟨q0, q1, q2, q3, q4, q5⟩ (fun hHeld => ?_)
        have HBd := Lib.hid (below_drew (Below.refl wr.heap.size wr))
        generalize wr.drew = wd at HBd hHeld ⊢
        refine pure_ (i := 0) (N := some 20) (v := ?_) (a' := ?_) #[true, false, false, false, false, false, false, false, false, false, false, false, false, false, false, false, false, false, false, false, false, false, false, false, false, false, false, false, false] rfl rfl (by kernel_rfl) (fun _ _ _ h => h) (Or.inl ⟨by rfl, ?_⟩) ?_ ?_
        rotate_left
        · intro w'
          go_simp
          with_reducible rfl
        rotate_left
        · simp only [Act.put, List.setIfInBounds_toArray, List.set_cons_zero, List.set_cons_succ]
          rfl
        refine pure_ (i := 1) (N := some 21) (v := ?_) (a' := ?_) #[true, true, false, false, false, false, false, false, false, false, false, false, false, false, false, false, false, false, false, false, false, false, false, false, false, false, false, false, false] rfl rfl (by kernel_rfl) (fun _ _ _ h => h) (Or.inl ⟨by rfl, ?_⟩) ?_ ?_
        rotate_left
        · intro w'
          go_simp
          with_reducible rfl
        rotate_left
        · simp only [Act.put, List.setIfInBounds_toArray, List.set_cons_zero, List.set_cons_succ]
          rfl
        refine pure_ (i := 2) (N := some 22) (v := ?_) (a' := ?_) #[true, true, true, false, false, false, false, false, false, false, false, false, false, false, false, false, false, false, false, false, false, false, false, false, false, false, false, false, false] rfl rfl (by kernel_rfl) (fun _ _ _ h => h) (Or.inl ⟨by rfl, ?_⟩) ?_ ?_
        rotate_left
        · intro w'
          go_simp
          with_reducible rfl
        rotate_left
        · simp only [Act.put, List.setIfInBounds_toArray, List.set_cons_zero, List.set_cons_succ]
          rfl
        refine pure_ (i := 3) (N := some 23) (v := ?_) (a' := ?_) #[true, true, true, true, false, false, false, false, false, false, false, false, false, false, false, false, false, false, false, false, false, false, false, false, false, false, false, false, false] rfl rfl (by kernel_rfl) (fun _ _ _ h => h) (Or.inl ⟨by rfl, ?_⟩) ?_ ?_
        rotate_left
        · intro w'
          go_simp
          with_reducible rfl
        rotate_left
        · simp only [Act.put, List.setIfInBounds_toArray, List.set_cons_zero, List.set_cons_succ]
          rfl
        refine pure_ (i := 4) (N := some 24) (v := ?_) (a' := ?_) #[true, true, true, true, true, false, false, false, false, false, false, false, false, false, false, false, false, false, false, false, false, false, false, false, false, false, false, false, false] rfl rfl (by kernel_rfl) (fun _ _ _ h => h) (Or.inl ⟨by rfl, ?_⟩) ?_ ?_
        rotate_left
        · intro w'
          go_simp
          with_reducible rfl
        rotate_left
        · simp only [Act.put, List.setIfInBounds_toArray, List.set_cons_zero, List.set_cons_succ]
          rfl
        refine take_ (i := 5) (N := some 25) (v := ?_) (a' := ?_) #[true, true, true, true, true, true, false, false, false, false, false, false, false, false, false, false, false, false, false, false, false, false, false, false, false, false, false, false, false] rfl rfl (by kernel_rfl) (fun _ _ _ h => h) (Or.inl ⟨by rfl, ?_⟩) hHeld ?_ ?_
        rotate_left
        · rintro w' ⟨s0, s1, s2, s3, s4, s5⟩
          go_simp
          with_reducible rfl
        rotate_left
        · simp only [Act.put, List.setIfInBounds_toArray, List.set_cons_zero, List.set_cons_succ]
          rfl
        refine one_ (i := 6) (N := some 26) #[true, true, true, true, true, true, true, false, false, false, false, false, false, false, false, false, false, false, false, false, false, false, false, false, false, false, false, false, false] rfl rfl (by kernel_rfl) (by decide) (fun K hK => ?_)
        refine goes_ Tryd.func51 (by kernel_rfl) rfl #[.pointer (some ⟨t, 0, none⟩), .pointer (some ⟨r, 0, none⟩), .agg #[.int .u8 xw, .string xs, .slice A1 na c1, .slice A2 nb c2, .int .i64 xd, .int .i64 xk]] (by rfl) rfl rfl (by (try simp only [List.map_toArray, List.map_cons, List.map_nil]); first | done | rfl) ?_
        refine (HOne.out _ HBd.out).mono ?_
        rintro e w2 ⟨rfl, hK2⟩
        refine ⟨_, rfl, ?_⟩
        have HK2 := Lib.hid hK2
        obtain ⟨p0, p1, p2, p3, p4, p5⟩ := HQ.out w2 HK2.out.bel
        obtain ⟨Al, nl, capl, hvl, hcl⟩ := HK2.out.facts
        have HCl := Lib.hid hcl
        clear hK2 hcl
        refine hK.out _ _ ⟨p0, p1, p2, p3, p4, p5⟩ (fun hHeld => ?_)
        clear hK K
        refine norm_ (a' := ?_) ?_ ?_
        rotate_left
        · show Act.put _ (some 26) _ = _
          simp only [Act.put, List.setIfInBounds_toArray, List.set_cons_zero, List.set_cons_succ]
          rfl
        refine pure_ (i := 7) (N := some 27) (v := ?_) (a' := ?_) #[true, true, true, true, true, true, true, true, false, false, false, false, false, false, false, false, false, false, false, false, false, false, false, false, false, false, false, false, false] rfl rfl (by kernel_rfl) (fun _ _ _ h => h) (Or.inl ⟨by rfl, ?_⟩) ?_ ?_
        rotate_left
        · intro w'
          go_simp
          with_reducible rfl
        rotate_left
        · simp only [Act.put, List.setIfInBounds_toArray, List.set_cons_zero, List.set_cons_succ]
          rfl
        refine pure_ (i := 8) (N := some 28) (v := ?_) (a' := ?_) #[true, true, true, true, true, true, true, true, true, false, false, false, false, false, false, false, false, false, false, false, false, false, false, false, false, false, false, false, false] rfl rfl (by kernel_rfl) (fun _ _ _ h => h) (Or.inl ⟨by rfl, ?_⟩) ?_ ?_
        rotate_left
        · intro w'
          go_simp
          with_reducible rfl
        rotate_left
        · simp only [Act.put, List.setIfInBounds_toArray, List.set_cons_zero, List.set_cons_succ]
          rfl
        refine pure_ (i := 9) (N := some 29) (v := ?_) (a' := ?_) #[true, true, true, true, true, true, true, true, true, true, false, false, false, false, false, false, false, false, false, false, false, false, false, false, false, false, false, false, false] rfl rfl (by kernel_rfl) (fun _ _ _ h => h) (Or.inl ⟨by rfl, ?_⟩) ?_ ?_
        rotate_left
        · intro w'
          go_simp
          with_reducible rfl
        rotate_left
        · simp only [Act.put, List.setIfInBounds_toArray, List.set_cons_zero, List.set_cons_succ]
          rfl
        refine pure_ (i := 11) (N := some 31) (v := ?_) (a' := ?_) #[true, true, true, true, true, true, true, true, true, true, false, true, false, false, false, false, false, false, false, false, false, false, false, false, false, false, false, false, false] rfl rfl (by kernel_rfl) (fun _ _ _ h => h) (Or.inl ⟨by rfl, ?_⟩) ?_ ?_
        rotate_left
        · intro w'
          go_simp
          with_reducible rfl
        rotate_left
        · simp only [Act.put, List.setIfInBounds_toArray, List.set_cons_zero, List.set_cons_succ]
          rfl
        refine pure_ (i := 12) (N := some 32) (v := ?_) (a' := ?_) #[true, true, true, true, true, true, true, true, true, true, false, true, true, false, false, false, false, false, false, false, false, false, false, false, false, false, false, false, false] rfl rfl (by kernel_rfl) (fun _ _ _ h => h) (Or.inl ⟨by rfl, ?_⟩) ?_ ?_
        rotate_left
        · intro w'
          go_simp
          with_reducible rfl
        rotate_left
        · simp only [Act.put, List.setIfInBounds_toArray, List.set_cons_zero, List.set_cons_succ]
          rfl
        refine pure_ (i := 13) (N := some 33) (v := ?_) (a' := ?_) #[true, true, true, true, true, true, true, true, true, true, false, true, true, true, false, false, false, false, false, false, false, false, false, false, false, false, false, false, false] rfl rfl (by kernel_rfl) (fun _ _ _ h => h) (Or.inl ⟨by rfl, ?_⟩) ?_ ?_
        rotate_left
        · intro w'
          go_simp
          with_reducible rfl
        rotate_left
        · simp only [Act.put, List.setIfInBounds_toArray, List.set_cons_zero, List.set_cons_succ]
          rfl
        refine two_ (i := 10) (j := 14) (Ni := some 30) (Nj := some 34) #[true, true, true, true, true, true, true, true, true, true, true, true, true, true, false, false, false, false, false, false, false, false, false, false, false, false, false, false, false] #[true, true, true, true, true, true, true, true, true, true, false, true, true, true, true, false, false, false, false, false, false, false, false, false, false, false, false, false, false] rfl rfl rfl rfl (by kernel_rfl) (by decide) (by decide) (fun K hK => ?_) (fun K hK => ?_)
        · refine goes_ Tryd.func52 (by kernel_rfl) rfl #[.pointer (some ⟨t, 0, none⟩)] (by rfl) rfl rfl (by (try simp only [List.map_toArray, List.map_cons, List.map_nil]); first | done | rfl) ?_
          refine (HCl.out).mono ?_
          rintro e w9 ⟨rfl, rfl⟩
          refine ⟨_, rfl, ?_⟩
          refine hK.out _ _ ⟨p0, p1, p2, p3, p4, p5⟩ (fun hHeld => ?_)
          clear hK K
          refine norm_ (a' := ?_) ?_ ?_
          rotate_left
          · show Act.put _ (some 30) _ = _
            simp only [Act.put, List.setIfInBounds_toArray, List.set_cons_zero, List.set_cons_succ]
            rfl
          refine one_ (i := 14) (N := some 34) #[true, true, true, true, true, true, true, true, true, true, true, true, true, true, true, false, false, false, false, false, false, false, false, false, false, false, false, false, false] rfl rfl (by kernel_rfl) (by decide) (fun K hK => ?_)
          refine value_ (v := .slice Al nl capl) (w1 := w2) (by rfl) rfl ?_ ?_
          · go_simp
          refine hK.out _ _ ⟨p0, p1, p2, p3, p4, p5⟩ (fun hHeld => ?_)
          clear hK K
          refine norm_ (a' := ?_) ?_ ?_
          rotate_left
          · show Act.put _ (some 34) _ = _
            simp only [Act.put, List.setIfInBounds_toArray, List.set_cons_zero, List.set_cons_succ]
            rfl
          refine pure_ (i := 15) (N := some 35) (v := ?_) (a' := ?_) #[true, true, true, true, true, true, true, true, true, true, true, true, true, true, true, true, false, false, false, false, false, false, false, false, false, false, false, false, false] rfl rfl (by kernel_rfl) (fun _ _ _ h => h) (Or.inl ⟨by rfl, ?_⟩) ?_ ?_
          rotate_left
          · intro w'
            go_simp
            with_reducible rfl
          rotate_left
          · simp only [Act.put, List.setIfInBounds_toArray, List.set_cons_zero, List.set_cons_succ]
            rfl
          refine pure_ (i := 16) (N := some 36) (v := ?_) (a' := ?_) #[true, true, true, true, true, true, true, true, true, true, true, true, true, true, true, true, true, false, false, false, false, false, false, false, false, false, false, false, false] rfl rfl (by kernel_rfl) (fun _ _ _ h => h) (Or.inl ⟨by rfl, ?_⟩) ?_ ?_
          rotate_left
          · intro w'
            go_simp
            with_reducible rfl
          rotate_left
          · simp only [Act.put, List.setIfInBounds_toArray, List.set_cons_zero, List.set_cons_succ]
            rfl
          refine pure_ (i := 17) (N := some 37) (v := ?_) (a' := ?_) #[true, true, true, true, true, true, true, true, true, true, true, true, true, true, true, true, true, true, false, false, false, false, false, false, false, false, false, false, false] rfl rfl (by kernel_rfl) (fun _ _ _ h => h) (Or.inl ⟨by rfl, ?_⟩) ?_ ?_
          rotate_left
          · intro w'
            go_simp
            with_reducible rfl
          rotate_left
          · simp only [Act.put, List.setIfInBounds_toArray, List.set_cons_zero, List.set_cons_succ]
            rfl
          refine pure_ (i := 18) (N := some 38) (v := ?_) (a' := ?_) #[true, true, true, true, true, true, true, true, true, true, true, true, true, true, true, true, true, true, true, false, false, false, false, false, false, false, false, false, false] rfl rfl (by kernel_rfl) (fun _ _ _ h => h) (Or.inl ⟨by rfl, ?_⟩) ?_ ?_
          rotate_left
          · intro w'
            go_simp
            with_reducible rfl
          rotate_left
          · simp only [Act.put, List.setIfInBounds_toArray, List.set_cons_zero, List.set_cons_succ]
            rfl
          refine pure_ (i := 19) (N := some 39) (v := ?_) (a' := ?_) #[true, true, true, true, true, true, true, true, true, true, true, true, true, true, true, true, true, true, true, true, false, false, false, false, false, false, false, false, false] rfl rfl (by kernel_rfl) (fun _ _ _ h => h) (Or.inl ⟨by rfl, ?_⟩) ?_ ?_
          rotate_left
          · intro w'
            go_simp
            with_reducible rfl
          rotate_left
          · simp only [Act.put, List.setIfInBounds_toArray, List.set_cons_zero, List.set_cons_succ]
            rfl
          refine pure_ (i := 20) (N := some 40) (v := ?_) (a' := ?_) #[true, true, true, true, true, true, true, true, true, true, true, true, true, true, true, true, true, true, true, true, true, false, false, false, false, false, false, false, false] rfl rfl (by kernel_rfl) (fun _ _ _ h => h) (Or.inl ⟨by rfl, ?_⟩) ?_ ?_
          rotate_left
          · intro w'
            go_simp
            with_reducible rfl
          rotate_left
          · simp only [Act.put, List.setIfInBounds_toArray, List.set_cons_zero, List.set_cons_succ]
            rfl
          refine pure_ (i := 21) (N := some 41) (v := ?_) (a' := ?_) #[true, true, true, true, true, true, true, true, true, true, true, true, true, true, true, true, true, true, true, true, true, true, false, false, false, false, false, false, false] rfl rfl (by kernel_rfl) (fun _ _ _ h => h) (Or.inl ⟨by rfl, ?_⟩) ?_ ?_
          rotate_left
          · intro w'
            go_simp
            with_reducible rfl
          rotate_left
          · simp only [Act.put, List.setIfInBounds_toArray, List.set_cons_zero, List.set_cons_succ]
            rfl
          refine pure_ (i := 22) (N := some 42) (v := ?_) (a' := ?_) #[true, true, true, true, true, true, true, true, true, true, true, true, true, true, true, true, true, true, true, true, true, true, true, false, false, false, false, false, false] rfl rfl (by kernel_rfl) (fun _ _ _ h => h) (Or.inl ⟨by rfl, ?_⟩) ?_ ?_
          rotate_left
          · intro w'
            go_simp
            with_reducible rfl
          rotate_left
          · simp only [Act.put, List.setIfInBounds_toArray, List.set_cons_zero, List.set_cons_succ]
            rfl
          refine pure_ (i := 23) (N := some 43) (v := ?_) (a' := ?_) #[true, true, true, true, true, true, true, true, true, true, true, true, true, true, true, true, true, true, true, true, true, true, true, true, false, false, false, false, false] rfl rfl (by kernel_rfl) (fun _ _ _ h => h) (Or.inl ⟨by rfl, ?_⟩) ?_ ?_
          rotate_left
          · intro w'
            go_simp
            with_reducible rfl
          rotate_left
          · simp only [Act.put, List.setIfInBounds_toArray, List.set_cons_zero, List.set_cons_succ]
            rfl
          refine pure_ (i := 24) (N := some 44) (v := ?_) (a' := ?_) #[true, true, true, true, true, true, true, true, true, true, true, true, true, true, true, true, true, true, true, true, true, true, true, true, true, false, false, false, false] rfl rfl (by kernel_rfl) (fun _ _ _ h => h) (Or.inl ⟨by rfl, ?_⟩) ?_ ?_
          rotate_left
          · intro w'
            go_simp
            with_reducible rfl
          rotate_left
          · simp only [Act.put, List.setIfInBounds_toArray, List.set_cons_zero, List.set_cons_succ]
            rfl
          refine take_ (i := 25) (N := some 45) (v := ?_) (a' := ?_) #[true, true, true, true, true, true, true, true, true, true, true, true, true, true, true, true, true, true, true, true, true, true, true, true, true, true, false, false, false] rfl rfl (by kernel_rfl) (fun _ _ _ h => h) (Or.inl ⟨by rfl, ?_⟩) hHeld ?_ ?_
          rotate_left
          · rintro w' ⟨s0, s1, s2, s3, s4, s5⟩
            go_simp
            with_reducible rfl
          rotate_left
          · simp only [Act.put, List.setIfInBounds_toArray, List.set_cons_zero, List.set_cons_succ]
            rfl
          refine one_ (i := 26) (N := some 46) #[true, true, true, true, true, true, true, true, true, true, true, true, true, true, true, true, true, true, true, true, true, true, true, true, true, true, true, false, false] rfl rfl (by kernel_rfl) (by decide) (fun K hK => ?_)
          refine goes_ Tryd.func53 (by kernel_rfl) rfl #[.pointer (some ⟨t, 0, none⟩), .pointer (some ⟨r, 0, none⟩), .int .i64 xk] (by rfl) rfl rfl (by (try simp only [List.map_toArray, List.map_cons, List.map_nil]); first | done | rfl) ?_
          refine (HK2.out.alike xk).mono ?_
          rintro e w3 ⟨rfl, hb⟩
          refine ⟨_, rfl, ?_⟩
          have HK3 := Lib.hid (HK2.out.later hb)
          obtain ⟨u0, u1, u2, u3, u4, u5⟩ := HQ.out w3 HK3.out.bel
          clear hb
          refine hK.out _ _ ⟨u0, u1, u2, u3, u4, u5⟩ (fun hHeld => ?_)
          clear hK K
          refine norm_ (a' := ?_) ?_ ?_
          rotate_left
          · show Act.put _ (some 46) _ = _
            simp only [Act.put, List.setIfInBounds_toArray, List.set_cons_zero, List.set_cons_succ]
            rfl
          refine pure_ (i := 27) (N := some 47) (v := ?_) (a' := ?_) #[true, true, true, true, true, true, true, true, true, true, true, true, true, true, true, true, true, true, true, true, true, true, true, true, true, true, true, true, false] rfl rfl (by kernel_rfl) (fun _ _ _ h => h) (Or.inl ⟨by rfl, ?_⟩) ?_ ?_
          rotate_left
          · intro w'
            go_simp
            with_reducible rfl
          rotate_left
          · simp only [Act.put, List.setIfInBounds_toArray, List.set_cons_zero, List.set_cons_succ]
            rfl
          refine pure_ (i := 28) (N := some 48) (v := ?_) (a' := ?_) #[true, true, true, true, true, true, true, true, true, true, true, true, true, true, true, true, true, true, true, true, true, true, true, true, true, true, true, true, true] rfl rfl (by kernel_rfl) (fun _ _ _ h => h) (Or.inl ⟨by rfl, ?_⟩) ?_ ?_
          rotate_left
          · intro w'
            go_simp
            with_reducible rfl
          rotate_left
          · simp only [Act.put, List.setIfInBounds_toArray, List.set_cons_zero, List.set_cons_succ]
            rfl
          refine done_ (by kernel_rfl) ?_
          go_wp2_with fail
          go_meet
          case rel => exact ⟨rfl, HK3⟩
        · refine value_ (v := .slice Al nl capl) (w1 := w2) (by rfl) rfl ?_ ?_
          · go_simp
          refine hK.out _ _ ⟨p0, p1, p2, p3, p4, p5⟩ (fun hHeld => ?_)
          clear hK K
          refine norm_ (a' := ?_) ?_ ?_
          rotate_left
          · show Act.put _ (some 34) _ = _
            simp only [Act.put, List.setIfInBounds_toArray, List.set_cons_zero, List.set_cons_succ]
            rfl
          refine pure_ (i := 15) (N := some 35) (v := ?_) (a' := ?_) #[true, true, true, true, true, true, true, true, true, true, false, true, true, true, true, true, false, false, false, false, false, false, false, false, false, false, false, false, false] rfl rfl (by kernel_rfl) (fun _ _ _ h => h) (Or.inl ⟨by rfl, ?_⟩) ?_ ?_
          rotate_left
          · intro w'
            go_simp
            with_reducible rfl
          rotate_left
          · simp only [Act.put, List.setIfInBounds_toArray, List.set_cons_zero, List.set_cons_succ]
            rfl
          refine one_ (i := 10) (N := some 30) #[true, true, true, true, true, true, true, true, true, true, true, true, true, true, true, true, false, false, false, false, false, false, false, false, false, false, false, false, false] rfl rfl (by kernel_rfl) (by decide) (fun K hK => ?_)
          refine goes_ Tryd.func52 (by kernel_rfl) rfl #[.pointer (some ⟨t, 0, none⟩)] (by rfl) rfl rfl (by (try simp only [List.map_toArray, List.map_cons, List.map_nil]); first | done | rfl) ?_
          refine (HCl.out).mono ?_
          rintro e w9 ⟨rfl, rfl⟩
          refine ⟨_, rfl, ?_⟩
          refine hK.out _ _ ⟨p0, p1, p2, p3, p4, p5⟩ (fun hHeld => ?_)
          clear hK K
          refine norm_ (a' := ?_) ?_ ?_
          rotate_left
          · show Act.put _ (some 30) _ = _
            simp only [Act.put, List.setIfInBounds_toArray, List.set_cons_zero, List.set_cons_succ]
            rfl
          refine pure_ (i := 16) (N := some 36) (v := ?_) (a' := ?_) #[true, true, true, true, true, true, true, true, true, true, true, true, true, true, true, true, true, false, false, false, false, false, false, false, false, false, false, false, false] rfl rfl (by kernel_rfl) (fun _ _ _ h => h) (Or.inl ⟨by rfl, ?_⟩) ?_ ?_
          rotate_left
          · intro w'
            go_simp
            with_reducible rfl
          rotate_left
          · simp only [Act.put, List.setIfInBounds_toArray, List.set_cons_zero, List.set_cons_succ]
            rfl
          refine pure_ (i := 17) (N := some 37) (v := ?_) (a' := ?_) #[true, true, true, true, true, true, true, true, true, true, true, true, true, true, true, true, true, true, false, false, false, false, false, false, false, false, false, false, false] rfl rfl (by kernel_rfl) (fun _ _ _ h => h) (Or.inl ⟨by rfl, ?_⟩) ?_ ?_
          rotate_left
          · intro w'
            go_simp
            with_reducible rfl
          rotate_left
          · simp only [Act.put, List.setIfInBounds_toArray, List.set_cons_zero, List.set_cons_succ]
            rfl
          refine pure_ (i := 18) (N := some 38) (v := ?_) (a' := ?_) #[true, true, true, true, true, true, true, true, true, true, true, true, true, true, true, true, true, true, true, false, false, false, false, false, false, false, false, false, false] rfl rfl (by kernel_rfl) (fun _ _ _ h => h) (Or.inl ⟨by rfl, ?_⟩) ?_ ?_
          rotate_left
          · intro w'
            go_simp
            with_reducible rfl
          rotate_left
          · simp only [Act.put, List.setIfInBounds_toArray, List.set_cons_zero, List.set_cons_succ]
            rfl
          refine pure_ (i := 19) (N := some 39) (v := ?_) (a' := ?_) #[true, true, true, true, true, true, true, true, true, true, true, true, true, true, true, true, true, true, true, true, false, false, false, false, false, false, false, false, false] rfl rfl (by kernel_rfl) (fun _ _ _ h => h) (Or.inl ⟨by rfl, ?_⟩) ?_ ?_
          rotate_left
          · intro w'
            go_simp
            with_reducible rfl
          rotate_left
          · simp only [Act.put, List.setIfInBounds_toArray, List.set_cons_zero, List.set_cons_succ]
            rfl
          refine pure_ (i := 20) (N := some 40) (v := ?_) (a' := ?_) #[true, true, true, true, true, true, true, true, true, true, true, true, true, true, true, true, true, true, true, true, true, false, false, false, false, false, false, false, false] rfl rfl (by kernel_rfl) (fun _ _ _ h => h) (Or.inl ⟨by rfl, ?_⟩) ?_ ?_
          rotate_left
          · intro w'
            go_simp
            with_reducible rfl
          rotate_left
          · simp only [Act.put, List.setIfInBounds_toArray, List.set_cons_zero, List.set_cons_succ]
            rfl
          refine pure_ (i := 21) (N := some 41) (v := ?_) (a' := ?_) #[true, true, true, true, true, true, true, true, true, true, true, true, true, true, true, true, true, true, true, true, true, true, false, false, false, false, false, false, false] rfl rfl (by kernel_rfl) (fun _ _ _ h => h) (Or.inl ⟨by rfl, ?_⟩) ?_ ?_
          rotate_left
          · intro w'
            go_simp
            with_reducible rfl
          rotate_left
          · simp only [Act.put, List.setIfInBounds_toArray, List.set_cons_zero, List.set_cons_succ]
            rfl
          refine pure_ (i := 22) (N := some 42) (v := ?_) (a' := ?_) #[true, true, true, true, true, true, true, true, true, true, true, true, true, true, true, true, true, true, true, true, true, true, true, false, false, false, false, false, false] rfl rfl (by kernel_rfl) (fun _ _ _ h => h) (Or.inl ⟨by rfl, ?_⟩) ?_ ?_
          rotate_left
          · intro w'
            go_simp
            with_reducible rfl
          rotate_left
          · simp only [Act.put, List.setIfInBounds_toArray, List.set_cons_zero, List.set_cons_succ]
            rfl
          refine pure_ (i := 23) (N := some 43) (v := ?_) (a' := ?_) #[true, true, true, true, true, true, true, true, true, true, true, true, true, true, true, true, true, true, true, true, true, true, true, true, false, false, false, false, false] rfl rfl (by kernel_rfl) (fun _ _ _ h => h) (Or.inl ⟨by rfl, ?_⟩) ?_ ?_
          rotate_left
          · intro w'
            go_simp
            with_reducible rfl
          rotate_left
          · simp only [Act.put, List.setIfInBounds_toArray, List.set_cons_zero, List.set_cons_succ]
            rfl
          refine pure_ (i := 24) (N := some 44) (v := ?_) (a' := ?_) #[true, true, true, true, true, true, true, true, true, true, true, true, true, true, true, true, true, true, true, true, true, true, true, true, true, false, false, false, false] rfl rfl (by kernel_rfl) (fun _ _ _ h => h) (Or.inl ⟨by rfl, ?_⟩) ?_ ?_
          rotate_left
          · intro w'
            go_simp
            with_reducible rfl
          rotate_left
          · simp only [Act.put, List.setIfInBounds_toArray, List.set_cons_zero, List.set_cons_succ]
            rfl
          refine take_ (i := 25) (N := some 45) (v := ?_) (a' := ?_) #[true, true, true, true, true, true, true, true, true, true, true, true, true, true, true, true, true, true, true, true, true, true, true, true, true, true, false, false, false] rfl rfl (by kernel_rfl) (fun _ _ _ h => h) (Or.inl ⟨by rfl, ?_⟩) hHeld ?_ ?_
          rotate_left
          · rintro w' ⟨s0, s1, s2, s3, s4, s5⟩
            go_simp
            with_reducible rfl
          rotate_left
          · simp only [Act.put, List.setIfInBounds_toArray, List.set_cons_zero, List.set_cons_succ]
            rfl
          refine one_ (i := 26) (N := some 46) #[true, true, true, true, true, true, true, true, true, true, true, true, true, true, true, true, true, true, true, true, true, true, true, true, true, true, true, false, false] rfl rfl (by kernel_rfl) (by decide) (fun K hK => ?_)
          refine goes_ Tryd.func53 (by kernel_rfl) rfl #[.pointer (some ⟨t, 0, none⟩), .pointer (some ⟨r, 0, none⟩), .int .i64 xk] (by rfl) rfl rfl (by (try simp only [List.map_toArray, List.map_cons, List.map_nil]); first | done | rfl) ?_
          refine (HK2.out.alike xk).mono ?_
          rintro e w3 ⟨rfl, hb⟩
          refine ⟨_, rfl, ?_⟩
          have HK3 := Lib.hid (HK2.out.later hb)
          obtain ⟨u0, u1, u2, u3, u4, u5⟩ := HQ.out w3 HK3.out.bel
          clear hb
          refine hK.out _ _ ⟨u0, u1, u2, u3, u4, u5⟩ (fun hHeld => ?_)
          clear hK K
          refine norm_ (a' := ?_) ?_ ?_
          rotate_left
          · show Act.put _ (some 46) _ = _
            simp only [Act.put, List.setIfInBounds_toArray, List.set_cons_zero, List.set_cons_succ]
            rfl
          refine pure_ (i := 27) (N := some 47) (v := ?_) (a' := ?_) #[true, true, true, true, true, true, true, true, true, true, true, true, true, true, true, true, true, true, true, true, true, true, true, true, true, true, true, true, false] rfl rfl (by kernel_rfl) (fun _ _ _ h => h) (Or.inl ⟨by rfl, ?_⟩) ?_ ?_
          rotate_left
          · intro w'
            go_simp
            with_reducible rfl
          rotate_left
          · simp only [Act.put, List.setIfInBounds_toArray, List.set_cons_zero, List.set_cons_succ]
            rfl
          refine pure_ (i := 28) (N := some 48) (v := ?_) (a' := ?_) #[true, true, true, true, true, true, true, true, true, true, true, true, true, true, true, true, true, true, true, true, true, true, true, true, true, true, true, true, true] rfl rfl (by kernel_rfl) (fun _ _ _ h => h) (Or.inl ⟨by rfl, ?_⟩) ?_ ?_
          rotate_left
          · intro w'
            go_simp
            with_reducible rfl
          rotate_left
          · simp only [Act.put, List.setIfInBounds_toArray, List.set_cons_zero, List.set_cons_succ]
            rfl
          refine done_ (by kernel_rfl) ?_
          go_wp2_with fail
          go_meet
          case rel => exact ⟨rfl, HK3⟩
      case rest =>
        clear HOne HQ q0 q1 q2 q3 q4 q5 HK
        obtain ⟨rfl, HK3⟩ := hcut
        go_wp2
        go_loopw [6] (fun i wx => ∃ j : Nat, j ≤ 8 ∧ i = .int .i64 j ∧ Hid (TwoE w t r wx)) (fun i _ => 8 - (intOf i).toNat)
        case atStart => exact ⟨0, by omega, rfl, HK3⟩
        case round =>
          clear HK3
          obtain ⟨j, hj, rfl, HK4⟩ := hrel
          by_cases hj8 : j < 8
          · have hal := Lib.hid (HK4.out.alike (j : Int))
            go_wp2_with (go_at_call 53; refine hal.out.mono ?_; rintro e w5 ⟨rfl, hb⟩; have HK5 := Lib.hid (HK4.out.later hb); clear hb)
            go_roundw
            case rel => exact ⟨j + 1, by omega, by go_num, HK5⟩
            case measure => simp [intOf]; omega
          · obtain rfl : j = 8 := by omega
            go_wp2
            go_roundw
            case rel => exact ⟨k + 1, by omega, by go_num, HK4⟩
            case measure => simp [intOf]; omega
    · obtain rfl : k = n := by omega
      have d1 : decide (k < k) = false := decide_eq_false (by omega)
      go_wp2_with (go_at_call 13; refine (works_calls _).mono ?_; rintro e w2 ⟨rfl, hb⟩)
      go_ret
      exact ⟨rfl, Below.trans HK.out.bel (hb.mono HK.out.bel.size)⟩
theorem plays_walk (v : Value) (n : Nat) (f : Nat → Act) (w : World) (ha : Acts w v n f) : Calls Tryd.prog 10 #[v] w fun e w' => e = .returned (.bool true) ∧ Below w.heap.size w w' := by
  cases hF : fewB n f with
  | false => exact plays_no v n f w ha hF
  | true =>
    rcases ha with ⟨rfl, A, c, rfl⟩ | ⟨b, o, c, rfl, hc, hm, hat⟩
    · exact plays_empty A c f w
    · exact plays_some b o n c f w hc hm hat hF
end Go.Proofs.YthafpbidfgmacaaDoor.Hd

