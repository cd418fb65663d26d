/- What the program reads of a path's text is what the document says. -/
import Derived.Test.YtddepmeikglhgaaDoorN1p
namespace Go.Proofs.YtddepmeikglhgaaDoor.Q
open Go.RowKit Go.Proofs.YtddepmeikglhgaaDoorW.PrintWords Go.Proofs.YtddepmeikglhgaaDoorW.PrintLast Go.Proofs.YtddepmeikglhgaaDoorW.PrintMore
set_option linter.unusedVariables false

def snapB (a : ByteArray) : ByteArray × Int :=
  if a.toList = [] then (⟨#[]⟩, 0)
  else if a.data.toList.getLast? = some 58 then (if (mkB a.data.toList.dropLast).toList.elem 58 = true then (⟨#[]⟩, 4) else (mkB a.data.toList.dropLast, checkP (mkB a.data.toList.dropLast)))
  else (⟨#[]⟩, 4)
theorem last_of (a : ByteArray) (h : ¬ a.toList = []) : ∃ q c, a.data.toList = q ++ [c] ∧ a.size = q.length + 1 ∧ a.extract 0 q.length = mkB q ∧ (a.extract q.length a.size).toList = [c] ∧ bt a (q.length : Int) = (c.toNat : Int) := by
  rw [tl] at h
  rcases List.eq_nil_or_concat a.data.toList with h0 | ⟨q, c, h0⟩
  · exact absurd h0 h
  · rw [List.concat_eq_append] at h0
    have hz : a.size = q.length + 1 := by rw [← size_len, h0]; simp
    refine ⟨q, c, h0, hz, ?_, ?_, ?_⟩
    · apply WideShapes.bytes_inj
      rw [mkB_data, ext_data, h0]
      simp
    · rw [tl, ext_data, List.take_of_length_le (by rw [size_len]; omega), h0]
      simp
    · exact bt_nat a q.length c (by rw [h0]; simp)
theorem colon_is (s : ByteArray) : strings_Contains.f s (⟨#[58]⟩ : ByteArray) = some (s.toList.elem 58) := by rw [tl]; rfl
theorem snap_is (a : ByteArray) (hs : a.size ≤ 1000000) (k : Nat) (hk : 1 ≤ k) : path_snapshot.f k a = some (snapB a) := by
  unfold path_snapshot.f snapB
  by_cases h : a.toList = []
  · rw [if_pos h, if_pos h]
  · rw [if_neg h, if_neg h]
    obtain ⟨q, c, h0, hz, h1, h2, h3⟩ := last_of a h
    have hw : wrap64 ((a.size : Int) - ((⟨#[58]⟩ : ByteArray).size : Int)) = (q.length : Int) := by
      rw [show (((⟨#[58]⟩ : ByteArray).size : Nat) : Int) = 1 from rfl, wrap_small (by omega) (by omega)]
      omega
    have hc : stringslite_CutSuffix.f a ⟨#[58]⟩ = some (if c = 58 then (mkB q, true) else (a, false)) := by
      unfold stringslite_CutSuffix.f stringslite_HasSuffix.f
      rw [hw, if_pos (by rw [hz, show (⟨#[58]⟩ : ByteArray).size = 1 from rfl]; omega), if_pos (by omega), if_pos (by omega), Int.toNat_natCast, h1, h2]
      simp only [Option.bind_some]
      rw [if_pos (show (0 : Int) ≤ (q.length : Int) by omega), if_pos (show (q.length : Int) ≤ (a.size : Int) by omega), show (⟨#[58]⟩ : ByteArray).toList = [58] from by rw [tl]]
      by_cases hc : c = 58
      · rw [if_pos hc, if_pos (by rw [hc]; rfl)]
      · rw [if_neg hc, if_neg (by simp [hc])]
    unfold strings_CutSuffix.f
    rw [hc, h0]
    simp only [Option.bind_some, List.getLast?_append, List.getLast?_singleton, Option.some_or, Option.some.injEq, List.dropLast_concat]
    by_cases hc : c = 58
    · rw [if_pos hc, if_pos hc]
      simp only [if_true, colon_is, Option.bind_some, check_is _ k hk]
      split <;> rfl
    · rw [if_neg hc, if_neg hc]
      rfl
/-- Names, one by one, as many as n gone through. -/
def goP : Nat → List ByteArray → Int
  | _, [] => 0
  | n, x :: t => if checkP x = 0 then (if n = 6 then 3 else goP (n + 1) t) else checkP x
def outP (sn : ByteArray) (names : List ByteArray) (e : Int) : ByteArray × List ByteArray × Int := if e = 0 then (sn, names, 0) else (⟨#[]⟩, [], e)
theorem out_ne (sn : ByteArray) (names : List ByteArray) (e : Int) (h : ¬ e = 0) : outP sn names e = (⟨#[]⟩, [], e) := if_neg h
theorem parse_loop (sn : ByteArray) (names : List ByteArray) (hl : names.length ≤ 100000) : ∀ (d k i : Nat), i ≤ names.length → i ≤ 6 → names.length - i = d → d + 1 < k →
    path_Parse.l0 k sn (names.take i) 0 names (names.length : Int) (i : Int) = some (outP sn names (goP i (names.drop i))) := by
  intro d
  induction d with
  | zero =>
    intro k i h1 h6 hd hk
    obtain ⟨k, rfl⟩ : ∃ m, k = m + 1 := ⟨k - 1, by omega⟩
    simp only [path_Parse.l0]
    rw [if_neg (by omega), List.drop_of_length_le (by omega), List.take_of_length_le (by omega)]
    rfl
  | succ d ih =>
    intro k i h1 h6 hd hk
    obtain ⟨k, rfl⟩ : ∃ m, k = m + 1 := ⟨k - 1, by omega⟩
    have hlt : i < names.length := by omega
    have hdr : names.drop i = names[i] :: names.drop (i + 1) := List.drop_eq_getElem_cons hlt
    have htk : names.take i ++ [names[i]] = names.take (i + 1) := by rw [List.take_add_one, List.getElem?_eq_getElem hlt]; rfl
    have hlen : (names.take i).length = i := by rw [List.length_take]; omega
    rw [path_Parse.l0, if_pos (by omega), if_pos (by omega), if_pos (by omega), rd_nat names i names[i] (List.getElem?_eq_getElem hlt), check_is _ k (by omega), htk, hlen, hdr]
    simp only [Option.bind_some, goP]
    by_cases hc : checkP names[i] = 0
    · rw [if_pos hc, if_pos hc]
      by_cases h : i = 6
      · rw [if_pos (by omega), if_neg (by decide), if_pos h]
        rfl
      · rw [if_neg (by omega), if_pos (by omega), if_neg h, hc, wrap_small (by omega) (by omega)]
        have := ih k (i + 1) (by omega) (by omega) (by omega) (by omega)
        rw [show ((i + 1 : Nat) : Int) = (i : Int) + 1 from by omega] at this
        exact this
    · rw [if_neg hc, if_neg hc, out_ne _ _ _ hc]
theorem rparse_loop (sn a : ByteArray) (names : List ByteArray) (hl : names.length ≤ 100000) (hx : ∀ x ∈ names, x.size ≤ 200) : ∀ (d k i : Nat), i ≤ names.length → i ≤ 6 → names.length - i = d → d + 300 < k →
    rillbedref05_Parse.l0 k (a :: names) sn ((i + 1 : Nat) : Int) = some (outP sn names (goP i (names.drop i))) := by
  intro d
  induction d with
  | zero =>
    intro k i h1 h6 hd hk
    obtain ⟨k, rfl⟩ : ∃ m, k = m + 1 := ⟨k - 1, by omega⟩
    simp only [rillbedref05_Parse.l0, List.length_cons]
    rw [if_neg (by omega), if_pos (by omega), List.drop_of_length_le (l := names) (i := i) (by omega)]
    rfl
  | succ d ih =>
    intro k i h1 h6 hd hk
    obtain ⟨k, rfl⟩ : ∃ m, k = m + 1 := ⟨k - 1, by omega⟩
    have hlt : i < names.length := by omega
    have hdr : names.drop i = names[i] :: names.drop (i + 1) := List.drop_eq_getElem_cons hlt
    have hsz := hx names[i] (List.getElem_mem hlt)
    rw [rillbedref05_Parse.l0, if_pos (by rw [List.length_cons]; omega), if_pos (by omega), rd_nat (a :: names) (i + 1) names[i] (by simp [List.getElem?_eq_getElem hlt]), rcheck_is _ (by omega) k (by omega), hdr]
    simp only [Option.bind_some, goP]
    by_cases hc : checkP names[i] = 0
    · rw [if_pos hc, if_pos hc]
      by_cases h : i = 6
      · rw [if_pos (by omega), if_pos h]
        rfl
      · rw [if_neg (by omega), if_neg h, wrap_small (by omega) (by omega)]
        have := ih k (i + 1) (by omega) (by omega) (by omega) (by omega)
        rw [show ((i + 1 + 1 : Nat) : Int) = ((i + 1 : Nat) : Int) + 1 from by omega] at this
        exact this
    · rw [if_neg hc, if_neg hc, out_ne _ _ _ hc]
/-- What a text means, or why it is no path. -/
def parseP (p : ByteArray) : ByteArray × List ByteArray × Int :=
  if 120 < p.size then (⟨#[]⟩, [], 3) else
  match spl p.data.toList with
  | [] => (⟨#[]⟩, [], 4)
  | [_] => (⟨#[]⟩, [], 4)
  | a :: b :: r =>
    if (snapB (mkB a)).2 = 0 then (if b :: r = [[]] then ((snapB (mkB a)).1, [], 0) else outP (snapB (mkB a)).1 ((b :: r).map mkB) (goP 0 ((b :: r).map mkB)))
    else (⟨#[]⟩, [], (snapB (mkB a)).2)
theorem spl_sizes : ∀ l : List UInt8, (∀ x ∈ spl l, x.length ≤ l.length) ∧ (spl l).length ≤ l.length + 1 := by
  intro l
  induction l with
  | nil => simp [spl]
  | cons c t ih =>
    by_cases hc : c = 47
    · rw [hc, spl, if_pos rfl]
      refine ⟨fun x hx => ?_, by simp; omega⟩
      rcases List.mem_cons.1 hx with rfl | hx
      · simp
      · have := ih.1 x hx
        rw [List.length_cons]; omega
    · rw [spl_cons c t hc]
      obtain ⟨h, r, hr⟩ := List.exists_cons_of_ne_nil (spl_ne t)
      rw [hr] at ih ⊢
      refine ⟨fun x hx => ?_, ?_⟩
      · rcases List.mem_cons.1 hx with rfl | hx
        · have := ih.1 h List.mem_cons_self
          simp; omega
        · have := ih.1 x (List.mem_cons_of_mem _ hx)
          rw [List.length_cons]; omega
      · have := ih.2
        simp [conH] at this ⊢
        omega
theorem cut_no (s : ByteArray) (h1 : Lib.indexByte s.data.toList 47 = -1) (hs : s.size ≤ 1000000) : strings_Cut.f s ⟨#[47]⟩ = some (mkB s.data.toList, mkB [], false) := by
  unfold strings_Cut.f cutF Lib.cut
  rw [if_pos ⟨rfl, by omega⟩]
  simp only [Lib.index_one, h1]
  rfl
theorem cut_yes (s : ByteArray) (i : Nat) (h1 : Lib.indexByte s.data.toList 47 = i) (hs : s.size ≤ 1000000) : strings_Cut.f s ⟨#[47]⟩ = some (mkB (s.data.toList.take i), mkB (s.data.toList.drop (i + 1)), true) := by
  unfold strings_Cut.f cutF Lib.cut
  rw [if_pos ⟨rfl, by omega⟩]
  simp only [Lib.index_one, h1]
  rw [if_pos (by omega), Int.toNat_natCast]
  rfl
theorem parse_is (p : ByteArray) (hs : p.size ≤ 100000) (k : Nat) (hk : 1000 ≤ k) : path_Parse.f k p = some (parseP p) := by
  unfold path_Parse.f parseP
  by_cases h : 120 < p.size
  · rw [if_pos (by omega), if_pos h]
  rw [if_neg (by omega), if_neg h]
  rcases split_at p.data.toList with ⟨hi, he⟩ | ⟨i, hi, he, hsp⟩
  · rw [cut_no p hi (by omega), spl_none _ he]
    rfl
  · have hz : (p.data.toList.drop (i + 1)).length ≤ 120 := by rw [List.length_drop, size_len]; omega
    have hz2 : (p.data.toList.take i).length ≤ 120 := by rw [List.length_take, size_len]; omega
    rw [cut_yes p i hi (by omega)]
    have e : spl p.data.toList = p.data.toList.take i :: spl (p.data.toList.drop (i + 1)) := by
      conv => lhs; rw [hsp, spl_slash _ _ he]
    rw [e]
    generalize p.data.toList.drop (i + 1) = t at hz ⊢
    generalize p.data.toList.take i = a at hz2 ⊢
    simp only [Option.bind_some, if_true]
    rw [snap_is (mkB a) (by rw [← size_len, mkB_data]; omega) k (by omega)]
    simp only [Option.bind_some]
    obtain ⟨b, r, hbr⟩ := List.exists_cons_of_ne_nil (spl_ne t)
    rw [hbr]
    by_cases h4 : (snapB (mkB a)).2 = 0
    · rw [if_pos h4]
      simp only [if_pos h4]
      by_cases ht : t = []
      · have hb : b :: r = [[]] := by rw [← hbr, ht]; rfl
        rw [if_pos (by rw [tl, mkB_data]; exact ht), if_pos hb]
      · have hb : ¬ b :: r = [[]] := by
          rw [← hbr]
          intro hh
          apply ht
          cases t with
          | nil => rfl
          | cons c u =>
            exfalso
            by_cases hc : c = 47
            · rw [hc, spl, if_pos rfl] at hh
              exact spl_ne u (List.cons.inj hh).2
            · rw [spl_cons c u hc] at hh
              obtain ⟨x, y, hxy⟩ := List.exists_cons_of_ne_nil (spl_ne u)
              rw [hxy] at hh
              simp [conH] at hh
        rw [if_neg (by rw [tl, mkB_data]; exact ht), if_neg hb]
        have hsl := (spl_sizes t).2
        have hsp2 : strings_Split.f (mkB t) ⟨#[47]⟩ = some ((b :: r).map mkB) := by
          show splitF _ _ = _
          unfold splitF
          rw [if_pos ⟨rfl, by rw [← size_len, mkB_data]; omega⟩, splitB_is _ _ (Nat.le_refl _), mkB_data, hbr]
        rw [hbr] at hsl
        rw [hsp2]
        simp only [Option.bind_some]
        have := parse_loop (snapB (mkB a)).1 ((b :: r).map mkB) (by rw [List.length_map]; omega) _ k 0 (by omega) (by omega) rfl (by rw [List.length_map]; omega)
        rw [List.take_zero, List.drop_zero] at this
        rw [h4]
        exact this
    · rw [if_neg h4]
      simp only [if_neg h4]
theorem rparse_is (p : ByteArray) (hs : p.size ≤ 100000) (k : Nat) (hk : 200000 ≤ k) : rillbedref05_Parse.f k p = some (parseP p) := by
  obtain ⟨k, rfl⟩ : ∃ m, k = m + 5 := ⟨k - 5, by omega⟩
  unfold rillbedref05_Parse.f parseP
  by_cases h : 120 < p.size
  · rw [if_pos (by omega), if_pos h]
  rw [if_neg (by omega), if_neg h, rsplit_is p hs _ (by omega)]
  simp only [Option.bind_some, List.length_map]
  obtain ⟨hs1, hs2⟩ := spl_sizes p.data.toList
  rw [size_len] at hs1 hs2
  obtain ⟨a, w, haw⟩ := List.exists_cons_of_ne_nil (spl_ne p.data.toList)
  rw [haw] at hs1 hs2 ⊢
  cases w with
  | nil =>
    rw [if_pos (by simp)]
  | cons b r =>
    have ha := hs1 a List.mem_cons_self
    have hnx : ∀ x ∈ (b :: r).map mkB, x.size ≤ 200 := by
      intro x hx
      obtain ⟨y, hy, rfl⟩ := List.mem_map.1 hx
      have := hs1 y (List.mem_cons_of_mem _ hy)
      rw [← size_len, mkB_data]; omega
    rw [List.length_cons] at hs2
    have hnl : ((b :: r).map mkB).length ≤ 100000 := by rw [List.length_map]; omega
    have hnl2 : ((b :: r).map mkB).length ≤ 121 := by rw [List.length_map]; omega
    rw [if_neg (by simp; omega), if_pos (by simp; omega), List.map_cons]
    have h0 : rdOf ByteArray.empty (mkB a :: (b :: r).map mkB) 0 = mkB a := rfl
    rw [h0]
    have haz : (mkB a).size ≤ 120 := by rw [← size_len, mkB_data]; omega
    -- what comes behind the snapshot
    have htail : ∀ (sn : ByteArray) (k : Nat), 1000 ≤ k → rillbedref05_Parse.j1 k (mkB a :: (b :: r).map mkB) sn = some (if b :: r = [[]] then (sn, [], 0) else outP sn ((b :: r).map mkB) (goP 0 ((b :: r).map mkB))) := by
      intro sn k hk
      obtain ⟨k, rfl⟩ : ∃ m, k = m + 2 := ⟨k - 2, by omega⟩
      have hl := rparse_loop sn (mkB a) ((b :: r).map mkB) hnl hnx _ k 0 (by omega) (by omega) rfl (by omega)
      rw [List.drop_zero] at hl
      simp only [rillbedref05_Parse.j1, rillbedref05_Parse.j2]
      cases r with
      | nil =>
        rw [if_pos (by simp), if_pos (by simp)]
        have h1 : rdOf ByteArray.empty (mkB a :: [b].map mkB) 1 = mkB b := rfl
        rw [h1]
        by_cases hb : b = []
        · rw [if_pos (by rw [tl, mkB_data, hb]; rfl), if_pos (by rw [hb])]
        · rw [if_neg (by rw [tl, mkB_data]; simp [hb]), if_neg (by simp [hb])]
          exact hl
      | cons c u =>
        rw [if_neg (by simp; omega), if_neg (by decide), if_neg (by simp)]
        exact hl
    unfold snapB
    by_cases hae : (mkB a).toList = []
    · rw [if_pos hae, htail _ _ (by omega)]
      simp only [if_pos hae]
      rfl
    · rw [if_neg hae]
      simp only [if_neg hae]
      obtain ⟨q, c, h0, hz, h1, h2, h3⟩ := last_of (mkB a) hae
      have hw : wrap64 (((mkB a).size : Int) - 1) = (q.length : Int) := by
        rw [wrap_small (by omega) (by omega)]
        omega
      rw [hw, if_pos (by omega), if_pos (by omega), if_pos (by omega), h3, Int.toNat_natCast, h1, h0]
      simp only [List.getLast?_append, List.getLast?_singleton, Option.some_or, Option.some.injEq, List.dropLast_concat]
      have hqz : (mkB q).size ≤ 120 := by rw [← size_len, mkB_data]; omega
      by_cases hc : c = 58
      · rw [if_pos (by rw [hc]; rfl), has_is (mkB q) 58 58 rfl (by omega) _ (by omega)]
        simp only [Option.bind_some, if_pos hc]
        rw [rillbedref05_Parse.j0]
        by_cases he : (mkB q).toList.elem 58 = true
        · rw [if_pos he]
          simp only [if_pos he]
          rfl
        · rw [if_neg he]
          simp only [if_neg he]
          rw [rcheck_is _ (by omega) _ (by omega)]
          simp only [Option.bind_some]
          by_cases hk0 : checkP (mkB q) = 0
          · rw [if_pos hk0, if_pos hk0, htail _ _ (by omega)]
          · rw [if_neg hk0, if_neg hk0]
      · rw [if_neg (by rw [show (58 : Int) = ((58 : UInt8).toNat : Int) from rfl, u8_eq]; exact hc)]
        simp only [if_neg hc]
        rw [rillbedref05_Parse.j0]
        rfl
end Go.Proofs.YtddepmeikglhgaaDoor.Q
