/- KeyMakes' plain statement. -/
import Derived.Test.YthafpbidfgmacaaDoorN3k
namespace Go.Proofs.YthafpbidfgmacaaDoor.Q
open Go.RowKit Go.Proofs.YthafpbidfgmacaaDoorW.PrintWords Go.Proofs.YthafpbidfgmacaaDoorW.PrintLast Go.Proofs.YthafpbidfgmacaaDoorW.PrintMore
set_option linter.unusedVariables false

theorem is_true (a b c d : ByteArray) (h1 : a.toList = c.toList) (h2 : b.toList = d.toList) : rillbedlaw06_is.f a b c d = some true := by
  unfold rillbedlaw06_is.f
  rw [h1, h2, beq_self_eq_true, beq_self_eq_true]
  rfl
/-- All answers at once, of a path that has a name. -/
theorem makes_some (l : List ByteArray) (hl : l.length ≤ 20) (hx : ∀ x ∈ l, x.size ≤ 200) (hn : ¬ (l.length : Int) = 0) (i : Int) (k : Nat) (hk : 3000 ≤ k) :
    ∃ s1 s2 s3 s4 m b p e1 e2 g1 g2 f1 f2 h1 h2, key_Subtree.f k l = some (s1, s2, s3, s4) ∧ rillbedref06_Subtree.f k l = some (s1, s2, s3, s4) ∧ key_Meta.f k l = some m ∧ rillbedref06_Meta.f k l = some m ∧
      key_Block.f k l i = some b ∧ rillbedref06_Block.f k l i = some b ∧ key_Past.f k l = some p ∧ rillbedref06_Past.f k l = some p ∧
      key_Below.f k l = some (e1, e2) ∧ rillbedref06_Below.f k l = some (e1, e2) ∧
      key_Blocks.f k l = some (g1, g2) ∧ rillbedref06_Blocks.f k l = some (h1, h2) ∧ g1.toList = h1.toList ∧ g2.toList = h2.toList ∧ f1 = e1 ∧ f2 = e2 := by
  obtain ⟨hj, hjs⟩ := joint_ref l hl hx k (by omega)
  have hkj := joint_is l (by omega) (by omega)
  have hsub := subtree_is l (by omega) (by omega) k (by omega) hn
  have hmeta := meta_is l (by omega) (by omega) k (by omega) hn
  have hrr := right_ref l k (by omega)
  have hkr := key_right_is l (by omega) k (by omega)
  have hJ := Lib.hid hj
  generalize joinB l ⟨#[0]⟩ = J at *
  clear hj
  have hm1 : (⟨#[109]⟩ ++ J : ByteArray).size = 1 + J.size := by rw [ByteArray.size_append, szl1]
  have hd1 : (⟨#[100]⟩ ++ J : ByteArray).size = 1 + J.size := by rw [ByteArray.size_append, szl1]
  by_cases hr : rightB l = true
  · have s1 : key_Subtree.f k l = some (⟨#[109]⟩ ++ J, (⟨#[109]⟩ ++ J) ++ ⟨#[1]⟩, ⟨#[100]⟩ ++ J, (⟨#[100]⟩ ++ J) ++ ⟨#[1]⟩) := by rw [hsub, if_pos hr]
    have m1 : key_Meta.f k l = some (⟨#[109]⟩ ++ J) := by rw [hmeta, if_pos hr]
    have s2 : rillbedref06_Subtree.f k l = some (⟨#[109]⟩ ++ J, (⟨#[109]⟩ ++ J) ++ ⟨#[1]⟩, ⟨#[100]⟩ ++ J, (⟨#[100]⟩ ++ J) ++ ⟨#[1]⟩) := by
      unfold rillbedref06_Subtree.f
      rw [hrr]
      simp only [Option.bind_some]
      rw [if_pos hr, if_neg hn, hJ.out]
      simp only [Option.bind_some]
      rw [if_pos (by omega), if_pos (by omega), if_pos (by omega)]
    have m2 : rillbedref06_Meta.f k l = some (⟨#[109]⟩ ++ J) := by
      unfold rillbedref06_Meta.f
      rw [hrr]
      simp only [Option.bind_some]
      rw [if_pos hr, hJ.out]
      simp only [Option.bind_some]
      rw [if_pos (by omega)]
    have w1 : key_whole.f k l = some (⟨#[109]⟩ ++ J, (⟨#[109]⟩ ++ J) ++ ⟨#[1]⟩) := by
      unfold key_whole.f
      rw [s1]
      rfl
    have p1 : key_Past.f k l = some ((⟨#[109]⟩ ++ J) ++ ⟨#[1]⟩) := by
      unfold key_Past.f
      rw [w1]
      rfl
    have p2 : rillbedref06_Past.f k l = some ((⟨#[109]⟩ ++ J) ++ ⟨#[1]⟩) := by
      unfold rillbedref06_Past.f
      rw [hrr]
      simp only [Option.bind_some]
      rw [if_pos hr, if_neg hn, hJ.out]
      simp only [Option.bind_some]
      rw [if_pos (by omega), if_pos (by omega)]
    have e1 : key_Below.f k l = some ((⟨#[109]⟩ ++ J) ++ ⟨#[0]⟩, (⟨#[109]⟩ ++ J) ++ ⟨#[1]⟩) := by
      unfold key_Below.f
      rw [w1]
      simp only [Option.bind_some]
      have hne : ((⟨#[109]⟩ ++ J : ByteArray).toList == ([] : List UInt8)) = false := by
        rw [tl, app_data]
        rfl
      rw [hne, if_pos (by rfl), if_pos (by omega)]
    have e2 : rillbedref06_Below.f k l = some ((⟨#[109]⟩ ++ J) ++ ⟨#[0]⟩, (⟨#[109]⟩ ++ J) ++ ⟨#[1]⟩) := by
      unfold rillbedref06_Below.f
      rw [hrr]
      simp only [Option.bind_some]
      rw [if_pos hr, m2]
      simp only [Option.bind_some]
      rw [if_pos (by omega), p2]
      rfl
    have g1 : key_Blocks.f k l = some (((⟨#[100]⟩ ++ J) ++ ⟨#[0]⟩) ++ ⟨#[0]⟩, ((⟨#[100]⟩ ++ J) ++ ⟨#[0]⟩) ++ ⟨#[1]⟩) := by
      unfold key_Blocks.f
      rw [hkr]
      simp only [Option.bind_some]
      rw [if_pos hr, hkj]
      simp only [Option.bind_some]
      rw [if_pos (by omega), if_pos (by omega), if_pos (by rw [ByteArray.size_append, szl1]; omega)]
    have g2 : rillbedref06_Blocks.f k l = some ((⟨#[100]⟩ ++ J) ++ ⟨#[0, 0]⟩, (⟨#[100]⟩ ++ J) ++ ⟨#[0, 1]⟩) := by
      unfold rillbedref06_Blocks.f
      rw [hrr]
      simp only [Option.bind_some]
      rw [if_pos hr, hJ.out]
      simp only [Option.bind_some]
      rw [if_pos (by omega), if_pos (by omega), if_pos (by omega), if_pos (by omega)]
    obtain ⟨b, b1, b2⟩ : ∃ b, key_Block.f k l i = some b ∧ rillbedref06_Block.f k l i = some b := by
      by_cases hi : i < 0
      · refine ⟨⟨#[]⟩, ?_, ?_⟩
        · unfold key_Block.f
          rw [hkr]
          simp only [Option.bind_some]
          rw [if_pos hr, if_neg hn, if_pos hi]
        · unfold rillbedref06_Block.f
          rw [hrr]
          simp only [Option.bind_some]
          rw [if_pos hr, if_neg hn, if_pos hi]
      · by_cases hi2 : i > 31
        · refine ⟨⟨#[]⟩, ?_, ?_⟩
          · unfold key_Block.f
            rw [hkr]
            simp only [Option.bind_some]
            rw [if_pos hr, if_neg hn, if_neg hi, if_pos (by omega)]
          · unfold rillbedref06_Block.f
            rw [hrr]
            simp only [Option.bind_some]
            rw [if_pos hr, if_neg hn, if_neg hi, if_pos hi2]
        · have ea : i / 256 % 256 = 0 := by omega
          have eb : i % 256 = i := by omega
          have ec : wrap64 (Int.tdiv i 256) % 256 = 0 := by
            rw [Int.tdiv_eq_ediv_of_nonneg (by omega), wrap_small (by omega) (by omega)]
            omega
          have ed : Int.tmod i 256 % 256 = i := by
            rw [Int.tmod_eq_emod_of_nonneg (by omega)]
            omega
          refine ⟨⟨#[100]⟩ ++ J ++ ⟨#[0, 0]⟩ ++ strOfNums [0, i], ?_, ?_⟩
          · unfold key_Block.f
            rw [hkr]
            simp only [Option.bind_some]
            rw [if_pos hr, if_neg hn, if_neg hi, if_neg (by omega), hkj]
            simp only [Option.bind_some]
            rw [if_pos (by omega), if_pos (by omega), ea, eb, if_pos (by rw [ByteArray.size_append, szl2, strOfNums_size]; simp only [List.length_cons, List.length_nil]; omega)]
          · unfold rillbedref06_Block.f
            rw [hrr]
            simp only [Option.bind_some]
            rw [if_pos hr, if_neg hn, if_neg hi, if_neg hi2, hJ.out]
            simp only [Option.bind_some]
            rw [if_pos (by omega), if_pos (by omega), ec, ed, if_pos (by rw [ByteArray.size_append, szl2, strOfNums_size]; simp only [List.length_cons, List.length_nil]; omega)]
    exact ⟨_, _, _, _, _, b, _, _, _, _, _, _, _, _, _, s1, s2, m1, m2, b1, b2, p1, p2, e1, e2, g1, g2, by rw [tl, tl, app_data, app_data, app_data]; simp, by rw [tl, tl, app_data, app_data, app_data]; simp, rfl, rfl⟩
  · have s1 : key_Subtree.f k l = some (⟨#[]⟩, ⟨#[]⟩, ⟨#[]⟩, ⟨#[]⟩) := by rw [hsub, if_neg hr]
    have m1 : key_Meta.f k l = some ⟨#[]⟩ := by rw [hmeta, if_neg hr]
    have w1 : key_whole.f k l = some (⟨#[]⟩, ⟨#[]⟩) := by
      unfold key_whole.f
      rw [s1]
      rfl
    have s2 : rillbedref06_Subtree.f k l = some (⟨#[]⟩, ⟨#[]⟩, ⟨#[]⟩, ⟨#[]⟩) := by
      unfold rillbedref06_Subtree.f
      rw [hrr]
      simp only [Option.bind_some]
      rw [if_neg hr]
    have m2 : rillbedref06_Meta.f k l = some ⟨#[]⟩ := by
      unfold rillbedref06_Meta.f
      rw [hrr]
      simp only [Option.bind_some]
      rw [if_neg hr]
    have p1 : key_Past.f k l = some ⟨#[]⟩ := by
      unfold key_Past.f
      rw [w1]
      rfl
    have p2 : rillbedref06_Past.f k l = some ⟨#[]⟩ := by
      unfold rillbedref06_Past.f
      rw [hrr]
      simp only [Option.bind_some]
      rw [if_neg hr]
    have e1 : key_Below.f k l = some (⟨#[]⟩, ⟨#[]⟩) := by
      unfold key_Below.f
      rw [w1]
      simp only [Option.bind_some]
      have hz : ((⟨#[]⟩ : ByteArray).toList == ([] : List UInt8)) = true := by rw [tl]; rfl
      rw [hz]
      rfl
    have e2 : rillbedref06_Below.f k l = some (⟨#[]⟩, ⟨#[]⟩) := by
      unfold rillbedref06_Below.f
      rw [hrr]
      simp only [Option.bind_some]
      rw [if_neg hr]
    have g1 : key_Blocks.f k l = some (⟨#[]⟩, ⟨#[]⟩) := by
      unfold key_Blocks.f
      rw [hkr]
      simp only [Option.bind_some]
      rw [if_neg hr]
    have g2 : rillbedref06_Blocks.f k l = some (⟨#[]⟩, ⟨#[]⟩) := by
      unfold rillbedref06_Blocks.f
      rw [hrr]
      simp only [Option.bind_some]
      rw [if_neg hr]
    have b1 : key_Block.f k l i = some ⟨#[]⟩ := by
      unfold key_Block.f
      rw [hkr]
      simp only [Option.bind_some]
      rw [if_neg hr]
    have b2 : rillbedref06_Block.f k l i = some ⟨#[]⟩ := by
      unfold rillbedref06_Block.f
      rw [hrr]
      simp only [Option.bind_some]
      rw [if_neg hr]
    exact ⟨_, _, _, _, _, _, _, _, _, _, _, _, _, _, _, s1, s2, m1, m2, b1, b2, p1, p2, e1, e2, g1, g2, rfl, rfl, rfl, rfl⟩
theorem keyMakes_plain (l : List ByteArray) (hs : l.length ≤ 9223372036854775807) (i : Int) : ∃ k, rillbedlaw06_KeyMakes.f k l i = some true := by
  refine ⟨3000, ?_⟩
  unfold rillbedlaw06_KeyMakes.f
  obtain ⟨b, e, hb⟩ := few_is l hs 3000 (by omega)
  rw [e]
  simp only [Option.bind_some]
  cases b with
  | false =>
    rw [if_neg (by decide), works_at _ (by omega)]
    rfl
  | true =>
    obtain ⟨hl, hx⟩ := hb rfl
    rw [if_pos rfl]
    by_cases hn : (l.length : Int) = 0
    · obtain rfl : l = [] := List.length_eq_zero_iff.1 (by omega)
      have u1 : key_Subtree.f 3000 [] = some (⟨#[109]⟩, ⟨#[110]⟩, ⟨#[100]⟩, ⟨#[101]⟩) := at_rounds (g := fun k => key_Subtree.f k []) (fun k => key_Subtree.mono _ k) (k := 10) (by omega) (by decide +kernel)
      have u2 : rillbedref06_Subtree.f 3000 [] = some (⟨#[109]⟩, ⟨#[110]⟩, ⟨#[100]⟩, ⟨#[101]⟩) := at_rounds (g := fun k => rillbedref06_Subtree.f k []) (fun k => rillbedref06_Subtree.mono _ k) (k := 10) (by omega) (by decide +kernel)
      have u3 : rillbedref06_Below.f 3000 [] = some (⟨#[109, 0]⟩, ⟨#[110]⟩) := at_rounds (g := fun k => rillbedref06_Below.f k []) (fun k => rillbedref06_Below.mono _ k) (k := 10) (by omega) (by decide +kernel)
      have u4 : rillbedref06_Blocks.f 3000 [] = some (⟨#[100, 0, 0]⟩, ⟨#[100, 0, 1]⟩) := at_rounds (g := fun k => rillbedref06_Blocks.f k []) (fun k => rillbedref06_Blocks.mono _ k) (k := 10) (by omega) (by decide +kernel)
      have u5 : key_Meta.f 3000 [] = some ⟨#[109]⟩ := at_rounds (g := fun k => key_Meta.f k []) (fun k => key_Meta.mono _ k) (k := 10) (by omega) (by decide +kernel)
      have u6 : rillbedref06_Meta.f 3000 [] = some ⟨#[109]⟩ := at_rounds (g := fun k => rillbedref06_Meta.f k []) (fun k => rillbedref06_Meta.mono _ k) (k := 10) (by omega) (by decide +kernel)
      have u7 : key_Block.f 3000 [] i = some ⟨#[]⟩ := by
        unfold key_Block.f
        rw [key_right_is [] (by simp) 3000 (by simp)]
        rfl
      have u8 : rillbedref06_Block.f 3000 [] i = some ⟨#[]⟩ := by
        unfold rillbedref06_Block.f
        rw [right_ref [] 3000 (by omega)]
        rfl
      have u9 : key_Past.f 3000 [] = some ⟨#[110]⟩ := at_rounds (g := fun k => key_Past.f k []) (fun k => key_Past.mono _ k) (k := 10) (by omega) (by decide +kernel)
      have u10 : rillbedref06_Past.f 3000 [] = some ⟨#[110]⟩ := at_rounds (g := fun k => rillbedref06_Past.f k []) (fun k => rillbedref06_Past.mono _ k) (k := 10) (by omega) (by decide +kernel)
      have u11 : key_Below.f 3000 [] = some (⟨#[109, 0]⟩, ⟨#[110]⟩) := at_rounds (g := fun k => key_Below.f k []) (fun k => key_Below.mono _ k) (k := 10) (by omega) (by decide +kernel)
      have u12 : key_Blocks.f 3000 [] = some (⟨#[100, 0, 0]⟩, ⟨#[100, 0, 1]⟩) := at_rounds (g := fun k => key_Blocks.f k []) (fun k => key_Blocks.mono _ k) (k := 10) (by omega) (by decide +kernel)
      rw [u1, u2, u3, u4, u5, u6, u7, u8, u9, u10, u11, u12]
      simp only [Option.bind_some, if_true, is_true _ _ _ _ rfl rfl, works_at 3000 (by omega)]
    · obtain ⟨s1, s2, s3, s4, m, b, p, e1, e2, g1, g2, f1, f2, h1, h2, x1, x2, x3, x4, x5, x6, x7, x8, x9, x10, x11, x12, y1, y2, _, _⟩ := makes_some l hl hx hn i 3000 (by omega)
      rw [x1, x2, x3, x4, x5, x6, x7, x8, x9, x10, x11, x12]
      simp only [Option.bind_some, if_true, is_true _ _ _ _ rfl rfl, is_true _ _ _ _ y1 y2, works_at 3000 (by omega)]
end Go.Proofs.YthafpbidfgmacaaDoor.Q
