-- Written by xprint.py, a program of this work, round the kit's print.
/- Distances, plainly: what wide.Between, wide.Cmp and the reference's Between answer. -/
import Derived.Test.YtjalbacdcfbmgaaPx0
import Derived.Test.YtjalbacdcfbmgaaPx3
import Derived.Test.YtjalbacdcfbmgaaPx4
import Derived.Test.YtjalbacdcfbmgaaPx6
import Derived.IntWalk
import Derived.Laws.BitsAllLaws
import Derived.Laws.BitsLemmas
import Derived.OpenShut
namespace Go.Proofs.Ytjalbacdcfbmgaa.P
open Go.RowKit Go.Proofs.YtjalbacdcfbmgaaW.PrintWords Go.Proofs.YtjalbacdcfbmgaaW.PrintLast Go.Proofs.YtjalbacdcfbmgaaW.PrintMore
attribute [local go_sem] max2_int min2_int max_two min_two max_three min_three max_four min_four   -- for this text's walks alone
attribute [local go_sem] add64_run carryOk_zero   -- for this text's walks alone
set_option linter.unusedVariables false
set_option linter.unusedSimpArgs false

open Go.Proofs
theorem u64_id (n : Int) (h0 : 0 ≤ n) (h1 : n < 18446744073709551616) : IntKind.u64.wrap n = n := Go.IntWalk.u64_in n ⟨h0, by omega⟩
theorem wrap64_id (n : Int) (h0 : -9223372036854775808 ≤ n) (h1 : n ≤ 9223372036854775807) : wrap64 n = n := by unfold wrap64; omega
theorem and_mask32 (a : Int) (h0 : 0 ≤ a) (h1 : a < 4294967296) : Go.bits .and .u64 a 4294967295 = a := by
  rw [u64_and a 4294967295 h0 (by omega) (by decide) (by decide)]
  have h := Nat.and_two_pow_sub_one_eq_mod a.toNat 32
  have e : (4294967295 : Int).toNat = 2 ^ 32 - 1 := by decide
  rw [e, h]
  omega
theorem sq_bound (g : Int) (h0 : 0 ≤ g) (h1 : g ≤ 4294967295) : 0 ≤ g * g ∧ g * g ≤ 18446744065119617025 := by
  have h2 : g * g ≤ 4294967295 * 4294967295 := Int.mul_le_mul h1 h1 h0 (by decide)
  exact ⟨Int.mul_nonneg h0 h0, by omega⟩
/-- The square of a number below 2^32 has no high part. -/
theorem bits_Mul64_sq (g : Int) (h0 : 0 ≤ g) (h1 : g ≤ 4294967295) : bits_Mul64.f g g = some (0, g * g) := by
  obtain ⟨s0, s1⟩ := sq_bound g h0 h1
  generalize hs : g * g = s at s0 s1
  have d0 : g / 4294967296 = 0 := by omega
  have a0 : Go.bits .and .u64 g 4294967295 = g := and_mask32 g h0 (by omega)
  have w1 : IntKind.u64.wrap s = s := u64_id s s0 (by omega)
  have z0 : IntKind.u64.wrap 0 = 0 := u64_id 0 (by omega) (by omega)
  have q0 : 0 ≤ s / 4294967296 ∧ s / 4294967296 < 4294967296 := by omega
  have w2 : IntKind.u64.wrap (s / 4294967296) = s / 4294967296 := u64_id _ q0.1 (by omega)
  have a1 : Go.bits .and .u64 (s / 4294967296) 4294967295 = s / 4294967296 := and_mask32 _ q0.1 q0.2
  have d1 : s / 4294967296 / 4294967296 = 0 := by omega
  simp only [bits_Mul64.f, d0, a0, hs, Int.zero_mul, Int.mul_zero, z0, Int.zero_add, Int.add_zero, w1, w2, a1, d1]
theorem wide_Square_val (g : Int) (h0 : 0 ≤ g) (h1 : g ≤ 4294967295) : wide_Square.f g = some (0, g * g) := by
  simp only [wide_Square.f, u64_id g h0 (by omega), bits_Mul64_sq g h0 h1, Option.bind_some]
def gapI (a b : Int) : Int := if a < b then b - a else a - b
theorem gapI_bound (a b : Int) (ha : 0 ≤ a ∧ a ≤ 4294967295) (hb : 0 ≤ b ∧ b ≤ 4294967295) : 0 ≤ gapI a b ∧ gapI a b ≤ 4294967295 := by
  unfold gapI; split <;> omega
theorem wide_gap_val (a b : Int) (ha : 0 ≤ a ∧ a ≤ 4294967295) (hb : 0 ≤ b ∧ b ≤ 4294967295) : wide_gap.f a b = some (gapI a b) := by
  unfold wide_gap.f gapI mx mn
  congr 1
  split <;> split <;> omega
/-- The square of the distance of two places. -/
def distI (x0 y0 x1 y1 : Int) : Int := gapI x0 x1 * gapI x0 x1 + gapI y0 y1 * gapI y0 y1
theorem distI_bound (x0 y0 x1 y1 : Int) (h0 : 0 ≤ x0 ∧ x0 ≤ 4294967295) (h1 : 0 ≤ y0 ∧ y0 ≤ 4294967295) (h2 : 0 ≤ x1 ∧ x1 ≤ 4294967295) (h3 : 0 ≤ y1 ∧ y1 ≤ 4294967295) : 0 ≤ distI x0 y0 x1 y1 ∧ distI x0 y0 x1 y1 ≤ 36893488130239234050 := by
  have a := gapI_bound x0 x1 h0 h2
  have b := gapI_bound y0 y1 h1 h3
  have c := sq_bound _ a.1 a.2
  have d := sq_bound _ b.1 b.2
  unfold distI
  omega
/-- Its two halves. -/
def hiI (d : Int) : Int := d / 18446744073709551616
def loI (d : Int) : Int := d % 18446744073709551616
theorem wide_Add_val (p q : Int) (hp : 0 ≤ p ∧ p ≤ 18446744065119617025) (hq : 0 ≤ q ∧ q ≤ 18446744065119617025) : wide_Add.f 0 p 0 q = some (hiI (p + q), loI (p + q)) := by
  have e1 : addHi p q 0 = hiI (p + q) := by unfold addHi hiI; simp only [Int.toNat_zero]; omega
  have e2 : addLo p q 0 = loI (p + q) := by unfold addLo loI; simp only [Int.toNat_zero]; omega
  have h1 : 0 ≤ hiI (p + q) ∧ hiI (p + q) ≤ 1 := by unfold hiI; omega
  have e3 : addLo 0 0 (hiI (p + q)) = hiI (p + q) := by unfold addLo; simp only [Int.toNat_zero]; omega
  have e4 : carryOk (hiI (p + q)) = true := by unfold carryOk; exact decide_eq_true (by omega)
  unfold wide_Add.f
  rw [e1, e2, e3, if_pos e4]
theorem wide_Add_zero (p : Int) (hp : 0 ≤ p ∧ p ≤ 18446744065119617025) : wide_Add.f 0 0 0 p = some (0, p) := by
  have h := wide_Add_val 0 p ⟨by omega, by omega⟩ hp
  rw [h]
  congr 2
  · unfold hiI; omega
  · unfold loI; omega
theorem wide_Between_val (x0 y0 x1 y1 : Int) (h0 : 0 ≤ x0 ∧ x0 ≤ 4294967295) (h1 : 0 ≤ y0 ∧ y0 ≤ 4294967295) (h2 : 0 ≤ x1 ∧ x1 ≤ 4294967295) (h3 : 0 ≤ y1 ∧ y1 ≤ 4294967295) (k : Nat) (hk : 3 ≤ k) :
    wide_Between.f k x0 y0 x1 y1 = some (hiI (distI x0 y0 x1 y1), loI (distI x0 y0 x1 y1)) := by
  obtain ⟨k, rfl⟩ : ∃ m, k = m + 3 := ⟨k - 3, by omega⟩
  have a := gapI_bound x0 x1 h0 h2
  have b := gapI_bound y0 y1 h1 h3
  have c := sq_bound _ a.1 a.2
  have d := sq_bound _ b.1 b.2
  simp only [wide_Between.f, wide_gap_val x0 x1 h0 h2, wide_gap_val y0 y1 h1 h3, wide_Square_val _ a.1 a.2, wide_Square_val _ b.1 b.2, Option.bind_some]
  have e1 : wrap64 (0 + 1) = 1 := wrap64_id 1 (by decide) (by decide)
  have e2 : wrap64 (1 + 1) = 2 := wrap64_id 2 (by decide) (by decide)
  have r0 : rd_T29 [(⟨0, gapI x0 x1 * gapI x0 x1⟩ : S29), ⟨0, gapI y0 y1 * gapI y0 y1⟩] 0 = ⟨0, gapI x0 x1 * gapI x0 x1⟩ := rfl
  have r1 : rd_T29 [(⟨0, gapI x0 x1 * gapI x0 x1⟩ : S29), ⟨0, gapI y0 y1 * gapI y0 y1⟩] 1 = ⟨0, gapI y0 y1 * gapI y0 y1⟩ := rfl
  have hs : wide_sum.f (k + 3) [(⟨0, gapI x0 x1 * gapI x0 x1⟩ : S29), ⟨0, gapI y0 y1 * gapI y0 y1⟩] = some (hiI (distI x0 y0 x1 y1), loI (distI x0 y0 x1 y1)) := by
    simp only [wide_sum.f, List.length_cons, List.length_nil]
    simp only [wide_sum.l0]
    rw [if_pos (by decide), if_pos (by decide), if_pos (by simp), r0, wide_Add_zero _ c]
    simp only [Option.bind_some, e1]
    rw [if_pos (by decide), if_pos (by decide), if_pos (by simp), r1, wide_Add_val _ _ c d]
    simp only [Option.bind_some, e2]
    rw [if_neg (by decide)]
    rfl
  rw [hs]
  rfl
theorem croftref03_Between_val (x0 y0 x1 y1 : Int) (h0 : 0 ≤ x0 ∧ x0 ≤ 4294967295) (h1 : 0 ≤ y0 ∧ y0 ≤ 4294967295) (h2 : 0 ≤ x1 ∧ x1 ≤ 4294967295) (h3 : 0 ≤ y1 ∧ y1 ≤ 4294967295) :
    croftref03_Between.f x0 y0 x1 y1 = some (hiI (distI x0 y0 x1 y1), loI (distI x0 y0 x1 y1)) := by
  have a := gapI_bound x0 x1 h0 h2
  have b := gapI_bound y0 y1 h1 h3
  have c := sq_bound _ a.1 a.2
  have d := sq_bound _ b.1 b.2
  have g : ∀ a b : Int, 0 ≤ a ∧ a ≤ 4294967295 → 0 ≤ b ∧ b ≤ 4294967295 → croftref03_gap.f a b = some (gapI a b) := by
    intro a b ha hb
    unfold croftref03_gap.f gapI
    split
    · rw [if_neg (by omega)]; congr 1; omega
    · split
      · congr 1; omega
      · congr 1; omega
  simp only [croftref03_Between.f, g x0 x1 h0 h2, g y0 y1 h1 h3, Option.bind_some]
  unfold distI hiI loI
  generalize gapI x0 x1 * gapI x0 x1 = p at c ⊢
  generalize gapI y0 y1 * gapI y0 y1 = q at d ⊢
  rw [u64_id p c.1 (by omega), u64_id q d.1 (by omega)]
  have e : IntKind.u64.wrap (p + q) = (p + q) % 18446744073709551616 := by
    simp [IntKind.wrap, IntKind.bits, IntKind.signed]
  rw [e]
  split
  · congr 2; omega
  · congr 2; omega
/-- Two distances by their halves. -/
theorem cmp_halves (d e : Int) (hd : 0 ≤ d) (he : 0 ≤ e) : (hiI d < hiI e ∨ (hiI d = hiI e ∧ loI d < loI e)) ↔ d < e := by unfold hiI loI; omega
theorem eq_halves (d e : Int) : (hiI d = hiI e ∧ loI d = loI e) ↔ d = e := by unfold hiI loI; omega

end Go.Proofs.Ytjalbacdcfbmgaa.P
